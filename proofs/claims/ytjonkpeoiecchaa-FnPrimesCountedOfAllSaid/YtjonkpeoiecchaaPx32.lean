-- Printed for this claim by a program of this session, out of the translation. Lean checks it.
import Derived.Test.YtjonkpeoiecchaaPx0
import Derived.Test.YtjonkpeoiecchaaPx7
import Derived.Test.YtjonkpeoiecchaaPx8
import Derived.Test.YtjonkpeoiecchaaPx15
import Derived.Test.YtjonkpeoiecchaaPx22
import Derived.Test.YtjonkpeoiecchaaPx25
import Derived.Test.YtjonkpeoiecchaaPx26
import Derived.Test.YtjonkpeoiecchaaPx27
import Derived.Test.YtjonkpeoiecchaaPx28
import Derived.Test.YtjonkpeoiecchaaPx29
import Derived.Test.YtjonkpeoiecchaaPx30
import Derived.Test.YtjonkpeoiecchaaPx31
namespace Go.Proofs.Ytjonkpeoiecchaa.P
open Go.RowKit Go.Proofs.YtjonkpeoiecchaaW.PrintWords Go.Proofs.YtjonkpeoiecchaaW.PrintLast Go.Proofs.YtjonkpeoiecchaaW.PrintMore
attribute [local go_sem] max2_int min2_int max_two min_two max_three min_three max_four min_four   -- for this text's walks alone
set_option linter.unusedVariables false
set_option linter.unusedSimpArgs false

/-! ### laws_FnPrimesCountedOfAll: function 5 -/
mutual
def laws_FnPrimesCountedOfAll.j0 : Nat → Int → Int → Int → Int → Int → Int → Int → Bool → Int → Bool → List (S71) → Bool → Option (Bool)
  | 0, _, _, _, _, _, _, _, _, _, _, _, _ => none
  | k + 1, x0, x1, x2, x3, x4, x5, x13, x14, x17, x18, x21, x121 => if x121 = true then (some false) else (if x14 = true then (laws_FnPrimesCountedOfAll.j1 k x0 x1 x2 x3 x4 x5 x13 x17 x18 x21 (decide (x0 ≤ 600))) else (laws_FnPrimesCountedOfAll.j1 k x0 x1 x2 x3 x4 x5 x13 x17 x18 x21 false))
def laws_FnPrimesCountedOfAll.j1 : Nat → Int → Int → Int → Int → Int → Int → Int → Int → Bool → List (S71) → Bool → Option (Bool)
  | 0, _, _, _, _, _, _, _, _, _, _, _ => none
  | k + 1, x0, x1, x2, x3, x4, x5, x13, x17, x18, x21, x126 => if x126 = true then ((impl_CountLeft.f k x21 x0).bind fun bt471 => (if bt471.2 = true then (if bt471.1 = x13 then (if (x21.length : Int) = x1 then (laws_FnPrimesCountedOfAll.j2 k x0 x2 x3 x4 x5 x17 x18) else (some false)) else (some false)) else (some false))) else (laws_FnPrimesCountedOfAll.j2 k x0 x2 x3 x4 x5 x17 x18)
def laws_FnPrimesCountedOfAll.j2 : Nat → Int → Int → Int → Int → Int → Int → Bool → Option (Bool)
  | 0, _, _, _, _, _, _, _ => none
  | k + 1, x0, x2, x3, x4, x5, x17, x18 => if x18 = true then (laws_FnPrimesCountedOfAll.j3 k x0 x2 x3 x4 x5 x17 (decide (x0 ≤ 2000))) else (laws_FnPrimesCountedOfAll.j3 k x0 x2 x3 x4 x5 x17 false)
def laws_FnPrimesCountedOfAll.j3 : Nat → Int → Int → Int → Int → Int → Int → Bool → Option (Bool)
  | 0, _, _, _, _, _, _, _ => none
  | k + 1, x0, x2, x3, x4, x5, x17, x150 => if x150 = true then ((impl_PrimesBetween.f k 0 x0).bind fun bt473 => (if bt473.2 = true then (laws_FnPrimesCountedOfAll.j4 k x0 x2 x3 x4 x5 x17 ((bt473.1.length : Int) != x17)) else (laws_FnPrimesCountedOfAll.j4 k x0 x2 x3 x4 x5 x17 true))) else (laws_FnPrimesCountedOfAll.j6 k x2 x3 x4 x5)
def laws_FnPrimesCountedOfAll.j6 : Nat → Int → Int → Int → Int → Option (Bool)
  | 0, _, _, _, _ => none
  | k + 1, x2, x3, x4, x5 => (impl_PrimesBetween.f k x2 x3).bind fun bt483 => ((spec_PrimesBetween.f k x2 x3).bind fun bt487 => (if (bt483.2 != bt487.2) = true then (laws_FnPrimesCountedOfAll.j7 k x2 x3 x4 x5 bt483.1 bt483.2 true) else ((laws_gSame.f k bt483.1 bt487.1).bind fun t491 => (laws_FnPrimesCountedOfAll.j7 k x2 x3 x4 x5 bt483.1 bt483.2 (!t491)))))
def laws_FnPrimesCountedOfAll.j7 : Nat → Int → Int → Int → Int → List Int → Bool → Bool → Option (Bool)
  | 0, _, _, _, _, _, _, _ => none
  | k + 1, x2, x3, x4, x5, x33, x34, x217 => if x217 = true then (some false) else (if x34 = true then (laws_FnPrimesCountedOfAll.l0 k x2 x3 x4 x5 x33 x33 (x33.length : Int) 0) else (laws_FnPrimesCountedOfAll.j11 k x4 x5))
def laws_FnPrimesCountedOfAll.j11 : Nat → Int → Int → Option (Bool)
  | 0, _, _ => none
  | k + 1, x4, x5 => (impl_PrimeOfRank.f k x4).bind fun bt499 => ((spec_PrimeOfRank.f k x4).bind fun bt501 => ((impl_NextPrime.f k x5).bind fun bt503 => ((spec_NextPrime.f k x5).bind fun bt505 => (if (bt499.2 != bt501.2) = true then (laws_FnPrimesCountedOfAll.j12 k x4 bt499.1 bt499.2 true) else (if bt499.1 = bt501.1 then (if (bt503.2 != bt505.2) = true then (laws_FnPrimesCountedOfAll.j12 k x4 bt499.1 bt499.2 true) else (laws_FnPrimesCountedOfAll.j12 k x4 bt499.1 bt499.2 (bt503.1 != bt505.1))) else (laws_FnPrimesCountedOfAll.j12 k x4 bt499.1 bt499.2 true))))))
def laws_FnPrimesCountedOfAll.j12 : Nat → Int → Int → Bool → Bool → Option (Bool)
  | 0, _, _, _, _ => none
  | k + 1, x4, x43, x44, x320 => if x320 = true then (some false) else (if x44 = true then ((impl_CountPrimes.f k x43).bind fun bt507 => (if bt507.2 = true then (some (bt507.1 == (wrap64 (x4 + 1)))) else (some false))) else (some true))
def laws_FnPrimesCountedOfAll.l0 : Nat → Int → Int → Int → Int → List Int → List Int → Int → Int → Option (Bool)
  | 0, _, _, _, _, _, _, _, _ => none
  | k + 1, x2, x3, x4, x5, x33, x219, x220, x221 => if x221 < x220 then (if 0 ≤ x221 then (if x221 < (x219.length : Int) then ((impl_IsPrime.f k (rd x219 x221)).bind fun bt493 => (if bt493.2 = true then (if bt493.1 = true then (if (rd x219 x221) < x2 then (laws_FnPrimesCountedOfAll.j9 k x2 x3 x4 x5 x33 x221 (rd x219 x221) x219 x220 x221 true) else (if (rd x219 x221) > x3 then (laws_FnPrimesCountedOfAll.j9 k x2 x3 x4 x5 x33 x221 (rd x219 x221) x219 x220 x221 true) else (if x221 > 0 then (if 0 ≤ (wrap64 (x221 - 1)) then (if (wrap64 (x221 - 1)) < (x33.length : Int) then (laws_FnPrimesCountedOfAll.j9 k x2 x3 x4 x5 x33 x221 (rd x219 x221) x219 x220 x221 (decide ((rd x33 (wrap64 (x221 - 1))) ≥ (rd x219 x221)))) else (none)) else (none)) else (laws_FnPrimesCountedOfAll.j9 k x2 x3 x4 x5 x33 x221 (rd x219 x221) x219 x220 x221 false)))) else (laws_FnPrimesCountedOfAll.j9 k x2 x3 x4 x5 x33 x221 (rd x219 x221) x219 x220 x221 true)) else (laws_FnPrimesCountedOfAll.j9 k x2 x3 x4 x5 x33 x221 (rd x219 x221) x219 x220 x221 true))) else (none)) else (none)) else (laws_FnPrimesCountedOfAll.j11 k x4 x5)
def laws_FnPrimesCountedOfAll.j9 : Nat → Int → Int → Int → Int → List Int → Int → Int → List Int → Int → Int → Bool → Option (Bool)
  | 0, _, _, _, _, _, _, _, _, _, _, _ => none
  | k + 1, x2, x3, x4, x5, x33, x37, x38, x219, x220, x221, x259 => if x259 = true then (some false) else (if x37 > 0 then (laws_FnPrimesCountedOfAll.j10 k x2 x3 x4 x5 x33 x37 x38 x219 x220 x221 (decide (x38 ≤ 1000000))) else (laws_FnPrimesCountedOfAll.j10 k x2 x3 x4 x5 x33 x37 x38 x219 x220 x221 false))
def laws_FnPrimesCountedOfAll.j10 : Nat → Int → Int → Int → Int → List Int → Int → Int → List Int → Int → Int → Bool → Option (Bool)
  | 0, _, _, _, _, _, _, _, _, _, _, _ => none
  | k + 1, x2, x3, x4, x5, x33, x37, x38, x219, x220, x221, x265 => if x265 = true then (if 0 ≤ (wrap64 (x37 - 1)) then (if (wrap64 (x37 - 1)) < (x33.length : Int) then ((impl_NextPrime.f k (rd x33 (wrap64 (x37 - 1)))).bind fun bt497 => (if bt497.2 = true then (if bt497.1 = x38 then (laws_FnPrimesCountedOfAll.l0 k x2 x3 x4 x5 x33 x219 x220 (wrap64 (x221 + 1))) else (some false)) else (some false))) else (none)) else (none)) else (laws_FnPrimesCountedOfAll.l0 k x2 x3 x4 x5 x33 x219 x220 (wrap64 (x221 + 1)))
def laws_FnPrimesCountedOfAll.j4 : Nat → Int → Int → Int → Int → Int → Int → Bool → Option (Bool)
  | 0, _, _, _, _, _, _, _ => none
  | k + 1, x0, x2, x3, x4, x5, x17, x163 => if x163 = true then (some false) else ((impl_CrossersUpTo.f k x0).bind fun bt477 => (if bt477.2 = true then (if (bt477.1.length : Int) ≤ 12 then (laws_FnPrimesCountedOfAll.j5 k x0 x2 x3 x4 x5 x17 bt477.1 (decide (x0 > 0))) else (laws_FnPrimesCountedOfAll.j5 k x0 x2 x3 x4 x5 x17 bt477.1 false)) else (laws_FnPrimesCountedOfAll.j5 k x0 x2 x3 x4 x5 x17 bt477.1 false)))
def laws_FnPrimesCountedOfAll.j5 : Nat → Int → Int → Int → Int → Int → Int → List Int → Bool → Option (Bool)
  | 0, _, _, _, _, _, _, _, _ => none
  | k + 1, x0, x2, x3, x4, x5, x17, x29, x178 => if x178 = true then ((impl_CountWithout.f k x0 (x29.length : Int)).bind fun bt481 => (if bt481.2 = true then (if (wrap64 ((wrap64 (bt481.1 + (x29.length : Int))) - 1)) = x17 then (laws_FnPrimesCountedOfAll.j6 k x2 x3 x4 x5) else (some false)) else (some false))) else (laws_FnPrimesCountedOfAll.j6 k x2 x3 x4 x5)
end
def laws_FnPrimesCountedOfAll.f (k : Nat) (a0 : Int) (a1 : Int) (a2 : Int) (a3 : Int) (a4 : Int) (a5 : Int) : Option (Bool) := (impl_CountWithout.f k a0 a1).bind fun bt454 => ((spec_CountWithout.f k a0 a1).bind fun bt456 => ((impl_CountPrimes.f k a0).bind fun bt458 => ((spec_CountPrimes.f k a0).bind fun bt460 => ((impl_RulesOfPrimes.f k a1).bind fun bt462 => ((spec_RulesOfPrimes.f k a1).bind fun bt466 => (if (bt454.2 != bt456.2) = true then (laws_FnPrimesCountedOfAll.j0 k a0 a1 a2 a3 a4 a5 bt454.1 bt454.2 bt458.1 bt458.2 bt462.1 true) else (if bt454.1 = bt456.1 then (if (bt458.2 != bt460.2) = true then (laws_FnPrimesCountedOfAll.j0 k a0 a1 a2 a3 a4 a5 bt454.1 bt454.2 bt458.1 bt458.2 bt462.1 true) else (if bt458.1 = bt460.1 then (if (bt462.2 != bt466.2) = true then (laws_FnPrimesCountedOfAll.j0 k a0 a1 a2 a3 a4 a5 bt454.1 bt454.2 bt458.1 bt458.2 bt462.1 true) else ((laws_gRules.f k bt462.1 bt466.1).bind fun t470 => (if t470 = true then (if bt458.2 = true then (laws_FnPrimesCountedOfAll.j0 k a0 a1 a2 a3 a4 a5 bt454.1 bt454.2 bt458.1 bt458.2 bt462.1 (bt454.2 != bt462.2)) else (laws_FnPrimesCountedOfAll.j0 k a0 a1 a2 a3 a4 a5 bt454.1 bt454.2 bt458.1 bt458.2 bt462.1 (bt454.2 != false))) else (laws_FnPrimesCountedOfAll.j0 k a0 a1 a2 a3 a4 a5 bt454.1 bt454.2 bt458.1 bt458.2 bt462.1 true)))) else (laws_FnPrimesCountedOfAll.j0 k a0 a1 a2 a3 a4 a5 bt454.1 bt454.2 bt458.1 bt458.2 bt462.1 true))) else (laws_FnPrimesCountedOfAll.j0 k a0 a1 a2 a3 a4 a5 bt454.1 bt454.2 bt458.1 bt458.2 bt462.1 true))))))))
theorem laws_FnPrimesCountedOfAll.mono_l : ∀ k, (∀ y0 y1 y2 y3 y4 y5 y6 y7 y8 y9 y10 y11, LeO (laws_FnPrimesCountedOfAll.j0 k y0 y1 y2 y3 y4 y5 y6 y7 y8 y9 y10 y11) (laws_FnPrimesCountedOfAll.j0 (k + 1) y0 y1 y2 y3 y4 y5 y6 y7 y8 y9 y10 y11)) ∧ (∀ y0 y1 y2 y3 y4 y5 y6 y7 y8 y9 y10, LeO (laws_FnPrimesCountedOfAll.j1 k y0 y1 y2 y3 y4 y5 y6 y7 y8 y9 y10) (laws_FnPrimesCountedOfAll.j1 (k + 1) y0 y1 y2 y3 y4 y5 y6 y7 y8 y9 y10)) ∧ (∀ y0 y1 y2 y3 y4 y5 y6, LeO (laws_FnPrimesCountedOfAll.j2 k y0 y1 y2 y3 y4 y5 y6) (laws_FnPrimesCountedOfAll.j2 (k + 1) y0 y1 y2 y3 y4 y5 y6)) ∧ (∀ y0 y1 y2 y3 y4 y5 y6, LeO (laws_FnPrimesCountedOfAll.j3 k y0 y1 y2 y3 y4 y5 y6) (laws_FnPrimesCountedOfAll.j3 (k + 1) y0 y1 y2 y3 y4 y5 y6)) ∧ (∀ y0 y1 y2 y3, LeO (laws_FnPrimesCountedOfAll.j6 k y0 y1 y2 y3) (laws_FnPrimesCountedOfAll.j6 (k + 1) y0 y1 y2 y3)) ∧ (∀ y0 y1 y2 y3 y4 y5 y6, LeO (laws_FnPrimesCountedOfAll.j7 k y0 y1 y2 y3 y4 y5 y6) (laws_FnPrimesCountedOfAll.j7 (k + 1) y0 y1 y2 y3 y4 y5 y6)) ∧ (∀ y0 y1, LeO (laws_FnPrimesCountedOfAll.j11 k y0 y1) (laws_FnPrimesCountedOfAll.j11 (k + 1) y0 y1)) ∧ (∀ y0 y1 y2 y3, LeO (laws_FnPrimesCountedOfAll.j12 k y0 y1 y2 y3) (laws_FnPrimesCountedOfAll.j12 (k + 1) y0 y1 y2 y3)) ∧ (∀ y0 y1 y2 y3 y4 y5 y6 y7, LeO (laws_FnPrimesCountedOfAll.l0 k y0 y1 y2 y3 y4 y5 y6 y7) (laws_FnPrimesCountedOfAll.l0 (k + 1) y0 y1 y2 y3 y4 y5 y6 y7)) ∧ (∀ y0 y1 y2 y3 y4 y5 y6 y7 y8 y9 y10, LeO (laws_FnPrimesCountedOfAll.j9 k y0 y1 y2 y3 y4 y5 y6 y7 y8 y9 y10) (laws_FnPrimesCountedOfAll.j9 (k + 1) y0 y1 y2 y3 y4 y5 y6 y7 y8 y9 y10)) ∧ (∀ y0 y1 y2 y3 y4 y5 y6 y7 y8 y9 y10, LeO (laws_FnPrimesCountedOfAll.j10 k y0 y1 y2 y3 y4 y5 y6 y7 y8 y9 y10) (laws_FnPrimesCountedOfAll.j10 (k + 1) y0 y1 y2 y3 y4 y5 y6 y7 y8 y9 y10)) ∧ (∀ y0 y1 y2 y3 y4 y5 y6, LeO (laws_FnPrimesCountedOfAll.j4 k y0 y1 y2 y3 y4 y5 y6) (laws_FnPrimesCountedOfAll.j4 (k + 1) y0 y1 y2 y3 y4 y5 y6)) ∧ (∀ y0 y1 y2 y3 y4 y5 y6 y7, LeO (laws_FnPrimesCountedOfAll.j5 k y0 y1 y2 y3 y4 y5 y6 y7) (laws_FnPrimesCountedOfAll.j5 (k + 1) y0 y1 y2 y3 y4 y5 y6 y7))
  | 0 => ⟨fun _ _ _ _ _ _ _ _ _ _ _ _ r h => by simp [laws_FnPrimesCountedOfAll.j0] at h, fun _ _ _ _ _ _ _ _ _ _ _ r h => by simp [laws_FnPrimesCountedOfAll.j1] at h, fun _ _ _ _ _ _ _ r h => by simp [laws_FnPrimesCountedOfAll.j2] at h, fun _ _ _ _ _ _ _ r h => by simp [laws_FnPrimesCountedOfAll.j3] at h, fun _ _ _ _ r h => by simp [laws_FnPrimesCountedOfAll.j6] at h, fun _ _ _ _ _ _ _ r h => by simp [laws_FnPrimesCountedOfAll.j7] at h, fun _ _ r h => by simp [laws_FnPrimesCountedOfAll.j11] at h, fun _ _ _ _ r h => by simp [laws_FnPrimesCountedOfAll.j12] at h, fun _ _ _ _ _ _ _ _ r h => by simp [laws_FnPrimesCountedOfAll.l0] at h, fun _ _ _ _ _ _ _ _ _ _ _ r h => by simp [laws_FnPrimesCountedOfAll.j9] at h, fun _ _ _ _ _ _ _ _ _ _ _ r h => by simp [laws_FnPrimesCountedOfAll.j10] at h, fun _ _ _ _ _ _ _ r h => by simp [laws_FnPrimesCountedOfAll.j4] at h, fun _ _ _ _ _ _ _ _ r h => by simp [laws_FnPrimesCountedOfAll.j5] at h⟩
  | k + 1 => by
    obtain ⟨ih0, ih1, ih2, ih3, ih4, ih5, ih6, ih7, ih8, ih9, ih10, ih11, ih12⟩ := laws_FnPrimesCountedOfAll.mono_l k
    refine ⟨?_, ?_, ?_, ?_, ?_, ?_, ?_, ?_, ?_, ?_, ?_, ?_, ?_⟩
    · intro y0 y1 y2 y3 y4 y5 y6 y7 y8 y9 y10 y11
      unfold laws_FnPrimesCountedOfAll.j0
      repeat' first
      | (with_reducible exact ih0 _ _ _ _ _ _ _ _ _ _ _ _)
      | (with_reducible exact ih1 _ _ _ _ _ _ _ _ _ _ _)
      | (with_reducible exact ih2 _ _ _ _ _ _ _)
      | (with_reducible exact ih3 _ _ _ _ _ _ _)
      | (with_reducible exact ih4 _ _ _ _)
      | (with_reducible exact ih5 _ _ _ _ _ _ _)
      | (with_reducible exact ih6 _ _)
      | (with_reducible exact ih7 _ _ _ _)
      | (with_reducible exact ih8 _ _ _ _ _ _ _ _)
      | (with_reducible exact ih9 _ _ _ _ _ _ _ _ _ _ _)
      | (with_reducible exact ih10 _ _ _ _ _ _ _ _ _ _ _)
      | (with_reducible exact ih11 _ _ _ _ _ _ _)
      | (with_reducible exact ih12 _ _ _ _ _ _ _ _)
      | (with_reducible exact impl_CountLeft.mono _ _ _)
      | (with_reducible exact impl_CountPrimes.mono _ _)
      | (with_reducible exact impl_CountWithout.mono _ _ _)
      | (with_reducible exact impl_CrossersUpTo.mono _ _)
      | (with_reducible exact impl_IsPrime.mono _ _)
      | (with_reducible exact impl_NextPrime.mono _ _)
      | (with_reducible exact impl_PrimeOfRank.mono _ _)
      | (with_reducible exact impl_PrimesBetween.mono _ _ _)
      | (with_reducible exact impl_RulesOfPrimes.mono _ _)
      | (with_reducible exact laws_gRules.mono _ _ _)
      | (with_reducible exact laws_gSame.mono _ _ _)
      | (with_reducible exact spec_CountPrimes.mono _ _)
      | (with_reducible exact spec_CountWithout.mono _ _ _)
      | (with_reducible exact spec_NextPrime.mono _ _)
      | (with_reducible exact spec_PrimeOfRank.mono _ _)
      | (with_reducible exact spec_PrimesBetween.mono _ _ _)
      | (with_reducible exact spec_RulesOfPrimes.mono _ _)
      | (with_reducible exact LeO.refl _)
      | (with_reducible exact LeO.none _)
      | (with_reducible refine LeO.ite ?_ ?_)
      | (with_reducible refine LeO.bind ?_ (fun _ => ?_))
      | exact ih0 _ _ _ _ _ _ _ _ _ _ _ _
      | exact ih1 _ _ _ _ _ _ _ _ _ _ _
      | exact ih2 _ _ _ _ _ _ _
      | exact ih3 _ _ _ _ _ _ _
      | exact ih4 _ _ _ _
      | exact ih5 _ _ _ _ _ _ _
      | exact ih6 _ _
      | exact ih7 _ _ _ _
      | exact ih8 _ _ _ _ _ _ _ _
      | exact ih9 _ _ _ _ _ _ _ _ _ _ _
      | exact ih10 _ _ _ _ _ _ _ _ _ _ _
      | exact ih11 _ _ _ _ _ _ _
      | exact ih12 _ _ _ _ _ _ _ _
      | exact impl_CountLeft.mono _ _ _
      | exact impl_CountPrimes.mono _ _
      | exact impl_CountWithout.mono _ _ _
      | exact impl_CrossersUpTo.mono _ _
      | exact impl_IsPrime.mono _ _
      | exact impl_NextPrime.mono _ _
      | exact impl_PrimeOfRank.mono _ _
      | exact impl_PrimesBetween.mono _ _ _
      | exact impl_RulesOfPrimes.mono _ _
      | exact laws_gRules.mono _ _ _
      | exact laws_gSame.mono _ _ _
      | exact spec_CountPrimes.mono _ _
      | exact spec_CountWithout.mono _ _ _
      | exact spec_NextPrime.mono _ _
      | exact spec_PrimeOfRank.mono _ _
      | exact spec_PrimesBetween.mono _ _ _
      | exact spec_RulesOfPrimes.mono _ _
      | exact LeO.none _
      | refine LeO.ite ?_ ?_
      | refine LeO.bind ?_ (fun _ => ?_)
    · intro y0 y1 y2 y3 y4 y5 y6 y7 y8 y9 y10
      unfold laws_FnPrimesCountedOfAll.j1
      repeat' first
      | (with_reducible exact ih0 _ _ _ _ _ _ _ _ _ _ _ _)
      | (with_reducible exact ih1 _ _ _ _ _ _ _ _ _ _ _)
      | (with_reducible exact ih2 _ _ _ _ _ _ _)
      | (with_reducible exact ih3 _ _ _ _ _ _ _)
      | (with_reducible exact ih4 _ _ _ _)
      | (with_reducible exact ih5 _ _ _ _ _ _ _)
      | (with_reducible exact ih6 _ _)
      | (with_reducible exact ih7 _ _ _ _)
      | (with_reducible exact ih8 _ _ _ _ _ _ _ _)
      | (with_reducible exact ih9 _ _ _ _ _ _ _ _ _ _ _)
      | (with_reducible exact ih10 _ _ _ _ _ _ _ _ _ _ _)
      | (with_reducible exact ih11 _ _ _ _ _ _ _)
      | (with_reducible exact ih12 _ _ _ _ _ _ _ _)
      | (with_reducible exact impl_CountLeft.mono _ _ _)
      | (with_reducible exact impl_CountPrimes.mono _ _)
      | (with_reducible exact impl_CountWithout.mono _ _ _)
      | (with_reducible exact impl_CrossersUpTo.mono _ _)
      | (with_reducible exact impl_IsPrime.mono _ _)
      | (with_reducible exact impl_NextPrime.mono _ _)
      | (with_reducible exact impl_PrimeOfRank.mono _ _)
      | (with_reducible exact impl_PrimesBetween.mono _ _ _)
      | (with_reducible exact impl_RulesOfPrimes.mono _ _)
      | (with_reducible exact laws_gRules.mono _ _ _)
      | (with_reducible exact laws_gSame.mono _ _ _)
      | (with_reducible exact spec_CountPrimes.mono _ _)
      | (with_reducible exact spec_CountWithout.mono _ _ _)
      | (with_reducible exact spec_NextPrime.mono _ _)
      | (with_reducible exact spec_PrimeOfRank.mono _ _)
      | (with_reducible exact spec_PrimesBetween.mono _ _ _)
      | (with_reducible exact spec_RulesOfPrimes.mono _ _)
      | (with_reducible exact LeO.refl _)
      | (with_reducible exact LeO.none _)
      | (with_reducible refine LeO.ite ?_ ?_)
      | (with_reducible refine LeO.bind ?_ (fun _ => ?_))
      | exact ih0 _ _ _ _ _ _ _ _ _ _ _ _
      | exact ih1 _ _ _ _ _ _ _ _ _ _ _
      | exact ih2 _ _ _ _ _ _ _
      | exact ih3 _ _ _ _ _ _ _
      | exact ih4 _ _ _ _
      | exact ih5 _ _ _ _ _ _ _
      | exact ih6 _ _
      | exact ih7 _ _ _ _
      | exact ih8 _ _ _ _ _ _ _ _
      | exact ih9 _ _ _ _ _ _ _ _ _ _ _
      | exact ih10 _ _ _ _ _ _ _ _ _ _ _
      | exact ih11 _ _ _ _ _ _ _
      | exact ih12 _ _ _ _ _ _ _ _
      | exact impl_CountLeft.mono _ _ _
      | exact impl_CountPrimes.mono _ _
      | exact impl_CountWithout.mono _ _ _
      | exact impl_CrossersUpTo.mono _ _
      | exact impl_IsPrime.mono _ _
      | exact impl_NextPrime.mono _ _
      | exact impl_PrimeOfRank.mono _ _
      | exact impl_PrimesBetween.mono _ _ _
      | exact impl_RulesOfPrimes.mono _ _
      | exact laws_gRules.mono _ _ _
      | exact laws_gSame.mono _ _ _
      | exact spec_CountPrimes.mono _ _
      | exact spec_CountWithout.mono _ _ _
      | exact spec_NextPrime.mono _ _
      | exact spec_PrimeOfRank.mono _ _
      | exact spec_PrimesBetween.mono _ _ _
      | exact spec_RulesOfPrimes.mono _ _
      | exact LeO.none _
      | refine LeO.ite ?_ ?_
      | refine LeO.bind ?_ (fun _ => ?_)
    · intro y0 y1 y2 y3 y4 y5 y6
      unfold laws_FnPrimesCountedOfAll.j2
      repeat' first
      | (with_reducible exact ih0 _ _ _ _ _ _ _ _ _ _ _ _)
      | (with_reducible exact ih1 _ _ _ _ _ _ _ _ _ _ _)
      | (with_reducible exact ih2 _ _ _ _ _ _ _)
      | (with_reducible exact ih3 _ _ _ _ _ _ _)
      | (with_reducible exact ih4 _ _ _ _)
      | (with_reducible exact ih5 _ _ _ _ _ _ _)
      | (with_reducible exact ih6 _ _)
      | (with_reducible exact ih7 _ _ _ _)
      | (with_reducible exact ih8 _ _ _ _ _ _ _ _)
      | (with_reducible exact ih9 _ _ _ _ _ _ _ _ _ _ _)
      | (with_reducible exact ih10 _ _ _ _ _ _ _ _ _ _ _)
      | (with_reducible exact ih11 _ _ _ _ _ _ _)
      | (with_reducible exact ih12 _ _ _ _ _ _ _ _)
      | (with_reducible exact impl_CountLeft.mono _ _ _)
      | (with_reducible exact impl_CountPrimes.mono _ _)
      | (with_reducible exact impl_CountWithout.mono _ _ _)
      | (with_reducible exact impl_CrossersUpTo.mono _ _)
      | (with_reducible exact impl_IsPrime.mono _ _)
      | (with_reducible exact impl_NextPrime.mono _ _)
      | (with_reducible exact impl_PrimeOfRank.mono _ _)
      | (with_reducible exact impl_PrimesBetween.mono _ _ _)
      | (with_reducible exact impl_RulesOfPrimes.mono _ _)
      | (with_reducible exact laws_gRules.mono _ _ _)
      | (with_reducible exact laws_gSame.mono _ _ _)
      | (with_reducible exact spec_CountPrimes.mono _ _)
      | (with_reducible exact spec_CountWithout.mono _ _ _)
      | (with_reducible exact spec_NextPrime.mono _ _)
      | (with_reducible exact spec_PrimeOfRank.mono _ _)
      | (with_reducible exact spec_PrimesBetween.mono _ _ _)
      | (with_reducible exact spec_RulesOfPrimes.mono _ _)
      | (with_reducible exact LeO.refl _)
      | (with_reducible exact LeO.none _)
      | (with_reducible refine LeO.ite ?_ ?_)
      | (with_reducible refine LeO.bind ?_ (fun _ => ?_))
      | exact ih0 _ _ _ _ _ _ _ _ _ _ _ _
      | exact ih1 _ _ _ _ _ _ _ _ _ _ _
      | exact ih2 _ _ _ _ _ _ _
      | exact ih3 _ _ _ _ _ _ _
      | exact ih4 _ _ _ _
      | exact ih5 _ _ _ _ _ _ _
      | exact ih6 _ _
      | exact ih7 _ _ _ _
      | exact ih8 _ _ _ _ _ _ _ _
      | exact ih9 _ _ _ _ _ _ _ _ _ _ _
      | exact ih10 _ _ _ _ _ _ _ _ _ _ _
      | exact ih11 _ _ _ _ _ _ _
      | exact ih12 _ _ _ _ _ _ _ _
      | exact impl_CountLeft.mono _ _ _
      | exact impl_CountPrimes.mono _ _
      | exact impl_CountWithout.mono _ _ _
      | exact impl_CrossersUpTo.mono _ _
      | exact impl_IsPrime.mono _ _
      | exact impl_NextPrime.mono _ _
      | exact impl_PrimeOfRank.mono _ _
      | exact impl_PrimesBetween.mono _ _ _
      | exact impl_RulesOfPrimes.mono _ _
      | exact laws_gRules.mono _ _ _
      | exact laws_gSame.mono _ _ _
      | exact spec_CountPrimes.mono _ _
      | exact spec_CountWithout.mono _ _ _
      | exact spec_NextPrime.mono _ _
      | exact spec_PrimeOfRank.mono _ _
      | exact spec_PrimesBetween.mono _ _ _
      | exact spec_RulesOfPrimes.mono _ _
      | exact LeO.none _
      | refine LeO.ite ?_ ?_
      | refine LeO.bind ?_ (fun _ => ?_)
    · intro y0 y1 y2 y3 y4 y5 y6
      unfold laws_FnPrimesCountedOfAll.j3
      repeat' first
      | (with_reducible exact ih0 _ _ _ _ _ _ _ _ _ _ _ _)
      | (with_reducible exact ih1 _ _ _ _ _ _ _ _ _ _ _)
      | (with_reducible exact ih2 _ _ _ _ _ _ _)
      | (with_reducible exact ih3 _ _ _ _ _ _ _)
      | (with_reducible exact ih4 _ _ _ _)
      | (with_reducible exact ih5 _ _ _ _ _ _ _)
      | (with_reducible exact ih6 _ _)
      | (with_reducible exact ih7 _ _ _ _)
      | (with_reducible exact ih8 _ _ _ _ _ _ _ _)
      | (with_reducible exact ih9 _ _ _ _ _ _ _ _ _ _ _)
      | (with_reducible exact ih10 _ _ _ _ _ _ _ _ _ _ _)
      | (with_reducible exact ih11 _ _ _ _ _ _ _)
      | (with_reducible exact ih12 _ _ _ _ _ _ _ _)
      | (with_reducible exact impl_CountLeft.mono _ _ _)
      | (with_reducible exact impl_CountPrimes.mono _ _)
      | (with_reducible exact impl_CountWithout.mono _ _ _)
      | (with_reducible exact impl_CrossersUpTo.mono _ _)
      | (with_reducible exact impl_IsPrime.mono _ _)
      | (with_reducible exact impl_NextPrime.mono _ _)
      | (with_reducible exact impl_PrimeOfRank.mono _ _)
      | (with_reducible exact impl_PrimesBetween.mono _ _ _)
      | (with_reducible exact impl_RulesOfPrimes.mono _ _)
      | (with_reducible exact laws_gRules.mono _ _ _)
      | (with_reducible exact laws_gSame.mono _ _ _)
      | (with_reducible exact spec_CountPrimes.mono _ _)
      | (with_reducible exact spec_CountWithout.mono _ _ _)
      | (with_reducible exact spec_NextPrime.mono _ _)
      | (with_reducible exact spec_PrimeOfRank.mono _ _)
      | (with_reducible exact spec_PrimesBetween.mono _ _ _)
      | (with_reducible exact spec_RulesOfPrimes.mono _ _)
      | (with_reducible exact LeO.refl _)
      | (with_reducible exact LeO.none _)
      | (with_reducible refine LeO.ite ?_ ?_)
      | (with_reducible refine LeO.bind ?_ (fun _ => ?_))
      | exact ih0 _ _ _ _ _ _ _ _ _ _ _ _
      | exact ih1 _ _ _ _ _ _ _ _ _ _ _
      | exact ih2 _ _ _ _ _ _ _
      | exact ih3 _ _ _ _ _ _ _
      | exact ih4 _ _ _ _
      | exact ih5 _ _ _ _ _ _ _
      | exact ih6 _ _
      | exact ih7 _ _ _ _
      | exact ih8 _ _ _ _ _ _ _ _
      | exact ih9 _ _ _ _ _ _ _ _ _ _ _
      | exact ih10 _ _ _ _ _ _ _ _ _ _ _
      | exact ih11 _ _ _ _ _ _ _
      | exact ih12 _ _ _ _ _ _ _ _
      | exact impl_CountLeft.mono _ _ _
      | exact impl_CountPrimes.mono _ _
      | exact impl_CountWithout.mono _ _ _
      | exact impl_CrossersUpTo.mono _ _
      | exact impl_IsPrime.mono _ _
      | exact impl_NextPrime.mono _ _
      | exact impl_PrimeOfRank.mono _ _
      | exact impl_PrimesBetween.mono _ _ _
      | exact impl_RulesOfPrimes.mono _ _
      | exact laws_gRules.mono _ _ _
      | exact laws_gSame.mono _ _ _
      | exact spec_CountPrimes.mono _ _
      | exact spec_CountWithout.mono _ _ _
      | exact spec_NextPrime.mono _ _
      | exact spec_PrimeOfRank.mono _ _
      | exact spec_PrimesBetween.mono _ _ _
      | exact spec_RulesOfPrimes.mono _ _
      | exact LeO.none _
      | refine LeO.ite ?_ ?_
      | refine LeO.bind ?_ (fun _ => ?_)
    · intro y0 y1 y2 y3
      unfold laws_FnPrimesCountedOfAll.j6
      repeat' first
      | (with_reducible exact ih0 _ _ _ _ _ _ _ _ _ _ _ _)
      | (with_reducible exact ih1 _ _ _ _ _ _ _ _ _ _ _)
      | (with_reducible exact ih2 _ _ _ _ _ _ _)
      | (with_reducible exact ih3 _ _ _ _ _ _ _)
      | (with_reducible exact ih4 _ _ _ _)
      | (with_reducible exact ih5 _ _ _ _ _ _ _)
      | (with_reducible exact ih6 _ _)
      | (with_reducible exact ih7 _ _ _ _)
      | (with_reducible exact ih8 _ _ _ _ _ _ _ _)
      | (with_reducible exact ih9 _ _ _ _ _ _ _ _ _ _ _)
      | (with_reducible exact ih10 _ _ _ _ _ _ _ _ _ _ _)
      | (with_reducible exact ih11 _ _ _ _ _ _ _)
      | (with_reducible exact ih12 _ _ _ _ _ _ _ _)
      | (with_reducible exact impl_CountLeft.mono _ _ _)
      | (with_reducible exact impl_CountPrimes.mono _ _)
      | (with_reducible exact impl_CountWithout.mono _ _ _)
      | (with_reducible exact impl_CrossersUpTo.mono _ _)
      | (with_reducible exact impl_IsPrime.mono _ _)
      | (with_reducible exact impl_NextPrime.mono _ _)
      | (with_reducible exact impl_PrimeOfRank.mono _ _)
      | (with_reducible exact impl_PrimesBetween.mono _ _ _)
      | (with_reducible exact impl_RulesOfPrimes.mono _ _)
      | (with_reducible exact laws_gRules.mono _ _ _)
      | (with_reducible exact laws_gSame.mono _ _ _)
      | (with_reducible exact spec_CountPrimes.mono _ _)
      | (with_reducible exact spec_CountWithout.mono _ _ _)
      | (with_reducible exact spec_NextPrime.mono _ _)
      | (with_reducible exact spec_PrimeOfRank.mono _ _)
      | (with_reducible exact spec_PrimesBetween.mono _ _ _)
      | (with_reducible exact spec_RulesOfPrimes.mono _ _)
      | (with_reducible exact LeO.refl _)
      | (with_reducible exact LeO.none _)
      | (with_reducible refine LeO.ite ?_ ?_)
      | (with_reducible refine LeO.bind ?_ (fun _ => ?_))
      | exact ih0 _ _ _ _ _ _ _ _ _ _ _ _
      | exact ih1 _ _ _ _ _ _ _ _ _ _ _
      | exact ih2 _ _ _ _ _ _ _
      | exact ih3 _ _ _ _ _ _ _
      | exact ih4 _ _ _ _
      | exact ih5 _ _ _ _ _ _ _
      | exact ih6 _ _
      | exact ih7 _ _ _ _
      | exact ih8 _ _ _ _ _ _ _ _
      | exact ih9 _ _ _ _ _ _ _ _ _ _ _
      | exact ih10 _ _ _ _ _ _ _ _ _ _ _
      | exact ih11 _ _ _ _ _ _ _
      | exact ih12 _ _ _ _ _ _ _ _
      | exact impl_CountLeft.mono _ _ _
      | exact impl_CountPrimes.mono _ _
      | exact impl_CountWithout.mono _ _ _
      | exact impl_CrossersUpTo.mono _ _
      | exact impl_IsPrime.mono _ _
      | exact impl_NextPrime.mono _ _
      | exact impl_PrimeOfRank.mono _ _
      | exact impl_PrimesBetween.mono _ _ _
      | exact impl_RulesOfPrimes.mono _ _
      | exact laws_gRules.mono _ _ _
      | exact laws_gSame.mono _ _ _
      | exact spec_CountPrimes.mono _ _
      | exact spec_CountWithout.mono _ _ _
      | exact spec_NextPrime.mono _ _
      | exact spec_PrimeOfRank.mono _ _
      | exact spec_PrimesBetween.mono _ _ _
      | exact spec_RulesOfPrimes.mono _ _
      | exact LeO.none _
      | refine LeO.ite ?_ ?_
      | refine LeO.bind ?_ (fun _ => ?_)
    · intro y0 y1 y2 y3 y4 y5 y6
      unfold laws_FnPrimesCountedOfAll.j7
      repeat' first
      | (with_reducible exact ih0 _ _ _ _ _ _ _ _ _ _ _ _)
      | (with_reducible exact ih1 _ _ _ _ _ _ _ _ _ _ _)
      | (with_reducible exact ih2 _ _ _ _ _ _ _)
      | (with_reducible exact ih3 _ _ _ _ _ _ _)
      | (with_reducible exact ih4 _ _ _ _)
      | (with_reducible exact ih5 _ _ _ _ _ _ _)
      | (with_reducible exact ih6 _ _)
      | (with_reducible exact ih7 _ _ _ _)
      | (with_reducible exact ih8 _ _ _ _ _ _ _ _)
      | (with_reducible exact ih9 _ _ _ _ _ _ _ _ _ _ _)
      | (with_reducible exact ih10 _ _ _ _ _ _ _ _ _ _ _)
      | (with_reducible exact ih11 _ _ _ _ _ _ _)
      | (with_reducible exact ih12 _ _ _ _ _ _ _ _)
      | (with_reducible exact impl_CountLeft.mono _ _ _)
      | (with_reducible exact impl_CountPrimes.mono _ _)
      | (with_reducible exact impl_CountWithout.mono _ _ _)
      | (with_reducible exact impl_CrossersUpTo.mono _ _)
      | (with_reducible exact impl_IsPrime.mono _ _)
      | (with_reducible exact impl_NextPrime.mono _ _)
      | (with_reducible exact impl_PrimeOfRank.mono _ _)
      | (with_reducible exact impl_PrimesBetween.mono _ _ _)
      | (with_reducible exact impl_RulesOfPrimes.mono _ _)
      | (with_reducible exact laws_gRules.mono _ _ _)
      | (with_reducible exact laws_gSame.mono _ _ _)
      | (with_reducible exact spec_CountPrimes.mono _ _)
      | (with_reducible exact spec_CountWithout.mono _ _ _)
      | (with_reducible exact spec_NextPrime.mono _ _)
      | (with_reducible exact spec_PrimeOfRank.mono _ _)
      | (with_reducible exact spec_PrimesBetween.mono _ _ _)
      | (with_reducible exact spec_RulesOfPrimes.mono _ _)
      | (with_reducible exact LeO.refl _)
      | (with_reducible exact LeO.none _)
      | (with_reducible refine LeO.ite ?_ ?_)
      | (with_reducible refine LeO.bind ?_ (fun _ => ?_))
      | exact ih0 _ _ _ _ _ _ _ _ _ _ _ _
      | exact ih1 _ _ _ _ _ _ _ _ _ _ _
      | exact ih2 _ _ _ _ _ _ _
      | exact ih3 _ _ _ _ _ _ _
      | exact ih4 _ _ _ _
      | exact ih5 _ _ _ _ _ _ _
      | exact ih6 _ _
      | exact ih7 _ _ _ _
      | exact ih8 _ _ _ _ _ _ _ _
      | exact ih9 _ _ _ _ _ _ _ _ _ _ _
      | exact ih10 _ _ _ _ _ _ _ _ _ _ _
      | exact ih11 _ _ _ _ _ _ _
      | exact ih12 _ _ _ _ _ _ _ _
      | exact impl_CountLeft.mono _ _ _
      | exact impl_CountPrimes.mono _ _
      | exact impl_CountWithout.mono _ _ _
      | exact impl_CrossersUpTo.mono _ _
      | exact impl_IsPrime.mono _ _
      | exact impl_NextPrime.mono _ _
      | exact impl_PrimeOfRank.mono _ _
      | exact impl_PrimesBetween.mono _ _ _
      | exact impl_RulesOfPrimes.mono _ _
      | exact laws_gRules.mono _ _ _
      | exact laws_gSame.mono _ _ _
      | exact spec_CountPrimes.mono _ _
      | exact spec_CountWithout.mono _ _ _
      | exact spec_NextPrime.mono _ _
      | exact spec_PrimeOfRank.mono _ _
      | exact spec_PrimesBetween.mono _ _ _
      | exact spec_RulesOfPrimes.mono _ _
      | exact LeO.none _
      | refine LeO.ite ?_ ?_
      | refine LeO.bind ?_ (fun _ => ?_)
    · intro y0 y1
      unfold laws_FnPrimesCountedOfAll.j11
      repeat' first
      | (with_reducible exact ih0 _ _ _ _ _ _ _ _ _ _ _ _)
      | (with_reducible exact ih1 _ _ _ _ _ _ _ _ _ _ _)
      | (with_reducible exact ih2 _ _ _ _ _ _ _)
      | (with_reducible exact ih3 _ _ _ _ _ _ _)
      | (with_reducible exact ih4 _ _ _ _)
      | (with_reducible exact ih5 _ _ _ _ _ _ _)
      | (with_reducible exact ih6 _ _)
      | (with_reducible exact ih7 _ _ _ _)
      | (with_reducible exact ih8 _ _ _ _ _ _ _ _)
      | (with_reducible exact ih9 _ _ _ _ _ _ _ _ _ _ _)
      | (with_reducible exact ih10 _ _ _ _ _ _ _ _ _ _ _)
      | (with_reducible exact ih11 _ _ _ _ _ _ _)
      | (with_reducible exact ih12 _ _ _ _ _ _ _ _)
      | (with_reducible exact impl_CountLeft.mono _ _ _)
      | (with_reducible exact impl_CountPrimes.mono _ _)
      | (with_reducible exact impl_CountWithout.mono _ _ _)
      | (with_reducible exact impl_CrossersUpTo.mono _ _)
      | (with_reducible exact impl_IsPrime.mono _ _)
      | (with_reducible exact impl_NextPrime.mono _ _)
      | (with_reducible exact impl_PrimeOfRank.mono _ _)
      | (with_reducible exact impl_PrimesBetween.mono _ _ _)
      | (with_reducible exact impl_RulesOfPrimes.mono _ _)
      | (with_reducible exact laws_gRules.mono _ _ _)
      | (with_reducible exact laws_gSame.mono _ _ _)
      | (with_reducible exact spec_CountPrimes.mono _ _)
      | (with_reducible exact spec_CountWithout.mono _ _ _)
      | (with_reducible exact spec_NextPrime.mono _ _)
      | (with_reducible exact spec_PrimeOfRank.mono _ _)
      | (with_reducible exact spec_PrimesBetween.mono _ _ _)
      | (with_reducible exact spec_RulesOfPrimes.mono _ _)
      | (with_reducible exact LeO.refl _)
      | (with_reducible exact LeO.none _)
      | (with_reducible refine LeO.ite ?_ ?_)
      | (with_reducible refine LeO.bind ?_ (fun _ => ?_))
      | exact ih0 _ _ _ _ _ _ _ _ _ _ _ _
      | exact ih1 _ _ _ _ _ _ _ _ _ _ _
      | exact ih2 _ _ _ _ _ _ _
      | exact ih3 _ _ _ _ _ _ _
      | exact ih4 _ _ _ _
      | exact ih5 _ _ _ _ _ _ _
      | exact ih6 _ _
      | exact ih7 _ _ _ _
      | exact ih8 _ _ _ _ _ _ _ _
      | exact ih9 _ _ _ _ _ _ _ _ _ _ _
      | exact ih10 _ _ _ _ _ _ _ _ _ _ _
      | exact ih11 _ _ _ _ _ _ _
      | exact ih12 _ _ _ _ _ _ _ _
      | exact impl_CountLeft.mono _ _ _
      | exact impl_CountPrimes.mono _ _
      | exact impl_CountWithout.mono _ _ _
      | exact impl_CrossersUpTo.mono _ _
      | exact impl_IsPrime.mono _ _
      | exact impl_NextPrime.mono _ _
      | exact impl_PrimeOfRank.mono _ _
      | exact impl_PrimesBetween.mono _ _ _
      | exact impl_RulesOfPrimes.mono _ _
      | exact laws_gRules.mono _ _ _
      | exact laws_gSame.mono _ _ _
      | exact spec_CountPrimes.mono _ _
      | exact spec_CountWithout.mono _ _ _
      | exact spec_NextPrime.mono _ _
      | exact spec_PrimeOfRank.mono _ _
      | exact spec_PrimesBetween.mono _ _ _
      | exact spec_RulesOfPrimes.mono _ _
      | exact LeO.none _
      | refine LeO.ite ?_ ?_
      | refine LeO.bind ?_ (fun _ => ?_)
    · intro y0 y1 y2 y3
      unfold laws_FnPrimesCountedOfAll.j12
      repeat' first
      | (with_reducible exact ih0 _ _ _ _ _ _ _ _ _ _ _ _)
      | (with_reducible exact ih1 _ _ _ _ _ _ _ _ _ _ _)
      | (with_reducible exact ih2 _ _ _ _ _ _ _)
      | (with_reducible exact ih3 _ _ _ _ _ _ _)
      | (with_reducible exact ih4 _ _ _ _)
      | (with_reducible exact ih5 _ _ _ _ _ _ _)
      | (with_reducible exact ih6 _ _)
      | (with_reducible exact ih7 _ _ _ _)
      | (with_reducible exact ih8 _ _ _ _ _ _ _ _)
      | (with_reducible exact ih9 _ _ _ _ _ _ _ _ _ _ _)
      | (with_reducible exact ih10 _ _ _ _ _ _ _ _ _ _ _)
      | (with_reducible exact ih11 _ _ _ _ _ _ _)
      | (with_reducible exact ih12 _ _ _ _ _ _ _ _)
      | (with_reducible exact impl_CountLeft.mono _ _ _)
      | (with_reducible exact impl_CountPrimes.mono _ _)
      | (with_reducible exact impl_CountWithout.mono _ _ _)
      | (with_reducible exact impl_CrossersUpTo.mono _ _)
      | (with_reducible exact impl_IsPrime.mono _ _)
      | (with_reducible exact impl_NextPrime.mono _ _)
      | (with_reducible exact impl_PrimeOfRank.mono _ _)
      | (with_reducible exact impl_PrimesBetween.mono _ _ _)
      | (with_reducible exact impl_RulesOfPrimes.mono _ _)
      | (with_reducible exact laws_gRules.mono _ _ _)
      | (with_reducible exact laws_gSame.mono _ _ _)
      | (with_reducible exact spec_CountPrimes.mono _ _)
      | (with_reducible exact spec_CountWithout.mono _ _ _)
      | (with_reducible exact spec_NextPrime.mono _ _)
      | (with_reducible exact spec_PrimeOfRank.mono _ _)
      | (with_reducible exact spec_PrimesBetween.mono _ _ _)
      | (with_reducible exact spec_RulesOfPrimes.mono _ _)
      | (with_reducible exact LeO.refl _)
      | (with_reducible exact LeO.none _)
      | (with_reducible refine LeO.ite ?_ ?_)
      | (with_reducible refine LeO.bind ?_ (fun _ => ?_))
      | exact ih0 _ _ _ _ _ _ _ _ _ _ _ _
      | exact ih1 _ _ _ _ _ _ _ _ _ _ _
      | exact ih2 _ _ _ _ _ _ _
      | exact ih3 _ _ _ _ _ _ _
      | exact ih4 _ _ _ _
      | exact ih5 _ _ _ _ _ _ _
      | exact ih6 _ _
      | exact ih7 _ _ _ _
      | exact ih8 _ _ _ _ _ _ _ _
      | exact ih9 _ _ _ _ _ _ _ _ _ _ _
      | exact ih10 _ _ _ _ _ _ _ _ _ _ _
      | exact ih11 _ _ _ _ _ _ _
      | exact ih12 _ _ _ _ _ _ _ _
      | exact impl_CountLeft.mono _ _ _
      | exact impl_CountPrimes.mono _ _
      | exact impl_CountWithout.mono _ _ _
      | exact impl_CrossersUpTo.mono _ _
      | exact impl_IsPrime.mono _ _
      | exact impl_NextPrime.mono _ _
      | exact impl_PrimeOfRank.mono _ _
      | exact impl_PrimesBetween.mono _ _ _
      | exact impl_RulesOfPrimes.mono _ _
      | exact laws_gRules.mono _ _ _
      | exact laws_gSame.mono _ _ _
      | exact spec_CountPrimes.mono _ _
      | exact spec_CountWithout.mono _ _ _
      | exact spec_NextPrime.mono _ _
      | exact spec_PrimeOfRank.mono _ _
      | exact spec_PrimesBetween.mono _ _ _
      | exact spec_RulesOfPrimes.mono _ _
      | exact LeO.none _
      | refine LeO.ite ?_ ?_
      | refine LeO.bind ?_ (fun _ => ?_)
    · intro y0 y1 y2 y3 y4 y5 y6 y7
      unfold laws_FnPrimesCountedOfAll.l0
      repeat' first
      | (with_reducible exact ih0 _ _ _ _ _ _ _ _ _ _ _ _)
      | (with_reducible exact ih1 _ _ _ _ _ _ _ _ _ _ _)
      | (with_reducible exact ih2 _ _ _ _ _ _ _)
      | (with_reducible exact ih3 _ _ _ _ _ _ _)
      | (with_reducible exact ih4 _ _ _ _)
      | (with_reducible exact ih5 _ _ _ _ _ _ _)
      | (with_reducible exact ih6 _ _)
      | (with_reducible exact ih7 _ _ _ _)
      | (with_reducible exact ih8 _ _ _ _ _ _ _ _)
      | (with_reducible exact ih9 _ _ _ _ _ _ _ _ _ _ _)
      | (with_reducible exact ih10 _ _ _ _ _ _ _ _ _ _ _)
      | (with_reducible exact ih11 _ _ _ _ _ _ _)
      | (with_reducible exact ih12 _ _ _ _ _ _ _ _)
      | (with_reducible exact impl_CountLeft.mono _ _ _)
      | (with_reducible exact impl_CountPrimes.mono _ _)
      | (with_reducible exact impl_CountWithout.mono _ _ _)
      | (with_reducible exact impl_CrossersUpTo.mono _ _)
      | (with_reducible exact impl_IsPrime.mono _ _)
      | (with_reducible exact impl_NextPrime.mono _ _)
      | (with_reducible exact impl_PrimeOfRank.mono _ _)
      | (with_reducible exact impl_PrimesBetween.mono _ _ _)
      | (with_reducible exact impl_RulesOfPrimes.mono _ _)
      | (with_reducible exact laws_gRules.mono _ _ _)
      | (with_reducible exact laws_gSame.mono _ _ _)
      | (with_reducible exact spec_CountPrimes.mono _ _)
      | (with_reducible exact spec_CountWithout.mono _ _ _)
      | (with_reducible exact spec_NextPrime.mono _ _)
      | (with_reducible exact spec_PrimeOfRank.mono _ _)
      | (with_reducible exact spec_PrimesBetween.mono _ _ _)
      | (with_reducible exact spec_RulesOfPrimes.mono _ _)
      | (with_reducible exact LeO.refl _)
      | (with_reducible exact LeO.none _)
      | (with_reducible refine LeO.ite ?_ ?_)
      | (with_reducible refine LeO.bind ?_ (fun _ => ?_))
      | exact ih0 _ _ _ _ _ _ _ _ _ _ _ _
      | exact ih1 _ _ _ _ _ _ _ _ _ _ _
      | exact ih2 _ _ _ _ _ _ _
      | exact ih3 _ _ _ _ _ _ _
      | exact ih4 _ _ _ _
      | exact ih5 _ _ _ _ _ _ _
      | exact ih6 _ _
      | exact ih7 _ _ _ _
      | exact ih8 _ _ _ _ _ _ _ _
      | exact ih9 _ _ _ _ _ _ _ _ _ _ _
      | exact ih10 _ _ _ _ _ _ _ _ _ _ _
      | exact ih11 _ _ _ _ _ _ _
      | exact ih12 _ _ _ _ _ _ _ _
      | exact impl_CountLeft.mono _ _ _
      | exact impl_CountPrimes.mono _ _
      | exact impl_CountWithout.mono _ _ _
      | exact impl_CrossersUpTo.mono _ _
      | exact impl_IsPrime.mono _ _
      | exact impl_NextPrime.mono _ _
      | exact impl_PrimeOfRank.mono _ _
      | exact impl_PrimesBetween.mono _ _ _
      | exact impl_RulesOfPrimes.mono _ _
      | exact laws_gRules.mono _ _ _
      | exact laws_gSame.mono _ _ _
      | exact spec_CountPrimes.mono _ _
      | exact spec_CountWithout.mono _ _ _
      | exact spec_NextPrime.mono _ _
      | exact spec_PrimeOfRank.mono _ _
      | exact spec_PrimesBetween.mono _ _ _
      | exact spec_RulesOfPrimes.mono _ _
      | exact LeO.none _
      | refine LeO.ite ?_ ?_
      | refine LeO.bind ?_ (fun _ => ?_)
    · intro y0 y1 y2 y3 y4 y5 y6 y7 y8 y9 y10
      unfold laws_FnPrimesCountedOfAll.j9
      repeat' first
      | (with_reducible exact ih0 _ _ _ _ _ _ _ _ _ _ _ _)
      | (with_reducible exact ih1 _ _ _ _ _ _ _ _ _ _ _)
      | (with_reducible exact ih2 _ _ _ _ _ _ _)
      | (with_reducible exact ih3 _ _ _ _ _ _ _)
      | (with_reducible exact ih4 _ _ _ _)
      | (with_reducible exact ih5 _ _ _ _ _ _ _)
      | (with_reducible exact ih6 _ _)
      | (with_reducible exact ih7 _ _ _ _)
      | (with_reducible exact ih8 _ _ _ _ _ _ _ _)
      | (with_reducible exact ih9 _ _ _ _ _ _ _ _ _ _ _)
      | (with_reducible exact ih10 _ _ _ _ _ _ _ _ _ _ _)
      | (with_reducible exact ih11 _ _ _ _ _ _ _)
      | (with_reducible exact ih12 _ _ _ _ _ _ _ _)
      | (with_reducible exact impl_CountLeft.mono _ _ _)
      | (with_reducible exact impl_CountPrimes.mono _ _)
      | (with_reducible exact impl_CountWithout.mono _ _ _)
      | (with_reducible exact impl_CrossersUpTo.mono _ _)
      | (with_reducible exact impl_IsPrime.mono _ _)
      | (with_reducible exact impl_NextPrime.mono _ _)
      | (with_reducible exact impl_PrimeOfRank.mono _ _)
      | (with_reducible exact impl_PrimesBetween.mono _ _ _)
      | (with_reducible exact impl_RulesOfPrimes.mono _ _)
      | (with_reducible exact laws_gRules.mono _ _ _)
      | (with_reducible exact laws_gSame.mono _ _ _)
      | (with_reducible exact spec_CountPrimes.mono _ _)
      | (with_reducible exact spec_CountWithout.mono _ _ _)
      | (with_reducible exact spec_NextPrime.mono _ _)
      | (with_reducible exact spec_PrimeOfRank.mono _ _)
      | (with_reducible exact spec_PrimesBetween.mono _ _ _)
      | (with_reducible exact spec_RulesOfPrimes.mono _ _)
      | (with_reducible exact LeO.refl _)
      | (with_reducible exact LeO.none _)
      | (with_reducible refine LeO.ite ?_ ?_)
      | (with_reducible refine LeO.bind ?_ (fun _ => ?_))
      | exact ih0 _ _ _ _ _ _ _ _ _ _ _ _
      | exact ih1 _ _ _ _ _ _ _ _ _ _ _
      | exact ih2 _ _ _ _ _ _ _
      | exact ih3 _ _ _ _ _ _ _
      | exact ih4 _ _ _ _
      | exact ih5 _ _ _ _ _ _ _
      | exact ih6 _ _
      | exact ih7 _ _ _ _
      | exact ih8 _ _ _ _ _ _ _ _
      | exact ih9 _ _ _ _ _ _ _ _ _ _ _
      | exact ih10 _ _ _ _ _ _ _ _ _ _ _
      | exact ih11 _ _ _ _ _ _ _
      | exact ih12 _ _ _ _ _ _ _ _
      | exact impl_CountLeft.mono _ _ _
      | exact impl_CountPrimes.mono _ _
      | exact impl_CountWithout.mono _ _ _
      | exact impl_CrossersUpTo.mono _ _
      | exact impl_IsPrime.mono _ _
      | exact impl_NextPrime.mono _ _
      | exact impl_PrimeOfRank.mono _ _
      | exact impl_PrimesBetween.mono _ _ _
      | exact impl_RulesOfPrimes.mono _ _
      | exact laws_gRules.mono _ _ _
      | exact laws_gSame.mono _ _ _
      | exact spec_CountPrimes.mono _ _
      | exact spec_CountWithout.mono _ _ _
      | exact spec_NextPrime.mono _ _
      | exact spec_PrimeOfRank.mono _ _
      | exact spec_PrimesBetween.mono _ _ _
      | exact spec_RulesOfPrimes.mono _ _
      | exact LeO.none _
      | refine LeO.ite ?_ ?_
      | refine LeO.bind ?_ (fun _ => ?_)
    · intro y0 y1 y2 y3 y4 y5 y6 y7 y8 y9 y10
      unfold laws_FnPrimesCountedOfAll.j10
      repeat' first
      | (with_reducible exact ih0 _ _ _ _ _ _ _ _ _ _ _ _)
      | (with_reducible exact ih1 _ _ _ _ _ _ _ _ _ _ _)
      | (with_reducible exact ih2 _ _ _ _ _ _ _)
      | (with_reducible exact ih3 _ _ _ _ _ _ _)
      | (with_reducible exact ih4 _ _ _ _)
      | (with_reducible exact ih5 _ _ _ _ _ _ _)
      | (with_reducible exact ih6 _ _)
      | (with_reducible exact ih7 _ _ _ _)
      | (with_reducible exact ih8 _ _ _ _ _ _ _ _)
      | (with_reducible exact ih9 _ _ _ _ _ _ _ _ _ _ _)
      | (with_reducible exact ih10 _ _ _ _ _ _ _ _ _ _ _)
      | (with_reducible exact ih11 _ _ _ _ _ _ _)
      | (with_reducible exact ih12 _ _ _ _ _ _ _ _)
      | (with_reducible exact impl_CountLeft.mono _ _ _)
      | (with_reducible exact impl_CountPrimes.mono _ _)
      | (with_reducible exact impl_CountWithout.mono _ _ _)
      | (with_reducible exact impl_CrossersUpTo.mono _ _)
      | (with_reducible exact impl_IsPrime.mono _ _)
      | (with_reducible exact impl_NextPrime.mono _ _)
      | (with_reducible exact impl_PrimeOfRank.mono _ _)
      | (with_reducible exact impl_PrimesBetween.mono _ _ _)
      | (with_reducible exact impl_RulesOfPrimes.mono _ _)
      | (with_reducible exact laws_gRules.mono _ _ _)
      | (with_reducible exact laws_gSame.mono _ _ _)
      | (with_reducible exact spec_CountPrimes.mono _ _)
      | (with_reducible exact spec_CountWithout.mono _ _ _)
      | (with_reducible exact spec_NextPrime.mono _ _)
      | (with_reducible exact spec_PrimeOfRank.mono _ _)
      | (with_reducible exact spec_PrimesBetween.mono _ _ _)
      | (with_reducible exact spec_RulesOfPrimes.mono _ _)
      | (with_reducible exact LeO.refl _)
      | (with_reducible exact LeO.none _)
      | (with_reducible refine LeO.ite ?_ ?_)
      | (with_reducible refine LeO.bind ?_ (fun _ => ?_))
      | exact ih0 _ _ _ _ _ _ _ _ _ _ _ _
      | exact ih1 _ _ _ _ _ _ _ _ _ _ _
      | exact ih2 _ _ _ _ _ _ _
      | exact ih3 _ _ _ _ _ _ _
      | exact ih4 _ _ _ _
      | exact ih5 _ _ _ _ _ _ _
      | exact ih6 _ _
      | exact ih7 _ _ _ _
      | exact ih8 _ _ _ _ _ _ _ _
      | exact ih9 _ _ _ _ _ _ _ _ _ _ _
      | exact ih10 _ _ _ _ _ _ _ _ _ _ _
      | exact ih11 _ _ _ _ _ _ _
      | exact ih12 _ _ _ _ _ _ _ _
      | exact impl_CountLeft.mono _ _ _
      | exact impl_CountPrimes.mono _ _
      | exact impl_CountWithout.mono _ _ _
      | exact impl_CrossersUpTo.mono _ _
      | exact impl_IsPrime.mono _ _
      | exact impl_NextPrime.mono _ _
      | exact impl_PrimeOfRank.mono _ _
      | exact impl_PrimesBetween.mono _ _ _
      | exact impl_RulesOfPrimes.mono _ _
      | exact laws_gRules.mono _ _ _
      | exact laws_gSame.mono _ _ _
      | exact spec_CountPrimes.mono _ _
      | exact spec_CountWithout.mono _ _ _
      | exact spec_NextPrime.mono _ _
      | exact spec_PrimeOfRank.mono _ _
      | exact spec_PrimesBetween.mono _ _ _
      | exact spec_RulesOfPrimes.mono _ _
      | exact LeO.none _
      | refine LeO.ite ?_ ?_
      | refine LeO.bind ?_ (fun _ => ?_)
    · intro y0 y1 y2 y3 y4 y5 y6
      unfold laws_FnPrimesCountedOfAll.j4
      repeat' first
      | (with_reducible exact ih0 _ _ _ _ _ _ _ _ _ _ _ _)
      | (with_reducible exact ih1 _ _ _ _ _ _ _ _ _ _ _)
      | (with_reducible exact ih2 _ _ _ _ _ _ _)
      | (with_reducible exact ih3 _ _ _ _ _ _ _)
      | (with_reducible exact ih4 _ _ _ _)
      | (with_reducible exact ih5 _ _ _ _ _ _ _)
      | (with_reducible exact ih6 _ _)
      | (with_reducible exact ih7 _ _ _ _)
      | (with_reducible exact ih8 _ _ _ _ _ _ _ _)
      | (with_reducible exact ih9 _ _ _ _ _ _ _ _ _ _ _)
      | (with_reducible exact ih10 _ _ _ _ _ _ _ _ _ _ _)
      | (with_reducible exact ih11 _ _ _ _ _ _ _)
      | (with_reducible exact ih12 _ _ _ _ _ _ _ _)
      | (with_reducible exact impl_CountLeft.mono _ _ _)
      | (with_reducible exact impl_CountPrimes.mono _ _)
      | (with_reducible exact impl_CountWithout.mono _ _ _)
      | (with_reducible exact impl_CrossersUpTo.mono _ _)
      | (with_reducible exact impl_IsPrime.mono _ _)
      | (with_reducible exact impl_NextPrime.mono _ _)
      | (with_reducible exact impl_PrimeOfRank.mono _ _)
      | (with_reducible exact impl_PrimesBetween.mono _ _ _)
      | (with_reducible exact impl_RulesOfPrimes.mono _ _)
      | (with_reducible exact laws_gRules.mono _ _ _)
      | (with_reducible exact laws_gSame.mono _ _ _)
      | (with_reducible exact spec_CountPrimes.mono _ _)
      | (with_reducible exact spec_CountWithout.mono _ _ _)
      | (with_reducible exact spec_NextPrime.mono _ _)
      | (with_reducible exact spec_PrimeOfRank.mono _ _)
      | (with_reducible exact spec_PrimesBetween.mono _ _ _)
      | (with_reducible exact spec_RulesOfPrimes.mono _ _)
      | (with_reducible exact LeO.refl _)
      | (with_reducible exact LeO.none _)
      | (with_reducible refine LeO.ite ?_ ?_)
      | (with_reducible refine LeO.bind ?_ (fun _ => ?_))
      | exact ih0 _ _ _ _ _ _ _ _ _ _ _ _
      | exact ih1 _ _ _ _ _ _ _ _ _ _ _
      | exact ih2 _ _ _ _ _ _ _
      | exact ih3 _ _ _ _ _ _ _
      | exact ih4 _ _ _ _
      | exact ih5 _ _ _ _ _ _ _
      | exact ih6 _ _
      | exact ih7 _ _ _ _
      | exact ih8 _ _ _ _ _ _ _ _
      | exact ih9 _ _ _ _ _ _ _ _ _ _ _
      | exact ih10 _ _ _ _ _ _ _ _ _ _ _
      | exact ih11 _ _ _ _ _ _ _
      | exact ih12 _ _ _ _ _ _ _ _
      | exact impl_CountLeft.mono _ _ _
      | exact impl_CountPrimes.mono _ _
      | exact impl_CountWithout.mono _ _ _
      | exact impl_CrossersUpTo.mono _ _
      | exact impl_IsPrime.mono _ _
      | exact impl_NextPrime.mono _ _
      | exact impl_PrimeOfRank.mono _ _
      | exact impl_PrimesBetween.mono _ _ _
      | exact impl_RulesOfPrimes.mono _ _
      | exact laws_gRules.mono _ _ _
      | exact laws_gSame.mono _ _ _
      | exact spec_CountPrimes.mono _ _
      | exact spec_CountWithout.mono _ _ _
      | exact spec_NextPrime.mono _ _
      | exact spec_PrimeOfRank.mono _ _
      | exact spec_PrimesBetween.mono _ _ _
      | exact spec_RulesOfPrimes.mono _ _
      | exact LeO.none _
      | refine LeO.ite ?_ ?_
      | refine LeO.bind ?_ (fun _ => ?_)
    · intro y0 y1 y2 y3 y4 y5 y6 y7
      unfold laws_FnPrimesCountedOfAll.j5
      repeat' first
      | (with_reducible exact ih0 _ _ _ _ _ _ _ _ _ _ _ _)
      | (with_reducible exact ih1 _ _ _ _ _ _ _ _ _ _ _)
      | (with_reducible exact ih2 _ _ _ _ _ _ _)
      | (with_reducible exact ih3 _ _ _ _ _ _ _)
      | (with_reducible exact ih4 _ _ _ _)
      | (with_reducible exact ih5 _ _ _ _ _ _ _)
      | (with_reducible exact ih6 _ _)
      | (with_reducible exact ih7 _ _ _ _)
      | (with_reducible exact ih8 _ _ _ _ _ _ _ _)
      | (with_reducible exact ih9 _ _ _ _ _ _ _ _ _ _ _)
      | (with_reducible exact ih10 _ _ _ _ _ _ _ _ _ _ _)
      | (with_reducible exact ih11 _ _ _ _ _ _ _)
      | (with_reducible exact ih12 _ _ _ _ _ _ _ _)
      | (with_reducible exact impl_CountLeft.mono _ _ _)
      | (with_reducible exact impl_CountPrimes.mono _ _)
      | (with_reducible exact impl_CountWithout.mono _ _ _)
      | (with_reducible exact impl_CrossersUpTo.mono _ _)
      | (with_reducible exact impl_IsPrime.mono _ _)
      | (with_reducible exact impl_NextPrime.mono _ _)
      | (with_reducible exact impl_PrimeOfRank.mono _ _)
      | (with_reducible exact impl_PrimesBetween.mono _ _ _)
      | (with_reducible exact impl_RulesOfPrimes.mono _ _)
      | (with_reducible exact laws_gRules.mono _ _ _)
      | (with_reducible exact laws_gSame.mono _ _ _)
      | (with_reducible exact spec_CountPrimes.mono _ _)
      | (with_reducible exact spec_CountWithout.mono _ _ _)
      | (with_reducible exact spec_NextPrime.mono _ _)
      | (with_reducible exact spec_PrimeOfRank.mono _ _)
      | (with_reducible exact spec_PrimesBetween.mono _ _ _)
      | (with_reducible exact spec_RulesOfPrimes.mono _ _)
      | (with_reducible exact LeO.refl _)
      | (with_reducible exact LeO.none _)
      | (with_reducible refine LeO.ite ?_ ?_)
      | (with_reducible refine LeO.bind ?_ (fun _ => ?_))
      | exact ih0 _ _ _ _ _ _ _ _ _ _ _ _
      | exact ih1 _ _ _ _ _ _ _ _ _ _ _
      | exact ih2 _ _ _ _ _ _ _
      | exact ih3 _ _ _ _ _ _ _
      | exact ih4 _ _ _ _
      | exact ih5 _ _ _ _ _ _ _
      | exact ih6 _ _
      | exact ih7 _ _ _ _
      | exact ih8 _ _ _ _ _ _ _ _
      | exact ih9 _ _ _ _ _ _ _ _ _ _ _
      | exact ih10 _ _ _ _ _ _ _ _ _ _ _
      | exact ih11 _ _ _ _ _ _ _
      | exact ih12 _ _ _ _ _ _ _ _
      | exact impl_CountLeft.mono _ _ _
      | exact impl_CountPrimes.mono _ _
      | exact impl_CountWithout.mono _ _ _
      | exact impl_CrossersUpTo.mono _ _
      | exact impl_IsPrime.mono _ _
      | exact impl_NextPrime.mono _ _
      | exact impl_PrimeOfRank.mono _ _
      | exact impl_PrimesBetween.mono _ _ _
      | exact impl_RulesOfPrimes.mono _ _
      | exact laws_gRules.mono _ _ _
      | exact laws_gSame.mono _ _ _
      | exact spec_CountPrimes.mono _ _
      | exact spec_CountWithout.mono _ _ _
      | exact spec_NextPrime.mono _ _
      | exact spec_PrimeOfRank.mono _ _
      | exact spec_PrimesBetween.mono _ _ _
      | exact spec_RulesOfPrimes.mono _ _
      | exact LeO.none _
      | refine LeO.ite ?_ ?_
      | refine LeO.bind ?_ (fun _ => ?_)
theorem laws_FnPrimesCountedOfAll.mono : ∀ a0 a1 a2 a3 a4 a5 k, LeO (laws_FnPrimesCountedOfAll.f k a0 a1 a2 a3 a4 a5) (laws_FnPrimesCountedOfAll.f (k + 1) a0 a1 a2 a3 a4 a5) := by
  intro a0 a1 a2 a3 a4 a5 k
  obtain ⟨ih0, ih1, ih2, ih3, ih4, ih5, ih6, ih7, ih8, ih9, ih10, ih11, ih12⟩ := laws_FnPrimesCountedOfAll.mono_l k
  unfold laws_FnPrimesCountedOfAll.f
  repeat' first
      | (with_reducible exact ih0 _ _ _ _ _ _ _ _ _ _ _ _)
      | (with_reducible exact ih1 _ _ _ _ _ _ _ _ _ _ _)
      | (with_reducible exact ih2 _ _ _ _ _ _ _)
      | (with_reducible exact ih3 _ _ _ _ _ _ _)
      | (with_reducible exact ih4 _ _ _ _)
      | (with_reducible exact ih5 _ _ _ _ _ _ _)
      | (with_reducible exact ih6 _ _)
      | (with_reducible exact ih7 _ _ _ _)
      | (with_reducible exact ih8 _ _ _ _ _ _ _ _)
      | (with_reducible exact ih9 _ _ _ _ _ _ _ _ _ _ _)
      | (with_reducible exact ih10 _ _ _ _ _ _ _ _ _ _ _)
      | (with_reducible exact ih11 _ _ _ _ _ _ _)
      | (with_reducible exact ih12 _ _ _ _ _ _ _ _)
      | (with_reducible exact impl_CountLeft.mono _ _ _)
      | (with_reducible exact impl_CountPrimes.mono _ _)
      | (with_reducible exact impl_CountWithout.mono _ _ _)
      | (with_reducible exact impl_CrossersUpTo.mono _ _)
      | (with_reducible exact impl_IsPrime.mono _ _)
      | (with_reducible exact impl_NextPrime.mono _ _)
      | (with_reducible exact impl_PrimeOfRank.mono _ _)
      | (with_reducible exact impl_PrimesBetween.mono _ _ _)
      | (with_reducible exact impl_RulesOfPrimes.mono _ _)
      | (with_reducible exact laws_gRules.mono _ _ _)
      | (with_reducible exact laws_gSame.mono _ _ _)
      | (with_reducible exact spec_CountPrimes.mono _ _)
      | (with_reducible exact spec_CountWithout.mono _ _ _)
      | (with_reducible exact spec_NextPrime.mono _ _)
      | (with_reducible exact spec_PrimeOfRank.mono _ _)
      | (with_reducible exact spec_PrimesBetween.mono _ _ _)
      | (with_reducible exact spec_RulesOfPrimes.mono _ _)
      | (with_reducible exact LeO.refl _)
      | (with_reducible exact LeO.none _)
      | (with_reducible refine LeO.ite ?_ ?_)
      | (with_reducible refine LeO.bind ?_ (fun _ => ?_))
      | exact ih0 _ _ _ _ _ _ _ _ _ _ _ _
      | exact ih1 _ _ _ _ _ _ _ _ _ _ _
      | exact ih2 _ _ _ _ _ _ _
      | exact ih3 _ _ _ _ _ _ _
      | exact ih4 _ _ _ _
      | exact ih5 _ _ _ _ _ _ _
      | exact ih6 _ _
      | exact ih7 _ _ _ _
      | exact ih8 _ _ _ _ _ _ _ _
      | exact ih9 _ _ _ _ _ _ _ _ _ _ _
      | exact ih10 _ _ _ _ _ _ _ _ _ _ _
      | exact ih11 _ _ _ _ _ _ _
      | exact ih12 _ _ _ _ _ _ _ _
      | exact impl_CountLeft.mono _ _ _
      | exact impl_CountPrimes.mono _ _
      | exact impl_CountWithout.mono _ _ _
      | exact impl_CrossersUpTo.mono _ _
      | exact impl_IsPrime.mono _ _
      | exact impl_NextPrime.mono _ _
      | exact impl_PrimeOfRank.mono _ _
      | exact impl_PrimesBetween.mono _ _ _
      | exact impl_RulesOfPrimes.mono _ _
      | exact laws_gRules.mono _ _ _
      | exact laws_gSame.mono _ _ _
      | exact spec_CountPrimes.mono _ _
      | exact spec_CountWithout.mono _ _ _
      | exact spec_NextPrime.mono _ _
      | exact spec_PrimeOfRank.mono _ _
      | exact spec_PrimesBetween.mono _ _ _
      | exact spec_RulesOfPrimes.mono _ _
      | exact LeO.none _
      | refine LeO.ite ?_ ?_
      | refine LeO.bind ?_ (fun _ => ?_)
set_option maxHeartbeats 8000000 in
set_option maxRecDepth 100000 in
theorem laws_FnPrimesCountedOfAll.calls (k : Nat) (a0 : Int) (a1 : Int) (a2 : Int) (a3 : Int) (a4 : Int) (a5 : Int) (r : Bool) (w : World) (h : laws_FnPrimesCountedOfAll.f k a0 a1 a2 a3 a4 a5 = some r) :
    Calls Try.prog 5 #[.int .i64 a0, .int .i64 a1, .int .i64 a2, .int .i64 a3, .int .i64 a4, .int .i64 a5] w fun e w' => e = .returned (.bool r) ∧ Below w.heap.size w w' := by
  have HB := Aside0.mk (Below.refl w.heap.size w)
  have H : ((impl_CountWithout.f k a0 a1).bind fun bt454 => ((spec_CountWithout.f k a0 a1).bind fun bt456 => ((impl_CountPrimes.f k a0).bind fun bt458 => ((spec_CountPrimes.f k a0).bind fun bt460 => ((impl_RulesOfPrimes.f k a1).bind fun bt462 => ((spec_RulesOfPrimes.f k a1).bind fun bt466 => (if (bt454.2 != bt456.2) = true then (laws_FnPrimesCountedOfAll.j0 k a0 a1 a2 a3 a4 a5 bt454.1 bt454.2 bt458.1 bt458.2 bt462.1 true) else (if bt454.1 = bt456.1 then (if (bt458.2 != bt460.2) = true then (laws_FnPrimesCountedOfAll.j0 k a0 a1 a2 a3 a4 a5 bt454.1 bt454.2 bt458.1 bt458.2 bt462.1 true) else (if bt458.1 = bt460.1 then (if (bt462.2 != bt466.2) = true then (laws_FnPrimesCountedOfAll.j0 k a0 a1 a2 a3 a4 a5 bt454.1 bt454.2 bt458.1 bt458.2 bt462.1 true) else ((laws_gRules.f k bt462.1 bt466.1).bind fun t470 => (if t470 = true then (if bt458.2 = true then (laws_FnPrimesCountedOfAll.j0 k a0 a1 a2 a3 a4 a5 bt454.1 bt454.2 bt458.1 bt458.2 bt462.1 (bt454.2 != bt462.2)) else (laws_FnPrimesCountedOfAll.j0 k a0 a1 a2 a3 a4 a5 bt454.1 bt454.2 bt458.1 bt458.2 bt462.1 (bt454.2 != false))) else (laws_FnPrimesCountedOfAll.j0 k a0 a1 a2 a3 a4 a5 bt454.1 bt454.2 bt458.1 bt458.2 bt462.1 true)))) else (laws_FnPrimesCountedOfAll.j0 k a0 a1 a2 a3 a4 a5 bt454.1 bt454.2 bt458.1 bt458.2 bt462.1 true))) else (laws_FnPrimesCountedOfAll.j0 k a0 a1 a2 a3 a4 a5 bt454.1 bt454.2 bt458.1 bt458.2 bt462.1 true))))))))) = some r := h
  clear h
  replace H := Option.bind_eq_some_iff.mp H
  obtain ⟨⟨t454, t455⟩, A70, H⟩ := H
  replace H : ((spec_CountWithout.f k a0 a1).bind fun bt456 => ((impl_CountPrimes.f k a0).bind fun bt458 => ((spec_CountPrimes.f k a0).bind fun bt460 => ((impl_RulesOfPrimes.f k a1).bind fun bt462 => ((spec_RulesOfPrimes.f k a1).bind fun bt466 => (if (t455 != bt456.2) = true then (laws_FnPrimesCountedOfAll.j0 k a0 a1 a2 a3 a4 a5 t454 t455 bt458.1 bt458.2 bt462.1 true) else (if t454 = bt456.1 then (if (bt458.2 != bt460.2) = true then (laws_FnPrimesCountedOfAll.j0 k a0 a1 a2 a3 a4 a5 t454 t455 bt458.1 bt458.2 bt462.1 true) else (if bt458.1 = bt460.1 then (if (bt462.2 != bt466.2) = true then (laws_FnPrimesCountedOfAll.j0 k a0 a1 a2 a3 a4 a5 t454 t455 bt458.1 bt458.2 bt462.1 true) else ((laws_gRules.f k bt462.1 bt466.1).bind fun t470 => (if t470 = true then (if bt458.2 = true then (laws_FnPrimesCountedOfAll.j0 k a0 a1 a2 a3 a4 a5 t454 t455 bt458.1 bt458.2 bt462.1 (t455 != bt462.2)) else (laws_FnPrimesCountedOfAll.j0 k a0 a1 a2 a3 a4 a5 t454 t455 bt458.1 bt458.2 bt462.1 (t455 != false))) else (laws_FnPrimesCountedOfAll.j0 k a0 a1 a2 a3 a4 a5 t454 t455 bt458.1 bt458.2 bt462.1 true)))) else (laws_FnPrimesCountedOfAll.j0 k a0 a1 a2 a3 a4 a5 t454 t455 bt458.1 bt458.2 bt462.1 true))) else (laws_FnPrimesCountedOfAll.j0 k a0 a1 a2 a3 a4 a5 t454 t455 bt458.1 bt458.2 bt462.1 true)))))))) = some r := H
  have A7 := Aside0.mk A70
  clear A70
  replace H := Option.bind_eq_some_iff.mp H
  obtain ⟨⟨t456, t457⟩, A80, H⟩ := H
  replace H : ((impl_CountPrimes.f k a0).bind fun bt458 => ((spec_CountPrimes.f k a0).bind fun bt460 => ((impl_RulesOfPrimes.f k a1).bind fun bt462 => ((spec_RulesOfPrimes.f k a1).bind fun bt466 => (if (t455 != t457) = true then (laws_FnPrimesCountedOfAll.j0 k a0 a1 a2 a3 a4 a5 t454 t455 bt458.1 bt458.2 bt462.1 true) else (if t454 = t456 then (if (bt458.2 != bt460.2) = true then (laws_FnPrimesCountedOfAll.j0 k a0 a1 a2 a3 a4 a5 t454 t455 bt458.1 bt458.2 bt462.1 true) else (if bt458.1 = bt460.1 then (if (bt462.2 != bt466.2) = true then (laws_FnPrimesCountedOfAll.j0 k a0 a1 a2 a3 a4 a5 t454 t455 bt458.1 bt458.2 bt462.1 true) else ((laws_gRules.f k bt462.1 bt466.1).bind fun t470 => (if t470 = true then (if bt458.2 = true then (laws_FnPrimesCountedOfAll.j0 k a0 a1 a2 a3 a4 a5 t454 t455 bt458.1 bt458.2 bt462.1 (t455 != bt462.2)) else (laws_FnPrimesCountedOfAll.j0 k a0 a1 a2 a3 a4 a5 t454 t455 bt458.1 bt458.2 bt462.1 (t455 != false))) else (laws_FnPrimesCountedOfAll.j0 k a0 a1 a2 a3 a4 a5 t454 t455 bt458.1 bt458.2 bt462.1 true)))) else (laws_FnPrimesCountedOfAll.j0 k a0 a1 a2 a3 a4 a5 t454 t455 bt458.1 bt458.2 bt462.1 true))) else (laws_FnPrimesCountedOfAll.j0 k a0 a1 a2 a3 a4 a5 t454 t455 bt458.1 bt458.2 bt462.1 true))))))) = some r := H
  have A8 := Aside0.mk A80
  clear A80
  replace H := Option.bind_eq_some_iff.mp H
  obtain ⟨⟨t458, t459⟩, A90, H⟩ := H
  replace H : ((spec_CountPrimes.f k a0).bind fun bt460 => ((impl_RulesOfPrimes.f k a1).bind fun bt462 => ((spec_RulesOfPrimes.f k a1).bind fun bt466 => (if (t455 != t457) = true then (laws_FnPrimesCountedOfAll.j0 k a0 a1 a2 a3 a4 a5 t454 t455 t458 t459 bt462.1 true) else (if t454 = t456 then (if (t459 != bt460.2) = true then (laws_FnPrimesCountedOfAll.j0 k a0 a1 a2 a3 a4 a5 t454 t455 t458 t459 bt462.1 true) else (if t458 = bt460.1 then (if (bt462.2 != bt466.2) = true then (laws_FnPrimesCountedOfAll.j0 k a0 a1 a2 a3 a4 a5 t454 t455 t458 t459 bt462.1 true) else ((laws_gRules.f k bt462.1 bt466.1).bind fun t470 => (if t470 = true then (if t459 = true then (laws_FnPrimesCountedOfAll.j0 k a0 a1 a2 a3 a4 a5 t454 t455 t458 t459 bt462.1 (t455 != bt462.2)) else (laws_FnPrimesCountedOfAll.j0 k a0 a1 a2 a3 a4 a5 t454 t455 t458 t459 bt462.1 (t455 != false))) else (laws_FnPrimesCountedOfAll.j0 k a0 a1 a2 a3 a4 a5 t454 t455 t458 t459 bt462.1 true)))) else (laws_FnPrimesCountedOfAll.j0 k a0 a1 a2 a3 a4 a5 t454 t455 t458 t459 bt462.1 true))) else (laws_FnPrimesCountedOfAll.j0 k a0 a1 a2 a3 a4 a5 t454 t455 t458 t459 bt462.1 true)))))) = some r := H
  have A9 := Aside0.mk A90
  clear A90
  replace H := Option.bind_eq_some_iff.mp H
  obtain ⟨⟨t460, t461⟩, A100, H⟩ := H
  replace H : ((impl_RulesOfPrimes.f k a1).bind fun bt462 => ((spec_RulesOfPrimes.f k a1).bind fun bt466 => (if (t455 != t457) = true then (laws_FnPrimesCountedOfAll.j0 k a0 a1 a2 a3 a4 a5 t454 t455 t458 t459 bt462.1 true) else (if t454 = t456 then (if (t459 != t461) = true then (laws_FnPrimesCountedOfAll.j0 k a0 a1 a2 a3 a4 a5 t454 t455 t458 t459 bt462.1 true) else (if t458 = t460 then (if (bt462.2 != bt466.2) = true then (laws_FnPrimesCountedOfAll.j0 k a0 a1 a2 a3 a4 a5 t454 t455 t458 t459 bt462.1 true) else ((laws_gRules.f k bt462.1 bt466.1).bind fun t470 => (if t470 = true then (if t459 = true then (laws_FnPrimesCountedOfAll.j0 k a0 a1 a2 a3 a4 a5 t454 t455 t458 t459 bt462.1 (t455 != bt462.2)) else (laws_FnPrimesCountedOfAll.j0 k a0 a1 a2 a3 a4 a5 t454 t455 t458 t459 bt462.1 (t455 != false))) else (laws_FnPrimesCountedOfAll.j0 k a0 a1 a2 a3 a4 a5 t454 t455 t458 t459 bt462.1 true)))) else (laws_FnPrimesCountedOfAll.j0 k a0 a1 a2 a3 a4 a5 t454 t455 t458 t459 bt462.1 true))) else (laws_FnPrimesCountedOfAll.j0 k a0 a1 a2 a3 a4 a5 t454 t455 t458 t459 bt462.1 true))))) = some r := H
  have A10 := Aside0.mk A100
  clear A100
  replace H := Option.bind_eq_some_iff.mp H
  obtain ⟨⟨t462, t463⟩, A110, H⟩ := H
  replace H : ((spec_RulesOfPrimes.f k a1).bind fun bt466 => (if (t455 != t457) = true then (laws_FnPrimesCountedOfAll.j0 k a0 a1 a2 a3 a4 a5 t454 t455 t458 t459 t462 true) else (if t454 = t456 then (if (t459 != t461) = true then (laws_FnPrimesCountedOfAll.j0 k a0 a1 a2 a3 a4 a5 t454 t455 t458 t459 t462 true) else (if t458 = t460 then (if (t463 != bt466.2) = true then (laws_FnPrimesCountedOfAll.j0 k a0 a1 a2 a3 a4 a5 t454 t455 t458 t459 t462 true) else ((laws_gRules.f k t462 bt466.1).bind fun t470 => (if t470 = true then (if t459 = true then (laws_FnPrimesCountedOfAll.j0 k a0 a1 a2 a3 a4 a5 t454 t455 t458 t459 t462 (t455 != t463)) else (laws_FnPrimesCountedOfAll.j0 k a0 a1 a2 a3 a4 a5 t454 t455 t458 t459 t462 (t455 != false))) else (laws_FnPrimesCountedOfAll.j0 k a0 a1 a2 a3 a4 a5 t454 t455 t458 t459 t462 true)))) else (laws_FnPrimesCountedOfAll.j0 k a0 a1 a2 a3 a4 a5 t454 t455 t458 t459 t462 true))) else (laws_FnPrimesCountedOfAll.j0 k a0 a1 a2 a3 a4 a5 t454 t455 t458 t459 t462 true)))) = some r := H
  have A11 := Aside0.mk A110
  clear A110
  replace H := Option.bind_eq_some_iff.mp H
  obtain ⟨⟨t466, t467⟩, A120, H⟩ := H
  replace H : (if (t455 != t457) = true then (laws_FnPrimesCountedOfAll.j0 k a0 a1 a2 a3 a4 a5 t454 t455 t458 t459 t462 true) else (if t454 = t456 then (if (t459 != t461) = true then (laws_FnPrimesCountedOfAll.j0 k a0 a1 a2 a3 a4 a5 t454 t455 t458 t459 t462 true) else (if t458 = t460 then (if (t463 != t467) = true then (laws_FnPrimesCountedOfAll.j0 k a0 a1 a2 a3 a4 a5 t454 t455 t458 t459 t462 true) else ((laws_gRules.f k t462 t466).bind fun t470 => (if t470 = true then (if t459 = true then (laws_FnPrimesCountedOfAll.j0 k a0 a1 a2 a3 a4 a5 t454 t455 t458 t459 t462 (t455 != t463)) else (laws_FnPrimesCountedOfAll.j0 k a0 a1 a2 a3 a4 a5 t454 t455 t458 t459 t462 (t455 != false))) else (laws_FnPrimesCountedOfAll.j0 k a0 a1 a2 a3 a4 a5 t454 t455 t458 t459 t462 true)))) else (laws_FnPrimesCountedOfAll.j0 k a0 a1 a2 a3 a4 a5 t454 t455 t458 t459 t462 true))) else (laws_FnPrimesCountedOfAll.j0 k a0 a1 a2 a3 a4 a5 t454 t455 t458 t459 t462 true))) = some r := H
  have A12 := Aside0.mk A120
  clear A120
  have HC13 := Aside0.mk H
  clear H
  go_enter Try.func5, Try.ntmps5
  go_upto_region 7 with (first | ((with_reducible refine gate_callee (f := 26) rfl ?_); refine goesL_ (some 56) rfl rfl Try.func26 (by kernel_rfl) rfl #[.int .i64 a0, .int .i64 a1] rfl (by (try simp only [List.map_toArray, List.map_cons, List.map_nil]); first | done | rfl | (simp only [List.length_drop, List.length_take]; rfl)) ?_; (with_reducible refine (impl_CountWithout.calls k a0 a1 t454 t455 _ A7.out).mono ?_); rintro e w14 ⟨rfl, hb⟩; refine ⟨_, rfl, ?_⟩; have n0_ := Aside0.mk (below_step (by repeat (first | (with_reducible first | exact HB.out | apply below_alloc | apply pw_below_drewN | apply below_drew1) | exact HB.out)) hb); clear HB; have HB := n0_; clear n0_; (try clear hb); (try clear hb2); (try clear hk); (try clear hi)) | ((with_reducible refine gate_callee (f := 27) rfl ?_); refine goesL_ (some 62) rfl rfl Try.func27 (by kernel_rfl) rfl #[.int .i64 a0, .int .i64 a1] rfl (by (try simp only [List.map_toArray, List.map_cons, List.map_nil]); first | done | rfl | (simp only [List.length_drop, List.length_take]; rfl)) ?_; (with_reducible refine (spec_CountWithout.calls k a0 a1 t456 t457 _ A8.out).mono ?_); rintro e w15 ⟨rfl, hb⟩; refine ⟨_, rfl, ?_⟩; have n0_ := Aside0.mk (below_step (by repeat (first | (with_reducible first | exact HB.out | apply below_alloc | apply pw_below_drewN | apply below_drew1) | exact HB.out)) hb); clear HB; have HB := n0_; clear n0_; (try clear hb); (try clear hb2); (try clear hk); (try clear hi)) | ((with_reducible refine gate_callee (f := 28) rfl ?_); refine goesL_ (some 67) rfl rfl Try.func28 (by kernel_rfl) rfl #[.int .i64 a0] rfl (by (try simp only [List.map_toArray, List.map_cons, List.map_nil]); first | done | rfl | (simp only [List.length_drop, List.length_take]; rfl)) ?_; (with_reducible refine (impl_CountPrimes.calls k a0 t458 t459 _ A9.out).mono ?_); rintro e w16 ⟨rfl, hb⟩; refine ⟨_, rfl, ?_⟩; have n0_ := Aside0.mk (below_step (by repeat (first | (with_reducible first | exact HB.out | apply below_alloc | apply pw_below_drewN | apply below_drew1) | exact HB.out)) hb); clear HB; have HB := n0_; clear n0_; (try clear hb); (try clear hb2); (try clear hk); (try clear hi)) | ((with_reducible refine gate_callee (f := 29) rfl ?_); refine goesL_ (some 72) rfl rfl Try.func29 (by kernel_rfl) rfl #[.int .i64 a0] rfl (by (try simp only [List.map_toArray, List.map_cons, List.map_nil]); first | done | rfl | (simp only [List.length_drop, List.length_take]; rfl)) ?_; (with_reducible refine (spec_CountPrimes.calls k a0 t460 t461 _ A10.out).mono ?_); rintro e w17 ⟨rfl, hb⟩; refine ⟨_, rfl, ?_⟩; have n0_ := Aside0.mk (below_step (by repeat (first | (with_reducible first | exact HB.out | apply below_alloc | apply pw_below_drewN | apply below_drew1) | exact HB.out)) hb); clear HB; have HB := n0_; clear n0_; (try clear hb); (try clear hb2); (try clear hk); (try clear hi)) | ((with_reducible refine gate_callee (f := 30) rfl ?_); refine goesL_ (some 77) rfl rfl Try.func30 (by kernel_rfl) rfl #[.int .i64 a1] rfl (by (try simp only [List.map_toArray, List.map_cons, List.map_nil]); first | done | rfl | (simp only [List.length_drop, List.length_take]; rfl)) ?_; (with_reducible refine (impl_RulesOfPrimes.calls k a1 t462 t463 _ A11.out).mono ?_); rintro e w18 ⟨v464, rfl, ho0, hb⟩; refine ⟨_, rfl, ?_⟩; have n0_ := Aside0.mk (Kd.R_lower ho0 (below_size (by repeat (first | (with_reducible first | exact HB.out | apply below_alloc | apply pw_below_drewN | apply below_drew1) | exact HB.out)))); have n1_ := Aside0.mk (below_step (by repeat (first | (with_reducible first | exact HB.out | apply below_alloc | apply pw_below_drewN | apply below_drew1) | exact HB.out)) hb); clear HB; have HO465 := n0_; have HB := n1_; clear n0_ n1_; (try clear hb); (try clear hb2); (try clear hk); (try clear hi); (try clear ho0)) | ((with_reducible refine gate_callee (f := 31) rfl ?_); refine goesL_ (some 82) rfl rfl Try.func31 (by kernel_rfl) rfl #[.int .i64 a1] rfl (by (try simp only [List.map_toArray, List.map_cons, List.map_nil]); first | done | rfl | (simp only [List.length_drop, List.length_take]; rfl)) ?_; (with_reducible refine (spec_RulesOfPrimes.calls k a1 t466 t467 _ A12.out).mono ?_); rintro e w19 ⟨v468, rfl, ho0, hb⟩; refine ⟨_, rfl, ?_⟩; have n0_ := Aside0.mk (Kd.R_elder' (by (with_reducible repeat (first | apply Kd.R_alloc | apply Kd.R_drewN | apply Kd.R_drew)); exact HO465.out) (Kd.R_base ho0) hb); have n1_ := Aside0.mk (Kd.R_lower (Kd.R_new' ho0 (Kd.R_lt (by (with_reducible repeat (first | apply Kd.R_alloc | apply Kd.R_drewN | apply Kd.R_drew)); exact HO465.out))) (below_size (by repeat (first | (with_reducible first | exact HB.out | apply below_alloc | apply pw_below_drewN | apply below_drew1) | exact HB.out)))); have n2_ := Aside0.mk (below_step (by repeat (first | (with_reducible first | exact HB.out | apply below_alloc | apply pw_below_drewN | apply below_drew1) | exact HB.out)) hb); clear HO465; clear HB; have HO465 := n0_; have HO469 := n1_; have HB := n2_; clear n0_ n1_ n2_; (try clear hb); (try clear hb2); (try clear hk); (try clear hi); (try clear ho0)))
  (try simp only [Act.put, List.setIfInBounds_toArray, List.set_cons_zero, List.set_cons_succ])
  go_cut [121] (fun v121 wc => ∃ (kq : Nat) (x121_12 : Bool), v121 = .bool x121_12 ∧ Aside0 (laws_FnPrimesCountedOfAll.j0 kq a0 a1 a2 a3 a4 a5 t454 t455 t458 t459 t462 x121_12 = some r) ∧ Aside0 (kq ≤ k) ∧ Aside0 (Kd.R k71 71 wc w.heap.size (fun _ => True) v464 t462) ∧ Aside0 (Below w.heap.size w wc))
  case first =>
    as_aux_lemma =>
    have H := HC13.out
    clear HC13
    by_cases c20 : (t455 != t457) = true
    · as_aux_lemma =>
      rw [if_pos c20] at H
      have c20b0 : (t455 != t457) = true := c20
      (try (have c20b1 : decide (t455 = t457) = false := by simpa using c20))
      (try (have c20b2 : (t455 == t457) = false := by simpa using c20))
      (try (have c20b3 : ¬ (t455 = t457) := by simpa using c20))
      clear c20
      (first | rw [c20b0] | (simp only [i64_w, i32_w]; rw [c20b0]) | skip)
      have H' := Aside0.mk H
      clear H
      go_wp2
      go_meet
      case rel => exact ⟨_, (true), (by first | rfl | (simp; done) | (simp [*]; done)), H', ⟨by first | omega | exact Nat.le_refl _⟩, ⟨by (with_reducible repeat (first | apply Kd.R_alloc | apply Kd.R_drewN | apply Kd.R_drew)); exact Kd.R_mono HO465.out (fun _ hk => trivial)⟩, ⟨by repeat (first | (with_reducible first | exact HB.out | apply below_alloc | apply pw_below_drewN | apply below_drew1) | exact HB.out)⟩⟩
    · as_aux_lemma =>
      rw [if_neg c20] at H
      have c20b0 : (t455 != t457) = false := by simpa using c20
      (try (have c20b1 : decide (t455 = t457) = true := by simpa using c20))
      (try (have c20b2 : (t455 == t457) = true := by simpa using c20))
      clear c20
      (first | rw [c20b0] | (simp only [i64_w, i32_w]; rw [c20b0]) | skip)
      by_cases c21 : t454 = t456
      · as_aux_lemma =>
        rw [if_pos c21] at H
        have c21b0 : (t454 == t456) = true := beq_iff_eq.mpr c21
        have c21b1 : (t454 != t456) = false := bne_eq_false_iff_eq.mpr c21
        clear c21
        by_cases c22 : (t459 != t461) = true
        · as_aux_lemma =>
          rw [if_pos c22] at H
          have c22b0 : (t459 != t461) = true := c22
          (try (have c22b1 : decide (t459 = t461) = false := by simpa using c22))
          (try (have c22b2 : (t459 == t461) = false := by simpa using c22))
          (try (have c22b3 : ¬ (t459 = t461) := by simpa using c22))
          clear c22
          have H' := Aside0.mk H
          clear H
          go_wp2
          go_meet
          case rel => exact ⟨_, (true), (by first | rfl | (simp; done) | (simp [*]; done)), H', ⟨by first | omega | exact Nat.le_refl _⟩, ⟨by (with_reducible repeat (first | apply Kd.R_alloc | apply Kd.R_drewN | apply Kd.R_drew)); exact Kd.R_mono HO465.out (fun _ hk => trivial)⟩, ⟨by repeat (first | (with_reducible first | exact HB.out | apply below_alloc | apply pw_below_drewN | apply below_drew1) | exact HB.out)⟩⟩
        · as_aux_lemma =>
          rw [if_neg c22] at H
          have c22b0 : (t459 != t461) = false := by simpa using c22
          (try (have c22b1 : decide (t459 = t461) = true := by simpa using c22))
          (try (have c22b2 : (t459 == t461) = true := by simpa using c22))
          clear c22
          by_cases c23 : t458 = t460
          · as_aux_lemma =>
            rw [if_pos c23] at H
            have c23b0 : (t458 == t460) = true := beq_iff_eq.mpr c23
            have c23b1 : (t458 != t460) = false := bne_eq_false_iff_eq.mpr c23
            clear c23
            by_cases c24 : (t463 != t467) = true
            · as_aux_lemma =>
              rw [if_pos c24] at H
              have c24b0 : (t463 != t467) = true := c24
              (try (have c24b1 : decide (t463 = t467) = false := by simpa using c24))
              (try (have c24b2 : (t463 == t467) = false := by simpa using c24))
              (try (have c24b3 : ¬ (t463 = t467) := by simpa using c24))
              clear c24
              have H' := Aside0.mk H
              clear H
              go_wp2
              go_meet
              case rel => exact ⟨_, (true), (by first | rfl | (simp; done) | (simp [*]; done)), H', ⟨by first | omega | exact Nat.le_refl _⟩, ⟨by (with_reducible repeat (first | apply Kd.R_alloc | apply Kd.R_drewN | apply Kd.R_drew)); exact Kd.R_mono HO465.out (fun _ hk => trivial)⟩, ⟨by repeat (first | (with_reducible first | exact HB.out | apply below_alloc | apply pw_below_drewN | apply below_drew1) | exact HB.out)⟩⟩
            · as_aux_lemma =>
              rw [if_neg c24] at H
              have c24b0 : (t463 != t467) = false := by simpa using c24
              (try (have c24b1 : decide (t463 = t467) = true := by simpa using c24))
              (try (have c24b2 : (t463 == t467) = true := by simpa using c24))
              clear c24
              replace H := Option.bind_eq_some_iff.mp H
              obtain ⟨t470, A250, H⟩ := H
              replace H : (if t470 = true then (if t459 = true then (laws_FnPrimesCountedOfAll.j0 k a0 a1 a2 a3 a4 a5 t454 t455 t458 t459 t462 (t455 != t463)) else (laws_FnPrimesCountedOfAll.j0 k a0 a1 a2 a3 a4 a5 t454 t455 t458 t459 t462 (t455 != false))) else (laws_FnPrimesCountedOfAll.j0 k a0 a1 a2 a3 a4 a5 t454 t455 t458 t459 t462 true)) = some r := H
              have A25 := Aside0.mk A250
              clear A250
              by_cases c26 : t470 = true
              · subst c26
                have H1 : (if t459 = true then (laws_FnPrimesCountedOfAll.j0 k a0 a1 a2 a3 a4 a5 t454 t455 t458 t459 t462 (t455 != t463)) else (laws_FnPrimesCountedOfAll.j0 k a0 a1 a2 a3 a4 a5 t454 t455 t458 t459 t462 (t455 != false))) = some r := by rw [if_pos rfl] at H; exact H
                clear H
                have H := H1
                clear H1
                by_cases c27 : t459 = true
                · subst c27
                  have H1 : (laws_FnPrimesCountedOfAll.j0 k a0 a1 a2 a3 a4 a5 t454 t455 t458 true t462 (t455 != t463)) = some r := by rw [if_pos rfl] at H; exact H
                  clear H
                  have H := H1
                  clear H1
                  have H' := Aside0.mk H
                  clear H
                  obtain ⟨Ao28, co28, eo28⟩ := Kd.R_slice HO465.out
                  subst eo28
                  obtain ⟨Ao29, co29, eo29⟩ := Kd.R_slice HO469.out
                  subst eo29
                  go_wp2_with (first | (go_at_call 32; (with_reducible refine (laws_gRules.calls k _ _ t462 _ _ t466 true _ ?side1 ?side2 ?side3 ?side4 A25.out).mono ?_); (case side1 => repeat (first | exact (Kd.R_reads' HO465.out).2.2 | (with_reducible refine Kd.C_alloc ?_ _) | (with_reducible refine Kd.C_drewN ?_ _) | (with_reducible refine Kd.C_drew ?_))); (case side2 => exact (Kd.R_reads' HO465.out).2.1); (case side3 => repeat (first | exact (Kd.R_reads' HO469.out).2.2 | (with_reducible refine Kd.C_alloc ?_ _) | (with_reducible refine Kd.C_drewN ?_ _) | (with_reducible refine Kd.C_drew ?_))); (case side4 => exact (Kd.R_reads' HO469.out).2.1); rintro e w' ⟨rfl, ⟨nd, rfl⟩⟩))
                  go_meet
                  case rel => exact ⟨_, ((t455 != t463)), (by first | rfl | (simp; done) | (simp [*]; done)), H', ⟨by first | omega | exact Nat.le_refl _⟩, ⟨by (with_reducible repeat (first | apply Kd.R_alloc | apply Kd.R_drewN | apply Kd.R_drew)); exact Kd.R_mono HO465.out (fun _ hk => trivial)⟩, ⟨by repeat (first | (with_reducible first | exact HB.out | apply below_alloc | apply pw_below_drewN | apply below_drew1) | exact HB.out)⟩⟩
                · replace c27 := Bool.eq_false_iff.mpr c27
                  subst c27
                  have H1 : (laws_FnPrimesCountedOfAll.j0 k a0 a1 a2 a3 a4 a5 t454 t455 t458 false t462 (t455 != false)) = some r := by rw [if_neg (show ¬ (false = true) by decide)] at H; exact H
                  clear H
                  have H := H1
                  clear H1
                  have H' := Aside0.mk H
                  clear H
                  obtain ⟨Ao30, co30, eo30⟩ := Kd.R_slice HO465.out
                  subst eo30
                  obtain ⟨Ao31, co31, eo31⟩ := Kd.R_slice HO469.out
                  subst eo31
                  go_wp2_with (first | (go_at_call 32; (with_reducible refine (laws_gRules.calls k _ _ t462 _ _ t466 true _ ?side1 ?side2 ?side3 ?side4 A25.out).mono ?_); (case side1 => repeat (first | exact (Kd.R_reads' HO465.out).2.2 | (with_reducible refine Kd.C_alloc ?_ _) | (with_reducible refine Kd.C_drewN ?_ _) | (with_reducible refine Kd.C_drew ?_))); (case side2 => exact (Kd.R_reads' HO465.out).2.1); (case side3 => repeat (first | exact (Kd.R_reads' HO469.out).2.2 | (with_reducible refine Kd.C_alloc ?_ _) | (with_reducible refine Kd.C_drewN ?_ _) | (with_reducible refine Kd.C_drew ?_))); (case side4 => exact (Kd.R_reads' HO469.out).2.1); rintro e w' ⟨rfl, ⟨nd, rfl⟩⟩))
                  go_meet
                  case rel => exact ⟨_, ((t455 != false)), (by first | rfl | (simp; done) | (simp [*]; done)), H', ⟨by first | omega | exact Nat.le_refl _⟩, ⟨by (with_reducible repeat (first | apply Kd.R_alloc | apply Kd.R_drewN | apply Kd.R_drew)); exact Kd.R_mono HO465.out (fun _ hk => trivial)⟩, ⟨by repeat (first | (with_reducible first | exact HB.out | apply below_alloc | apply pw_below_drewN | apply below_drew1) | exact HB.out)⟩⟩
              · replace c26 := Bool.eq_false_iff.mpr c26
                subst c26
                have H1 : (laws_FnPrimesCountedOfAll.j0 k a0 a1 a2 a3 a4 a5 t454 t455 t458 t459 t462 true) = some r := by rw [if_neg (show ¬ (false = true) by decide)] at H; exact H
                clear H
                have H := H1
                clear H1
                have H' := Aside0.mk H
                clear H
                obtain ⟨Ao32, co32, eo32⟩ := Kd.R_slice HO465.out
                subst eo32
                obtain ⟨Ao33, co33, eo33⟩ := Kd.R_slice HO469.out
                subst eo33
                go_wp2_with (first | (go_at_call 32; (with_reducible refine (laws_gRules.calls k _ _ t462 _ _ t466 false _ ?side1 ?side2 ?side3 ?side4 A25.out).mono ?_); (case side1 => repeat (first | exact (Kd.R_reads' HO465.out).2.2 | (with_reducible refine Kd.C_alloc ?_ _) | (with_reducible refine Kd.C_drewN ?_ _) | (with_reducible refine Kd.C_drew ?_))); (case side2 => exact (Kd.R_reads' HO465.out).2.1); (case side3 => repeat (first | exact (Kd.R_reads' HO469.out).2.2 | (with_reducible refine Kd.C_alloc ?_ _) | (with_reducible refine Kd.C_drewN ?_ _) | (with_reducible refine Kd.C_drew ?_))); (case side4 => exact (Kd.R_reads' HO469.out).2.1); rintro e w' ⟨rfl, ⟨nd, rfl⟩⟩))
                go_meet
                case rel => exact ⟨_, (true), (by first | rfl | (simp; done) | (simp [*]; done)), H', ⟨by first | omega | exact Nat.le_refl _⟩, ⟨by (with_reducible repeat (first | apply Kd.R_alloc | apply Kd.R_drewN | apply Kd.R_drew)); exact Kd.R_mono HO465.out (fun _ hk => trivial)⟩, ⟨by repeat (first | (with_reducible first | exact HB.out | apply below_alloc | apply pw_below_drewN | apply below_drew1) | exact HB.out)⟩⟩
          · as_aux_lemma =>
            rw [if_neg c23] at H
            have c23b0 : (t458 == t460) = false := beq_eq_false_iff_ne.mpr c23
            have c23b1 : (t458 != t460) = true := bne_iff_ne.mpr c23
            have H' := Aside0.mk H
            clear H
            go_wp2
            go_meet
            case rel => exact ⟨_, (true), (by first | rfl | (simp; done) | (simp [*]; done)), H', ⟨by first | omega | exact Nat.le_refl _⟩, ⟨by (with_reducible repeat (first | apply Kd.R_alloc | apply Kd.R_drewN | apply Kd.R_drew)); exact Kd.R_mono HO465.out (fun _ hk => trivial)⟩, ⟨by repeat (first | (with_reducible first | exact HB.out | apply below_alloc | apply pw_below_drewN | apply below_drew1) | exact HB.out)⟩⟩
      · as_aux_lemma =>
        rw [if_neg c21] at H
        have c21b0 : (t454 == t456) = false := beq_eq_false_iff_ne.mpr c21
        have c21b1 : (t454 != t456) = true := bne_iff_ne.mpr c21
        have H' := Aside0.mk H
        clear H
        go_wp2
        go_meet
        case rel => exact ⟨_, (true), (by first | rfl | (simp; done) | (simp [*]; done)), H', ⟨by first | omega | exact Nat.le_refl _⟩, ⟨by (with_reducible repeat (first | apply Kd.R_alloc | apply Kd.R_drewN | apply Kd.R_drew)); exact Kd.R_mono HO465.out (fun _ hk => trivial)⟩, ⟨by repeat (first | (with_reducible first | exact HB.out | apply below_alloc | apply pw_below_drewN | apply below_drew1) | exact HB.out)⟩⟩
  case rest =>
    as_aux_lemma =>
    clear HC13
    try clear c2
    try clear p2
    try clear c3
    try clear c5
    try clear c20
    try clear c20b0
    try clear c20b1
    try clear c20b2
    try clear c21
    try clear c21b0
    try clear c21b1
    try clear c22
    try clear c22b0
    try clear c22b1
    try clear c22b2
    try clear c23
    try clear c23b0
    try clear c23b1
    try clear c24
    try clear c24b0
    try clear c24b1
    try clear c24b2
    try clear c26
    try clear c27
    try clear c28
    try clear c29
    try clear c30
    try clear c31
    obtain ⟨kq, x121_12, rfl, HA, HJ12, HO_21, HB⟩ := hcut
    cases kq with
    | zero => exact absurd HA.out (by simp [laws_FnPrimesCountedOfAll.j0])
    | succ kj12 =>
      have H := HA.out
      clear HA
      simp only [laws_FnPrimesCountedOfAll.j0] at H
      by_cases c34 : x121_12 = true
      · subst c34
        have H1 : (some false) = some r := by rw [if_pos rfl] at H; exact H
        clear H
        have H := H1
        clear H1
        obtain rfl := Option.some.inj H
        go_wp2
        go_ret
        exact ⟨by first | rfl | (simp [errW_none, errW_some] <;> rfl) | (simp [*, errW_none, errW_some] <;> rfl), by repeat (first | (with_reducible first | exact HB.out | apply below_alloc | apply pw_below_drewN | apply below_drew1) | exact HB.out)⟩
      · replace c34 := Bool.eq_false_iff.mpr c34
        subst c34
        have H1 : (if t455 = true then (laws_FnPrimesCountedOfAll.j1 kj12 a0 a1 a2 a3 a4 a5 t454 t458 t459 t462 (decide (a0 ≤ 600))) else (laws_FnPrimesCountedOfAll.j1 kj12 a0 a1 a2 a3 a4 a5 t454 t458 t459 t462 false)) = some r := by rw [if_neg (show ¬ (false = true) by decide)] at H; exact H
        clear H
        have H := H1
        clear H1
        have HC35 := Aside0.mk H
        clear H
        go_upto_region 9 with (fail)
        go_cut [126] (fun v126 wc => ∃ (kq : Nat) (x126_34 : Bool), v126 = .bool x126_34 ∧ Aside0 (laws_FnPrimesCountedOfAll.j1 kq a0 a1 a2 a3 a4 a5 t454 t458 t459 t462 x126_34 = some r) ∧ Aside0 (kq ≤ kj12) ∧ Aside0 (Kd.R k71 71 wc w.heap.size (fun _ => True) v464 t462) ∧ Aside0 (Below w.heap.size w wc))
        case first =>
          as_aux_lemma =>
          have H := HC35.out
          clear HC35
          by_cases c36 : t455 = true
          · subst c36
            have H1 : (laws_FnPrimesCountedOfAll.j1 kj12 a0 a1 a2 a3 a4 a5 t454 t458 t459 t462 (decide (a0 ≤ 600))) = some r := by rw [if_pos rfl] at H; exact H
            clear H
            have H := H1
            clear H1
            have H' := Aside0.mk H
            clear H
            go_wp2
            go_meet
            case rel => exact ⟨_, (decide (a0 ≤ 600)), (by first | rfl | (simp; done) | (simp [*]; done)), H', ⟨by have := HJ12.out; first | omega | exact Nat.le_refl _⟩, ⟨by (with_reducible repeat (first | apply Kd.R_alloc | apply Kd.R_drewN | apply Kd.R_drew)); exact HO_21.out⟩, ⟨by repeat (first | (with_reducible first | exact HB.out | apply below_alloc | apply pw_below_drewN | apply below_drew1) | exact HB.out)⟩⟩
          · replace c36 := Bool.eq_false_iff.mpr c36
            subst c36
            have H1 : (laws_FnPrimesCountedOfAll.j1 kj12 a0 a1 a2 a3 a4 a5 t454 t458 t459 t462 false) = some r := by rw [if_neg (show ¬ (false = true) by decide)] at H; exact H
            clear H
            have H := H1
            clear H1
            have H' := Aside0.mk H
            clear H
            go_wp2
            go_meet
            case rel => exact ⟨_, (false), (by first | rfl | (simp; done) | (simp [*]; done)), H', ⟨by have := HJ12.out; first | omega | exact Nat.le_refl _⟩, ⟨by (with_reducible repeat (first | apply Kd.R_alloc | apply Kd.R_drewN | apply Kd.R_drew)); exact HO_21.out⟩, ⟨by repeat (first | (with_reducible first | exact HB.out | apply below_alloc | apply pw_below_drewN | apply below_drew1) | exact HB.out)⟩⟩
        case rest =>
          as_aux_lemma =>
          clear HC35
          try clear c2
          try clear p2
          try clear c3
          try clear c5
          try clear c20
          try clear c20b0
          try clear c20b1
          try clear c20b2
          try clear c21
          try clear c21b0
          try clear c21b1
          try clear c22
          try clear c22b0
          try clear c22b1
          try clear c22b2
          try clear c23
          try clear c23b0
          try clear c23b1
          try clear c24
          try clear c24b0
          try clear c24b1
          try clear c24b2
          try clear c26
          try clear c27
          try clear c28
          try clear c29
          try clear c30
          try clear c31
          try clear c34
          try clear c36
          try clear p2
          obtain ⟨kq, x126_34, rfl, HA, HJ34, HO_21, HB⟩ := hcut
          cases kq with
          | zero => exact absurd HA.out (by simp [laws_FnPrimesCountedOfAll.j1])
          | succ kj34 =>
            have H := HA.out
            clear HA
            simp only [laws_FnPrimesCountedOfAll.j1] at H
            have HC37 := Aside0.mk H
            clear H
            go_upto_if 126 with (fail)
            go_cut [] (fun wc => ∃ (kq : Nat), Aside0 (laws_FnPrimesCountedOfAll.j2 kq a0 a2 a3 a4 a5 t458 t459 = some r) ∧ Aside0 (kq ≤ kj34) ∧ Aside0 (Below w.heap.size w wc))
            case first =>
              as_aux_lemma =>
              have H := HC37.out
              clear HC37
              by_cases c38 : x126_34 = true
              · subst c38
                have H1 : ((impl_CountLeft.f kj34 t462 a0).bind fun bt471 => (if bt471.2 = true then (if bt471.1 = t454 then (if (t462.length : Int) = a1 then (laws_FnPrimesCountedOfAll.j2 kj34 a0 a2 a3 a4 a5 t458 t459) else (some false)) else (some false)) else (some false))) = some r := by rw [if_pos rfl] at H; exact H
                clear H
                have H := H1
                clear H1
                replace H := Option.bind_eq_some_iff.mp H
                obtain ⟨⟨t471, t472⟩, A390, H⟩ := H
                replace H : (if t472 = true then (if t471 = t454 then (if (t462.length : Int) = a1 then (laws_FnPrimesCountedOfAll.j2 kj34 a0 a2 a3 a4 a5 t458 t459) else (some false)) else (some false)) else (some false)) = some r := H
                have A39 := Aside0.mk A390
                clear A390
                by_cases c40 : t472 = true
                · subst c40
                  have H1 : (if t471 = t454 then (if (t462.length : Int) = a1 then (laws_FnPrimesCountedOfAll.j2 kj34 a0 a2 a3 a4 a5 t458 t459) else (some false)) else (some false)) = some r := by rw [if_pos rfl] at H; exact H
                  clear H
                  have H := H1
                  clear H1
                  by_cases c41 : t471 = t454
                  · as_aux_lemma =>
                    rw [if_pos c41] at H
                    have c41b0 : (t471 == t454) = true := beq_iff_eq.mpr c41
                    have c41b1 : (t471 != t454) = false := bne_eq_false_iff_eq.mpr c41
                    clear c41
                    (first | rw [c41b0] | (simp only [i64_w, i32_w]; rw [c41b0]) | skip)
                    by_cases c42 : (t462.length : Int) = a1
                    · as_aux_lemma =>
                      rw [if_pos c42] at H
                      have c42b0 : ((t462.length : Int) == a1) = true := beq_iff_eq.mpr c42
                      have c42b1 : ((t462.length : Int) != a1) = false := bne_eq_false_iff_eq.mpr c42
                      clear c42
                      have H' := Aside0.mk H
                      clear H
                      obtain ⟨Ao43, co43, eo43⟩ := Kd.R_slice HO_21.out
                      subst eo43
                      go_wp2_with (first | ((with_reducible refine gate_callee (f := 33) rfl ?_); refine goesL_ (some 130) rfl rfl Try.func33 (by kernel_rfl) rfl #[.slice Ao43 t462.length co43, .int .i64 a0] rfl (by (try simp only [List.map_toArray, List.map_cons, List.map_nil]); first | done | rfl | (simp only [List.length_drop, List.length_take]; rfl)) ?_; (with_reducible refine (impl_CountLeft.calls kj34 _ _ t462 a0 t471 true _ ?side1 ?side2 A39.out).mono ?_); (case side1 => repeat (first | exact (Kd.R_reads' HO_21.out).2.2 | (with_reducible refine Kd.C_alloc ?_ _) | (with_reducible refine Kd.C_drewN ?_ _) | (with_reducible refine Kd.C_drew ?_))); (case side2 => exact (Kd.R_reads' HO_21.out).2.1); rintro e w44 ⟨rfl, hb⟩; refine ⟨_, rfl, ?_⟩; have n0_ := Aside0.mk (Kd.R_below (by (with_reducible repeat (first | apply Kd.R_alloc | apply Kd.R_drewN | apply Kd.R_drew)); exact HO_21.out) hb); have n1_ := Aside0.mk (below_step (by repeat (first | (with_reducible first | exact HB.out | apply below_alloc | apply pw_below_drewN | apply below_drew1) | exact HB.out)) hb); clear HO_21; clear HB; have HO_21 := n0_; have HB := n1_; clear n0_ n1_; (try clear hb); (try clear hb2); (try clear hk); (try clear hi)))
                      go_meet
                      case rel => exact ⟨_, H', ⟨by have := HJ12.out; have := HJ34.out; first | omega | exact Nat.le_refl _⟩, ⟨by repeat (first | (with_reducible first | exact HB.out | apply below_alloc | apply pw_below_drewN | apply below_drew1) | exact HB.out)⟩⟩
                    · as_aux_lemma =>
                      rw [if_neg c42] at H
                      have c42b0 : ((t462.length : Int) == a1) = false := beq_eq_false_iff_ne.mpr c42
                      have c42b1 : ((t462.length : Int) != a1) = true := bne_iff_ne.mpr c42
                      obtain rfl := Option.some.inj H
                      obtain ⟨Ao45, co45, eo45⟩ := Kd.R_slice HO_21.out
                      subst eo45
                      go_wp2_with (first | ((with_reducible refine gate_callee (f := 33) rfl ?_); refine goesL_ (some 130) rfl rfl Try.func33 (by kernel_rfl) rfl #[.slice Ao45 t462.length co45, .int .i64 a0] rfl (by (try simp only [List.map_toArray, List.map_cons, List.map_nil]); first | done | rfl | (simp only [List.length_drop, List.length_take]; rfl)) ?_; (with_reducible refine (impl_CountLeft.calls kj34 _ _ t462 a0 t471 true _ ?side1 ?side2 A39.out).mono ?_); (case side1 => repeat (first | exact (Kd.R_reads' HO_21.out).2.2 | (with_reducible refine Kd.C_alloc ?_ _) | (with_reducible refine Kd.C_drewN ?_ _) | (with_reducible refine Kd.C_drew ?_))); (case side2 => exact (Kd.R_reads' HO_21.out).2.1); rintro e w46 ⟨rfl, hb⟩; refine ⟨_, rfl, ?_⟩; have n0_ := Aside0.mk (Kd.R_below (by (with_reducible repeat (first | apply Kd.R_alloc | apply Kd.R_drewN | apply Kd.R_drew)); exact HO_21.out) hb); have n1_ := Aside0.mk (below_step (by repeat (first | (with_reducible first | exact HB.out | apply below_alloc | apply pw_below_drewN | apply below_drew1) | exact HB.out)) hb); clear HO_21; clear HB; have HO_21 := n0_; have HB := n1_; clear n0_ n1_; (try clear hb); (try clear hb2); (try clear hk); (try clear hi)))
                      go_ret
                      exact ⟨by first | rfl | (simp [errW_none, errW_some] <;> rfl) | (simp [*, errW_none, errW_some] <;> rfl), by repeat (first | (with_reducible first | exact HB.out | apply below_alloc | apply pw_below_drewN | apply below_drew1) | exact HB.out)⟩
                  · as_aux_lemma =>
                    rw [if_neg c41] at H
                    have c41b0 : (t471 == t454) = false := beq_eq_false_iff_ne.mpr c41
                    have c41b1 : (t471 != t454) = true := bne_iff_ne.mpr c41
                    (first | rw [c41b0] | (simp only [i64_w, i32_w]; rw [c41b0]) | skip)
                    obtain rfl := Option.some.inj H
                    obtain ⟨Ao47, co47, eo47⟩ := Kd.R_slice HO_21.out
                    subst eo47
                    go_wp2_with (first | ((with_reducible refine gate_callee (f := 33) rfl ?_); refine goesL_ (some 130) rfl rfl Try.func33 (by kernel_rfl) rfl #[.slice Ao47 t462.length co47, .int .i64 a0] rfl (by (try simp only [List.map_toArray, List.map_cons, List.map_nil]); first | done | rfl | (simp only [List.length_drop, List.length_take]; rfl)) ?_; (with_reducible refine (impl_CountLeft.calls kj34 _ _ t462 a0 t471 true _ ?side1 ?side2 A39.out).mono ?_); (case side1 => repeat (first | exact (Kd.R_reads' HO_21.out).2.2 | (with_reducible refine Kd.C_alloc ?_ _) | (with_reducible refine Kd.C_drewN ?_ _) | (with_reducible refine Kd.C_drew ?_))); (case side2 => exact (Kd.R_reads' HO_21.out).2.1); rintro e w48 ⟨rfl, hb⟩; refine ⟨_, rfl, ?_⟩; have n0_ := Aside0.mk (Kd.R_below (by (with_reducible repeat (first | apply Kd.R_alloc | apply Kd.R_drewN | apply Kd.R_drew)); exact HO_21.out) hb); have n1_ := Aside0.mk (below_step (by repeat (first | (with_reducible first | exact HB.out | apply below_alloc | apply pw_below_drewN | apply below_drew1) | exact HB.out)) hb); clear HO_21; clear HB; have HO_21 := n0_; have HB := n1_; clear n0_ n1_; (try clear hb); (try clear hb2); (try clear hk); (try clear hi)))
                    go_ret
                    exact ⟨by first | rfl | (simp [errW_none, errW_some] <;> rfl) | (simp [*, errW_none, errW_some] <;> rfl), by repeat (first | (with_reducible first | exact HB.out | apply below_alloc | apply pw_below_drewN | apply below_drew1) | exact HB.out)⟩
                · replace c40 := Bool.eq_false_iff.mpr c40
                  subst c40
                  have H1 : (some false) = some r := by rw [if_neg (show ¬ (false = true) by decide)] at H; exact H
                  clear H
                  have H := H1
                  clear H1
                  obtain rfl := Option.some.inj H
                  obtain ⟨Ao49, co49, eo49⟩ := Kd.R_slice HO_21.out
                  subst eo49
                  go_wp2_with (first | ((with_reducible refine gate_callee (f := 33) rfl ?_); refine goesL_ (some 130) rfl rfl Try.func33 (by kernel_rfl) rfl #[.slice Ao49 t462.length co49, .int .i64 a0] rfl (by (try simp only [List.map_toArray, List.map_cons, List.map_nil]); first | done | rfl | (simp only [List.length_drop, List.length_take]; rfl)) ?_; (with_reducible refine (impl_CountLeft.calls kj34 _ _ t462 a0 t471 false _ ?side1 ?side2 A39.out).mono ?_); (case side1 => repeat (first | exact (Kd.R_reads' HO_21.out).2.2 | (with_reducible refine Kd.C_alloc ?_ _) | (with_reducible refine Kd.C_drewN ?_ _) | (with_reducible refine Kd.C_drew ?_))); (case side2 => exact (Kd.R_reads' HO_21.out).2.1); rintro e w50 ⟨rfl, hb⟩; refine ⟨_, rfl, ?_⟩; have n0_ := Aside0.mk (Kd.R_below (by (with_reducible repeat (first | apply Kd.R_alloc | apply Kd.R_drewN | apply Kd.R_drew)); exact HO_21.out) hb); have n1_ := Aside0.mk (below_step (by repeat (first | (with_reducible first | exact HB.out | apply below_alloc | apply pw_below_drewN | apply below_drew1) | exact HB.out)) hb); clear HO_21; clear HB; have HO_21 := n0_; have HB := n1_; clear n0_ n1_; (try clear hb); (try clear hb2); (try clear hk); (try clear hi)))
                  go_ret
                  exact ⟨by first | rfl | (simp [errW_none, errW_some] <;> rfl) | (simp [*, errW_none, errW_some] <;> rfl), by repeat (first | (with_reducible first | exact HB.out | apply below_alloc | apply pw_below_drewN | apply below_drew1) | exact HB.out)⟩
              · replace c38 := Bool.eq_false_iff.mpr c38
                subst c38
                have H1 : (laws_FnPrimesCountedOfAll.j2 kj34 a0 a2 a3 a4 a5 t458 t459) = some r := by rw [if_neg (show ¬ (false = true) by decide)] at H; exact H
                clear H
                have H := H1
                clear H1
                have H' := Aside0.mk H
                clear H
                go_wp2
                go_meet
                case rel => exact ⟨_, H', ⟨by have := HJ12.out; have := HJ34.out; first | omega | exact Nat.le_refl _⟩, ⟨by repeat (first | (with_reducible first | exact HB.out | apply below_alloc | apply pw_below_drewN | apply below_drew1) | exact HB.out)⟩⟩
            case rest =>
              as_aux_lemma =>
              clear HC37
              try clear c2
              try clear p2
              try clear c3
              try clear c4
              try clear c5
              try clear c20
              try clear c20b0
              try clear c20b1
              try clear c20b2
              try clear c21
              try clear c21b0
              try clear c21b1
              try clear c22
              try clear c22b0
              try clear c22b1
              try clear c22b2
              try clear c23
              try clear c23b0
              try clear c23b1
              try clear c24
              try clear c24b0
              try clear c24b1
              try clear c24b2
              try clear c26
              try clear c27
              try clear c28
              try clear c29
              try clear c30
              try clear c31
              try clear c33
              try clear c34
              try clear c36
              try clear c38
              try clear c40
              try clear c41
              try clear c41b0
              try clear c41b1
              try clear c42
              try clear c42b0
              try clear c42b1
              try clear p2
              obtain ⟨kq, HA, HJ36, HB⟩ := hcut
              cases kq with
              | zero => exact absurd HA.out (by simp [laws_FnPrimesCountedOfAll.j2])
              | succ kj36 =>
                have H := HA.out
                clear HA
                simp only [laws_FnPrimesCountedOfAll.j2] at H
                have HC51 := Aside0.mk H
                clear H
                go_upto_region 13 with (fail)
                go_cut [150] (fun v150 wc => ∃ (kq : Nat) (x150_50 : Bool), v150 = .bool x150_50 ∧ Aside0 (laws_FnPrimesCountedOfAll.j3 kq a0 a2 a3 a4 a5 t458 x150_50 = some r) ∧ Aside0 (kq ≤ kj36) ∧ Aside0 (Below w.heap.size w wc))
                case first =>
                  as_aux_lemma =>
                  have H := HC51.out
                  clear HC51
                  by_cases c52 : t459 = true
                  · subst c52
                    have H1 : (laws_FnPrimesCountedOfAll.j3 kj36 a0 a2 a3 a4 a5 t458 (decide (a0 ≤ 2000))) = some r := by rw [if_pos rfl] at H; exact H
                    clear H
                    have H := H1
                    clear H1
                    have H' := Aside0.mk H
                    clear H
                    go_wp2
                    go_meet
                    case rel => exact ⟨_, (decide (a0 ≤ 2000)), (by first | rfl | (simp; done) | (simp [*]; done)), H', ⟨by have := HJ12.out; have := HJ34.out; have := HJ36.out; first | omega | exact Nat.le_refl _⟩, ⟨by repeat (first | (with_reducible first | exact HB.out | apply below_alloc | apply pw_below_drewN | apply below_drew1) | exact HB.out)⟩⟩
                  · replace c52 := Bool.eq_false_iff.mpr c52
                    subst c52
                    have H1 : (laws_FnPrimesCountedOfAll.j3 kj36 a0 a2 a3 a4 a5 t458 false) = some r := by rw [if_neg (show ¬ (false = true) by decide)] at H; exact H
                    clear H
                    have H := H1
                    clear H1
                    have H' := Aside0.mk H
                    clear H
                    go_wp2
                    go_meet
                    case rel => exact ⟨_, (false), (by first | rfl | (simp; done) | (simp [*]; done)), H', ⟨by have := HJ12.out; have := HJ34.out; have := HJ36.out; first | omega | exact Nat.le_refl _⟩, ⟨by repeat (first | (with_reducible first | exact HB.out | apply below_alloc | apply pw_below_drewN | apply below_drew1) | exact HB.out)⟩⟩
                case rest =>
                  as_aux_lemma =>
                  clear HC51
                  try clear c2
                  try clear p2
                  try clear c3
                  try clear c4
                  try clear c5
                  try clear c20
                  try clear c20b0
                  try clear c20b1
                  try clear c20b2
                  try clear c21
                  try clear c21b0
                  try clear c21b1
                  try clear c22
                  try clear c22b0
                  try clear c22b1
                  try clear c22b2
                  try clear c23
                  try clear c23b0
                  try clear c23b1
                  try clear c24
                  try clear c24b0
                  try clear c24b1
                  try clear c24b2
                  try clear c26
                  try clear c27
                  try clear c28
                  try clear c29
                  try clear c30
                  try clear c31
                  try clear c33
                  try clear c34
                  try clear c36
                  try clear c38
                  try clear c40
                  try clear c41
                  try clear c41b0
                  try clear c41b1
                  try clear c42
                  try clear c42b0
                  try clear c42b1
                  try clear c52
                  try clear p2
                  obtain ⟨kq, x150_50, rfl, HA, HJ50, HB⟩ := hcut
                  cases kq with
                  | zero => exact absurd HA.out (by simp [laws_FnPrimesCountedOfAll.j3])
                  | succ kj50 =>
                    have H := HA.out
                    clear HA
                    simp only [laws_FnPrimesCountedOfAll.j3] at H
                    have HC53 := Aside0.mk H
                    clear H
                    go_upto_if 150 with (fail)
                    go_cut [] (fun wc => ∃ (kq : Nat), Aside0 (laws_FnPrimesCountedOfAll.j6 kq a2 a3 a4 a5 = some r) ∧ Aside0 (kq ≤ kj50) ∧ Aside0 (Below w.heap.size w wc))
                    case first =>
                      as_aux_lemma =>
                      have H := HC53.out
                      clear HC53
                      by_cases c54 : x150_50 = true
                      · subst c54
                        have H1 : ((impl_PrimesBetween.f kj50 0 a0).bind fun bt473 => (if bt473.2 = true then (laws_FnPrimesCountedOfAll.j4 kj50 a0 a2 a3 a4 a5 t458 ((bt473.1.length : Int) != t458)) else (laws_FnPrimesCountedOfAll.j4 kj50 a0 a2 a3 a4 a5 t458 true))) = some r := by rw [if_pos rfl] at H; exact H
                        clear H
                        have H := H1
                        clear H1
                        replace H := Option.bind_eq_some_iff.mp H
                        obtain ⟨⟨t473, t474⟩, A550, H⟩ := H
                        replace H : (if t474 = true then (laws_FnPrimesCountedOfAll.j4 kj50 a0 a2 a3 a4 a5 t458 ((t473.length : Int) != t458)) else (laws_FnPrimesCountedOfAll.j4 kj50 a0 a2 a3 a4 a5 t458 true)) = some r := H
                        have A55 := Aside0.mk A550
                        clear A550
                        have HC56 := Aside0.mk H
                        clear H
                        go_upto_region 15 with (first | ((with_reducible refine gate_callee (f := 34) rfl ?_); refine goesL_ (some 153) rfl rfl Try.func34 (by kernel_rfl) rfl #[.int .i64 0, .int .i64 a0] rfl (by (try simp only [List.map_toArray, List.map_cons, List.map_nil]); first | done | rfl | (simp only [List.length_drop, List.length_take]; rfl)) ?_; (with_reducible refine (impl_PrimesBetween.calls kj50 0 a0 t473 t474 _ A55.out).mono ?_); rintro e w57 ⟨v475, rfl, ho0, hb⟩; refine ⟨_, rfl, ?_⟩; have n0_ := Aside0.mk (Kd.R_lower ho0 (below_size (by repeat (first | (with_reducible first | exact HB.out | apply below_alloc | apply pw_below_drewN | apply below_drew1) | exact HB.out)))); have n1_ := Aside0.mk (below_step (by repeat (first | (with_reducible first | exact HB.out | apply below_alloc | apply pw_below_drewN | apply below_drew1) | exact HB.out)) hb); clear HB; have HO476 := n0_; have HB := n1_; clear n0_ n1_; (try clear hb); (try clear hb2); (try clear hk); (try clear hi); (try clear ho0)))
                        (try simp only [Act.put, List.setIfInBounds_toArray, List.set_cons_zero, List.set_cons_succ])
                        go_cut [163] (fun v163 wc => ∃ (kq : Nat) (x163_55 : Bool), v163 = .bool x163_55 ∧ Aside0 (laws_FnPrimesCountedOfAll.j4 kq a0 a2 a3 a4 a5 t458 x163_55 = some r) ∧ Aside0 (kq ≤ kj50) ∧ Aside0 (Below w.heap.size w wc))
                        case first =>
                          as_aux_lemma =>
                          have H := HC56.out
                          clear HC56
                          by_cases c58 : t474 = true
                          · subst c58
                            have H1 : (laws_FnPrimesCountedOfAll.j4 kj50 a0 a2 a3 a4 a5 t458 ((t473.length : Int) != t458)) = some r := by rw [if_pos rfl] at H; exact H
                            clear H
                            have H := H1
                            clear H1
                            have H' := Aside0.mk H
                            clear H
                            obtain ⟨Ao59, co59, eo59⟩ := Kd.R_slice HO476.out
                            subst eo59
                            go_wp2
                            go_meet
                            case rel => exact ⟨_, (((t473.length : Int) != t458)), (by first | rfl | (simp; done) | (simp [*]; done)), H', ⟨by have := HJ12.out; have := HJ34.out; have := HJ36.out; have := HJ50.out; first | omega | exact Nat.le_refl _⟩, ⟨by repeat (first | (with_reducible first | exact HB.out | apply below_alloc | apply pw_below_drewN | apply below_drew1) | exact HB.out)⟩⟩
                          · replace c58 := Bool.eq_false_iff.mpr c58
                            subst c58
                            have H1 : (laws_FnPrimesCountedOfAll.j4 kj50 a0 a2 a3 a4 a5 t458 true) = some r := by rw [if_neg (show ¬ (false = true) by decide)] at H; exact H
                            clear H
                            have H := H1
                            clear H1
                            have H' := Aside0.mk H
                            clear H
                            go_wp2
                            go_meet
                            case rel => exact ⟨_, (true), (by first | rfl | (simp; done) | (simp [*]; done)), H', ⟨by have := HJ12.out; have := HJ34.out; have := HJ36.out; have := HJ50.out; first | omega | exact Nat.le_refl _⟩, ⟨by repeat (first | (with_reducible first | exact HB.out | apply below_alloc | apply pw_below_drewN | apply below_drew1) | exact HB.out)⟩⟩
                        case rest =>
                          as_aux_lemma =>
                          clear HC56
                          try clear c2
                          try clear p2
                          try clear c3
                          try clear c4
                          try clear c5
                          try clear c20
                          try clear c20b0
                          try clear c20b1
                          try clear c20b2
                          try clear c21
                          try clear c21b0
                          try clear c21b1
                          try clear c22
                          try clear c22b0
                          try clear c22b1
                          try clear c22b2
                          try clear c23
                          try clear c23b0
                          try clear c23b1
                          try clear c24
                          try clear c24b0
                          try clear c24b1
                          try clear c24b2
                          try clear c26
                          try clear c27
                          try clear c28
                          try clear c29
                          try clear c30
                          try clear c31
                          try clear c33
                          try clear c34
                          try clear c36
                          try clear c38
                          try clear c40
                          try clear c41
                          try clear c41b0
                          try clear c41b1
                          try clear c42
                          try clear c42b0
                          try clear c42b1
                          try clear c52
                          try clear c54
                          try clear c58
                          try clear p2
                          obtain ⟨kq, x163_55, rfl, HA, HJ55, HB⟩ := hcut
                          cases kq with
                          | zero => exact absurd HA.out (by simp [laws_FnPrimesCountedOfAll.j4])
                          | succ kj55 =>
                            have H := HA.out
                            clear HA
                            simp only [laws_FnPrimesCountedOfAll.j4] at H
                            by_cases c60 : x163_55 = true
                            · subst c60
                              have H1 : (some false) = some r := by rw [if_pos rfl] at H; exact H
                              clear H
                              have H := H1
                              clear H1
                              obtain rfl := Option.some.inj H
                              go_wp2
                              go_ret
                              exact ⟨by first | rfl | (simp [errW_none, errW_some] <;> rfl) | (simp [*, errW_none, errW_some] <;> rfl), by repeat (first | (with_reducible first | exact HB.out | apply below_alloc | apply pw_below_drewN | apply below_drew1) | exact HB.out)⟩
                            · replace c60 := Bool.eq_false_iff.mpr c60
                              subst c60
                              have H1 : ((impl_CrossersUpTo.f kj55 a0).bind fun bt477 => (if bt477.2 = true then (if (bt477.1.length : Int) ≤ 12 then (laws_FnPrimesCountedOfAll.j5 kj55 a0 a2 a3 a4 a5 t458 bt477.1 (decide (a0 > 0))) else (laws_FnPrimesCountedOfAll.j5 kj55 a0 a2 a3 a4 a5 t458 bt477.1 false)) else (laws_FnPrimesCountedOfAll.j5 kj55 a0 a2 a3 a4 a5 t458 bt477.1 false))) = some r := by rw [if_neg (show ¬ (false = true) by decide)] at H; exact H
                              clear H
                              have H := H1
                              clear H1
                              replace H := Option.bind_eq_some_iff.mp H
                              obtain ⟨⟨t477, t478⟩, A610, H⟩ := H
                              replace H : (if t478 = true then (if (t477.length : Int) ≤ 12 then (laws_FnPrimesCountedOfAll.j5 kj55 a0 a2 a3 a4 a5 t458 t477 (decide (a0 > 0))) else (laws_FnPrimesCountedOfAll.j5 kj55 a0 a2 a3 a4 a5 t458 t477 false)) else (laws_FnPrimesCountedOfAll.j5 kj55 a0 a2 a3 a4 a5 t458 t477 false)) = some r := H
                              have A61 := Aside0.mk A610
                              clear A610
                              have HC62 := Aside0.mk H
                              clear H
                              go_upto_region 18 with (first | ((with_reducible refine gate_callee (f := 15) rfl ?_); refine goesL_ (some 166) rfl rfl Try.func15 (by kernel_rfl) rfl #[.int .i64 a0] rfl (by (try simp only [List.map_toArray, List.map_cons, List.map_nil]); first | done | rfl | (simp only [List.length_drop, List.length_take]; rfl)) ?_; (with_reducible refine (impl_CrossersUpTo.calls kj55 a0 t477 t478 _ A61.out).mono ?_); rintro e w63 ⟨v479, rfl, ho0, hb⟩; refine ⟨_, rfl, ?_⟩; have n0_ := Aside0.mk (Kd.R_lower ho0 (below_size (by repeat (first | (with_reducible first | exact HB.out | apply below_alloc | apply pw_below_drewN | apply below_drew1) | exact HB.out)))); have n1_ := Aside0.mk (below_step (by repeat (first | (with_reducible first | exact HB.out | apply below_alloc | apply pw_below_drewN | apply below_drew1) | exact HB.out)) hb); clear HB; have HO480 := n0_; have HB := n1_; clear n0_ n1_; (try clear hb); (try clear hb2); (try clear hk); (try clear hi); (try clear ho0)))
                              (try simp only [Act.put, List.setIfInBounds_toArray, List.set_cons_zero, List.set_cons_succ])
                              go_cut [178] (fun v178 wc => ∃ (kq : Nat) (x178_61 : Bool), v178 = .bool x178_61 ∧ Aside0 (laws_FnPrimesCountedOfAll.j5 kq a0 a2 a3 a4 a5 t458 t477 x178_61 = some r) ∧ Aside0 (kq ≤ kj55) ∧ Aside0 (Kd.R (Kd.int .i64) 3 wc w.heap.size (fun _ => True) v479 t477) ∧ Aside0 (Below w.heap.size w wc))
                              case first =>
                                as_aux_lemma =>
                                have H := HC62.out
                                clear HC62
                                by_cases c64 : t478 = true
                                · subst c64
                                  have H1 : (if (t477.length : Int) ≤ 12 then (laws_FnPrimesCountedOfAll.j5 kj55 a0 a2 a3 a4 a5 t458 t477 (decide (a0 > 0))) else (laws_FnPrimesCountedOfAll.j5 kj55 a0 a2 a3 a4 a5 t458 t477 false)) = some r := by rw [if_pos rfl] at H; exact H
                                  clear H
                                  have H := H1
                                  clear H1
                                  by_cases c65 : (t477.length : Int) ≤ 12
                                  · as_aux_lemma =>
                                    rw [if_pos c65] at H
                                    have c65b0 : decide ((t477.length : Int) ≤ 12) = true := decide_eq_true c65
                                    have c65b1 : decide (t477.length ≤ 12) = true := decide_eq_true (by omega)
                                    clear c65
                                    (first | rw [c65b0] | (simp only [i64_w, i32_w]; rw [c65b0]) | skip)
                                    have H' := Aside0.mk H
                                    clear H
                                    obtain ⟨Ao66, co66, eo66⟩ := Kd.R_slice HO480.out
                                    subst eo66
                                    go_wp2
                                    go_meet
                                    case rel => exact ⟨_, (decide (a0 > 0)), (by first | rfl | (simp; done) | (simp [*]; done)), H', ⟨by have := HJ12.out; have := HJ34.out; have := HJ36.out; have := HJ50.out; have := HJ55.out; first | omega | exact Nat.le_refl _⟩, ⟨by (with_reducible repeat (first | apply Kd.R_alloc | apply Kd.R_drewN | apply Kd.R_drew)); exact HO480.out⟩, ⟨by repeat (first | (with_reducible first | exact HB.out | apply below_alloc | apply pw_below_drewN | apply below_drew1) | exact HB.out)⟩⟩
                                  · as_aux_lemma =>
                                    rw [if_neg c65] at H
                                    have c65b0 : decide ((t477.length : Int) ≤ 12) = false := decide_eq_false c65
                                    have c65b1 : decide (t477.length ≤ 12) = false := decide_eq_false (by omega)
                                    clear c65
                                    (first | rw [c65b0] | (simp only [i64_w, i32_w]; rw [c65b0]) | skip)
                                    have H' := Aside0.mk H
                                    clear H
                                    obtain ⟨Ao67, co67, eo67⟩ := Kd.R_slice HO480.out
                                    subst eo67
                                    go_wp2
                                    go_meet
                                    case rel => exact ⟨_, (false), (by first | rfl | (simp; done) | (simp [*]; done)), H', ⟨by have := HJ12.out; have := HJ34.out; have := HJ36.out; have := HJ50.out; have := HJ55.out; first | omega | exact Nat.le_refl _⟩, ⟨by (with_reducible repeat (first | apply Kd.R_alloc | apply Kd.R_drewN | apply Kd.R_drew)); exact HO480.out⟩, ⟨by repeat (first | (with_reducible first | exact HB.out | apply below_alloc | apply pw_below_drewN | apply below_drew1) | exact HB.out)⟩⟩
                                · replace c64 := Bool.eq_false_iff.mpr c64
                                  subst c64
                                  have H1 : (laws_FnPrimesCountedOfAll.j5 kj55 a0 a2 a3 a4 a5 t458 t477 false) = some r := by rw [if_neg (show ¬ (false = true) by decide)] at H; exact H
                                  clear H
                                  have H := H1
                                  clear H1
                                  have H' := Aside0.mk H
                                  clear H
                                  go_wp2
                                  go_meet
                                  case rel => exact ⟨_, (false), (by first | rfl | (simp; done) | (simp [*]; done)), H', ⟨by have := HJ12.out; have := HJ34.out; have := HJ36.out; have := HJ50.out; have := HJ55.out; first | omega | exact Nat.le_refl _⟩, ⟨by (with_reducible repeat (first | apply Kd.R_alloc | apply Kd.R_drewN | apply Kd.R_drew)); exact HO480.out⟩, ⟨by repeat (first | (with_reducible first | exact HB.out | apply below_alloc | apply pw_below_drewN | apply below_drew1) | exact HB.out)⟩⟩
                              case rest =>
                                as_aux_lemma =>
                                clear HC62
                                try clear c1
                                try clear c2
                                try clear p2
                                try clear c3
                                try clear c4
                                try clear c5
                                try clear c6
                                try clear c15
                                try clear c20
                                try clear c20b0
                                try clear c20b1
                                try clear c20b2
                                try clear c21
                                try clear c21b0
                                try clear c21b1
                                try clear c22
                                try clear c22b0
                                try clear c22b1
                                try clear c22b2
                                try clear c23
                                try clear c23b0
                                try clear c23b1
                                try clear c24
                                try clear c24b0
                                try clear c24b1
                                try clear c24b2
                                try clear c26
                                try clear c27
                                try clear c28
                                try clear c29
                                try clear c30
                                try clear c31
                                try clear c33
                                try clear c34
                                try clear c36
                                try clear c38
                                try clear c40
                                try clear c41
                                try clear c41b0
                                try clear c41b1
                                try clear c42
                                try clear c42b0
                                try clear c42b1
                                try clear c52
                                try clear c54
                                try clear c58
                                try clear c60
                                try clear c64
                                try clear c65
                                try clear c65b0
                                try clear c65b1
                                try clear p2
                                obtain ⟨kq, x178_61, rfl, HA, HJ61, HO_29, HB⟩ := hcut
                                cases kq with
                                | zero => exact absurd HA.out (by simp [laws_FnPrimesCountedOfAll.j5])
                                | succ kj61 =>
                                  have H := HA.out
                                  clear HA
                                  simp only [laws_FnPrimesCountedOfAll.j5] at H
                                  by_cases c68 : x178_61 = true
                                  · subst c68
                                    have H1 : ((impl_CountWithout.f kj61 a0 (t477.length : Int)).bind fun bt481 => (if bt481.2 = true then (if (wrap64 ((wrap64 (bt481.1 + (t477.length : Int))) - 1)) = t458 then (laws_FnPrimesCountedOfAll.j6 kj61 a2 a3 a4 a5) else (some false)) else (some false))) = some r := by rw [if_pos rfl] at H; exact H
                                    clear H
                                    have H := H1
                                    clear H1
                                    replace H := Option.bind_eq_some_iff.mp H
                                    obtain ⟨⟨t481, t482⟩, A690, H⟩ := H
                                    replace H : (if t482 = true then (if (wrap64 ((wrap64 (t481 + (t477.length : Int))) - 1)) = t458 then (laws_FnPrimesCountedOfAll.j6 kj61 a2 a3 a4 a5) else (some false)) else (some false)) = some r := H
                                    have A69 := Aside0.mk A690
                                    clear A690
                                    by_cases c70 : t482 = true
                                    · subst c70
                                      have H1 : (if (wrap64 ((wrap64 (t481 + (t477.length : Int))) - 1)) = t458 then (laws_FnPrimesCountedOfAll.j6 kj61 a2 a3 a4 a5) else (some false)) = some r := by rw [if_pos rfl] at H; exact H
                                      clear H
                                      have H := H1
                                      clear H1
                                      by_cases c71 : (wrap64 ((wrap64 (t481 + (t477.length : Int))) - 1)) = t458
                                      · as_aux_lemma =>
                                        rw [if_pos c71] at H
                                        have c71b0 : ((wrap64 ((wrap64 (t481 + (t477.length : Int))) - 1)) == t458) = true := beq_iff_eq.mpr c71
                                        have c71b1 : ((wrap64 ((wrap64 (t481 + (t477.length : Int))) - 1)) != t458) = false := bne_eq_false_iff_eq.mpr c71
                                        clear c71
                                        have H' := Aside0.mk H
                                        clear H
                                        obtain ⟨Ao72, co72, eo72⟩ := Kd.R_slice HO_29.out
                                        subst eo72
                                        go_wp2_with (first | ((with_reducible refine gate_callee (f := 26) rfl ?_); refine goesL_ (some 183) rfl rfl Try.func26 (by kernel_rfl) rfl #[.int .i64 a0, .int .i64 (t477.length : Int)] rfl (by (try simp only [List.map_toArray, List.map_cons, List.map_nil]); first | done | rfl | (simp only [List.length_drop, List.length_take]; rfl)) ?_; (with_reducible refine (impl_CountWithout.calls kj61 a0 (t477.length : Int) t481 true _ A69.out).mono ?_); rintro e w73 ⟨rfl, hb⟩; refine ⟨_, rfl, ?_⟩; have n0_ := Aside0.mk (Kd.R_below (by (with_reducible repeat (first | apply Kd.R_alloc | apply Kd.R_drewN | apply Kd.R_drew)); exact HO_29.out) hb); have n1_ := Aside0.mk (below_step (by repeat (first | (with_reducible first | exact HB.out | apply below_alloc | apply pw_below_drewN | apply below_drew1) | exact HB.out)) hb); clear HO_29; clear HB; have HO_29 := n0_; have HB := n1_; clear n0_ n1_; (try clear hb); (try clear hb2); (try clear hk); (try clear hi)))
                                        go_meet
                                        case rel => exact ⟨_, H', ⟨by have := HJ12.out; have := HJ34.out; have := HJ36.out; have := HJ50.out; have := HJ55.out; have := HJ61.out; first | omega | exact Nat.le_refl _⟩, ⟨by repeat (first | (with_reducible first | exact HB.out | apply below_alloc | apply pw_below_drewN | apply below_drew1) | exact HB.out)⟩⟩
                                      · as_aux_lemma =>
                                        rw [if_neg c71] at H
                                        have c71b0 : ((wrap64 ((wrap64 (t481 + (t477.length : Int))) - 1)) == t458) = false := beq_eq_false_iff_ne.mpr c71
                                        have c71b1 : ((wrap64 ((wrap64 (t481 + (t477.length : Int))) - 1)) != t458) = true := bne_iff_ne.mpr c71
                                        obtain rfl := Option.some.inj H
                                        obtain ⟨Ao74, co74, eo74⟩ := Kd.R_slice HO_29.out
                                        subst eo74
                                        go_wp2_with (first | ((with_reducible refine gate_callee (f := 26) rfl ?_); refine goesL_ (some 183) rfl rfl Try.func26 (by kernel_rfl) rfl #[.int .i64 a0, .int .i64 (t477.length : Int)] rfl (by (try simp only [List.map_toArray, List.map_cons, List.map_nil]); first | done | rfl | (simp only [List.length_drop, List.length_take]; rfl)) ?_; (with_reducible refine (impl_CountWithout.calls kj61 a0 (t477.length : Int) t481 true _ A69.out).mono ?_); rintro e w75 ⟨rfl, hb⟩; refine ⟨_, rfl, ?_⟩; have n0_ := Aside0.mk (Kd.R_below (by (with_reducible repeat (first | apply Kd.R_alloc | apply Kd.R_drewN | apply Kd.R_drew)); exact HO_29.out) hb); have n1_ := Aside0.mk (below_step (by repeat (first | (with_reducible first | exact HB.out | apply below_alloc | apply pw_below_drewN | apply below_drew1) | exact HB.out)) hb); clear HO_29; clear HB; have HO_29 := n0_; have HB := n1_; clear n0_ n1_; (try clear hb); (try clear hb2); (try clear hk); (try clear hi)))
                                        go_ret
                                        exact ⟨by first | rfl | (simp [errW_none, errW_some] <;> rfl) | (simp [*, errW_none, errW_some] <;> rfl), by repeat (first | (with_reducible first | exact HB.out | apply below_alloc | apply pw_below_drewN | apply below_drew1) | exact HB.out)⟩
                                    · replace c70 := Bool.eq_false_iff.mpr c70
                                      subst c70
                                      have H1 : (some false) = some r := by rw [if_neg (show ¬ (false = true) by decide)] at H; exact H
                                      clear H
                                      have H := H1
                                      clear H1
                                      obtain rfl := Option.some.inj H
                                      obtain ⟨Ao76, co76, eo76⟩ := Kd.R_slice HO_29.out
                                      subst eo76
                                      go_wp2_with (first | ((with_reducible refine gate_callee (f := 26) rfl ?_); refine goesL_ (some 183) rfl rfl Try.func26 (by kernel_rfl) rfl #[.int .i64 a0, .int .i64 (t477.length : Int)] rfl (by (try simp only [List.map_toArray, List.map_cons, List.map_nil]); first | done | rfl | (simp only [List.length_drop, List.length_take]; rfl)) ?_; (with_reducible refine (impl_CountWithout.calls kj61 a0 (t477.length : Int) t481 false _ A69.out).mono ?_); rintro e w77 ⟨rfl, hb⟩; refine ⟨_, rfl, ?_⟩; have n0_ := Aside0.mk (Kd.R_below (by (with_reducible repeat (first | apply Kd.R_alloc | apply Kd.R_drewN | apply Kd.R_drew)); exact HO_29.out) hb); have n1_ := Aside0.mk (below_step (by repeat (first | (with_reducible first | exact HB.out | apply below_alloc | apply pw_below_drewN | apply below_drew1) | exact HB.out)) hb); clear HO_29; clear HB; have HO_29 := n0_; have HB := n1_; clear n0_ n1_; (try clear hb); (try clear hb2); (try clear hk); (try clear hi)))
                                      go_ret
                                      exact ⟨by first | rfl | (simp [errW_none, errW_some] <;> rfl) | (simp [*, errW_none, errW_some] <;> rfl), by repeat (first | (with_reducible first | exact HB.out | apply below_alloc | apply pw_below_drewN | apply below_drew1) | exact HB.out)⟩
                                  · replace c68 := Bool.eq_false_iff.mpr c68
                                    subst c68
                                    have H1 : (laws_FnPrimesCountedOfAll.j6 kj61 a2 a3 a4 a5) = some r := by rw [if_neg (show ¬ (false = true) by decide)] at H; exact H
                                    clear H
                                    have H := H1
                                    clear H1
                                    have H' := Aside0.mk H
                                    clear H
                                    go_wp2
                                    go_meet
                                    case rel => exact ⟨_, H', ⟨by have := HJ12.out; have := HJ34.out; have := HJ36.out; have := HJ50.out; have := HJ55.out; have := HJ61.out; first | omega | exact Nat.le_refl _⟩, ⟨by repeat (first | (with_reducible first | exact HB.out | apply below_alloc | apply pw_below_drewN | apply below_drew1) | exact HB.out)⟩⟩
                      · replace c54 := Bool.eq_false_iff.mpr c54
                        subst c54
                        have H1 : (laws_FnPrimesCountedOfAll.j6 kj50 a2 a3 a4 a5) = some r := by rw [if_neg (show ¬ (false = true) by decide)] at H; exact H
                        clear H
                        have H := H1
                        clear H1
                        have H' := Aside0.mk H
                        clear H
                        go_wp2
                        go_meet
                        case rel => exact ⟨_, H', ⟨by have := HJ12.out; have := HJ34.out; have := HJ36.out; have := HJ50.out; first | omega | exact Nat.le_refl _⟩, ⟨by repeat (first | (with_reducible first | exact HB.out | apply below_alloc | apply pw_below_drewN | apply below_drew1) | exact HB.out)⟩⟩
                    case rest =>
                      as_aux_lemma =>
                      clear HC53
                      try clear c1
                      try clear c2
                      try clear p2
                      try clear c3
                      try clear c4
                      try clear c5
                      try clear c6
                      try clear p6
                      try clear c7
                      try clear c15
                      try clear c20
                      try clear c20b0
                      try clear c20b1
                      try clear c20b2
                      try clear c21
                      try clear c21b0
                      try clear c21b1
                      try clear c22
                      try clear c22b0
                      try clear c22b1
                      try clear c22b2
                      try clear c23
                      try clear c23b0
                      try clear c23b1
                      try clear c24
                      try clear c24b0
                      try clear c24b1
                      try clear c24b2
                      try clear c26
                      try clear c27
                      try clear c28
                      try clear c29
                      try clear c30
                      try clear c31
                      try clear c33
                      try clear c34
                      try clear c36
                      try clear c38
                      try clear c40
                      try clear c41
                      try clear c41b0
                      try clear c41b1
                      try clear c42
                      try clear c42b0
                      try clear c42b1
                      try clear c52
                      try clear c54
                      try clear c58
                      try clear c60
                      try clear c64
                      try clear p64
                      try clear c65
                      try clear c65b0
                      try clear c65b1
                      try clear c68
                      try clear c70
                      try clear c71
                      try clear c71b0
                      try clear c71b1
                      try clear p2
                      obtain ⟨kq, HA, HJ52, HB⟩ := hcut
                      cases kq with
                      | zero => exact absurd HA.out (by simp [laws_FnPrimesCountedOfAll.j6])
                      | succ kj52 =>
                        have H := HA.out
                        clear HA
                        simp only [laws_FnPrimesCountedOfAll.j6] at H
                        replace H := Option.bind_eq_some_iff.mp H
                        obtain ⟨⟨t483, t484⟩, A780, H⟩ := H
                        replace H : ((spec_PrimesBetween.f kj52 a2 a3).bind fun bt487 => (if (t484 != bt487.2) = true then (laws_FnPrimesCountedOfAll.j7 kj52 a2 a3 a4 a5 t483 t484 true) else ((laws_gSame.f kj52 t483 bt487.1).bind fun t491 => (laws_FnPrimesCountedOfAll.j7 kj52 a2 a3 a4 a5 t483 t484 (!t491))))) = some r := H
                        have A78 := Aside0.mk A780
                        clear A780
                        replace H := Option.bind_eq_some_iff.mp H
                        obtain ⟨⟨t487, t488⟩, A790, H⟩ := H
                        replace H : (if (t484 != t488) = true then (laws_FnPrimesCountedOfAll.j7 kj52 a2 a3 a4 a5 t483 t484 true) else ((laws_gSame.f kj52 t483 t487).bind fun t491 => (laws_FnPrimesCountedOfAll.j7 kj52 a2 a3 a4 a5 t483 t484 (!t491)))) = some r := H
                        have A79 := Aside0.mk A790
                        clear A790
                        have HC80 := Aside0.mk H
                        clear H
                        go_upto_region 24 with (first | ((with_reducible refine gate_callee (f := 34) rfl ?_); refine goesL_ (some 200) rfl rfl Try.func34 (by kernel_rfl) rfl #[.int .i64 a2, .int .i64 a3] rfl (by (try simp only [List.map_toArray, List.map_cons, List.map_nil]); first | done | rfl | (simp only [List.length_drop, List.length_take]; rfl)) ?_; (with_reducible refine (impl_PrimesBetween.calls kj52 a2 a3 t483 t484 _ A78.out).mono ?_); rintro e w81 ⟨v485, rfl, ho0, hb⟩; refine ⟨_, rfl, ?_⟩; have n0_ := Aside0.mk (Kd.R_lower ho0 (below_size (by repeat (first | (with_reducible first | exact HB.out | apply below_alloc | apply pw_below_drewN | apply below_drew1) | exact HB.out)))); have n1_ := Aside0.mk (below_step (by repeat (first | (with_reducible first | exact HB.out | apply below_alloc | apply pw_below_drewN | apply below_drew1) | exact HB.out)) hb); clear HB; have HO486 := n0_; have HB := n1_; clear n0_ n1_; (try clear hb); (try clear hb2); (try clear hk); (try clear hi); (try clear ho0)) | ((with_reducible refine gate_callee (f := 35) rfl ?_); refine goesL_ (some 206) rfl rfl Try.func35 (by kernel_rfl) rfl #[.int .i64 a2, .int .i64 a3] rfl (by (try simp only [List.map_toArray, List.map_cons, List.map_nil]); first | done | rfl | (simp only [List.length_drop, List.length_take]; rfl)) ?_; (with_reducible refine (spec_PrimesBetween.calls kj52 a2 a3 t487 t488 _ A79.out).mono ?_); rintro e w82 ⟨v489, rfl, ho0, hb⟩; refine ⟨_, rfl, ?_⟩; have n0_ := Aside0.mk (Kd.R_elder' (by (with_reducible repeat (first | apply Kd.R_alloc | apply Kd.R_drewN | apply Kd.R_drew)); exact HO486.out) (Kd.R_base ho0) hb); have n1_ := Aside0.mk (Kd.R_lower (Kd.R_new' ho0 (Kd.R_lt (by (with_reducible repeat (first | apply Kd.R_alloc | apply Kd.R_drewN | apply Kd.R_drew)); exact HO486.out))) (below_size (by repeat (first | (with_reducible first | exact HB.out | apply below_alloc | apply pw_below_drewN | apply below_drew1) | exact HB.out)))); have n2_ := Aside0.mk (below_step (by repeat (first | (with_reducible first | exact HB.out | apply below_alloc | apply pw_below_drewN | apply below_drew1) | exact HB.out)) hb); clear HO486; clear HB; have HO486 := n0_; have HO490 := n1_; have HB := n2_; clear n0_ n1_ n2_; (try clear hb); (try clear hb2); (try clear hk); (try clear hi); (try clear ho0)))
                        (try simp only [Act.put, List.setIfInBounds_toArray, List.set_cons_zero, List.set_cons_succ])
                        go_cut [217] (fun v217 wc => ∃ (kq : Nat) (x217_79 : Bool), v217 = .bool x217_79 ∧ Aside0 (laws_FnPrimesCountedOfAll.j7 kq a2 a3 a4 a5 t483 t484 x217_79 = some r) ∧ Aside0 (kq ≤ kj52) ∧ Aside0 (Kd.R (Kd.int .i64) 3 wc w.heap.size (fun _ => True) v485 t483) ∧ Aside0 (Below w.heap.size w wc))
                        case first =>
                          as_aux_lemma =>
                          have H := HC80.out
                          clear HC80
                          by_cases c83 : (t484 != t488) = true
                          · as_aux_lemma =>
                            rw [if_pos c83] at H
                            have c83b0 : (t484 != t488) = true := c83
                            (try (have c83b1 : decide (t484 = t488) = false := by simpa using c83))
                            (try (have c83b2 : (t484 == t488) = false := by simpa using c83))
                            (try (have c83b3 : ¬ (t484 = t488) := by simpa using c83))
                            clear c83
                            (first | rw [c83b0] | (simp only [i64_w, i32_w]; rw [c83b0]) | skip)
                            have H' := Aside0.mk H
                            clear H
                            go_wp2
                            go_meet
                            case rel => exact ⟨_, (true), (by first | rfl | (simp; done) | (simp [*]; done)), H', ⟨by have := HJ12.out; have := HJ34.out; have := HJ36.out; have := HJ50.out; have := HJ52.out; first | omega | exact Nat.le_refl _⟩, ⟨by (with_reducible repeat (first | apply Kd.R_alloc | apply Kd.R_drewN | apply Kd.R_drew)); exact Kd.R_mono HO486.out (fun _ hk => trivial)⟩, ⟨by repeat (first | (with_reducible first | exact HB.out | apply below_alloc | apply pw_below_drewN | apply below_drew1) | exact HB.out)⟩⟩
                          · as_aux_lemma =>
                            rw [if_neg c83] at H
                            have c83b0 : (t484 != t488) = false := by simpa using c83
                            (try (have c83b1 : decide (t484 = t488) = true := by simpa using c83))
                            (try (have c83b2 : (t484 == t488) = true := by simpa using c83))
                            clear c83
                            (first | rw [c83b0] | (simp only [i64_w, i32_w]; rw [c83b0]) | skip)
                            replace H := Option.bind_eq_some_iff.mp H
                            obtain ⟨t491, A840, H⟩ := H
                            replace H : (laws_FnPrimesCountedOfAll.j7 kj52 a2 a3 a4 a5 t483 t484 (!t491)) = some r := H
                            have A84 := Aside0.mk A840
                            clear A840
                            have H' := Aside0.mk H
                            clear H
                            obtain ⟨Ao85, co85, eo85⟩ := Kd.R_slice HO486.out
                            subst eo85
                            obtain ⟨Ao86, co86, eo86⟩ := Kd.R_slice HO490.out
                            subst eo86
                            go_wp2_with (first | (go_at_call 19; (with_reducible refine (laws_gSame.calls kj52 _ _ t483 _ _ t487 t491 _ ?side1 ?side2 ?side3 ?side4 A84.out).mono ?_); (case side1 => repeat (first | exact (Kd.R_reads' HO486.out).2.2 | (with_reducible refine Kd.C_alloc ?_ _) | (with_reducible refine Kd.C_drewN ?_ _) | (with_reducible refine Kd.C_drew ?_))); (case side2 => exact (Kd.R_reads' HO486.out).2.1); (case side3 => repeat (first | exact (Kd.R_reads' HO490.out).2.2 | (with_reducible refine Kd.C_alloc ?_ _) | (with_reducible refine Kd.C_drewN ?_ _) | (with_reducible refine Kd.C_drew ?_))); (case side4 => exact (Kd.R_reads' HO490.out).2.1); rintro e w' ⟨rfl, ⟨nd, rfl⟩⟩))
                            go_meet
                            case rel => exact ⟨_, (!t491), (by first | rfl | (simp; done) | (simp [*]; done)), H', ⟨by have := HJ12.out; have := HJ34.out; have := HJ36.out; have := HJ50.out; have := HJ52.out; first | omega | exact Nat.le_refl _⟩, ⟨by (with_reducible repeat (first | apply Kd.R_alloc | apply Kd.R_drewN | apply Kd.R_drew)); exact Kd.R_mono HO486.out (fun _ hk => trivial)⟩, ⟨by repeat (first | (with_reducible first | exact HB.out | apply below_alloc | apply pw_below_drewN | apply below_drew1) | exact HB.out)⟩⟩
                        case rest =>
                          as_aux_lemma =>
                          clear HC80
                          try clear c1
                          try clear c2
                          try clear p2
                          try clear c3
                          try clear c4
                          try clear c5
                          try clear c6
                          try clear p6
                          try clear c7
                          try clear c8
                          try clear c15
                          try clear c20
                          try clear c20b0
                          try clear c20b1
                          try clear c20b2
                          try clear c21
                          try clear c21b0
                          try clear c21b1
                          try clear c22
                          try clear c22b0
                          try clear c22b1
                          try clear c22b2
                          try clear c23
                          try clear c23b0
                          try clear c23b1
                          try clear c24
                          try clear c24b0
                          try clear c24b1
                          try clear c24b2
                          try clear c26
                          try clear c27
                          try clear c28
                          try clear c29
                          try clear c30
                          try clear c31
                          try clear c33
                          try clear c34
                          try clear c35
                          try clear c36
                          try clear c38
                          try clear c40
                          try clear c41
                          try clear c41b0
                          try clear c41b1
                          try clear c42
                          try clear c42b0
                          try clear c42b1
                          try clear c52
                          try clear c54
                          try clear c58
                          try clear c60
                          try clear c64
                          try clear p64
                          try clear c65
                          try clear c65b0
                          try clear c65b1
                          try clear c68
                          try clear c70
                          try clear c71
                          try clear c71b0
                          try clear c71b1
                          try clear c83
                          try clear c83b0
                          try clear c83b1
                          try clear c83b2
                          try clear p2
                          try clear p6
                          try clear p64
                          obtain ⟨kq, x217_79, rfl, HA, HJ79, HO_33, HB⟩ := hcut
                          cases kq with
                          | zero => exact absurd HA.out (by simp [laws_FnPrimesCountedOfAll.j7])
                          | succ kj79 =>
                            have H := HA.out
                            clear HA
                            simp only [laws_FnPrimesCountedOfAll.j7] at H
                            by_cases c87 : x217_79 = true
                            · subst c87
                              have H1 : (some false) = some r := by rw [if_pos rfl] at H; exact H
                              clear H
                              have H := H1
                              clear H1
                              obtain rfl := Option.some.inj H
                              go_wp2
                              go_ret
                              exact ⟨by first | rfl | (simp [errW_none, errW_some] <;> rfl) | (simp [*, errW_none, errW_some] <;> rfl), by repeat (first | (with_reducible first | exact HB.out | apply below_alloc | apply pw_below_drewN | apply below_drew1) | exact HB.out)⟩
                            · replace c87 := Bool.eq_false_iff.mpr c87
                              subst c87
                              have H1 : (if t484 = true then (laws_FnPrimesCountedOfAll.l0 kj79 a2 a3 a4 a5 t483 t483 (t483.length : Int) 0) else (laws_FnPrimesCountedOfAll.j11 kj79 a4 a5)) = some r := by rw [if_neg (show ¬ (false = true) by decide)] at H; exact H
                              clear H
                              have H := H1
                              clear H1
                              have HC88 := Aside0.mk H
                              clear H
                              go_upto_if 218 with (fail)
                              go_cut [] (fun wc => ∃ (kq : Nat), Aside0 (laws_FnPrimesCountedOfAll.j11 kq a4 a5 = some r) ∧ Aside0 (kq ≤ kj79) ∧ Aside0 (Below w.heap.size w wc))
                              case first =>
                                as_aux_lemma =>
                                have H := HC88.out
                                clear HC88
                                by_cases c89 : t484 = true
                                · subst c89
                                  have H1 : (laws_FnPrimesCountedOfAll.l0 kj79 a2 a3 a4 a5 t483 t483 (t483.length : Int) 0) = some r := by rw [if_pos rfl] at H; exact H
                                  clear H
                                  have H := H1
                                  clear H1
                                  have H' := Aside0.mk H
                                  clear H
                                  obtain ⟨Ao90, co90, eo90⟩ := Kd.R_slice HO_33.out
                                  subst eo90
                                  go_wp2
                                  go_loopg [221] kj79 (fun kq v221 w' => ∃ (x221_7 : Int), v221 = .int .i64 x221_7 ∧ Aside0 (laws_FnPrimesCountedOfAll.l0 kq a2 a3 a4 a5 t483 t483 (t483.length : Int) x221_7 = some r) ∧ Aside0 (kq ≤ kj79) ∧ Aside0 (Kd.R (Kd.int .i64) 3 w' w.heap.size (fun _ => True) (.slice Ao90 t483.length co90) t483) ∧ Aside0 (Kd.R (Kd.int .i64) 3 w' w.heap.size (fun _ => True) (.slice Ao90 t483.length co90) t483) ∧ Aside0 (Below w.heap.size w w'))
                                  case atStart => exact ⟨(0), (by first | rfl | (simp; done) | (simp [*]; done)), H', ⟨Nat.le_refl _⟩, ⟨by (with_reducible repeat (first | apply Kd.R_alloc | apply Kd.R_drewN | apply Kd.R_drew)); exact HO_33.out⟩, ⟨by (with_reducible repeat (first | apply Kd.R_alloc | apply Kd.R_drewN | apply Kd.R_drew)); exact HO_33.out⟩, ⟨by repeat (first | (with_reducible first | exact HB.out | apply below_alloc | apply pw_below_drewN | apply below_drew1) | exact HB.out)⟩⟩
                                  case round =>
                                    as_aux_lemma =>
                                    clear H'
                                    try clear c1
                                    try clear c2
                                    try clear p2
                                    try clear c3
                                    try clear c4
                                    try clear c5
                                    try clear c6
                                    try clear p6
                                    try clear c7
                                    try clear c8
                                    try clear c15
                                    try clear c20
                                    try clear c20b0
                                    try clear c20b1
                                    try clear c20b2
                                    try clear c21
                                    try clear c21b0
                                    try clear c21b1
                                    try clear c22
                                    try clear c22b0
                                    try clear c22b1
                                    try clear c22b2
                                    try clear c23
                                    try clear c23b0
                                    try clear c23b1
                                    try clear c24
                                    try clear c24b0
                                    try clear c24b1
                                    try clear c24b2
                                    try clear c26
                                    try clear c27
                                    try clear c28
                                    try clear c29
                                    try clear c30
                                    try clear c31
                                    try clear c33
                                    try clear c34
                                    try clear c35
                                    try clear c36
                                    try clear c38
                                    try clear c40
                                    try clear c41
                                    try clear c41b0
                                    try clear c41b1
                                    try clear c42
                                    try clear c42b0
                                    try clear c42b1
                                    try clear c52
                                    try clear c54
                                    try clear c58
                                    try clear c60
                                    try clear c64
                                    try clear p64
                                    try clear c65
                                    try clear c65b0
                                    try clear c65b1
                                    try clear c68
                                    try clear c70
                                    try clear c71
                                    try clear c71b0
                                    try clear c71b1
                                    try clear c83
                                    try clear c83b0
                                    try clear c83b1
                                    try clear c83b2
                                    try clear c87
                                    try clear c89
                                    try clear p2
                                    try clear p6
                                    try clear p64
                                    obtain ⟨x221_7, rfl, HA, HK7, HO_33, HO_219, HB⟩ := hrel
                                    cases gk with
                                    | zero => exact absurd HA.out (by simp [laws_FnPrimesCountedOfAll.l0])
                                    | succ k7 =>
                                      have H := HA.out
                                      clear HA
                                      simp only [laws_FnPrimesCountedOfAll.l0] at H
                                      by_cases c91 : x221_7 < (t483.length : Int)
                                      · as_aux_lemma =>
                                        rw [if_pos c91] at H
                                        have c91b0 : decide (x221_7 < (t483.length : Int)) = true := decide_eq_true c91
                                        clear c91
                                        (first | rw [c91b0] | (simp only [i64_w, i32_w]; rw [c91b0]) | skip)
                                        by_cases c92 : 0 ≤ x221_7
                                        · as_aux_lemma =>
                                          rw [if_pos c92] at H
                                          have c92b0 : decide (0 ≤ x221_7) = true := decide_eq_true c92
                                          clear c92
                                          by_cases c93 : x221_7 < (t483.length : Int)
                                          · as_aux_lemma =>
                                            rw [if_pos c93] at H
                                            have c93b0 : decide (x221_7 < (t483.length : Int)) = true := decide_eq_true c93
                                            clear c93
                                            replace H := Option.bind_eq_some_iff.mp H
                                            obtain ⟨⟨t493, t494⟩, A940, H⟩ := H
                                            replace H : (if t494 = true then (if t493 = true then (if (rd t483 x221_7) < a2 then (laws_FnPrimesCountedOfAll.j9 k7 a2 a3 a4 a5 t483 x221_7 (rd t483 x221_7) t483 (t483.length : Int) x221_7 true) else (if (rd t483 x221_7) > a3 then (laws_FnPrimesCountedOfAll.j9 k7 a2 a3 a4 a5 t483 x221_7 (rd t483 x221_7) t483 (t483.length : Int) x221_7 true) else (if x221_7 > 0 then (if 0 ≤ (wrap64 (x221_7 - 1)) then (if (wrap64 (x221_7 - 1)) < (t483.length : Int) then (laws_FnPrimesCountedOfAll.j9 k7 a2 a3 a4 a5 t483 x221_7 (rd t483 x221_7) t483 (t483.length : Int) x221_7 (decide ((rd t483 (wrap64 (x221_7 - 1))) ≥ (rd t483 x221_7)))) else (none)) else (none)) else (laws_FnPrimesCountedOfAll.j9 k7 a2 a3 a4 a5 t483 x221_7 (rd t483 x221_7) t483 (t483.length : Int) x221_7 false)))) else (laws_FnPrimesCountedOfAll.j9 k7 a2 a3 a4 a5 t483 x221_7 (rd t483 x221_7) t483 (t483.length : Int) x221_7 true)) else (laws_FnPrimesCountedOfAll.j9 k7 a2 a3 a4 a5 t483 x221_7 (rd t483 x221_7) t483 (t483.length : Int) x221_7 true)) = some r := H
                                            have A94 := Aside0.mk A940
                                            clear A940
                                            have HC95 := Aside0.mk H
                                            clear H
                                            have p492 : 0 ≤ (x221_7 : Int) := of_decide_eq_true (by first | (with_reducible assumption) | assumption)
                                            have q492 : x221_7 < (t483.length : Int) := of_decide_eq_true (by first | (with_reducible assumption) | assumption)
                                            obtain ⟨ad492, e492, hx492_0⟩ := Kd.at_int (Kd.R_reads' HO_219.out).2.2 x221_7 p492 q492
                                            cases e492
                                            replace p492 := eq_true p492
                                            replace q492 := eq_true q492
                                            go_upto_region 31 with (first | ((with_reducible refine gate_callee (f := 12) rfl ?_); refine goesL_ (some 228) rfl rfl Try.func12 (by kernel_rfl) rfl #[.int .i64 (rd t483 x221_7)] rfl (by (try simp only [List.map_toArray, List.map_cons, List.map_nil]); first | done | rfl | (simp only [List.length_drop, List.length_take]; rfl)) ?_; (with_reducible refine (impl_IsPrime.calls k7 (rd t483 x221_7) t493 t494 _ A94.out).mono ?_); rintro e w' ⟨rfl, ⟨nd, rfl⟩⟩; refine ⟨_, rfl, ?_⟩))
                                            (try simp only [Act.put, List.setIfInBounds_toArray, List.set_cons_zero, List.set_cons_succ])
                                            go_cut [259] (fun v259 wc => ∃ (kq : Nat) (x259_94 : Bool), v259 = .bool x259_94 ∧ Aside0 (laws_FnPrimesCountedOfAll.j9 kq a2 a3 a4 a5 t483 x221_7 (rd t483 x221_7) t483 (t483.length : Int) x221_7 x259_94 = some r) ∧ Aside0 (kq ≤ k7) ∧ Aside0 (Kd.R (Kd.int .i64) 3 wc w.heap.size (fun _ => True) (.slice (some ad492) t483.length co90) t483) ∧ Aside0 (Kd.R (Kd.int .i64) 3 wc w.heap.size (fun _ => True) (.slice (some ad492) t483.length co90) t483) ∧ Aside0 (Below w.heap.size w wc))
                                            case first =>
                                              as_aux_lemma =>
                                              have H := HC95.out
                                              clear HC95
                                              by_cases c96 : t494 = true
                                              · subst c96
                                                have H1 : (if t493 = true then (if (rd t483 x221_7) < a2 then (laws_FnPrimesCountedOfAll.j9 k7 a2 a3 a4 a5 t483 x221_7 (rd t483 x221_7) t483 (t483.length : Int) x221_7 true) else (if (rd t483 x221_7) > a3 then (laws_FnPrimesCountedOfAll.j9 k7 a2 a3 a4 a5 t483 x221_7 (rd t483 x221_7) t483 (t483.length : Int) x221_7 true) else (if x221_7 > 0 then (if 0 ≤ (wrap64 (x221_7 - 1)) then (if (wrap64 (x221_7 - 1)) < (t483.length : Int) then (laws_FnPrimesCountedOfAll.j9 k7 a2 a3 a4 a5 t483 x221_7 (rd t483 x221_7) t483 (t483.length : Int) x221_7 (decide ((rd t483 (wrap64 (x221_7 - 1))) ≥ (rd t483 x221_7)))) else (none)) else (none)) else (laws_FnPrimesCountedOfAll.j9 k7 a2 a3 a4 a5 t483 x221_7 (rd t483 x221_7) t483 (t483.length : Int) x221_7 false)))) else (laws_FnPrimesCountedOfAll.j9 k7 a2 a3 a4 a5 t483 x221_7 (rd t483 x221_7) t483 (t483.length : Int) x221_7 true)) = some r := by rw [if_pos rfl] at H; exact H
                                                clear H
                                                have H := H1
                                                clear H1
                                                by_cases c97 : t493 = true
                                                · subst c97
                                                  have H1 : (if (rd t483 x221_7) < a2 then (laws_FnPrimesCountedOfAll.j9 k7 a2 a3 a4 a5 t483 x221_7 (rd t483 x221_7) t483 (t483.length : Int) x221_7 true) else (if (rd t483 x221_7) > a3 then (laws_FnPrimesCountedOfAll.j9 k7 a2 a3 a4 a5 t483 x221_7 (rd t483 x221_7) t483 (t483.length : Int) x221_7 true) else (if x221_7 > 0 then (if 0 ≤ (wrap64 (x221_7 - 1)) then (if (wrap64 (x221_7 - 1)) < (t483.length : Int) then (laws_FnPrimesCountedOfAll.j9 k7 a2 a3 a4 a5 t483 x221_7 (rd t483 x221_7) t483 (t483.length : Int) x221_7 (decide ((rd t483 (wrap64 (x221_7 - 1))) ≥ (rd t483 x221_7)))) else (none)) else (none)) else (laws_FnPrimesCountedOfAll.j9 k7 a2 a3 a4 a5 t483 x221_7 (rd t483 x221_7) t483 (t483.length : Int) x221_7 false)))) = some r := by rw [if_pos rfl] at H; exact H
                                                  clear H
                                                  have H := H1
                                                  clear H1
                                                  by_cases c98 : (rd t483 x221_7) < a2
                                                  · as_aux_lemma =>
                                                    rw [if_pos c98] at H
                                                    have c98b0 : decide ((rd t483 x221_7) < a2) = true := decide_eq_true c98
                                                    clear c98
                                                    (first | rw [c98b0] | (simp only [i64_w, i32_w]; rw [c98b0]) | skip)
                                                    have H' := Aside0.mk H
                                                    clear H
                                                    go_wp2
                                                    go_meet
                                                    case rel => exact ⟨_, (true), (by first | rfl | (simp; done) | (simp [*]; done)), H', ⟨by have := HJ12.out; have := HJ34.out; have := HJ36.out; have := HJ50.out; have := HJ52.out; have := HJ79.out; have := HK7.out; first | omega | exact Nat.le_refl _⟩, ⟨by (with_reducible repeat (first | apply Kd.R_alloc | apply Kd.R_drewN | apply Kd.R_drew)); exact HO_33.out⟩, ⟨by (with_reducible repeat (first | apply Kd.R_alloc | apply Kd.R_drewN | apply Kd.R_drew)); exact HO_219.out⟩, ⟨by repeat (first | (with_reducible first | exact HB.out | apply below_alloc | apply pw_below_drewN | apply below_drew1) | exact HB.out)⟩⟩
                                                  · as_aux_lemma =>
                                                    rw [if_neg c98] at H
                                                    have c98b0 : decide ((rd t483 x221_7) < a2) = false := decide_eq_false c98
                                                    clear c98
                                                    (first | rw [c98b0] | (simp only [i64_w, i32_w]; rw [c98b0]) | skip)
                                                    by_cases c99 : (rd t483 x221_7) > a3
                                                    · as_aux_lemma =>
                                                      rw [if_pos c99] at H
                                                      have c99b0 : decide (a3 < (rd t483 x221_7)) = true := decide_eq_true c99
                                                      clear c99
                                                      have H' := Aside0.mk H
                                                      clear H
                                                      go_wp2
                                                      go_meet
                                                      case rel => exact ⟨_, (true), (by first | rfl | (simp; done) | (simp [*]; done)), H', ⟨by have := HJ12.out; have := HJ34.out; have := HJ36.out; have := HJ50.out; have := HJ52.out; have := HJ79.out; have := HK7.out; first | omega | exact Nat.le_refl _⟩, ⟨by (with_reducible repeat (first | apply Kd.R_alloc | apply Kd.R_drewN | apply Kd.R_drew)); exact HO_33.out⟩, ⟨by (with_reducible repeat (first | apply Kd.R_alloc | apply Kd.R_drewN | apply Kd.R_drew)); exact HO_219.out⟩, ⟨by repeat (first | (with_reducible first | exact HB.out | apply below_alloc | apply pw_below_drewN | apply below_drew1) | exact HB.out)⟩⟩
                                                    · as_aux_lemma =>
                                                      rw [if_neg c99] at H
                                                      have c99b0 : decide (a3 < (rd t483 x221_7)) = false := decide_eq_false c99
                                                      clear c99
                                                      by_cases c100 : x221_7 > 0
                                                      · as_aux_lemma =>
                                                        rw [if_pos c100] at H
                                                        have c100b0 : decide (0 < x221_7) = true := decide_eq_true c100
                                                        clear c100
                                                        obtain ⟨ji101, hji101⟩ : ∃ j_ : Int, (wrap64 (x221_7 - 1)) = j_ := ⟨_, rfl⟩
                                                        replace H : (if 0 ≤ (ji101) then (if (ji101) < (t483.length : Int) then (laws_FnPrimesCountedOfAll.j9 k7 a2 a3 a4 a5 t483 x221_7 (rd t483 x221_7) t483 (t483.length : Int) x221_7 (decide ((rd t483 (ji101)) ≥ (rd t483 x221_7)))) else (none)) else (none)) = some r := by first | (rw [hji101] at H; exact H) | (simp only [hji101] at H ⊢; exact H)
                                                        have hji101w : (IntKind.i64.wrap (x221_7 - 1)) = ji101 := (i64_w _).trans hji101
                                                        by_cases c102 : 0 ≤ (ji101)
                                                        · as_aux_lemma =>
                                                          rw [if_pos c102] at H
                                                          have c102b0 : decide (0 ≤ (ji101)) = true := decide_eq_true c102
                                                          clear c102
                                                          by_cases c103 : (ji101) < (t483.length : Int)
                                                          · as_aux_lemma =>
                                                            rw [if_pos c103] at H
                                                            have c103b0 : decide ((ji101) < (t483.length : Int)) = true := decide_eq_true c103
                                                            clear c103
                                                            have H' := Aside0.mk H
                                                            clear H
                                                            have p495 : 0 ≤ ((ji101) : Int) := of_decide_eq_true (by first | (with_reducible assumption) | assumption)
                                                            have q495 : (ji101) < (t483.length : Int) := of_decide_eq_true (by first | (with_reducible assumption) | assumption)
                                                            obtain ⟨ad495, e495, hx495_0⟩ := Kd.at_int (Kd.R_reads' HO_33.out).2.2 (ji101) p495 q495
                                                            obtain rfl : ad492 = ad495 := (by injection e495)
                                                            replace p495 := eq_true p495
                                                            replace q495 := eq_true q495
                                                            go_wp2
                                                            go_meet
                                                            case rel => exact ⟨_, (decide ((rd t483 (ji101)) ≥ (rd t483 x221_7))), (by first | rfl | (simp; done) | (simp only [← hji101] <;> (first | rfl | simp)) | (simp [*]; done)), H', ⟨by have := HJ12.out; have := HJ34.out; have := HJ36.out; have := HJ50.out; have := HJ52.out; have := HJ79.out; have := HK7.out; first | omega | exact Nat.le_refl _⟩, ⟨by (with_reducible repeat (first | apply Kd.R_alloc | apply Kd.R_drewN | apply Kd.R_drew)); exact HO_33.out⟩, ⟨by (with_reducible repeat (first | apply Kd.R_alloc | apply Kd.R_drewN | apply Kd.R_drew)); exact HO_219.out⟩, ⟨by repeat (first | (with_reducible first | exact HB.out | apply below_alloc | apply pw_below_drewN | apply below_drew1) | exact HB.out)⟩⟩
                                                          · as_aux_lemma =>
                                                            rw [if_neg c103] at H
                                                            exact absurd H (by simp)
                                                        · as_aux_lemma =>
                                                          rw [if_neg c102] at H
                                                          exact absurd H (by simp)
                                                      · as_aux_lemma =>
                                                        rw [if_neg c100] at H
                                                        have c100b0 : decide (0 < x221_7) = false := decide_eq_false c100
                                                        clear c100
                                                        have H' := Aside0.mk H
                                                        clear H
                                                        go_wp2
                                                        go_meet
                                                        case rel => exact ⟨_, (false), (by first | rfl | (simp; done) | (simp [*]; done)), H', ⟨by have := HJ12.out; have := HJ34.out; have := HJ36.out; have := HJ50.out; have := HJ52.out; have := HJ79.out; have := HK7.out; first | omega | exact Nat.le_refl _⟩, ⟨by (with_reducible repeat (first | apply Kd.R_alloc | apply Kd.R_drewN | apply Kd.R_drew)); exact HO_33.out⟩, ⟨by (with_reducible repeat (first | apply Kd.R_alloc | apply Kd.R_drewN | apply Kd.R_drew)); exact HO_219.out⟩, ⟨by repeat (first | (with_reducible first | exact HB.out | apply below_alloc | apply pw_below_drewN | apply below_drew1) | exact HB.out)⟩⟩
                                                · replace c97 := Bool.eq_false_iff.mpr c97
                                                  subst c97
                                                  have H1 : (laws_FnPrimesCountedOfAll.j9 k7 a2 a3 a4 a5 t483 x221_7 (rd t483 x221_7) t483 (t483.length : Int) x221_7 true) = some r := by rw [if_neg (show ¬ (false = true) by decide)] at H; exact H
                                                  clear H
                                                  have H := H1
                                                  clear H1
                                                  have H' := Aside0.mk H
                                                  clear H
                                                  go_wp2
                                                  go_meet
                                                  case rel => exact ⟨_, (true), (by first | rfl | (simp; done) | (simp [*]; done)), H', ⟨by have := HJ12.out; have := HJ34.out; have := HJ36.out; have := HJ50.out; have := HJ52.out; have := HJ79.out; have := HK7.out; first | omega | exact Nat.le_refl _⟩, ⟨by (with_reducible repeat (first | apply Kd.R_alloc | apply Kd.R_drewN | apply Kd.R_drew)); exact HO_33.out⟩, ⟨by (with_reducible repeat (first | apply Kd.R_alloc | apply Kd.R_drewN | apply Kd.R_drew)); exact HO_219.out⟩, ⟨by repeat (first | (with_reducible first | exact HB.out | apply below_alloc | apply pw_below_drewN | apply below_drew1) | exact HB.out)⟩⟩
                                              · replace c96 := Bool.eq_false_iff.mpr c96
                                                subst c96
                                                have H1 : (laws_FnPrimesCountedOfAll.j9 k7 a2 a3 a4 a5 t483 x221_7 (rd t483 x221_7) t483 (t483.length : Int) x221_7 true) = some r := by rw [if_neg (show ¬ (false = true) by decide)] at H; exact H
                                                clear H
                                                have H := H1
                                                clear H1
                                                have H' := Aside0.mk H
                                                clear H
                                                go_wp2
                                                go_meet
                                                case rel => exact ⟨_, (true), (by first | rfl | (simp; done) | (simp [*]; done)), H', ⟨by have := HJ12.out; have := HJ34.out; have := HJ36.out; have := HJ50.out; have := HJ52.out; have := HJ79.out; have := HK7.out; first | omega | exact Nat.le_refl _⟩, ⟨by (with_reducible repeat (first | apply Kd.R_alloc | apply Kd.R_drewN | apply Kd.R_drew)); exact HO_33.out⟩, ⟨by (with_reducible repeat (first | apply Kd.R_alloc | apply Kd.R_drewN | apply Kd.R_drew)); exact HO_219.out⟩, ⟨by repeat (first | (with_reducible first | exact HB.out | apply below_alloc | apply pw_below_drewN | apply below_drew1) | exact HB.out)⟩⟩
                                            case rest =>
                                              as_aux_lemma =>
                                              clear HC95
                                              try clear c1
                                              try clear c2
                                              try clear p2
                                              try clear c3
                                              try clear c4
                                              try clear p4
                                              try clear q4
                                              try clear hx4
                                              try clear c5
                                              try clear c6
                                              try clear p6
                                              try clear c7
                                              try clear c8
                                              try clear c9
                                              try clear c10
                                              try clear c12
                                              try clear c15
                                              try clear c20
                                              try clear c20b0
                                              try clear c20b1
                                              try clear c20b2
                                              try clear c21
                                              try clear c21b0
                                              try clear c21b1
                                              try clear c22
                                              try clear c22b0
                                              try clear c22b1
                                              try clear c22b2
                                              try clear c23
                                              try clear c23b0
                                              try clear c23b1
                                              try clear c24
                                              try clear c24b0
                                              try clear c24b1
                                              try clear c24b2
                                              try clear c26
                                              try clear c27
                                              try clear c28
                                              try clear c29
                                              try clear c30
                                              try clear c31
                                              try clear c33
                                              try clear c34
                                              try clear c35
                                              try clear c36
                                              try clear c38
                                              try clear c40
                                              try clear c41
                                              try clear c41b0
                                              try clear c41b1
                                              try clear c42
                                              try clear c42b0
                                              try clear c42b1
                                              try clear p49
                                              try clear q49
                                              try clear hx49
                                              try clear c52
                                              try clear c54
                                              try clear c58
                                              try clear c60
                                              try clear c64
                                              try clear p64
                                              try clear c65
                                              try clear c65b0
                                              try clear c65b1
                                              try clear c68
                                              try clear c70
                                              try clear c71
                                              try clear c71b0
                                              try clear c71b1
                                              try clear c83
                                              try clear c83b0
                                              try clear c83b1
                                              try clear c83b2
                                              try clear c87
                                              try clear c89
                                              try clear c91
                                              try clear c91b0
                                              try clear c92
                                              try clear c92b0
                                              try clear c93
                                              try clear c93b0
                                              try clear c96
                                              try clear c97
                                              try clear c98
                                              try clear c98b0
                                              try clear c99
                                              try clear c99b0
                                              try clear c100
                                              try clear c100b0
                                              try clear c102
                                              try clear c102b0
                                              try clear c103
                                              try clear c103b0
                                              try clear hx492_0
                                              try clear hx495_0
                                              try clear p2
                                              try clear p492
                                              try clear p495
                                              try clear p6
                                              try clear p64
                                              try clear q492
                                              try clear q495
                                              obtain ⟨kq, x259_94, rfl, HA, HJ94, HO_33, HO_219, HB⟩ := hcut
                                              cases kq with
                                              | zero => exact absurd HA.out (by simp [laws_FnPrimesCountedOfAll.j9])
                                              | succ kj94 =>
                                                have H := HA.out
                                                clear HA
                                                simp only [laws_FnPrimesCountedOfAll.j9] at H
                                                by_cases c104 : x259_94 = true
                                                · subst c104
                                                  have H1 : (some false) = some r := by rw [if_pos rfl] at H; exact H
                                                  clear H
                                                  have H := H1
                                                  clear H1
                                                  obtain rfl := Option.some.inj H
                                                  go_wp2
                                                  go_ret
                                                  exact ⟨by first | rfl | (simp [errW_none, errW_some] <;> rfl) | (simp [*, errW_none, errW_some] <;> rfl), by repeat (first | (with_reducible first | exact HB.out | apply below_alloc | apply pw_below_drewN | apply below_drew1) | exact HB.out)⟩
                                                · replace c104 := Bool.eq_false_iff.mpr c104
                                                  subst c104
                                                  have H1 : (if x221_7 > 0 then (laws_FnPrimesCountedOfAll.j10 kj94 a2 a3 a4 a5 t483 x221_7 (rd t483 x221_7) t483 (t483.length : Int) x221_7 (decide ((rd t483 x221_7) ≤ 1000000))) else (laws_FnPrimesCountedOfAll.j10 kj94 a2 a3 a4 a5 t483 x221_7 (rd t483 x221_7) t483 (t483.length : Int) x221_7 false)) = some r := by rw [if_neg (show ¬ (false = true) by decide)] at H; exact H
                                                  clear H
                                                  have H := H1
                                                  clear H1
                                                  have HC105 := Aside0.mk H
                                                  clear H
                                                  go_upto_region 33 with (fail)
                                                  go_cut [265] (fun v265 wc => ∃ (kq : Nat) (x265_104 : Bool), v265 = .bool x265_104 ∧ Aside0 (laws_FnPrimesCountedOfAll.j10 kq a2 a3 a4 a5 t483 x221_7 (rd t483 x221_7) t483 (t483.length : Int) x221_7 x265_104 = some r) ∧ Aside0 (kq ≤ kj94) ∧ Aside0 (Kd.R (Kd.int .i64) 3 wc w.heap.size (fun _ => True) (.slice (some ad492) t483.length co90) t483) ∧ Aside0 (Kd.R (Kd.int .i64) 3 wc w.heap.size (fun _ => True) (.slice (some ad492) t483.length co90) t483) ∧ Aside0 (Below w.heap.size w wc))
                                                  case first =>
                                                    as_aux_lemma =>
                                                    have H := HC105.out
                                                    clear HC105
                                                    by_cases c106 : x221_7 > 0
                                                    · as_aux_lemma =>
                                                      rw [if_pos c106] at H
                                                      have c106b0 : decide (0 < x221_7) = true := decide_eq_true c106
                                                      clear c106
                                                      (first | rw [c106b0] | (simp only [i64_w, i32_w]; rw [c106b0]) | skip)
                                                      have H' := Aside0.mk H
                                                      clear H
                                                      go_wp2
                                                      go_meet
                                                      case rel => exact ⟨_, (decide ((rd t483 x221_7) ≤ 1000000)), (by first | rfl | (simp; done) | (simp [*]; done)), H', ⟨by have := HJ12.out; have := HJ34.out; have := HJ36.out; have := HJ50.out; have := HJ52.out; have := HJ79.out; have := HK7.out; have := HJ94.out; first | omega | exact Nat.le_refl _⟩, ⟨by (with_reducible repeat (first | apply Kd.R_alloc | apply Kd.R_drewN | apply Kd.R_drew)); exact HO_33.out⟩, ⟨by (with_reducible repeat (first | apply Kd.R_alloc | apply Kd.R_drewN | apply Kd.R_drew)); exact HO_219.out⟩, ⟨by repeat (first | (with_reducible first | exact HB.out | apply below_alloc | apply pw_below_drewN | apply below_drew1) | exact HB.out)⟩⟩
                                                    · as_aux_lemma =>
                                                      rw [if_neg c106] at H
                                                      have c106b0 : decide (0 < x221_7) = false := decide_eq_false c106
                                                      clear c106
                                                      (first | rw [c106b0] | (simp only [i64_w, i32_w]; rw [c106b0]) | skip)
                                                      have H' := Aside0.mk H
                                                      clear H
                                                      go_wp2
                                                      go_meet
                                                      case rel => exact ⟨_, (false), (by first | rfl | (simp; done) | (simp [*]; done)), H', ⟨by have := HJ12.out; have := HJ34.out; have := HJ36.out; have := HJ50.out; have := HJ52.out; have := HJ79.out; have := HK7.out; have := HJ94.out; first | omega | exact Nat.le_refl _⟩, ⟨by (with_reducible repeat (first | apply Kd.R_alloc | apply Kd.R_drewN | apply Kd.R_drew)); exact HO_33.out⟩, ⟨by (with_reducible repeat (first | apply Kd.R_alloc | apply Kd.R_drewN | apply Kd.R_drew)); exact HO_219.out⟩, ⟨by repeat (first | (with_reducible first | exact HB.out | apply below_alloc | apply pw_below_drewN | apply below_drew1) | exact HB.out)⟩⟩
                                                  case rest =>
                                                    as_aux_lemma =>
                                                    clear HC105
                                                    try clear c1
                                                    try clear c2
                                                    try clear p2
                                                    try clear c3
                                                    try clear c4
                                                    try clear p4
                                                    try clear q4
                                                    try clear hx4
                                                    try clear c5
                                                    try clear c6
                                                    try clear p6
                                                    try clear c7
                                                    try clear c8
                                                    try clear c9
                                                    try clear c10
                                                    try clear c12
                                                    try clear c15
                                                    try clear c20
                                                    try clear c20b0
                                                    try clear c20b1
                                                    try clear c20b2
                                                    try clear c21
                                                    try clear c21b0
                                                    try clear c21b1
                                                    try clear c22
                                                    try clear c22b0
                                                    try clear c22b1
                                                    try clear c22b2
                                                    try clear c23
                                                    try clear c23b0
                                                    try clear c23b1
                                                    try clear c24
                                                    try clear c24b0
                                                    try clear c24b1
                                                    try clear c24b2
                                                    try clear c26
                                                    try clear c27
                                                    try clear c28
                                                    try clear c29
                                                    try clear c30
                                                    try clear c31
                                                    try clear c33
                                                    try clear c34
                                                    try clear c35
                                                    try clear c36
                                                    try clear c38
                                                    try clear c40
                                                    try clear c41
                                                    try clear c41b0
                                                    try clear c41b1
                                                    try clear c42
                                                    try clear c42b0
                                                    try clear c42b1
                                                    try clear p49
                                                    try clear q49
                                                    try clear hx49
                                                    try clear c52
                                                    try clear c54
                                                    try clear c58
                                                    try clear c60
                                                    try clear c64
                                                    try clear p64
                                                    try clear c65
                                                    try clear c65b0
                                                    try clear c65b1
                                                    try clear c68
                                                    try clear c70
                                                    try clear c71
                                                    try clear c71b0
                                                    try clear c71b1
                                                    try clear c83
                                                    try clear c83b0
                                                    try clear c83b1
                                                    try clear c83b2
                                                    try clear c87
                                                    try clear c89
                                                    try clear c91
                                                    try clear c91b0
                                                    try clear c92
                                                    try clear c92b0
                                                    try clear c93
                                                    try clear c93b0
                                                    try clear c96
                                                    try clear c97
                                                    try clear c98
                                                    try clear c98b0
                                                    try clear c99
                                                    try clear c99b0
                                                    try clear c100
                                                    try clear c100b0
                                                    try clear c102
                                                    try clear c102b0
                                                    try clear c103
                                                    try clear c103b0
                                                    try clear c104
                                                    try clear c106
                                                    try clear c106b0
                                                    try clear hx492_0
                                                    try clear hx495_0
                                                    try clear p2
                                                    try clear p4
                                                    try clear p49
                                                    try clear p492
                                                    try clear p495
                                                    try clear p6
                                                    try clear p64
                                                    try clear q4
                                                    try clear q49
                                                    try clear q492
                                                    try clear q495
                                                    obtain ⟨kq, x265_104, rfl, HA, HJ104, HO_33, HO_219, HB⟩ := hcut
                                                    cases kq with
                                                    | zero => exact absurd HA.out (by simp [laws_FnPrimesCountedOfAll.j10])
                                                    | succ kj104 =>
                                                      have H := HA.out
                                                      clear HA
                                                      simp only [laws_FnPrimesCountedOfAll.j10] at H
                                                      by_cases c107 : x265_104 = true
                                                      · subst c107
                                                        have H1 : (if 0 ≤ (wrap64 (x221_7 - 1)) then (if (wrap64 (x221_7 - 1)) < (t483.length : Int) then ((impl_NextPrime.f kj104 (rd t483 (wrap64 (x221_7 - 1)))).bind fun bt497 => (if bt497.2 = true then (if bt497.1 = (rd t483 x221_7) then (laws_FnPrimesCountedOfAll.l0 kj104 a2 a3 a4 a5 t483 t483 (t483.length : Int) (wrap64 (x221_7 + 1))) else (some false)) else (some false))) else (none)) else (none)) = some r := by rw [if_pos rfl] at H; exact H
                                                        clear H
                                                        have H := H1
                                                        clear H1
                                                        obtain ⟨ji108, hji108⟩ : ∃ j_ : Int, (wrap64 (x221_7 - 1)) = j_ := ⟨_, rfl⟩
                                                        replace H : (if 0 ≤ (ji108) then (if (ji108) < (t483.length : Int) then ((impl_NextPrime.f kj104 (rd t483 (ji108))).bind fun bt497 => (if bt497.2 = true then (if bt497.1 = (rd t483 x221_7) then (laws_FnPrimesCountedOfAll.l0 kj104 a2 a3 a4 a5 t483 t483 (t483.length : Int) (wrap64 (x221_7 + 1))) else (some false)) else (some false))) else (none)) else (none)) = some r := by first | (rw [hji108] at H; exact H) | (simp only [hji108] at H ⊢; exact H)
                                                        have hji108w : (IntKind.i64.wrap (x221_7 - 1)) = ji108 := (i64_w _).trans hji108
                                                        by_cases c109 : 0 ≤ (ji108)
                                                        · as_aux_lemma =>
                                                          rw [if_pos c109] at H
                                                          have c109b0 : decide (0 ≤ (ji108)) = true := decide_eq_true c109
                                                          clear c109
                                                          by_cases c110 : (ji108) < (t483.length : Int)
                                                          · as_aux_lemma =>
                                                            rw [if_pos c110] at H
                                                            have c110b0 : decide ((ji108) < (t483.length : Int)) = true := decide_eq_true c110
                                                            clear c110
                                                            replace H := Option.bind_eq_some_iff.mp H
                                                            obtain ⟨⟨t497, t498⟩, A1110, H⟩ := H
                                                            replace H : (if t498 = true then (if t497 = (rd t483 x221_7) then (laws_FnPrimesCountedOfAll.l0 kj104 a2 a3 a4 a5 t483 t483 (t483.length : Int) (wrap64 (x221_7 + 1))) else (some false)) else (some false)) = some r := H
                                                            have A111 := Aside0.mk A1110
                                                            clear A1110
                                                            by_cases c112 : t498 = true
                                                            · subst c112
                                                              have H1 : (if t497 = (rd t483 x221_7) then (laws_FnPrimesCountedOfAll.l0 kj104 a2 a3 a4 a5 t483 t483 (t483.length : Int) (wrap64 (x221_7 + 1))) else (some false)) = some r := by rw [if_pos rfl] at H; exact H
                                                              clear H
                                                              have H := H1
                                                              clear H1
                                                              by_cases c113 : t497 = (rd t483 x221_7)
                                                              · as_aux_lemma =>
                                                                rw [if_pos c113] at H
                                                                have c113b0 : (t497 == (rd t483 x221_7)) = true := beq_iff_eq.mpr c113
                                                                have c113b1 : (t497 != (rd t483 x221_7)) = false := bne_eq_false_iff_eq.mpr c113
                                                                clear c113
                                                                have H' := Aside0.mk H
                                                                clear H
                                                                have p496 : 0 ≤ ((ji108) : Int) := of_decide_eq_true (by first | (with_reducible assumption) | assumption)
                                                                have q496 : (ji108) < (t483.length : Int) := of_decide_eq_true (by first | (with_reducible assumption) | assumption)
                                                                obtain ⟨ad496, e496, hx496_0⟩ := Kd.at_int (Kd.R_reads' HO_33.out).2.2 (ji108) p496 q496
                                                                obtain rfl : ad492 = ad496 := (by injection e496)
                                                                replace p496 := eq_true p496
                                                                replace q496 := eq_true q496
                                                                go_wp2_with (first | ((with_reducible refine gate_callee (f := 36) rfl ?_); refine goesL_ (some 272) rfl rfl Try.func36 (by kernel_rfl) rfl #[.int .i64 (rd t483 (ji108))] rfl (by (try simp only [List.map_toArray, List.map_cons, List.map_nil]); first | done | (simp only [hji108]; rfl) | rfl | (simp only [List.length_drop, List.length_take]; rfl)) ?_; (with_reducible refine (impl_NextPrime.calls kj104 (rd t483 (ji108)) t497 true _ A111.out).mono ?_); rintro e w' ⟨rfl, ⟨nd, rfl⟩⟩; refine ⟨_, rfl, ?_⟩))
                                                                first | go_roundg kj104 | (try subst hji101; try subst hji108; go_roundg kj104)
                                                                case measure => have := HJ12.out; have := HJ34.out; have := HJ36.out; have := HJ50.out; have := HJ52.out; have := HJ79.out; have := HK7.out; have := HJ94.out; have := HJ104.out; omega
                                                                case rel => exact ⟨(wrap64 (x221_7 + 1)), (by first | rfl | (simp; done) | (simp [*]; done)), H', ⟨by have := HJ12.out; have := HJ34.out; have := HJ36.out; have := HJ50.out; have := HJ52.out; have := HJ79.out; have := HK7.out; have := HJ94.out; have := HJ104.out; omega⟩, ⟨by (with_reducible repeat (first | apply Kd.R_alloc | apply Kd.R_drewN | apply Kd.R_drew)); exact HO_33.out⟩, ⟨by (with_reducible repeat (first | apply Kd.R_alloc | apply Kd.R_drewN | apply Kd.R_drew)); exact HO_219.out⟩, ⟨by repeat (first | (with_reducible first | exact HB.out | apply below_alloc | apply pw_below_drewN | apply below_drew1) | exact HB.out)⟩⟩
                                                              · as_aux_lemma =>
                                                                rw [if_neg c113] at H
                                                                have c113b0 : (t497 == (rd t483 x221_7)) = false := beq_eq_false_iff_ne.mpr c113
                                                                have c113b1 : (t497 != (rd t483 x221_7)) = true := bne_iff_ne.mpr c113
                                                                obtain rfl := Option.some.inj H
                                                                have p496 : 0 ≤ ((ji108) : Int) := of_decide_eq_true (by first | (with_reducible assumption) | assumption)
                                                                have q496 : (ji108) < (t483.length : Int) := of_decide_eq_true (by first | (with_reducible assumption) | assumption)
                                                                obtain ⟨ad496, e496, hx496_0⟩ := Kd.at_int (Kd.R_reads' HO_33.out).2.2 (ji108) p496 q496
                                                                obtain rfl : ad492 = ad496 := (by injection e496)
                                                                replace p496 := eq_true p496
                                                                replace q496 := eq_true q496
                                                                go_wp2_with (first | ((with_reducible refine gate_callee (f := 36) rfl ?_); refine goesL_ (some 272) rfl rfl Try.func36 (by kernel_rfl) rfl #[.int .i64 (rd t483 (ji108))] rfl (by (try simp only [List.map_toArray, List.map_cons, List.map_nil]); first | done | (simp only [hji108]; rfl) | rfl | (simp only [List.length_drop, List.length_take]; rfl)) ?_; (with_reducible refine (impl_NextPrime.calls kj104 (rd t483 (ji108)) t497 true _ A111.out).mono ?_); rintro e w' ⟨rfl, ⟨nd, rfl⟩⟩; refine ⟨_, rfl, ?_⟩))
                                                                go_ret
                                                                exact ⟨by first | rfl | (simp [errW_none, errW_some] <;> rfl) | (simp only [← hji108]; first | rfl | (simp [errW_none, errW_some] <;> rfl)) | (simp [*, errW_none, errW_some] <;> rfl), by repeat (first | (with_reducible first | exact HB.out | apply below_alloc | apply pw_below_drewN | apply below_drew1) | exact HB.out)⟩
                                                            · replace c112 := Bool.eq_false_iff.mpr c112
                                                              subst c112
                                                              have H1 : (some false) = some r := by rw [if_neg (show ¬ (false = true) by decide)] at H; exact H
                                                              clear H
                                                              have H := H1
                                                              clear H1
                                                              obtain rfl := Option.some.inj H
                                                              have p496 : 0 ≤ ((ji108) : Int) := of_decide_eq_true (by first | (with_reducible assumption) | assumption)
                                                              have q496 : (ji108) < (t483.length : Int) := of_decide_eq_true (by first | (with_reducible assumption) | assumption)
                                                              obtain ⟨ad496, e496, hx496_0⟩ := Kd.at_int (Kd.R_reads' HO_33.out).2.2 (ji108) p496 q496
                                                              obtain rfl : ad492 = ad496 := (by injection e496)
                                                              replace p496 := eq_true p496
                                                              replace q496 := eq_true q496
                                                              go_wp2_with (first | ((with_reducible refine gate_callee (f := 36) rfl ?_); refine goesL_ (some 272) rfl rfl Try.func36 (by kernel_rfl) rfl #[.int .i64 (rd t483 (ji108))] rfl (by (try simp only [List.map_toArray, List.map_cons, List.map_nil]); first | done | (simp only [hji108]; rfl) | rfl | (simp only [List.length_drop, List.length_take]; rfl)) ?_; (with_reducible refine (impl_NextPrime.calls kj104 (rd t483 (ji108)) t497 false _ A111.out).mono ?_); rintro e w' ⟨rfl, ⟨nd, rfl⟩⟩; refine ⟨_, rfl, ?_⟩))
                                                              go_ret
                                                              exact ⟨by first | rfl | (simp [errW_none, errW_some] <;> rfl) | (simp only [← hji108]; first | rfl | (simp [errW_none, errW_some] <;> rfl)) | (simp [*, errW_none, errW_some] <;> rfl), by repeat (first | (with_reducible first | exact HB.out | apply below_alloc | apply pw_below_drewN | apply below_drew1) | exact HB.out)⟩
                                                          · as_aux_lemma =>
                                                            rw [if_neg c110] at H
                                                            exact absurd H (by simp)
                                                        · as_aux_lemma =>
                                                          rw [if_neg c109] at H
                                                          exact absurd H (by simp)
                                                      · replace c107 := Bool.eq_false_iff.mpr c107
                                                        subst c107
                                                        have H1 : (laws_FnPrimesCountedOfAll.l0 kj104 a2 a3 a4 a5 t483 t483 (t483.length : Int) (wrap64 (x221_7 + 1))) = some r := by rw [if_neg (show ¬ (false = true) by decide)] at H; exact H
                                                        clear H
                                                        have H := H1
                                                        clear H1
                                                        have H' := Aside0.mk H
                                                        clear H
                                                        go_wp2
                                                        first | go_roundg kj104 | (try subst hji101; try subst hji108; go_roundg kj104)
                                                        case measure => have := HJ12.out; have := HJ34.out; have := HJ36.out; have := HJ50.out; have := HJ52.out; have := HJ79.out; have := HK7.out; have := HJ94.out; have := HJ104.out; omega
                                                        case rel => exact ⟨(wrap64 (x221_7 + 1)), (by first | rfl | (simp; done) | (simp [*]; done)), H', ⟨by have := HJ12.out; have := HJ34.out; have := HJ36.out; have := HJ50.out; have := HJ52.out; have := HJ79.out; have := HK7.out; have := HJ94.out; have := HJ104.out; omega⟩, ⟨by (with_reducible repeat (first | apply Kd.R_alloc | apply Kd.R_drewN | apply Kd.R_drew)); exact HO_33.out⟩, ⟨by (with_reducible repeat (first | apply Kd.R_alloc | apply Kd.R_drewN | apply Kd.R_drew)); exact HO_219.out⟩, ⟨by repeat (first | (with_reducible first | exact HB.out | apply below_alloc | apply pw_below_drewN | apply below_drew1) | exact HB.out)⟩⟩
                                          · as_aux_lemma =>
                                            rw [if_neg c93] at H
                                            exact absurd H (by simp)
                                        · as_aux_lemma =>
                                          rw [if_neg c92] at H
                                          exact absurd H (by simp)
                                      · as_aux_lemma =>
                                        rw [if_neg c91] at H
                                        have c91b0 : decide (x221_7 < (t483.length : Int)) = false := decide_eq_false c91
                                        clear c91
                                        (first | rw [c91b0] | (simp only [i64_w, i32_w]; rw [c91b0]) | skip)
                                        have H' := Aside0.mk H
                                        clear H
                                        go_wp2
                                        go_meet
                                        case rel => exact ⟨_, H', ⟨by have := HJ12.out; have := HJ34.out; have := HJ36.out; have := HJ50.out; have := HJ52.out; have := HJ79.out; have := HK7.out; first | omega | exact Nat.le_refl _⟩, ⟨by repeat (first | (with_reducible first | exact HB.out | apply below_alloc | apply pw_below_drewN | apply below_drew1) | exact HB.out)⟩⟩
                                · replace c89 := Bool.eq_false_iff.mpr c89
                                  subst c89
                                  have H1 : (laws_FnPrimesCountedOfAll.j11 kj79 a4 a5) = some r := by rw [if_neg (show ¬ (false = true) by decide)] at H; exact H
                                  clear H
                                  have H := H1
                                  clear H1
                                  have H' := Aside0.mk H
                                  clear H
                                  go_wp2
                                  go_meet
                                  case rel => exact ⟨_, H', ⟨by have := HJ12.out; have := HJ34.out; have := HJ36.out; have := HJ50.out; have := HJ52.out; have := HJ79.out; first | omega | exact Nat.le_refl _⟩, ⟨by repeat (first | (with_reducible first | exact HB.out | apply below_alloc | apply pw_below_drewN | apply below_drew1) | exact HB.out)⟩⟩
                              case rest =>
                                as_aux_lemma =>
                                clear HC88
                                try clear c1
                                try clear c2
                                try clear p2
                                try clear c3
                                try clear c4
                                try clear p4
                                try clear q4
                                try clear hx4
                                try clear c5
                                try clear c6
                                try clear p6
                                try clear c7
                                try clear c8
                                try clear c9
                                try clear c10
                                try clear c11
                                try clear c12
                                try clear c15
                                try clear c20
                                try clear c20b0
                                try clear c20b1
                                try clear c20b2
                                try clear c21
                                try clear c21b0
                                try clear c21b1
                                try clear c22
                                try clear c22b0
                                try clear c22b1
                                try clear c22b2
                                try clear c23
                                try clear c23b0
                                try clear c23b1
                                try clear c24
                                try clear c24b0
                                try clear c24b1
                                try clear c24b2
                                try clear c26
                                try clear c27
                                try clear c28
                                try clear c29
                                try clear c30
                                try clear c31
                                try clear c33
                                try clear c34
                                try clear c35
                                try clear c36
                                try clear c38
                                try clear c40
                                try clear c41
                                try clear c41b0
                                try clear c41b1
                                try clear c42
                                try clear c42b0
                                try clear c42b1
                                try clear p49
                                try clear q49
                                try clear hx49
                                try clear c52
                                try clear c54
                                try clear c58
                                try clear c60
                                try clear c64
                                try clear p64
                                try clear c65
                                try clear c65b0
                                try clear c65b1
                                try clear c68
                                try clear c70
                                try clear c71
                                try clear c71b0
                                try clear c71b1
                                try clear c83
                                try clear c83b0
                                try clear c83b1
                                try clear c83b2
                                try clear c87
                                try clear c89
                                try clear c91
                                try clear c91b0
                                try clear c92
                                try clear c92b0
                                try clear c93
                                try clear c93b0
                                try clear c96
                                try clear c97
                                try clear c98
                                try clear c98b0
                                try clear c99
                                try clear c99b0
                                try clear c100
                                try clear c100b0
                                try clear c102
                                try clear c102b0
                                try clear c103
                                try clear c103b0
                                try clear c104
                                try clear c106
                                try clear c106b0
                                try clear c107
                                try clear c109
                                try clear c109b0
                                try clear c110
                                try clear c110b0
                                try clear c112
                                try clear c113
                                try clear c113b0
                                try clear c113b1
                                try clear hx492_0
                                try clear hx495_0
                                try clear hx496_0
                                try clear p2
                                try clear p4
                                try clear p49
                                try clear p492
                                try clear p495
                                try clear p496
                                try clear p6
                                try clear p64
                                try clear q4
                                try clear q49
                                try clear q492
                                try clear q495
                                try clear q496
                                obtain ⟨kq, HA, HJ87, HB⟩ := hcut
                                cases kq with
                                | zero => exact absurd HA.out (by simp [laws_FnPrimesCountedOfAll.j11])
                                | succ kj87 =>
                                  have H := HA.out
                                  clear HA
                                  simp only [laws_FnPrimesCountedOfAll.j11] at H
                                  replace H := Option.bind_eq_some_iff.mp H
                                  obtain ⟨⟨t499, t500⟩, A1140, H⟩ := H
                                  replace H : ((spec_PrimeOfRank.f kj87 a4).bind fun bt501 => ((impl_NextPrime.f kj87 a5).bind fun bt503 => ((spec_NextPrime.f kj87 a5).bind fun bt505 => (if (t500 != bt501.2) = true then (laws_FnPrimesCountedOfAll.j12 kj87 a4 t499 t500 true) else (if t499 = bt501.1 then (if (bt503.2 != bt505.2) = true then (laws_FnPrimesCountedOfAll.j12 kj87 a4 t499 t500 true) else (laws_FnPrimesCountedOfAll.j12 kj87 a4 t499 t500 (bt503.1 != bt505.1))) else (laws_FnPrimesCountedOfAll.j12 kj87 a4 t499 t500 true)))))) = some r := H
                                  have A114 := Aside0.mk A1140
                                  clear A1140
                                  replace H := Option.bind_eq_some_iff.mp H
                                  obtain ⟨⟨t501, t502⟩, A1150, H⟩ := H
                                  replace H : ((impl_NextPrime.f kj87 a5).bind fun bt503 => ((spec_NextPrime.f kj87 a5).bind fun bt505 => (if (t500 != t502) = true then (laws_FnPrimesCountedOfAll.j12 kj87 a4 t499 t500 true) else (if t499 = t501 then (if (bt503.2 != bt505.2) = true then (laws_FnPrimesCountedOfAll.j12 kj87 a4 t499 t500 true) else (laws_FnPrimesCountedOfAll.j12 kj87 a4 t499 t500 (bt503.1 != bt505.1))) else (laws_FnPrimesCountedOfAll.j12 kj87 a4 t499 t500 true))))) = some r := H
                                  have A115 := Aside0.mk A1150
                                  clear A1150
                                  replace H := Option.bind_eq_some_iff.mp H
                                  obtain ⟨⟨t503, t504⟩, A1160, H⟩ := H
                                  replace H : ((spec_NextPrime.f kj87 a5).bind fun bt505 => (if (t500 != t502) = true then (laws_FnPrimesCountedOfAll.j12 kj87 a4 t499 t500 true) else (if t499 = t501 then (if (t504 != bt505.2) = true then (laws_FnPrimesCountedOfAll.j12 kj87 a4 t499 t500 true) else (laws_FnPrimesCountedOfAll.j12 kj87 a4 t499 t500 (t503 != bt505.1))) else (laws_FnPrimesCountedOfAll.j12 kj87 a4 t499 t500 true)))) = some r := H
                                  have A116 := Aside0.mk A1160
                                  clear A1160
                                  replace H := Option.bind_eq_some_iff.mp H
                                  obtain ⟨⟨t505, t506⟩, A1170, H⟩ := H
                                  replace H : (if (t500 != t502) = true then (laws_FnPrimesCountedOfAll.j12 kj87 a4 t499 t500 true) else (if t499 = t501 then (if (t504 != t506) = true then (laws_FnPrimesCountedOfAll.j12 kj87 a4 t499 t500 true) else (laws_FnPrimesCountedOfAll.j12 kj87 a4 t499 t500 (t503 != t505))) else (laws_FnPrimesCountedOfAll.j12 kj87 a4 t499 t500 true))) = some r := H
                                  have A117 := Aside0.mk A1170
                                  clear A1170
                                  have HC118 := Aside0.mk H
                                  clear H
                                  go_upto_region 42 with (first | ((with_reducible refine gate_callee (f := 37) rfl ?_); refine goesL_ (some 285) rfl rfl Try.func37 (by kernel_rfl) rfl #[.int .i64 a4] rfl (by (try simp only [List.map_toArray, List.map_cons, List.map_nil]); first | done | rfl | (simp only [List.length_drop, List.length_take]; rfl)) ?_; (with_reducible refine (impl_PrimeOfRank.calls kj87 a4 t499 t500 _ A114.out).mono ?_); rintro e w119 ⟨rfl, hb⟩; refine ⟨_, rfl, ?_⟩; have n0_ := Aside0.mk (below_step (by repeat (first | (with_reducible first | exact HB.out | apply below_alloc | apply pw_below_drewN | apply below_drew1) | exact HB.out)) hb); clear HB; have HB := n0_; clear n0_; (try clear hb); (try clear hb2); (try clear hk); (try clear hi)) | ((with_reducible refine gate_callee (f := 38) rfl ?_); refine goesL_ (some 290) rfl rfl Try.func38 (by kernel_rfl) rfl #[.int .i64 a4] rfl (by (try simp only [List.map_toArray, List.map_cons, List.map_nil]); first | done | rfl | (simp only [List.length_drop, List.length_take]; rfl)) ?_; (with_reducible refine (spec_PrimeOfRank.calls kj87 a4 t501 t502 _ A115.out).mono ?_); rintro e w120 ⟨rfl, hb⟩; refine ⟨_, rfl, ?_⟩; have n0_ := Aside0.mk (below_step (by repeat (first | (with_reducible first | exact HB.out | apply below_alloc | apply pw_below_drewN | apply below_drew1) | exact HB.out)) hb); clear HB; have HB := n0_; clear n0_; (try clear hb); (try clear hb2); (try clear hk); (try clear hi)) | ((with_reducible refine gate_callee (f := 36) rfl ?_); refine goesL_ (some 295) rfl rfl Try.func36 (by kernel_rfl) rfl #[.int .i64 a5] rfl (by (try simp only [List.map_toArray, List.map_cons, List.map_nil]); first | done | rfl | (simp only [List.length_drop, List.length_take]; rfl)) ?_; (with_reducible refine (impl_NextPrime.calls kj87 a5 t503 t504 _ A116.out).mono ?_); rintro e w' ⟨rfl, ⟨nd, rfl⟩⟩; refine ⟨_, rfl, ?_⟩) | ((with_reducible refine gate_callee (f := 39) rfl ?_); refine goesL_ (some 300) rfl rfl Try.func39 (by kernel_rfl) rfl #[.int .i64 a5] rfl (by (try simp only [List.map_toArray, List.map_cons, List.map_nil]); first | done | rfl | (simp only [List.length_drop, List.length_take]; rfl)) ?_; (with_reducible refine (spec_NextPrime.calls kj87 a5 t505 t506 _ A117.out).mono ?_); rintro e w' ⟨rfl, ⟨nd, rfl⟩⟩; refine ⟨_, rfl, ?_⟩))
                                  (try simp only [Act.put, List.setIfInBounds_toArray, List.set_cons_zero, List.set_cons_succ])
                                  go_cut [320] (fun v320 wc => ∃ (kq : Nat) (x320_117 : Bool), v320 = .bool x320_117 ∧ Aside0 (laws_FnPrimesCountedOfAll.j12 kq a4 t499 t500 x320_117 = some r) ∧ Aside0 (kq ≤ kj87) ∧ Aside0 (Below w.heap.size w wc))
                                  case first =>
                                    as_aux_lemma =>
                                    have H := HC118.out
                                    clear HC118
                                    by_cases c121 : (t500 != t502) = true
                                    · as_aux_lemma =>
                                      rw [if_pos c121] at H
                                      have c121b0 : (t500 != t502) = true := c121
                                      (try (have c121b1 : decide (t500 = t502) = false := by simpa using c121))
                                      (try (have c121b2 : (t500 == t502) = false := by simpa using c121))
                                      (try (have c121b3 : ¬ (t500 = t502) := by simpa using c121))
                                      clear c121
                                      (first | rw [c121b0] | (simp only [i64_w, i32_w]; rw [c121b0]) | skip)
                                      have H' := Aside0.mk H
                                      clear H
                                      go_wp2
                                      go_meet
                                      case rel => exact ⟨_, (true), (by first | rfl | (simp; done) | (simp [*]; done)), H', ⟨by have := HJ12.out; have := HJ34.out; have := HJ36.out; have := HJ50.out; have := HJ52.out; have := HJ79.out; have := HJ87.out; first | omega | exact Nat.le_refl _⟩, ⟨by repeat (first | (with_reducible first | exact HB.out | apply below_alloc | apply pw_below_drewN | apply below_drew1) | exact HB.out)⟩⟩
                                    · as_aux_lemma =>
                                      rw [if_neg c121] at H
                                      have c121b0 : (t500 != t502) = false := by simpa using c121
                                      (try (have c121b1 : decide (t500 = t502) = true := by simpa using c121))
                                      (try (have c121b2 : (t500 == t502) = true := by simpa using c121))
                                      clear c121
                                      (first | rw [c121b0] | (simp only [i64_w, i32_w]; rw [c121b0]) | skip)
                                      by_cases c122 : t499 = t501
                                      · as_aux_lemma =>
                                        rw [if_pos c122] at H
                                        have c122b0 : (t499 == t501) = true := beq_iff_eq.mpr c122
                                        have c122b1 : (t499 != t501) = false := bne_eq_false_iff_eq.mpr c122
                                        clear c122
                                        by_cases c123 : (t504 != t506) = true
                                        · as_aux_lemma =>
                                          rw [if_pos c123] at H
                                          have c123b0 : (t504 != t506) = true := c123
                                          (try (have c123b1 : decide (t504 = t506) = false := by simpa using c123))
                                          (try (have c123b2 : (t504 == t506) = false := by simpa using c123))
                                          (try (have c123b3 : ¬ (t504 = t506) := by simpa using c123))
                                          clear c123
                                          have H' := Aside0.mk H
                                          clear H
                                          go_wp2
                                          go_meet
                                          case rel => exact ⟨_, (true), (by first | rfl | (simp; done) | (simp [*]; done)), H', ⟨by have := HJ12.out; have := HJ34.out; have := HJ36.out; have := HJ50.out; have := HJ52.out; have := HJ79.out; have := HJ87.out; first | omega | exact Nat.le_refl _⟩, ⟨by repeat (first | (with_reducible first | exact HB.out | apply below_alloc | apply pw_below_drewN | apply below_drew1) | exact HB.out)⟩⟩
                                        · as_aux_lemma =>
                                          rw [if_neg c123] at H
                                          have c123b0 : (t504 != t506) = false := by simpa using c123
                                          (try (have c123b1 : decide (t504 = t506) = true := by simpa using c123))
                                          (try (have c123b2 : (t504 == t506) = true := by simpa using c123))
                                          clear c123
                                          have H' := Aside0.mk H
                                          clear H
                                          go_wp2
                                          go_meet
                                          case rel => exact ⟨_, ((t503 != t505)), (by first | rfl | (simp; done) | (simp [*]; done)), H', ⟨by have := HJ12.out; have := HJ34.out; have := HJ36.out; have := HJ50.out; have := HJ52.out; have := HJ79.out; have := HJ87.out; first | omega | exact Nat.le_refl _⟩, ⟨by repeat (first | (with_reducible first | exact HB.out | apply below_alloc | apply pw_below_drewN | apply below_drew1) | exact HB.out)⟩⟩
                                      · as_aux_lemma =>
                                        rw [if_neg c122] at H
                                        have c122b0 : (t499 == t501) = false := beq_eq_false_iff_ne.mpr c122
                                        have c122b1 : (t499 != t501) = true := bne_iff_ne.mpr c122
                                        have H' := Aside0.mk H
                                        clear H
                                        go_wp2
                                        go_meet
                                        case rel => exact ⟨_, (true), (by first | rfl | (simp; done) | (simp [*]; done)), H', ⟨by have := HJ12.out; have := HJ34.out; have := HJ36.out; have := HJ50.out; have := HJ52.out; have := HJ79.out; have := HJ87.out; first | omega | exact Nat.le_refl _⟩, ⟨by repeat (first | (with_reducible first | exact HB.out | apply below_alloc | apply pw_below_drewN | apply below_drew1) | exact HB.out)⟩⟩
                                  case rest =>
                                    as_aux_lemma =>
                                    clear HC118
                                    try clear c1
                                    try clear c2
                                    try clear p2
                                    try clear c3
                                    try clear c4
                                    try clear p4
                                    try clear q4
                                    try clear hx4
                                    try clear c5
                                    try clear c6
                                    try clear p6
                                    try clear c7
                                    try clear c8
                                    try clear c9
                                    try clear c10
                                    try clear c11
                                    try clear c12
                                    try clear c15
                                    try clear c20
                                    try clear c20b0
                                    try clear c20b1
                                    try clear c20b2
                                    try clear c21
                                    try clear c21b0
                                    try clear c21b1
                                    try clear c22
                                    try clear c22b0
                                    try clear c22b1
                                    try clear c22b2
                                    try clear c23
                                    try clear c23b0
                                    try clear c23b1
                                    try clear c24
                                    try clear c24b0
                                    try clear c24b1
                                    try clear c24b2
                                    try clear c26
                                    try clear c27
                                    try clear c28
                                    try clear c29
                                    try clear c30
                                    try clear c31
                                    try clear c33
                                    try clear c34
                                    try clear c35
                                    try clear c36
                                    try clear c37
                                    try clear c38
                                    try clear c39
                                    try clear c40
                                    try clear c41
                                    try clear c41b0
                                    try clear c41b1
                                    try clear c42
                                    try clear c42b0
                                    try clear c42b1
                                    try clear p49
                                    try clear q49
                                    try clear hx49
                                    try clear c52
                                    try clear c54
                                    try clear c58
                                    try clear c60
                                    try clear c64
                                    try clear p64
                                    try clear c65
                                    try clear c65b0
                                    try clear c65b1
                                    try clear c68
                                    try clear c70
                                    try clear c71
                                    try clear c71b0
                                    try clear c71b1
                                    try clear c83
                                    try clear c83b0
                                    try clear c83b1
                                    try clear c83b2
                                    try clear c87
                                    try clear c89
                                    try clear c91
                                    try clear c91b0
                                    try clear c92
                                    try clear c92b0
                                    try clear c93
                                    try clear c93b0
                                    try clear c96
                                    try clear c97
                                    try clear c98
                                    try clear c98b0
                                    try clear c99
                                    try clear c99b0
                                    try clear c100
                                    try clear c100b0
                                    try clear c102
                                    try clear c102b0
                                    try clear c103
                                    try clear c103b0
                                    try clear c104
                                    try clear c106
                                    try clear c106b0
                                    try clear c107
                                    try clear c109
                                    try clear c109b0
                                    try clear c110
                                    try clear c110b0
                                    try clear c112
                                    try clear c113
                                    try clear c113b0
                                    try clear c113b1
                                    try clear c121
                                    try clear c121b0
                                    try clear c121b1
                                    try clear c121b2
                                    try clear c122
                                    try clear c122b0
                                    try clear c122b1
                                    try clear c123
                                    try clear c123b0
                                    try clear c123b1
                                    try clear c123b2
                                    try clear hx492_0
                                    try clear hx495_0
                                    try clear hx496_0
                                    try clear p2
                                    try clear p4
                                    try clear p49
                                    try clear p492
                                    try clear p495
                                    try clear p496
                                    try clear p6
                                    try clear p64
                                    try clear q4
                                    try clear q49
                                    try clear q492
                                    try clear q495
                                    try clear q496
                                    obtain ⟨kq, x320_117, rfl, HA, HJ117, HB⟩ := hcut
                                    cases kq with
                                    | zero => exact absurd HA.out (by simp [laws_FnPrimesCountedOfAll.j12])
                                    | succ kj117 =>
                                      have H := HA.out
                                      clear HA
                                      simp only [laws_FnPrimesCountedOfAll.j12] at H
                                      by_cases c124 : x320_117 = true
                                      · subst c124
                                        have H1 : (some false) = some r := by rw [if_pos rfl] at H; exact H
                                        clear H
                                        have H := H1
                                        clear H1
                                        obtain rfl := Option.some.inj H
                                        go_wp2
                                        go_ret
                                        exact ⟨by first | rfl | (simp [errW_none, errW_some] <;> rfl) | (simp [*, errW_none, errW_some] <;> rfl), by repeat (first | (with_reducible first | exact HB.out | apply below_alloc | apply pw_below_drewN | apply below_drew1) | exact HB.out)⟩
                                      · replace c124 := Bool.eq_false_iff.mpr c124
                                        subst c124
                                        have H1 : (if t500 = true then ((impl_CountPrimes.f kj117 t499).bind fun bt507 => (if bt507.2 = true then (some (bt507.1 == (wrap64 (a4 + 1)))) else (some false))) else (some true)) = some r := by rw [if_neg (show ¬ (false = true) by decide)] at H; exact H
                                        clear H
                                        have H := H1
                                        clear H1
                                        by_cases c125 : t500 = true
                                        · subst c125
                                          have H1 : ((impl_CountPrimes.f kj117 t499).bind fun bt507 => (if bt507.2 = true then (some (bt507.1 == (wrap64 (a4 + 1)))) else (some false))) = some r := by rw [if_pos rfl] at H; exact H
                                          clear H
                                          have H := H1
                                          clear H1
                                          replace H := Option.bind_eq_some_iff.mp H
                                          obtain ⟨⟨t507, t508⟩, A1260, H⟩ := H
                                          replace H : (if t508 = true then (some (t507 == (wrap64 (a4 + 1)))) else (some false)) = some r := H
                                          have A126 := Aside0.mk A1260
                                          clear A1260
                                          by_cases c127 : t508 = true
                                          · subst c127
                                            have H1 : (some (t507 == (wrap64 (a4 + 1)))) = some r := by rw [if_pos rfl] at H; exact H
                                            clear H
                                            have H := H1
                                            clear H1
                                            obtain rfl := Option.some.inj H
                                            go_wp2_with (first | ((with_reducible refine gate_callee (f := 28) rfl ?_); refine goesL_ (some 324) rfl rfl Try.func28 (by kernel_rfl) rfl #[.int .i64 t499] rfl (by (try simp only [List.map_toArray, List.map_cons, List.map_nil]); first | done | rfl | (simp only [List.length_drop, List.length_take]; rfl)) ?_; (with_reducible refine (impl_CountPrimes.calls kj117 t499 t507 true _ A126.out).mono ?_); rintro e w128 ⟨rfl, hb⟩; refine ⟨_, rfl, ?_⟩; have n0_ := Aside0.mk (below_step (by repeat (first | (with_reducible first | exact HB.out | apply below_alloc | apply pw_below_drewN | apply below_drew1) | exact HB.out)) hb); clear HB; have HB := n0_; clear n0_; (try clear hb); (try clear hb2); (try clear hk); (try clear hi)))
                                            go_ret
                                            exact ⟨by first | rfl | (simp [errW_none, errW_some] <;> rfl) | (simp [*, errW_none, errW_some] <;> rfl), by repeat (first | (with_reducible first | exact HB.out | apply below_alloc | apply pw_below_drewN | apply below_drew1) | exact HB.out)⟩
                                          · replace c127 := Bool.eq_false_iff.mpr c127
                                            subst c127
                                            have H1 : (some false) = some r := by rw [if_neg (show ¬ (false = true) by decide)] at H; exact H
                                            clear H
                                            have H := H1
                                            clear H1
                                            obtain rfl := Option.some.inj H
                                            go_wp2_with (first | ((with_reducible refine gate_callee (f := 28) rfl ?_); refine goesL_ (some 324) rfl rfl Try.func28 (by kernel_rfl) rfl #[.int .i64 t499] rfl (by (try simp only [List.map_toArray, List.map_cons, List.map_nil]); first | done | rfl | (simp only [List.length_drop, List.length_take]; rfl)) ?_; (with_reducible refine (impl_CountPrimes.calls kj117 t499 t507 false _ A126.out).mono ?_); rintro e w129 ⟨rfl, hb⟩; refine ⟨_, rfl, ?_⟩; have n0_ := Aside0.mk (below_step (by repeat (first | (with_reducible first | exact HB.out | apply below_alloc | apply pw_below_drewN | apply below_drew1) | exact HB.out)) hb); clear HB; have HB := n0_; clear n0_; (try clear hb); (try clear hb2); (try clear hk); (try clear hi)))
                                            go_ret
                                            exact ⟨by first | rfl | (simp [errW_none, errW_some] <;> rfl) | (simp [*, errW_none, errW_some] <;> rfl), by repeat (first | (with_reducible first | exact HB.out | apply below_alloc | apply pw_below_drewN | apply below_drew1) | exact HB.out)⟩
                                        · replace c125 := Bool.eq_false_iff.mpr c125
                                          subst c125
                                          have H1 : (some true) = some r := by rw [if_neg (show ¬ (false = true) by decide)] at H; exact H
                                          clear H
                                          have H := H1
                                          clear H1
                                          obtain rfl := Option.some.inj H
                                          go_wp2
                                          go_ret
                                          exact ⟨by first | rfl | (simp [errW_none, errW_some] <;> rfl) | (simp [*, errW_none, errW_some] <;> rfl), by repeat (first | (with_reducible first | exact HB.out | apply below_alloc | apply pw_below_drewN | apply below_drew1) | exact HB.out)⟩

/-- THE ONE PURE STATEMENT of laws_FnPrimesCountedOfAll: yours. -/
def laws_FnPrimesCountedOfAll.Pure : Prop := ∀ (a0 : Int) (a1 : Int) (a2 : Int) (a3 : Int) (a4 : Int) (a5 : Int), (Lit.int .i64 a0).wf = true → (Lit.int .i64 a1).wf = true → (Lit.int .i64 a2).wf = true → (Lit.int .i64 a3).wf = true → (Lit.int .i64 a4).wf = true → (Lit.int .i64 a5).wf = true → ∃ k, laws_FnPrimesCountedOfAll.f k a0 a1 a2 a3 a4 a5 = some true
theorem laws_FnPrimesCountedOfAll.walk (P : laws_FnPrimesCountedOfAll.Pure) (a0 : Int) (a1 : Int) (a2 : Int) (a3 : Int) (a4 : Int) (a5 : Int) (w : World) (w0 : (Lit.int .i64 a0).wf = true) (w1 : (Lit.int .i64 a1).wf = true) (w2 : (Lit.int .i64 a2).wf = true) (w3 : (Lit.int .i64 a3).wf = true) (w4 : (Lit.int .i64 a4).wf = true) (w5 : (Lit.int .i64 a5).wf = true) :
    Calls Try.prog 5 #[.int .i64 a0, .int .i64 a1, .int .i64 a2, .int .i64 a3, .int .i64 a4, .int .i64 a5] w fun e w' => e = .returned (.bool true) ∧ Below w.heap.size w w' := by
  obtain ⟨k, h⟩ := P a0 a1 a2 a3 a4 a5 w0 w1 w2 w3 w4 w5
  refine (laws_FnPrimesCountedOfAll.calls k a0 a1 a2 a3 a4 a5 true w h).mono ?_
  rintro e w' ⟨rfl, hd⟩
  exact ⟨rfl, hd⟩

end Go.Proofs.Ytjonkpeoiecchaa.P
