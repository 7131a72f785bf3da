-- Printed for this claim by a program of this session, out of the translation. Lean checks it.
import Derived.Test.YtjonkpeoiecchaaPx0
import Derived.Test.YtjonkpeoiecchaaPx7
import Derived.Test.YtjonkpeoiecchaaPx8
import Derived.Test.YtjonkpeoiecchaaPx15
import Derived.Test.YtjonkpeoiecchaaPx18
import Derived.Test.YtjonkpeoiecchaaPx22
import Derived.Test.YtjonkpeoiecchaaPx25
import Derived.Test.YtjonkpeoiecchaaPx26
import Derived.Test.YtjonkpeoiecchaaPx27
import Derived.Test.YtjonkpeoiecchaaPx28
import Derived.Test.YtjonkpeoiecchaaPx29
import Derived.Test.YtjonkpeoiecchaaPx30
import Derived.Test.YtjonkpeoiecchaaPx31
import Derived.Test.YtjonkpeoiecchaaPx33
namespace Go.Proofs.Ytjonkpeoiecchaa.P
open Go.RowKit Go.Proofs.YtjonkpeoiecchaaW.PrintWords Go.Proofs.YtjonkpeoiecchaaW.PrintLast Go.Proofs.YtjonkpeoiecchaaW.PrintMore
attribute [local go_sem] max2_int min2_int max_two min_two max_three min_three max_four min_four   -- for this text's walks alone
set_option linter.unusedVariables false
set_option linter.unusedSimpArgs false

/-! ### laws_FnPrimesCounted: function 6 -/
mutual
def laws_FnPrimesCounted.j0 : Nat → List Int → Int → Int → Int → Bool → Int → Bool → List (S71) → Bool → Option (Bool)
  | 0, _, _, _, _, _, _, _, _, _ => none
  | k + 1, x1, x5, x6, x7, x8, x11, x12, x15, x127 => if x127 = true then (some false) else (if x8 = true then (laws_FnPrimesCounted.j1 k x1 x5 x6 x7 x11 x12 x15 (decide (x5 ≤ 600))) else (laws_FnPrimesCounted.j1 k x1 x5 x6 x7 x11 x12 x15 false))
def laws_FnPrimesCounted.j1 : Nat → List Int → Int → Int → Int → Int → Bool → List (S71) → Bool → Option (Bool)
  | 0, _, _, _, _, _, _, _, _ => none
  | k + 1, x1, x5, x6, x7, x11, x12, x15, x132 => if x132 = true then ((impl_CountLeft.f k x15 x5).bind fun bt584 => (if bt584.2 = true then (if bt584.1 = x7 then (if (x15.length : Int) = x6 then (laws_FnPrimesCounted.j2 k x1 x5 x11 x12) else (some false)) else (some false)) else (some false))) else (laws_FnPrimesCounted.j2 k x1 x5 x11 x12)
def laws_FnPrimesCounted.j2 : Nat → List Int → Int → Int → Bool → Option (Bool)
  | 0, _, _, _, _ => none
  | k + 1, x1, x5, x11, x12 => if x12 = true then (laws_FnPrimesCounted.j3 k x1 x5 x11 (decide (x5 ≤ 2000))) else (laws_FnPrimesCounted.j3 k x1 x5 x11 false)
def laws_FnPrimesCounted.j3 : Nat → List Int → Int → Int → Bool → Option (Bool)
  | 0, _, _, _, _ => none
  | k + 1, x1, x5, x11, x156 => if x156 = true then ((impl_PrimesBetween.f k 0 x5).bind fun bt586 => (if bt586.2 = true then (laws_FnPrimesCounted.j4 k x1 x5 x11 ((bt586.1.length : Int) != x11)) else (laws_FnPrimesCounted.j4 k x1 x5 x11 true))) else (laws_FnPrimesCounted.j6 k x1)
def laws_FnPrimesCounted.j6 : Nat → List Int → Option (Bool)
  | 0, _ => none
  | k + 1, x1 => (spec_DrawPrimesBetween.f x1).bind fun bt596 => ((impl_PrimesBetween.f k bt596.1 bt596.2).bind fun bt598 => ((spec_PrimesBetween.f k bt596.1 bt596.2).bind fun bt602 => (if (bt598.2 != bt602.2) = true then (laws_FnPrimesCounted.j7 k x1 bt596.1 bt596.2 bt598.1 bt598.2 true) else ((laws_gSame.f k bt598.1 bt602.1).bind fun t606 => (laws_FnPrimesCounted.j7 k x1 bt596.1 bt596.2 bt598.1 bt598.2 (!t606))))))
def laws_FnPrimesCounted.j7 : Nat → List Int → Int → Int → List Int → Bool → Bool → Option (Bool)
  | 0, _, _, _, _, _, _ => none
  | k + 1, x1, x27, x28, x29, x30, x228 => if x228 = true then (some false) else (if x30 = true then (laws_FnPrimesCounted.l0 k x1 x27 x28 x29 x29 (x29.length : Int) 0) else (laws_FnPrimesCounted.j11 k x1))
def laws_FnPrimesCounted.j11 : Nat → List Int → Option (Bool)
  | 0, _ => none
  | k + 1, x1 => (spec_DrawPrimeOfRank.f x1).bind fun t614 => ((impl_PrimeOfRank.f k t614).bind fun bt615 => ((spec_PrimeOfRank.f k t614).bind fun bt617 => ((spec_DrawNextPrime.f x1).bind fun t619 => ((impl_NextPrime.f k t619).bind fun bt620 => ((spec_NextPrime.f k t619).bind fun bt622 => (if (bt615.2 != bt617.2) = true then (laws_FnPrimesCounted.j12 k t614 bt615.1 bt615.2 true) else (if bt615.1 = bt617.1 then (if (bt620.2 != bt622.2) = true then (laws_FnPrimesCounted.j12 k t614 bt615.1 bt615.2 true) else (laws_FnPrimesCounted.j12 k t614 bt615.1 bt615.2 (bt620.1 != bt622.1))) else (laws_FnPrimesCounted.j12 k t614 bt615.1 bt615.2 true))))))))
def laws_FnPrimesCounted.j12 : Nat → Int → Int → Bool → Bool → Option (Bool)
  | 0, _, _, _, _ => none
  | k + 1, x39, x40, x41, x335 => if x335 = true then (some false) else (if x41 = true then ((impl_CountPrimes.f k x40).bind fun bt624 => (if bt624.2 = true then (some (bt624.1 == (wrap64 (x39 + 1)))) else (some false))) else (some true))
def laws_FnPrimesCounted.l0 : Nat → List Int → Int → Int → List Int → List Int → Int → Int → Option (Bool)
  | 0, _, _, _, _, _, _, _ => none
  | k + 1, x1, x27, x28, x29, x230, x231, x232 => if x232 < x231 then (if 0 ≤ x232 then (if x232 < (x230.length : Int) then ((impl_IsPrime.f k (rd x230 x232)).bind fun bt608 => (if bt608.2 = true then (if bt608.1 = true then (if (rd x230 x232) < x27 then (laws_FnPrimesCounted.j9 k x1 x27 x28 x29 x232 (rd x230 x232) x230 x231 x232 true) else (if (rd x230 x232) > x28 then (laws_FnPrimesCounted.j9 k x1 x27 x28 x29 x232 (rd x230 x232) x230 x231 x232 true) else (if x232 > 0 then (if 0 ≤ (wrap64 (x232 - 1)) then (if (wrap64 (x232 - 1)) < (x29.length : Int) then (laws_FnPrimesCounted.j9 k x1 x27 x28 x29 x232 (rd x230 x232) x230 x231 x232 (decide ((rd x29 (wrap64 (x232 - 1))) ≥ (rd x230 x232)))) else (none)) else (none)) else (laws_FnPrimesCounted.j9 k x1 x27 x28 x29 x232 (rd x230 x232) x230 x231 x232 false)))) else (laws_FnPrimesCounted.j9 k x1 x27 x28 x29 x232 (rd x230 x232) x230 x231 x232 true)) else (laws_FnPrimesCounted.j9 k x1 x27 x28 x29 x232 (rd x230 x232) x230 x231 x232 true))) else (none)) else (none)) else (laws_FnPrimesCounted.j11 k x1)
def laws_FnPrimesCounted.j9 : Nat → List Int → Int → Int → List Int → Int → Int → List Int → Int → Int → Bool → Option (Bool)
  | 0, _, _, _, _, _, _, _, _, _, _ => none
  | k + 1, x1, x27, x28, x29, x33, x34, x230, x231, x232, x270 => if x270 = true then (some false) else (if x33 > 0 then (laws_FnPrimesCounted.j10 k x1 x27 x28 x29 x33 x34 x230 x231 x232 (decide (x34 ≤ 1000000))) else (laws_FnPrimesCounted.j10 k x1 x27 x28 x29 x33 x34 x230 x231 x232 false))
def laws_FnPrimesCounted.j10 : Nat → List Int → Int → Int → List Int → Int → Int → List Int → Int → Int → Bool → Option (Bool)
  | 0, _, _, _, _, _, _, _, _, _, _ => none
  | k + 1, x1, x27, x28, x29, x33, x34, x230, x231, x232, x276 => if x276 = true then (if 0 ≤ (wrap64 (x33 - 1)) then (if (wrap64 (x33 - 1)) < (x29.length : Int) then ((impl_NextPrime.f k (rd x29 (wrap64 (x33 - 1)))).bind fun bt612 => (if bt612.2 = true then (if bt612.1 = x34 then (laws_FnPrimesCounted.l0 k x1 x27 x28 x29 x230 x231 (wrap64 (x232 + 1))) else (some false)) else (some false))) else (none)) else (none)) else (laws_FnPrimesCounted.l0 k x1 x27 x28 x29 x230 x231 (wrap64 (x232 + 1)))
def laws_FnPrimesCounted.j4 : Nat → List Int → Int → Int → Bool → Option (Bool)
  | 0, _, _, _, _ => none
  | k + 1, x1, x5, x11, x169 => if x169 = true then (some false) else ((impl_CrossersUpTo.f k x5).bind fun bt590 => (if bt590.2 = true then (if (bt590.1.length : Int) ≤ 12 then (laws_FnPrimesCounted.j5 k x1 x5 x11 bt590.1 (decide (x5 > 0))) else (laws_FnPrimesCounted.j5 k x1 x5 x11 bt590.1 false)) else (laws_FnPrimesCounted.j5 k x1 x5 x11 bt590.1 false)))
def laws_FnPrimesCounted.j5 : Nat → List Int → Int → Int → List Int → Bool → Option (Bool)
  | 0, _, _, _, _, _ => none
  | k + 1, x1, x5, x11, x23, x184 => if x184 = true then ((impl_CountWithout.f k x5 (x23.length : Int)).bind fun bt594 => (if bt594.2 = true then (if (wrap64 ((wrap64 (bt594.1 + (x23.length : Int))) - 1)) = x11 then (laws_FnPrimesCounted.j6 k x1) else (some false)) else (some false))) else (laws_FnPrimesCounted.j6 k x1)
end
def laws_FnPrimesCounted.f (k : Nat) (l0 : List Int) (l1 : List Int) : Option (Bool) := (laws_big.f l0 l1).bind fun t564 => (if t564 = true then (some true) else ((spec_DrawCountWithout.f l0).bind fun bt565 => ((impl_CountWithout.f k bt565.1 bt565.2).bind fun bt567 => ((spec_CountWithout.f k bt565.1 bt565.2).bind fun bt569 => ((impl_CountPrimes.f k bt565.1).bind fun bt571 => ((spec_CountPrimes.f k bt565.1).bind fun bt573 => ((impl_RulesOfPrimes.f k bt565.2).bind fun bt575 => ((spec_RulesOfPrimes.f k bt565.2).bind fun bt579 => (if (bt567.2 != bt569.2) = true then (laws_FnPrimesCounted.j0 k l1 bt565.1 bt565.2 bt567.1 bt567.2 bt571.1 bt571.2 bt575.1 true) else (if bt567.1 = bt569.1 then (if (bt571.2 != bt573.2) = true then (laws_FnPrimesCounted.j0 k l1 bt565.1 bt565.2 bt567.1 bt567.2 bt571.1 bt571.2 bt575.1 true) else (if bt571.1 = bt573.1 then (if (bt575.2 != bt579.2) = true then (laws_FnPrimesCounted.j0 k l1 bt565.1 bt565.2 bt567.1 bt567.2 bt571.1 bt571.2 bt575.1 true) else ((laws_gRules.f k bt575.1 bt579.1).bind fun t583 => (if t583 = true then (if bt571.2 = true then (laws_FnPrimesCounted.j0 k l1 bt565.1 bt565.2 bt567.1 bt567.2 bt571.1 bt571.2 bt575.1 (bt567.2 != bt575.2)) else (laws_FnPrimesCounted.j0 k l1 bt565.1 bt565.2 bt567.1 bt567.2 bt571.1 bt571.2 bt575.1 (bt567.2 != false))) else (laws_FnPrimesCounted.j0 k l1 bt565.1 bt565.2 bt567.1 bt567.2 bt571.1 bt571.2 bt575.1 true)))) else (laws_FnPrimesCounted.j0 k l1 bt565.1 bt565.2 bt567.1 bt567.2 bt571.1 bt571.2 bt575.1 true))) else (laws_FnPrimesCounted.j0 k l1 bt565.1 bt565.2 bt567.1 bt567.2 bt571.1 bt571.2 bt575.1 true)))))))))))
theorem laws_FnPrimesCounted.mono_l : ∀ k, (∀ y0 y1 y2 y3 y4 y5 y6 y7 y8, LeO (laws_FnPrimesCounted.j0 k y0 y1 y2 y3 y4 y5 y6 y7 y8) (laws_FnPrimesCounted.j0 (k + 1) y0 y1 y2 y3 y4 y5 y6 y7 y8)) ∧ (∀ y0 y1 y2 y3 y4 y5 y6 y7, LeO (laws_FnPrimesCounted.j1 k y0 y1 y2 y3 y4 y5 y6 y7) (laws_FnPrimesCounted.j1 (k + 1) y0 y1 y2 y3 y4 y5 y6 y7)) ∧ (∀ y0 y1 y2 y3, LeO (laws_FnPrimesCounted.j2 k y0 y1 y2 y3) (laws_FnPrimesCounted.j2 (k + 1) y0 y1 y2 y3)) ∧ (∀ y0 y1 y2 y3, LeO (laws_FnPrimesCounted.j3 k y0 y1 y2 y3) (laws_FnPrimesCounted.j3 (k + 1) y0 y1 y2 y3)) ∧ (∀ y0, LeO (laws_FnPrimesCounted.j6 k y0) (laws_FnPrimesCounted.j6 (k + 1) y0)) ∧ (∀ y0 y1 y2 y3 y4 y5, LeO (laws_FnPrimesCounted.j7 k y0 y1 y2 y3 y4 y5) (laws_FnPrimesCounted.j7 (k + 1) y0 y1 y2 y3 y4 y5)) ∧ (∀ y0, LeO (laws_FnPrimesCounted.j11 k y0) (laws_FnPrimesCounted.j11 (k + 1) y0)) ∧ (∀ y0 y1 y2 y3, LeO (laws_FnPrimesCounted.j12 k y0 y1 y2 y3) (laws_FnPrimesCounted.j12 (k + 1) y0 y1 y2 y3)) ∧ (∀ y0 y1 y2 y3 y4 y5 y6, LeO (laws_FnPrimesCounted.l0 k y0 y1 y2 y3 y4 y5 y6) (laws_FnPrimesCounted.l0 (k + 1) y0 y1 y2 y3 y4 y5 y6)) ∧ (∀ y0 y1 y2 y3 y4 y5 y6 y7 y8 y9, LeO (laws_FnPrimesCounted.j9 k y0 y1 y2 y3 y4 y5 y6 y7 y8 y9) (laws_FnPrimesCounted.j9 (k + 1) y0 y1 y2 y3 y4 y5 y6 y7 y8 y9)) ∧ (∀ y0 y1 y2 y3 y4 y5 y6 y7 y8 y9, LeO (laws_FnPrimesCounted.j10 k y0 y1 y2 y3 y4 y5 y6 y7 y8 y9) (laws_FnPrimesCounted.j10 (k + 1) y0 y1 y2 y3 y4 y5 y6 y7 y8 y9)) ∧ (∀ y0 y1 y2 y3, LeO (laws_FnPrimesCounted.j4 k y0 y1 y2 y3) (laws_FnPrimesCounted.j4 (k + 1) y0 y1 y2 y3)) ∧ (∀ y0 y1 y2 y3 y4, LeO (laws_FnPrimesCounted.j5 k y0 y1 y2 y3 y4) (laws_FnPrimesCounted.j5 (k + 1) y0 y1 y2 y3 y4))
  | 0 => ⟨fun _ _ _ _ _ _ _ _ _ r h => by simp [laws_FnPrimesCounted.j0] at h, fun _ _ _ _ _ _ _ _ r h => by simp [laws_FnPrimesCounted.j1] at h, fun _ _ _ _ r h => by simp [laws_FnPrimesCounted.j2] at h, fun _ _ _ _ r h => by simp [laws_FnPrimesCounted.j3] at h, fun _ r h => by simp [laws_FnPrimesCounted.j6] at h, fun _ _ _ _ _ _ r h => by simp [laws_FnPrimesCounted.j7] at h, fun _ r h => by simp [laws_FnPrimesCounted.j11] at h, fun _ _ _ _ r h => by simp [laws_FnPrimesCounted.j12] at h, fun _ _ _ _ _ _ _ r h => by simp [laws_FnPrimesCounted.l0] at h, fun _ _ _ _ _ _ _ _ _ _ r h => by simp [laws_FnPrimesCounted.j9] at h, fun _ _ _ _ _ _ _ _ _ _ r h => by simp [laws_FnPrimesCounted.j10] at h, fun _ _ _ _ r h => by simp [laws_FnPrimesCounted.j4] at h, fun _ _ _ _ _ r h => by simp [laws_FnPrimesCounted.j5] at h⟩
  | k + 1 => by
    obtain ⟨ih0, ih1, ih2, ih3, ih4, ih5, ih6, ih7, ih8, ih9, ih10, ih11, ih12⟩ := laws_FnPrimesCounted.mono_l k
    refine ⟨?_, ?_, ?_, ?_, ?_, ?_, ?_, ?_, ?_, ?_, ?_, ?_, ?_⟩
    · intro y0 y1 y2 y3 y4 y5 y6 y7 y8
      unfold laws_FnPrimesCounted.j0
      repeat' first
      | (with_reducible exact ih0 _ _ _ _ _ _ _ _ _)
      | (with_reducible exact ih1 _ _ _ _ _ _ _ _)
      | (with_reducible exact ih2 _ _ _ _)
      | (with_reducible exact ih3 _ _ _ _)
      | (with_reducible exact ih4 _)
      | (with_reducible exact ih5 _ _ _ _ _ _)
      | (with_reducible exact ih6 _)
      | (with_reducible exact ih7 _ _ _ _)
      | (with_reducible exact ih8 _ _ _ _ _ _ _)
      | (with_reducible exact ih9 _ _ _ _ _ _ _ _ _ _)
      | (with_reducible exact ih10 _ _ _ _ _ _ _ _ _ _)
      | (with_reducible exact ih11 _ _ _ _)
      | (with_reducible exact ih12 _ _ _ _ _)
      | (with_reducible exact impl_CountLeft.mono _ _ _)
      | (with_reducible exact impl_CountPrimes.mono _ _)
      | (with_reducible exact impl_CountWithout.mono _ _ _)
      | (with_reducible exact impl_CrossersUpTo.mono _ _)
      | (with_reducible exact impl_IsPrime.mono _ _)
      | (with_reducible exact impl_NextPrime.mono _ _)
      | (with_reducible exact impl_PrimeOfRank.mono _ _)
      | (with_reducible exact impl_PrimesBetween.mono _ _ _)
      | (with_reducible exact impl_RulesOfPrimes.mono _ _)
      | (with_reducible exact laws_gRules.mono _ _ _)
      | (with_reducible exact laws_gSame.mono _ _ _)
      | (with_reducible exact spec_CountPrimes.mono _ _)
      | (with_reducible exact spec_CountWithout.mono _ _ _)
      | (with_reducible exact spec_NextPrime.mono _ _)
      | (with_reducible exact spec_PrimeOfRank.mono _ _)
      | (with_reducible exact spec_PrimesBetween.mono _ _ _)
      | (with_reducible exact spec_RulesOfPrimes.mono _ _)
      | (with_reducible exact LeO.refl _)
      | (with_reducible exact LeO.none _)
      | (with_reducible refine LeO.ite ?_ ?_)
      | (with_reducible refine LeO.bind ?_ (fun _ => ?_))
      | exact ih0 _ _ _ _ _ _ _ _ _
      | exact ih1 _ _ _ _ _ _ _ _
      | exact ih2 _ _ _ _
      | exact ih3 _ _ _ _
      | exact ih4 _
      | exact ih5 _ _ _ _ _ _
      | exact ih6 _
      | exact ih7 _ _ _ _
      | exact ih8 _ _ _ _ _ _ _
      | exact ih9 _ _ _ _ _ _ _ _ _ _
      | exact ih10 _ _ _ _ _ _ _ _ _ _
      | exact ih11 _ _ _ _
      | exact ih12 _ _ _ _ _
      | exact impl_CountLeft.mono _ _ _
      | exact impl_CountPrimes.mono _ _
      | exact impl_CountWithout.mono _ _ _
      | exact impl_CrossersUpTo.mono _ _
      | exact impl_IsPrime.mono _ _
      | exact impl_NextPrime.mono _ _
      | exact impl_PrimeOfRank.mono _ _
      | exact impl_PrimesBetween.mono _ _ _
      | exact impl_RulesOfPrimes.mono _ _
      | exact laws_gRules.mono _ _ _
      | exact laws_gSame.mono _ _ _
      | exact spec_CountPrimes.mono _ _
      | exact spec_CountWithout.mono _ _ _
      | exact spec_NextPrime.mono _ _
      | exact spec_PrimeOfRank.mono _ _
      | exact spec_PrimesBetween.mono _ _ _
      | exact spec_RulesOfPrimes.mono _ _
      | exact LeO.none _
      | refine LeO.ite ?_ ?_
      | refine LeO.bind ?_ (fun _ => ?_)
    · intro y0 y1 y2 y3 y4 y5 y6 y7
      unfold laws_FnPrimesCounted.j1
      repeat' first
      | (with_reducible exact ih0 _ _ _ _ _ _ _ _ _)
      | (with_reducible exact ih1 _ _ _ _ _ _ _ _)
      | (with_reducible exact ih2 _ _ _ _)
      | (with_reducible exact ih3 _ _ _ _)
      | (with_reducible exact ih4 _)
      | (with_reducible exact ih5 _ _ _ _ _ _)
      | (with_reducible exact ih6 _)
      | (with_reducible exact ih7 _ _ _ _)
      | (with_reducible exact ih8 _ _ _ _ _ _ _)
      | (with_reducible exact ih9 _ _ _ _ _ _ _ _ _ _)
      | (with_reducible exact ih10 _ _ _ _ _ _ _ _ _ _)
      | (with_reducible exact ih11 _ _ _ _)
      | (with_reducible exact ih12 _ _ _ _ _)
      | (with_reducible exact impl_CountLeft.mono _ _ _)
      | (with_reducible exact impl_CountPrimes.mono _ _)
      | (with_reducible exact impl_CountWithout.mono _ _ _)
      | (with_reducible exact impl_CrossersUpTo.mono _ _)
      | (with_reducible exact impl_IsPrime.mono _ _)
      | (with_reducible exact impl_NextPrime.mono _ _)
      | (with_reducible exact impl_PrimeOfRank.mono _ _)
      | (with_reducible exact impl_PrimesBetween.mono _ _ _)
      | (with_reducible exact impl_RulesOfPrimes.mono _ _)
      | (with_reducible exact laws_gRules.mono _ _ _)
      | (with_reducible exact laws_gSame.mono _ _ _)
      | (with_reducible exact spec_CountPrimes.mono _ _)
      | (with_reducible exact spec_CountWithout.mono _ _ _)
      | (with_reducible exact spec_NextPrime.mono _ _)
      | (with_reducible exact spec_PrimeOfRank.mono _ _)
      | (with_reducible exact spec_PrimesBetween.mono _ _ _)
      | (with_reducible exact spec_RulesOfPrimes.mono _ _)
      | (with_reducible exact LeO.refl _)
      | (with_reducible exact LeO.none _)
      | (with_reducible refine LeO.ite ?_ ?_)
      | (with_reducible refine LeO.bind ?_ (fun _ => ?_))
      | exact ih0 _ _ _ _ _ _ _ _ _
      | exact ih1 _ _ _ _ _ _ _ _
      | exact ih2 _ _ _ _
      | exact ih3 _ _ _ _
      | exact ih4 _
      | exact ih5 _ _ _ _ _ _
      | exact ih6 _
      | exact ih7 _ _ _ _
      | exact ih8 _ _ _ _ _ _ _
      | exact ih9 _ _ _ _ _ _ _ _ _ _
      | exact ih10 _ _ _ _ _ _ _ _ _ _
      | exact ih11 _ _ _ _
      | exact ih12 _ _ _ _ _
      | exact impl_CountLeft.mono _ _ _
      | exact impl_CountPrimes.mono _ _
      | exact impl_CountWithout.mono _ _ _
      | exact impl_CrossersUpTo.mono _ _
      | exact impl_IsPrime.mono _ _
      | exact impl_NextPrime.mono _ _
      | exact impl_PrimeOfRank.mono _ _
      | exact impl_PrimesBetween.mono _ _ _
      | exact impl_RulesOfPrimes.mono _ _
      | exact laws_gRules.mono _ _ _
      | exact laws_gSame.mono _ _ _
      | exact spec_CountPrimes.mono _ _
      | exact spec_CountWithout.mono _ _ _
      | exact spec_NextPrime.mono _ _
      | exact spec_PrimeOfRank.mono _ _
      | exact spec_PrimesBetween.mono _ _ _
      | exact spec_RulesOfPrimes.mono _ _
      | exact LeO.none _
      | refine LeO.ite ?_ ?_
      | refine LeO.bind ?_ (fun _ => ?_)
    · intro y0 y1 y2 y3
      unfold laws_FnPrimesCounted.j2
      repeat' first
      | (with_reducible exact ih0 _ _ _ _ _ _ _ _ _)
      | (with_reducible exact ih1 _ _ _ _ _ _ _ _)
      | (with_reducible exact ih2 _ _ _ _)
      | (with_reducible exact ih3 _ _ _ _)
      | (with_reducible exact ih4 _)
      | (with_reducible exact ih5 _ _ _ _ _ _)
      | (with_reducible exact ih6 _)
      | (with_reducible exact ih7 _ _ _ _)
      | (with_reducible exact ih8 _ _ _ _ _ _ _)
      | (with_reducible exact ih9 _ _ _ _ _ _ _ _ _ _)
      | (with_reducible exact ih10 _ _ _ _ _ _ _ _ _ _)
      | (with_reducible exact ih11 _ _ _ _)
      | (with_reducible exact ih12 _ _ _ _ _)
      | (with_reducible exact impl_CountLeft.mono _ _ _)
      | (with_reducible exact impl_CountPrimes.mono _ _)
      | (with_reducible exact impl_CountWithout.mono _ _ _)
      | (with_reducible exact impl_CrossersUpTo.mono _ _)
      | (with_reducible exact impl_IsPrime.mono _ _)
      | (with_reducible exact impl_NextPrime.mono _ _)
      | (with_reducible exact impl_PrimeOfRank.mono _ _)
      | (with_reducible exact impl_PrimesBetween.mono _ _ _)
      | (with_reducible exact impl_RulesOfPrimes.mono _ _)
      | (with_reducible exact laws_gRules.mono _ _ _)
      | (with_reducible exact laws_gSame.mono _ _ _)
      | (with_reducible exact spec_CountPrimes.mono _ _)
      | (with_reducible exact spec_CountWithout.mono _ _ _)
      | (with_reducible exact spec_NextPrime.mono _ _)
      | (with_reducible exact spec_PrimeOfRank.mono _ _)
      | (with_reducible exact spec_PrimesBetween.mono _ _ _)
      | (with_reducible exact spec_RulesOfPrimes.mono _ _)
      | (with_reducible exact LeO.refl _)
      | (with_reducible exact LeO.none _)
      | (with_reducible refine LeO.ite ?_ ?_)
      | (with_reducible refine LeO.bind ?_ (fun _ => ?_))
      | exact ih0 _ _ _ _ _ _ _ _ _
      | exact ih1 _ _ _ _ _ _ _ _
      | exact ih2 _ _ _ _
      | exact ih3 _ _ _ _
      | exact ih4 _
      | exact ih5 _ _ _ _ _ _
      | exact ih6 _
      | exact ih7 _ _ _ _
      | exact ih8 _ _ _ _ _ _ _
      | exact ih9 _ _ _ _ _ _ _ _ _ _
      | exact ih10 _ _ _ _ _ _ _ _ _ _
      | exact ih11 _ _ _ _
      | exact ih12 _ _ _ _ _
      | exact impl_CountLeft.mono _ _ _
      | exact impl_CountPrimes.mono _ _
      | exact impl_CountWithout.mono _ _ _
      | exact impl_CrossersUpTo.mono _ _
      | exact impl_IsPrime.mono _ _
      | exact impl_NextPrime.mono _ _
      | exact impl_PrimeOfRank.mono _ _
      | exact impl_PrimesBetween.mono _ _ _
      | exact impl_RulesOfPrimes.mono _ _
      | exact laws_gRules.mono _ _ _
      | exact laws_gSame.mono _ _ _
      | exact spec_CountPrimes.mono _ _
      | exact spec_CountWithout.mono _ _ _
      | exact spec_NextPrime.mono _ _
      | exact spec_PrimeOfRank.mono _ _
      | exact spec_PrimesBetween.mono _ _ _
      | exact spec_RulesOfPrimes.mono _ _
      | exact LeO.none _
      | refine LeO.ite ?_ ?_
      | refine LeO.bind ?_ (fun _ => ?_)
    · intro y0 y1 y2 y3
      unfold laws_FnPrimesCounted.j3
      repeat' first
      | (with_reducible exact ih0 _ _ _ _ _ _ _ _ _)
      | (with_reducible exact ih1 _ _ _ _ _ _ _ _)
      | (with_reducible exact ih2 _ _ _ _)
      | (with_reducible exact ih3 _ _ _ _)
      | (with_reducible exact ih4 _)
      | (with_reducible exact ih5 _ _ _ _ _ _)
      | (with_reducible exact ih6 _)
      | (with_reducible exact ih7 _ _ _ _)
      | (with_reducible exact ih8 _ _ _ _ _ _ _)
      | (with_reducible exact ih9 _ _ _ _ _ _ _ _ _ _)
      | (with_reducible exact ih10 _ _ _ _ _ _ _ _ _ _)
      | (with_reducible exact ih11 _ _ _ _)
      | (with_reducible exact ih12 _ _ _ _ _)
      | (with_reducible exact impl_CountLeft.mono _ _ _)
      | (with_reducible exact impl_CountPrimes.mono _ _)
      | (with_reducible exact impl_CountWithout.mono _ _ _)
      | (with_reducible exact impl_CrossersUpTo.mono _ _)
      | (with_reducible exact impl_IsPrime.mono _ _)
      | (with_reducible exact impl_NextPrime.mono _ _)
      | (with_reducible exact impl_PrimeOfRank.mono _ _)
      | (with_reducible exact impl_PrimesBetween.mono _ _ _)
      | (with_reducible exact impl_RulesOfPrimes.mono _ _)
      | (with_reducible exact laws_gRules.mono _ _ _)
      | (with_reducible exact laws_gSame.mono _ _ _)
      | (with_reducible exact spec_CountPrimes.mono _ _)
      | (with_reducible exact spec_CountWithout.mono _ _ _)
      | (with_reducible exact spec_NextPrime.mono _ _)
      | (with_reducible exact spec_PrimeOfRank.mono _ _)
      | (with_reducible exact spec_PrimesBetween.mono _ _ _)
      | (with_reducible exact spec_RulesOfPrimes.mono _ _)
      | (with_reducible exact LeO.refl _)
      | (with_reducible exact LeO.none _)
      | (with_reducible refine LeO.ite ?_ ?_)
      | (with_reducible refine LeO.bind ?_ (fun _ => ?_))
      | exact ih0 _ _ _ _ _ _ _ _ _
      | exact ih1 _ _ _ _ _ _ _ _
      | exact ih2 _ _ _ _
      | exact ih3 _ _ _ _
      | exact ih4 _
      | exact ih5 _ _ _ _ _ _
      | exact ih6 _
      | exact ih7 _ _ _ _
      | exact ih8 _ _ _ _ _ _ _
      | exact ih9 _ _ _ _ _ _ _ _ _ _
      | exact ih10 _ _ _ _ _ _ _ _ _ _
      | exact ih11 _ _ _ _
      | exact ih12 _ _ _ _ _
      | exact impl_CountLeft.mono _ _ _
      | exact impl_CountPrimes.mono _ _
      | exact impl_CountWithout.mono _ _ _
      | exact impl_CrossersUpTo.mono _ _
      | exact impl_IsPrime.mono _ _
      | exact impl_NextPrime.mono _ _
      | exact impl_PrimeOfRank.mono _ _
      | exact impl_PrimesBetween.mono _ _ _
      | exact impl_RulesOfPrimes.mono _ _
      | exact laws_gRules.mono _ _ _
      | exact laws_gSame.mono _ _ _
      | exact spec_CountPrimes.mono _ _
      | exact spec_CountWithout.mono _ _ _
      | exact spec_NextPrime.mono _ _
      | exact spec_PrimeOfRank.mono _ _
      | exact spec_PrimesBetween.mono _ _ _
      | exact spec_RulesOfPrimes.mono _ _
      | exact LeO.none _
      | refine LeO.ite ?_ ?_
      | refine LeO.bind ?_ (fun _ => ?_)
    · intro y0
      unfold laws_FnPrimesCounted.j6
      repeat' first
      | (with_reducible exact ih0 _ _ _ _ _ _ _ _ _)
      | (with_reducible exact ih1 _ _ _ _ _ _ _ _)
      | (with_reducible exact ih2 _ _ _ _)
      | (with_reducible exact ih3 _ _ _ _)
      | (with_reducible exact ih4 _)
      | (with_reducible exact ih5 _ _ _ _ _ _)
      | (with_reducible exact ih6 _)
      | (with_reducible exact ih7 _ _ _ _)
      | (with_reducible exact ih8 _ _ _ _ _ _ _)
      | (with_reducible exact ih9 _ _ _ _ _ _ _ _ _ _)
      | (with_reducible exact ih10 _ _ _ _ _ _ _ _ _ _)
      | (with_reducible exact ih11 _ _ _ _)
      | (with_reducible exact ih12 _ _ _ _ _)
      | (with_reducible exact impl_CountLeft.mono _ _ _)
      | (with_reducible exact impl_CountPrimes.mono _ _)
      | (with_reducible exact impl_CountWithout.mono _ _ _)
      | (with_reducible exact impl_CrossersUpTo.mono _ _)
      | (with_reducible exact impl_IsPrime.mono _ _)
      | (with_reducible exact impl_NextPrime.mono _ _)
      | (with_reducible exact impl_PrimeOfRank.mono _ _)
      | (with_reducible exact impl_PrimesBetween.mono _ _ _)
      | (with_reducible exact impl_RulesOfPrimes.mono _ _)
      | (with_reducible exact laws_gRules.mono _ _ _)
      | (with_reducible exact laws_gSame.mono _ _ _)
      | (with_reducible exact spec_CountPrimes.mono _ _)
      | (with_reducible exact spec_CountWithout.mono _ _ _)
      | (with_reducible exact spec_NextPrime.mono _ _)
      | (with_reducible exact spec_PrimeOfRank.mono _ _)
      | (with_reducible exact spec_PrimesBetween.mono _ _ _)
      | (with_reducible exact spec_RulesOfPrimes.mono _ _)
      | (with_reducible exact LeO.refl _)
      | (with_reducible exact LeO.none _)
      | (with_reducible refine LeO.ite ?_ ?_)
      | (with_reducible refine LeO.bind ?_ (fun _ => ?_))
      | exact ih0 _ _ _ _ _ _ _ _ _
      | exact ih1 _ _ _ _ _ _ _ _
      | exact ih2 _ _ _ _
      | exact ih3 _ _ _ _
      | exact ih4 _
      | exact ih5 _ _ _ _ _ _
      | exact ih6 _
      | exact ih7 _ _ _ _
      | exact ih8 _ _ _ _ _ _ _
      | exact ih9 _ _ _ _ _ _ _ _ _ _
      | exact ih10 _ _ _ _ _ _ _ _ _ _
      | exact ih11 _ _ _ _
      | exact ih12 _ _ _ _ _
      | exact impl_CountLeft.mono _ _ _
      | exact impl_CountPrimes.mono _ _
      | exact impl_CountWithout.mono _ _ _
      | exact impl_CrossersUpTo.mono _ _
      | exact impl_IsPrime.mono _ _
      | exact impl_NextPrime.mono _ _
      | exact impl_PrimeOfRank.mono _ _
      | exact impl_PrimesBetween.mono _ _ _
      | exact impl_RulesOfPrimes.mono _ _
      | exact laws_gRules.mono _ _ _
      | exact laws_gSame.mono _ _ _
      | exact spec_CountPrimes.mono _ _
      | exact spec_CountWithout.mono _ _ _
      | exact spec_NextPrime.mono _ _
      | exact spec_PrimeOfRank.mono _ _
      | exact spec_PrimesBetween.mono _ _ _
      | exact spec_RulesOfPrimes.mono _ _
      | exact LeO.none _
      | refine LeO.ite ?_ ?_
      | refine LeO.bind ?_ (fun _ => ?_)
    · intro y0 y1 y2 y3 y4 y5
      unfold laws_FnPrimesCounted.j7
      repeat' first
      | (with_reducible exact ih0 _ _ _ _ _ _ _ _ _)
      | (with_reducible exact ih1 _ _ _ _ _ _ _ _)
      | (with_reducible exact ih2 _ _ _ _)
      | (with_reducible exact ih3 _ _ _ _)
      | (with_reducible exact ih4 _)
      | (with_reducible exact ih5 _ _ _ _ _ _)
      | (with_reducible exact ih6 _)
      | (with_reducible exact ih7 _ _ _ _)
      | (with_reducible exact ih8 _ _ _ _ _ _ _)
      | (with_reducible exact ih9 _ _ _ _ _ _ _ _ _ _)
      | (with_reducible exact ih10 _ _ _ _ _ _ _ _ _ _)
      | (with_reducible exact ih11 _ _ _ _)
      | (with_reducible exact ih12 _ _ _ _ _)
      | (with_reducible exact impl_CountLeft.mono _ _ _)
      | (with_reducible exact impl_CountPrimes.mono _ _)
      | (with_reducible exact impl_CountWithout.mono _ _ _)
      | (with_reducible exact impl_CrossersUpTo.mono _ _)
      | (with_reducible exact impl_IsPrime.mono _ _)
      | (with_reducible exact impl_NextPrime.mono _ _)
      | (with_reducible exact impl_PrimeOfRank.mono _ _)
      | (with_reducible exact impl_PrimesBetween.mono _ _ _)
      | (with_reducible exact impl_RulesOfPrimes.mono _ _)
      | (with_reducible exact laws_gRules.mono _ _ _)
      | (with_reducible exact laws_gSame.mono _ _ _)
      | (with_reducible exact spec_CountPrimes.mono _ _)
      | (with_reducible exact spec_CountWithout.mono _ _ _)
      | (with_reducible exact spec_NextPrime.mono _ _)
      | (with_reducible exact spec_PrimeOfRank.mono _ _)
      | (with_reducible exact spec_PrimesBetween.mono _ _ _)
      | (with_reducible exact spec_RulesOfPrimes.mono _ _)
      | (with_reducible exact LeO.refl _)
      | (with_reducible exact LeO.none _)
      | (with_reducible refine LeO.ite ?_ ?_)
      | (with_reducible refine LeO.bind ?_ (fun _ => ?_))
      | exact ih0 _ _ _ _ _ _ _ _ _
      | exact ih1 _ _ _ _ _ _ _ _
      | exact ih2 _ _ _ _
      | exact ih3 _ _ _ _
      | exact ih4 _
      | exact ih5 _ _ _ _ _ _
      | exact ih6 _
      | exact ih7 _ _ _ _
      | exact ih8 _ _ _ _ _ _ _
      | exact ih9 _ _ _ _ _ _ _ _ _ _
      | exact ih10 _ _ _ _ _ _ _ _ _ _
      | exact ih11 _ _ _ _
      | exact ih12 _ _ _ _ _
      | exact impl_CountLeft.mono _ _ _
      | exact impl_CountPrimes.mono _ _
      | exact impl_CountWithout.mono _ _ _
      | exact impl_CrossersUpTo.mono _ _
      | exact impl_IsPrime.mono _ _
      | exact impl_NextPrime.mono _ _
      | exact impl_PrimeOfRank.mono _ _
      | exact impl_PrimesBetween.mono _ _ _
      | exact impl_RulesOfPrimes.mono _ _
      | exact laws_gRules.mono _ _ _
      | exact laws_gSame.mono _ _ _
      | exact spec_CountPrimes.mono _ _
      | exact spec_CountWithout.mono _ _ _
      | exact spec_NextPrime.mono _ _
      | exact spec_PrimeOfRank.mono _ _
      | exact spec_PrimesBetween.mono _ _ _
      | exact spec_RulesOfPrimes.mono _ _
      | exact LeO.none _
      | refine LeO.ite ?_ ?_
      | refine LeO.bind ?_ (fun _ => ?_)
    · intro y0
      unfold laws_FnPrimesCounted.j11
      repeat' first
      | (with_reducible exact ih0 _ _ _ _ _ _ _ _ _)
      | (with_reducible exact ih1 _ _ _ _ _ _ _ _)
      | (with_reducible exact ih2 _ _ _ _)
      | (with_reducible exact ih3 _ _ _ _)
      | (with_reducible exact ih4 _)
      | (with_reducible exact ih5 _ _ _ _ _ _)
      | (with_reducible exact ih6 _)
      | (with_reducible exact ih7 _ _ _ _)
      | (with_reducible exact ih8 _ _ _ _ _ _ _)
      | (with_reducible exact ih9 _ _ _ _ _ _ _ _ _ _)
      | (with_reducible exact ih10 _ _ _ _ _ _ _ _ _ _)
      | (with_reducible exact ih11 _ _ _ _)
      | (with_reducible exact ih12 _ _ _ _ _)
      | (with_reducible exact impl_CountLeft.mono _ _ _)
      | (with_reducible exact impl_CountPrimes.mono _ _)
      | (with_reducible exact impl_CountWithout.mono _ _ _)
      | (with_reducible exact impl_CrossersUpTo.mono _ _)
      | (with_reducible exact impl_IsPrime.mono _ _)
      | (with_reducible exact impl_NextPrime.mono _ _)
      | (with_reducible exact impl_PrimeOfRank.mono _ _)
      | (with_reducible exact impl_PrimesBetween.mono _ _ _)
      | (with_reducible exact impl_RulesOfPrimes.mono _ _)
      | (with_reducible exact laws_gRules.mono _ _ _)
      | (with_reducible exact laws_gSame.mono _ _ _)
      | (with_reducible exact spec_CountPrimes.mono _ _)
      | (with_reducible exact spec_CountWithout.mono _ _ _)
      | (with_reducible exact spec_NextPrime.mono _ _)
      | (with_reducible exact spec_PrimeOfRank.mono _ _)
      | (with_reducible exact spec_PrimesBetween.mono _ _ _)
      | (with_reducible exact spec_RulesOfPrimes.mono _ _)
      | (with_reducible exact LeO.refl _)
      | (with_reducible exact LeO.none _)
      | (with_reducible refine LeO.ite ?_ ?_)
      | (with_reducible refine LeO.bind ?_ (fun _ => ?_))
      | exact ih0 _ _ _ _ _ _ _ _ _
      | exact ih1 _ _ _ _ _ _ _ _
      | exact ih2 _ _ _ _
      | exact ih3 _ _ _ _
      | exact ih4 _
      | exact ih5 _ _ _ _ _ _
      | exact ih6 _
      | exact ih7 _ _ _ _
      | exact ih8 _ _ _ _ _ _ _
      | exact ih9 _ _ _ _ _ _ _ _ _ _
      | exact ih10 _ _ _ _ _ _ _ _ _ _
      | exact ih11 _ _ _ _
      | exact ih12 _ _ _ _ _
      | exact impl_CountLeft.mono _ _ _
      | exact impl_CountPrimes.mono _ _
      | exact impl_CountWithout.mono _ _ _
      | exact impl_CrossersUpTo.mono _ _
      | exact impl_IsPrime.mono _ _
      | exact impl_NextPrime.mono _ _
      | exact impl_PrimeOfRank.mono _ _
      | exact impl_PrimesBetween.mono _ _ _
      | exact impl_RulesOfPrimes.mono _ _
      | exact laws_gRules.mono _ _ _
      | exact laws_gSame.mono _ _ _
      | exact spec_CountPrimes.mono _ _
      | exact spec_CountWithout.mono _ _ _
      | exact spec_NextPrime.mono _ _
      | exact spec_PrimeOfRank.mono _ _
      | exact spec_PrimesBetween.mono _ _ _
      | exact spec_RulesOfPrimes.mono _ _
      | exact LeO.none _
      | refine LeO.ite ?_ ?_
      | refine LeO.bind ?_ (fun _ => ?_)
    · intro y0 y1 y2 y3
      unfold laws_FnPrimesCounted.j12
      repeat' first
      | (with_reducible exact ih0 _ _ _ _ _ _ _ _ _)
      | (with_reducible exact ih1 _ _ _ _ _ _ _ _)
      | (with_reducible exact ih2 _ _ _ _)
      | (with_reducible exact ih3 _ _ _ _)
      | (with_reducible exact ih4 _)
      | (with_reducible exact ih5 _ _ _ _ _ _)
      | (with_reducible exact ih6 _)
      | (with_reducible exact ih7 _ _ _ _)
      | (with_reducible exact ih8 _ _ _ _ _ _ _)
      | (with_reducible exact ih9 _ _ _ _ _ _ _ _ _ _)
      | (with_reducible exact ih10 _ _ _ _ _ _ _ _ _ _)
      | (with_reducible exact ih11 _ _ _ _)
      | (with_reducible exact ih12 _ _ _ _ _)
      | (with_reducible exact impl_CountLeft.mono _ _ _)
      | (with_reducible exact impl_CountPrimes.mono _ _)
      | (with_reducible exact impl_CountWithout.mono _ _ _)
      | (with_reducible exact impl_CrossersUpTo.mono _ _)
      | (with_reducible exact impl_IsPrime.mono _ _)
      | (with_reducible exact impl_NextPrime.mono _ _)
      | (with_reducible exact impl_PrimeOfRank.mono _ _)
      | (with_reducible exact impl_PrimesBetween.mono _ _ _)
      | (with_reducible exact impl_RulesOfPrimes.mono _ _)
      | (with_reducible exact laws_gRules.mono _ _ _)
      | (with_reducible exact laws_gSame.mono _ _ _)
      | (with_reducible exact spec_CountPrimes.mono _ _)
      | (with_reducible exact spec_CountWithout.mono _ _ _)
      | (with_reducible exact spec_NextPrime.mono _ _)
      | (with_reducible exact spec_PrimeOfRank.mono _ _)
      | (with_reducible exact spec_PrimesBetween.mono _ _ _)
      | (with_reducible exact spec_RulesOfPrimes.mono _ _)
      | (with_reducible exact LeO.refl _)
      | (with_reducible exact LeO.none _)
      | (with_reducible refine LeO.ite ?_ ?_)
      | (with_reducible refine LeO.bind ?_ (fun _ => ?_))
      | exact ih0 _ _ _ _ _ _ _ _ _
      | exact ih1 _ _ _ _ _ _ _ _
      | exact ih2 _ _ _ _
      | exact ih3 _ _ _ _
      | exact ih4 _
      | exact ih5 _ _ _ _ _ _
      | exact ih6 _
      | exact ih7 _ _ _ _
      | exact ih8 _ _ _ _ _ _ _
      | exact ih9 _ _ _ _ _ _ _ _ _ _
      | exact ih10 _ _ _ _ _ _ _ _ _ _
      | exact ih11 _ _ _ _
      | exact ih12 _ _ _ _ _
      | exact impl_CountLeft.mono _ _ _
      | exact impl_CountPrimes.mono _ _
      | exact impl_CountWithout.mono _ _ _
      | exact impl_CrossersUpTo.mono _ _
      | exact impl_IsPrime.mono _ _
      | exact impl_NextPrime.mono _ _
      | exact impl_PrimeOfRank.mono _ _
      | exact impl_PrimesBetween.mono _ _ _
      | exact impl_RulesOfPrimes.mono _ _
      | exact laws_gRules.mono _ _ _
      | exact laws_gSame.mono _ _ _
      | exact spec_CountPrimes.mono _ _
      | exact spec_CountWithout.mono _ _ _
      | exact spec_NextPrime.mono _ _
      | exact spec_PrimeOfRank.mono _ _
      | exact spec_PrimesBetween.mono _ _ _
      | exact spec_RulesOfPrimes.mono _ _
      | exact LeO.none _
      | refine LeO.ite ?_ ?_
      | refine LeO.bind ?_ (fun _ => ?_)
    · intro y0 y1 y2 y3 y4 y5 y6
      unfold laws_FnPrimesCounted.l0
      repeat' first
      | (with_reducible exact ih0 _ _ _ _ _ _ _ _ _)
      | (with_reducible exact ih1 _ _ _ _ _ _ _ _)
      | (with_reducible exact ih2 _ _ _ _)
      | (with_reducible exact ih3 _ _ _ _)
      | (with_reducible exact ih4 _)
      | (with_reducible exact ih5 _ _ _ _ _ _)
      | (with_reducible exact ih6 _)
      | (with_reducible exact ih7 _ _ _ _)
      | (with_reducible exact ih8 _ _ _ _ _ _ _)
      | (with_reducible exact ih9 _ _ _ _ _ _ _ _ _ _)
      | (with_reducible exact ih10 _ _ _ _ _ _ _ _ _ _)
      | (with_reducible exact ih11 _ _ _ _)
      | (with_reducible exact ih12 _ _ _ _ _)
      | (with_reducible exact impl_CountLeft.mono _ _ _)
      | (with_reducible exact impl_CountPrimes.mono _ _)
      | (with_reducible exact impl_CountWithout.mono _ _ _)
      | (with_reducible exact impl_CrossersUpTo.mono _ _)
      | (with_reducible exact impl_IsPrime.mono _ _)
      | (with_reducible exact impl_NextPrime.mono _ _)
      | (with_reducible exact impl_PrimeOfRank.mono _ _)
      | (with_reducible exact impl_PrimesBetween.mono _ _ _)
      | (with_reducible exact impl_RulesOfPrimes.mono _ _)
      | (with_reducible exact laws_gRules.mono _ _ _)
      | (with_reducible exact laws_gSame.mono _ _ _)
      | (with_reducible exact spec_CountPrimes.mono _ _)
      | (with_reducible exact spec_CountWithout.mono _ _ _)
      | (with_reducible exact spec_NextPrime.mono _ _)
      | (with_reducible exact spec_PrimeOfRank.mono _ _)
      | (with_reducible exact spec_PrimesBetween.mono _ _ _)
      | (with_reducible exact spec_RulesOfPrimes.mono _ _)
      | (with_reducible exact LeO.refl _)
      | (with_reducible exact LeO.none _)
      | (with_reducible refine LeO.ite ?_ ?_)
      | (with_reducible refine LeO.bind ?_ (fun _ => ?_))
      | exact ih0 _ _ _ _ _ _ _ _ _
      | exact ih1 _ _ _ _ _ _ _ _
      | exact ih2 _ _ _ _
      | exact ih3 _ _ _ _
      | exact ih4 _
      | exact ih5 _ _ _ _ _ _
      | exact ih6 _
      | exact ih7 _ _ _ _
      | exact ih8 _ _ _ _ _ _ _
      | exact ih9 _ _ _ _ _ _ _ _ _ _
      | exact ih10 _ _ _ _ _ _ _ _ _ _
      | exact ih11 _ _ _ _
      | exact ih12 _ _ _ _ _
      | exact impl_CountLeft.mono _ _ _
      | exact impl_CountPrimes.mono _ _
      | exact impl_CountWithout.mono _ _ _
      | exact impl_CrossersUpTo.mono _ _
      | exact impl_IsPrime.mono _ _
      | exact impl_NextPrime.mono _ _
      | exact impl_PrimeOfRank.mono _ _
      | exact impl_PrimesBetween.mono _ _ _
      | exact impl_RulesOfPrimes.mono _ _
      | exact laws_gRules.mono _ _ _
      | exact laws_gSame.mono _ _ _
      | exact spec_CountPrimes.mono _ _
      | exact spec_CountWithout.mono _ _ _
      | exact spec_NextPrime.mono _ _
      | exact spec_PrimeOfRank.mono _ _
      | exact spec_PrimesBetween.mono _ _ _
      | exact spec_RulesOfPrimes.mono _ _
      | exact LeO.none _
      | refine LeO.ite ?_ ?_
      | refine LeO.bind ?_ (fun _ => ?_)
    · intro y0 y1 y2 y3 y4 y5 y6 y7 y8 y9
      unfold laws_FnPrimesCounted.j9
      repeat' first
      | (with_reducible exact ih0 _ _ _ _ _ _ _ _ _)
      | (with_reducible exact ih1 _ _ _ _ _ _ _ _)
      | (with_reducible exact ih2 _ _ _ _)
      | (with_reducible exact ih3 _ _ _ _)
      | (with_reducible exact ih4 _)
      | (with_reducible exact ih5 _ _ _ _ _ _)
      | (with_reducible exact ih6 _)
      | (with_reducible exact ih7 _ _ _ _)
      | (with_reducible exact ih8 _ _ _ _ _ _ _)
      | (with_reducible exact ih9 _ _ _ _ _ _ _ _ _ _)
      | (with_reducible exact ih10 _ _ _ _ _ _ _ _ _ _)
      | (with_reducible exact ih11 _ _ _ _)
      | (with_reducible exact ih12 _ _ _ _ _)
      | (with_reducible exact impl_CountLeft.mono _ _ _)
      | (with_reducible exact impl_CountPrimes.mono _ _)
      | (with_reducible exact impl_CountWithout.mono _ _ _)
      | (with_reducible exact impl_CrossersUpTo.mono _ _)
      | (with_reducible exact impl_IsPrime.mono _ _)
      | (with_reducible exact impl_NextPrime.mono _ _)
      | (with_reducible exact impl_PrimeOfRank.mono _ _)
      | (with_reducible exact impl_PrimesBetween.mono _ _ _)
      | (with_reducible exact impl_RulesOfPrimes.mono _ _)
      | (with_reducible exact laws_gRules.mono _ _ _)
      | (with_reducible exact laws_gSame.mono _ _ _)
      | (with_reducible exact spec_CountPrimes.mono _ _)
      | (with_reducible exact spec_CountWithout.mono _ _ _)
      | (with_reducible exact spec_NextPrime.mono _ _)
      | (with_reducible exact spec_PrimeOfRank.mono _ _)
      | (with_reducible exact spec_PrimesBetween.mono _ _ _)
      | (with_reducible exact spec_RulesOfPrimes.mono _ _)
      | (with_reducible exact LeO.refl _)
      | (with_reducible exact LeO.none _)
      | (with_reducible refine LeO.ite ?_ ?_)
      | (with_reducible refine LeO.bind ?_ (fun _ => ?_))
      | exact ih0 _ _ _ _ _ _ _ _ _
      | exact ih1 _ _ _ _ _ _ _ _
      | exact ih2 _ _ _ _
      | exact ih3 _ _ _ _
      | exact ih4 _
      | exact ih5 _ _ _ _ _ _
      | exact ih6 _
      | exact ih7 _ _ _ _
      | exact ih8 _ _ _ _ _ _ _
      | exact ih9 _ _ _ _ _ _ _ _ _ _
      | exact ih10 _ _ _ _ _ _ _ _ _ _
      | exact ih11 _ _ _ _
      | exact ih12 _ _ _ _ _
      | exact impl_CountLeft.mono _ _ _
      | exact impl_CountPrimes.mono _ _
      | exact impl_CountWithout.mono _ _ _
      | exact impl_CrossersUpTo.mono _ _
      | exact impl_IsPrime.mono _ _
      | exact impl_NextPrime.mono _ _
      | exact impl_PrimeOfRank.mono _ _
      | exact impl_PrimesBetween.mono _ _ _
      | exact impl_RulesOfPrimes.mono _ _
      | exact laws_gRules.mono _ _ _
      | exact laws_gSame.mono _ _ _
      | exact spec_CountPrimes.mono _ _
      | exact spec_CountWithout.mono _ _ _
      | exact spec_NextPrime.mono _ _
      | exact spec_PrimeOfRank.mono _ _
      | exact spec_PrimesBetween.mono _ _ _
      | exact spec_RulesOfPrimes.mono _ _
      | exact LeO.none _
      | refine LeO.ite ?_ ?_
      | refine LeO.bind ?_ (fun _ => ?_)
    · intro y0 y1 y2 y3 y4 y5 y6 y7 y8 y9
      unfold laws_FnPrimesCounted.j10
      repeat' first
      | (with_reducible exact ih0 _ _ _ _ _ _ _ _ _)
      | (with_reducible exact ih1 _ _ _ _ _ _ _ _)
      | (with_reducible exact ih2 _ _ _ _)
      | (with_reducible exact ih3 _ _ _ _)
      | (with_reducible exact ih4 _)
      | (with_reducible exact ih5 _ _ _ _ _ _)
      | (with_reducible exact ih6 _)
      | (with_reducible exact ih7 _ _ _ _)
      | (with_reducible exact ih8 _ _ _ _ _ _ _)
      | (with_reducible exact ih9 _ _ _ _ _ _ _ _ _ _)
      | (with_reducible exact ih10 _ _ _ _ _ _ _ _ _ _)
      | (with_reducible exact ih11 _ _ _ _)
      | (with_reducible exact ih12 _ _ _ _ _)
      | (with_reducible exact impl_CountLeft.mono _ _ _)
      | (with_reducible exact impl_CountPrimes.mono _ _)
      | (with_reducible exact impl_CountWithout.mono _ _ _)
      | (with_reducible exact impl_CrossersUpTo.mono _ _)
      | (with_reducible exact impl_IsPrime.mono _ _)
      | (with_reducible exact impl_NextPrime.mono _ _)
      | (with_reducible exact impl_PrimeOfRank.mono _ _)
      | (with_reducible exact impl_PrimesBetween.mono _ _ _)
      | (with_reducible exact impl_RulesOfPrimes.mono _ _)
      | (with_reducible exact laws_gRules.mono _ _ _)
      | (with_reducible exact laws_gSame.mono _ _ _)
      | (with_reducible exact spec_CountPrimes.mono _ _)
      | (with_reducible exact spec_CountWithout.mono _ _ _)
      | (with_reducible exact spec_NextPrime.mono _ _)
      | (with_reducible exact spec_PrimeOfRank.mono _ _)
      | (with_reducible exact spec_PrimesBetween.mono _ _ _)
      | (with_reducible exact spec_RulesOfPrimes.mono _ _)
      | (with_reducible exact LeO.refl _)
      | (with_reducible exact LeO.none _)
      | (with_reducible refine LeO.ite ?_ ?_)
      | (with_reducible refine LeO.bind ?_ (fun _ => ?_))
      | exact ih0 _ _ _ _ _ _ _ _ _
      | exact ih1 _ _ _ _ _ _ _ _
      | exact ih2 _ _ _ _
      | exact ih3 _ _ _ _
      | exact ih4 _
      | exact ih5 _ _ _ _ _ _
      | exact ih6 _
      | exact ih7 _ _ _ _
      | exact ih8 _ _ _ _ _ _ _
      | exact ih9 _ _ _ _ _ _ _ _ _ _
      | exact ih10 _ _ _ _ _ _ _ _ _ _
      | exact ih11 _ _ _ _
      | exact ih12 _ _ _ _ _
      | exact impl_CountLeft.mono _ _ _
      | exact impl_CountPrimes.mono _ _
      | exact impl_CountWithout.mono _ _ _
      | exact impl_CrossersUpTo.mono _ _
      | exact impl_IsPrime.mono _ _
      | exact impl_NextPrime.mono _ _
      | exact impl_PrimeOfRank.mono _ _
      | exact impl_PrimesBetween.mono _ _ _
      | exact impl_RulesOfPrimes.mono _ _
      | exact laws_gRules.mono _ _ _
      | exact laws_gSame.mono _ _ _
      | exact spec_CountPrimes.mono _ _
      | exact spec_CountWithout.mono _ _ _
      | exact spec_NextPrime.mono _ _
      | exact spec_PrimeOfRank.mono _ _
      | exact spec_PrimesBetween.mono _ _ _
      | exact spec_RulesOfPrimes.mono _ _
      | exact LeO.none _
      | refine LeO.ite ?_ ?_
      | refine LeO.bind ?_ (fun _ => ?_)
    · intro y0 y1 y2 y3
      unfold laws_FnPrimesCounted.j4
      repeat' first
      | (with_reducible exact ih0 _ _ _ _ _ _ _ _ _)
      | (with_reducible exact ih1 _ _ _ _ _ _ _ _)
      | (with_reducible exact ih2 _ _ _ _)
      | (with_reducible exact ih3 _ _ _ _)
      | (with_reducible exact ih4 _)
      | (with_reducible exact ih5 _ _ _ _ _ _)
      | (with_reducible exact ih6 _)
      | (with_reducible exact ih7 _ _ _ _)
      | (with_reducible exact ih8 _ _ _ _ _ _ _)
      | (with_reducible exact ih9 _ _ _ _ _ _ _ _ _ _)
      | (with_reducible exact ih10 _ _ _ _ _ _ _ _ _ _)
      | (with_reducible exact ih11 _ _ _ _)
      | (with_reducible exact ih12 _ _ _ _ _)
      | (with_reducible exact impl_CountLeft.mono _ _ _)
      | (with_reducible exact impl_CountPrimes.mono _ _)
      | (with_reducible exact impl_CountWithout.mono _ _ _)
      | (with_reducible exact impl_CrossersUpTo.mono _ _)
      | (with_reducible exact impl_IsPrime.mono _ _)
      | (with_reducible exact impl_NextPrime.mono _ _)
      | (with_reducible exact impl_PrimeOfRank.mono _ _)
      | (with_reducible exact impl_PrimesBetween.mono _ _ _)
      | (with_reducible exact impl_RulesOfPrimes.mono _ _)
      | (with_reducible exact laws_gRules.mono _ _ _)
      | (with_reducible exact laws_gSame.mono _ _ _)
      | (with_reducible exact spec_CountPrimes.mono _ _)
      | (with_reducible exact spec_CountWithout.mono _ _ _)
      | (with_reducible exact spec_NextPrime.mono _ _)
      | (with_reducible exact spec_PrimeOfRank.mono _ _)
      | (with_reducible exact spec_PrimesBetween.mono _ _ _)
      | (with_reducible exact spec_RulesOfPrimes.mono _ _)
      | (with_reducible exact LeO.refl _)
      | (with_reducible exact LeO.none _)
      | (with_reducible refine LeO.ite ?_ ?_)
      | (with_reducible refine LeO.bind ?_ (fun _ => ?_))
      | exact ih0 _ _ _ _ _ _ _ _ _
      | exact ih1 _ _ _ _ _ _ _ _
      | exact ih2 _ _ _ _
      | exact ih3 _ _ _ _
      | exact ih4 _
      | exact ih5 _ _ _ _ _ _
      | exact ih6 _
      | exact ih7 _ _ _ _
      | exact ih8 _ _ _ _ _ _ _
      | exact ih9 _ _ _ _ _ _ _ _ _ _
      | exact ih10 _ _ _ _ _ _ _ _ _ _
      | exact ih11 _ _ _ _
      | exact ih12 _ _ _ _ _
      | exact impl_CountLeft.mono _ _ _
      | exact impl_CountPrimes.mono _ _
      | exact impl_CountWithout.mono _ _ _
      | exact impl_CrossersUpTo.mono _ _
      | exact impl_IsPrime.mono _ _
      | exact impl_NextPrime.mono _ _
      | exact impl_PrimeOfRank.mono _ _
      | exact impl_PrimesBetween.mono _ _ _
      | exact impl_RulesOfPrimes.mono _ _
      | exact laws_gRules.mono _ _ _
      | exact laws_gSame.mono _ _ _
      | exact spec_CountPrimes.mono _ _
      | exact spec_CountWithout.mono _ _ _
      | exact spec_NextPrime.mono _ _
      | exact spec_PrimeOfRank.mono _ _
      | exact spec_PrimesBetween.mono _ _ _
      | exact spec_RulesOfPrimes.mono _ _
      | exact LeO.none _
      | refine LeO.ite ?_ ?_
      | refine LeO.bind ?_ (fun _ => ?_)
    · intro y0 y1 y2 y3 y4
      unfold laws_FnPrimesCounted.j5
      repeat' first
      | (with_reducible exact ih0 _ _ _ _ _ _ _ _ _)
      | (with_reducible exact ih1 _ _ _ _ _ _ _ _)
      | (with_reducible exact ih2 _ _ _ _)
      | (with_reducible exact ih3 _ _ _ _)
      | (with_reducible exact ih4 _)
      | (with_reducible exact ih5 _ _ _ _ _ _)
      | (with_reducible exact ih6 _)
      | (with_reducible exact ih7 _ _ _ _)
      | (with_reducible exact ih8 _ _ _ _ _ _ _)
      | (with_reducible exact ih9 _ _ _ _ _ _ _ _ _ _)
      | (with_reducible exact ih10 _ _ _ _ _ _ _ _ _ _)
      | (with_reducible exact ih11 _ _ _ _)
      | (with_reducible exact ih12 _ _ _ _ _)
      | (with_reducible exact impl_CountLeft.mono _ _ _)
      | (with_reducible exact impl_CountPrimes.mono _ _)
      | (with_reducible exact impl_CountWithout.mono _ _ _)
      | (with_reducible exact impl_CrossersUpTo.mono _ _)
      | (with_reducible exact impl_IsPrime.mono _ _)
      | (with_reducible exact impl_NextPrime.mono _ _)
      | (with_reducible exact impl_PrimeOfRank.mono _ _)
      | (with_reducible exact impl_PrimesBetween.mono _ _ _)
      | (with_reducible exact impl_RulesOfPrimes.mono _ _)
      | (with_reducible exact laws_gRules.mono _ _ _)
      | (with_reducible exact laws_gSame.mono _ _ _)
      | (with_reducible exact spec_CountPrimes.mono _ _)
      | (with_reducible exact spec_CountWithout.mono _ _ _)
      | (with_reducible exact spec_NextPrime.mono _ _)
      | (with_reducible exact spec_PrimeOfRank.mono _ _)
      | (with_reducible exact spec_PrimesBetween.mono _ _ _)
      | (with_reducible exact spec_RulesOfPrimes.mono _ _)
      | (with_reducible exact LeO.refl _)
      | (with_reducible exact LeO.none _)
      | (with_reducible refine LeO.ite ?_ ?_)
      | (with_reducible refine LeO.bind ?_ (fun _ => ?_))
      | exact ih0 _ _ _ _ _ _ _ _ _
      | exact ih1 _ _ _ _ _ _ _ _
      | exact ih2 _ _ _ _
      | exact ih3 _ _ _ _
      | exact ih4 _
      | exact ih5 _ _ _ _ _ _
      | exact ih6 _
      | exact ih7 _ _ _ _
      | exact ih8 _ _ _ _ _ _ _
      | exact ih9 _ _ _ _ _ _ _ _ _ _
      | exact ih10 _ _ _ _ _ _ _ _ _ _
      | exact ih11 _ _ _ _
      | exact ih12 _ _ _ _ _
      | exact impl_CountLeft.mono _ _ _
      | exact impl_CountPrimes.mono _ _
      | exact impl_CountWithout.mono _ _ _
      | exact impl_CrossersUpTo.mono _ _
      | exact impl_IsPrime.mono _ _
      | exact impl_NextPrime.mono _ _
      | exact impl_PrimeOfRank.mono _ _
      | exact impl_PrimesBetween.mono _ _ _
      | exact impl_RulesOfPrimes.mono _ _
      | exact laws_gRules.mono _ _ _
      | exact laws_gSame.mono _ _ _
      | exact spec_CountPrimes.mono _ _
      | exact spec_CountWithout.mono _ _ _
      | exact spec_NextPrime.mono _ _
      | exact spec_PrimeOfRank.mono _ _
      | exact spec_PrimesBetween.mono _ _ _
      | exact spec_RulesOfPrimes.mono _ _
      | exact LeO.none _
      | refine LeO.ite ?_ ?_
      | refine LeO.bind ?_ (fun _ => ?_)
theorem laws_FnPrimesCounted.mono : ∀ a0 a1 k, LeO (laws_FnPrimesCounted.f k a0 a1) (laws_FnPrimesCounted.f (k + 1) a0 a1) := by
  intro a0 a1 k
  obtain ⟨ih0, ih1, ih2, ih3, ih4, ih5, ih6, ih7, ih8, ih9, ih10, ih11, ih12⟩ := laws_FnPrimesCounted.mono_l k
  unfold laws_FnPrimesCounted.f
  repeat' first
      | (with_reducible exact ih0 _ _ _ _ _ _ _ _ _)
      | (with_reducible exact ih1 _ _ _ _ _ _ _ _)
      | (with_reducible exact ih2 _ _ _ _)
      | (with_reducible exact ih3 _ _ _ _)
      | (with_reducible exact ih4 _)
      | (with_reducible exact ih5 _ _ _ _ _ _)
      | (with_reducible exact ih6 _)
      | (with_reducible exact ih7 _ _ _ _)
      | (with_reducible exact ih8 _ _ _ _ _ _ _)
      | (with_reducible exact ih9 _ _ _ _ _ _ _ _ _ _)
      | (with_reducible exact ih10 _ _ _ _ _ _ _ _ _ _)
      | (with_reducible exact ih11 _ _ _ _)
      | (with_reducible exact ih12 _ _ _ _ _)
      | (with_reducible exact impl_CountLeft.mono _ _ _)
      | (with_reducible exact impl_CountPrimes.mono _ _)
      | (with_reducible exact impl_CountWithout.mono _ _ _)
      | (with_reducible exact impl_CrossersUpTo.mono _ _)
      | (with_reducible exact impl_IsPrime.mono _ _)
      | (with_reducible exact impl_NextPrime.mono _ _)
      | (with_reducible exact impl_PrimeOfRank.mono _ _)
      | (with_reducible exact impl_PrimesBetween.mono _ _ _)
      | (with_reducible exact impl_RulesOfPrimes.mono _ _)
      | (with_reducible exact laws_gRules.mono _ _ _)
      | (with_reducible exact laws_gSame.mono _ _ _)
      | (with_reducible exact spec_CountPrimes.mono _ _)
      | (with_reducible exact spec_CountWithout.mono _ _ _)
      | (with_reducible exact spec_NextPrime.mono _ _)
      | (with_reducible exact spec_PrimeOfRank.mono _ _)
      | (with_reducible exact spec_PrimesBetween.mono _ _ _)
      | (with_reducible exact spec_RulesOfPrimes.mono _ _)
      | (with_reducible exact LeO.refl _)
      | (with_reducible exact LeO.none _)
      | (with_reducible refine LeO.ite ?_ ?_)
      | (with_reducible refine LeO.bind ?_ (fun _ => ?_))
      | exact ih0 _ _ _ _ _ _ _ _ _
      | exact ih1 _ _ _ _ _ _ _ _
      | exact ih2 _ _ _ _
      | exact ih3 _ _ _ _
      | exact ih4 _
      | exact ih5 _ _ _ _ _ _
      | exact ih6 _
      | exact ih7 _ _ _ _
      | exact ih8 _ _ _ _ _ _ _
      | exact ih9 _ _ _ _ _ _ _ _ _ _
      | exact ih10 _ _ _ _ _ _ _ _ _ _
      | exact ih11 _ _ _ _
      | exact ih12 _ _ _ _ _
      | exact impl_CountLeft.mono _ _ _
      | exact impl_CountPrimes.mono _ _
      | exact impl_CountWithout.mono _ _ _
      | exact impl_CrossersUpTo.mono _ _
      | exact impl_IsPrime.mono _ _
      | exact impl_NextPrime.mono _ _
      | exact impl_PrimeOfRank.mono _ _
      | exact impl_PrimesBetween.mono _ _ _
      | exact impl_RulesOfPrimes.mono _ _
      | exact laws_gRules.mono _ _ _
      | exact laws_gSame.mono _ _ _
      | exact spec_CountPrimes.mono _ _
      | exact spec_CountWithout.mono _ _ _
      | exact spec_NextPrime.mono _ _
      | exact spec_PrimeOfRank.mono _ _
      | exact spec_PrimesBetween.mono _ _ _
      | exact spec_RulesOfPrimes.mono _ _
      | exact LeO.none _
      | refine LeO.ite ?_ ?_
      | refine LeO.bind ?_ (fun _ => ?_)
set_option maxHeartbeats 8000000 in
set_option maxRecDepth 100000 in
theorem laws_FnPrimesCounted.calls (k : Nat) (A0 : Option Addr) (c0 : Nat) (l0 : List Int) (A1 : Option Addr) (c1 : Nat) (l1 : List Int) (r : Bool) (w : World) (hr0 : Kd.C (Kd.int .u8) w A0 l0.length l0) (hc0 : l0.length ≤ c0) (hr1 : Kd.C (Kd.int .u8) w A1 l1.length l1) (hc1 : l1.length ≤ c1) (h : laws_FnPrimesCounted.f k l0 l1 = some r) :
    Calls Try.prog 6 #[.slice A0 l0.length c0, .slice A1 l1.length c1] w fun e w' => e = .returned (.bool r) ∧ Below w.heap.size w w' := by
  have HR0 := Aside0.mk hr0
  have HC0 := Aside0.mk hc0
  clear hr0 hc0
  have HR1 := Aside0.mk hr1
  have HC1 := Aside0.mk hc1
  clear hr1 hc1
  have HB := Aside0.mk (Below.refl w.heap.size w)
  have H : ((laws_big.f l0 l1).bind fun t564 => (if t564 = true then (some true) else ((spec_DrawCountWithout.f l0).bind fun bt565 => ((impl_CountWithout.f k bt565.1 bt565.2).bind fun bt567 => ((spec_CountWithout.f k bt565.1 bt565.2).bind fun bt569 => ((impl_CountPrimes.f k bt565.1).bind fun bt571 => ((spec_CountPrimes.f k bt565.1).bind fun bt573 => ((impl_RulesOfPrimes.f k bt565.2).bind fun bt575 => ((spec_RulesOfPrimes.f k bt565.2).bind fun bt579 => (if (bt567.2 != bt569.2) = true then (laws_FnPrimesCounted.j0 k l1 bt565.1 bt565.2 bt567.1 bt567.2 bt571.1 bt571.2 bt575.1 true) else (if bt567.1 = bt569.1 then (if (bt571.2 != bt573.2) = true then (laws_FnPrimesCounted.j0 k l1 bt565.1 bt565.2 bt567.1 bt567.2 bt571.1 bt571.2 bt575.1 true) else (if bt571.1 = bt573.1 then (if (bt575.2 != bt579.2) = true then (laws_FnPrimesCounted.j0 k l1 bt565.1 bt565.2 bt567.1 bt567.2 bt571.1 bt571.2 bt575.1 true) else ((laws_gRules.f k bt575.1 bt579.1).bind fun t583 => (if t583 = true then (if bt571.2 = true then (laws_FnPrimesCounted.j0 k l1 bt565.1 bt565.2 bt567.1 bt567.2 bt571.1 bt571.2 bt575.1 (bt567.2 != bt575.2)) else (laws_FnPrimesCounted.j0 k l1 bt565.1 bt565.2 bt567.1 bt567.2 bt571.1 bt571.2 bt575.1 (bt567.2 != false))) else (laws_FnPrimesCounted.j0 k l1 bt565.1 bt565.2 bt567.1 bt567.2 bt571.1 bt571.2 bt575.1 true)))) else (laws_FnPrimesCounted.j0 k l1 bt565.1 bt565.2 bt567.1 bt567.2 bt571.1 bt571.2 bt575.1 true))) else (laws_FnPrimesCounted.j0 k l1 bt565.1 bt565.2 bt567.1 bt567.2 bt571.1 bt571.2 bt575.1 true)))))))))))) = some r := h
  clear h
  replace H := Option.bind_eq_some_iff.mp H
  obtain ⟨t564, A30, H⟩ := H
  replace H : (if t564 = true then (some true) else ((spec_DrawCountWithout.f l0).bind fun bt565 => ((impl_CountWithout.f k bt565.1 bt565.2).bind fun bt567 => ((spec_CountWithout.f k bt565.1 bt565.2).bind fun bt569 => ((impl_CountPrimes.f k bt565.1).bind fun bt571 => ((spec_CountPrimes.f k bt565.1).bind fun bt573 => ((impl_RulesOfPrimes.f k bt565.2).bind fun bt575 => ((spec_RulesOfPrimes.f k bt565.2).bind fun bt579 => (if (bt567.2 != bt569.2) = true then (laws_FnPrimesCounted.j0 k l1 bt565.1 bt565.2 bt567.1 bt567.2 bt571.1 bt571.2 bt575.1 true) else (if bt567.1 = bt569.1 then (if (bt571.2 != bt573.2) = true then (laws_FnPrimesCounted.j0 k l1 bt565.1 bt565.2 bt567.1 bt567.2 bt571.1 bt571.2 bt575.1 true) else (if bt571.1 = bt573.1 then (if (bt575.2 != bt579.2) = true then (laws_FnPrimesCounted.j0 k l1 bt565.1 bt565.2 bt567.1 bt567.2 bt571.1 bt571.2 bt575.1 true) else ((laws_gRules.f k bt575.1 bt579.1).bind fun t583 => (if t583 = true then (if bt571.2 = true then (laws_FnPrimesCounted.j0 k l1 bt565.1 bt565.2 bt567.1 bt567.2 bt571.1 bt571.2 bt575.1 (bt567.2 != bt575.2)) else (laws_FnPrimesCounted.j0 k l1 bt565.1 bt565.2 bt567.1 bt567.2 bt571.1 bt571.2 bt575.1 (bt567.2 != false))) else (laws_FnPrimesCounted.j0 k l1 bt565.1 bt565.2 bt567.1 bt567.2 bt571.1 bt571.2 bt575.1 true)))) else (laws_FnPrimesCounted.j0 k l1 bt565.1 bt565.2 bt567.1 bt567.2 bt571.1 bt571.2 bt575.1 true))) else (laws_FnPrimesCounted.j0 k l1 bt565.1 bt565.2 bt567.1 bt567.2 bt571.1 bt571.2 bt575.1 true))))))))))) = some r := H
  have A3 := Aside0.mk A30
  clear A30
  by_cases c4 : t564 = true
  · subst c4
    have H1 : (some true) = some r := by rw [if_pos rfl] at H; exact H
    clear H
    have H := H1
    clear H1
    obtain rfl := Option.some.inj H
    go_enter Try.func6, Try.ntmps6
    go_wp2_with (first | ((with_reducible refine gate_callee (f := 22) rfl ?_); refine goesL_ (some 53) rfl rfl Try.func22 (by kernel_rfl) rfl #[.slice A0 l0.length c0, .slice A1 l1.length c1] rfl (by (try simp only [List.map_toArray, List.map_cons, List.map_nil]); first | done | rfl | (simp only [List.length_drop, List.length_take]; rfl)) ?_; (with_reducible refine (laws_big.calls _ _ l0 _ _ l1 true _ ?side1 ?side2 ?side3 ?side4 A3.out).mono ?_); (case side1 => repeat (first | exact HR0.out | (with_reducible refine Kd.C_alloc ?_ _) | (with_reducible refine Kd.C_drewN ?_ _) | (with_reducible refine Kd.C_drew ?_))); (case side2 => exact HC0.out); (case side3 => repeat (first | exact HR1.out | (with_reducible refine Kd.C_alloc ?_ _) | (with_reducible refine Kd.C_drewN ?_ _) | (with_reducible refine Kd.C_drew ?_))); (case side4 => exact HC1.out); rintro e w' ⟨rfl, ⟨nd, rfl⟩⟩; refine ⟨_, rfl, ?_⟩))
    go_ret
    exact ⟨by first | rfl | (simp [errW_none, errW_some] <;> rfl) | (simp [*, errW_none, errW_some] <;> rfl), by repeat (first | (with_reducible first | exact HB.out | apply below_alloc | apply pw_below_drewN | apply below_drew1) | exact HB.out)⟩
  · replace c4 := Bool.eq_false_iff.mpr c4
    subst c4
    have H1 : ((spec_DrawCountWithout.f l0).bind fun bt565 => ((impl_CountWithout.f k bt565.1 bt565.2).bind fun bt567 => ((spec_CountWithout.f k bt565.1 bt565.2).bind fun bt569 => ((impl_CountPrimes.f k bt565.1).bind fun bt571 => ((spec_CountPrimes.f k bt565.1).bind fun bt573 => ((impl_RulesOfPrimes.f k bt565.2).bind fun bt575 => ((spec_RulesOfPrimes.f k bt565.2).bind fun bt579 => (if (bt567.2 != bt569.2) = true then (laws_FnPrimesCounted.j0 k l1 bt565.1 bt565.2 bt567.1 bt567.2 bt571.1 bt571.2 bt575.1 true) else (if bt567.1 = bt569.1 then (if (bt571.2 != bt573.2) = true then (laws_FnPrimesCounted.j0 k l1 bt565.1 bt565.2 bt567.1 bt567.2 bt571.1 bt571.2 bt575.1 true) else (if bt571.1 = bt573.1 then (if (bt575.2 != bt579.2) = true then (laws_FnPrimesCounted.j0 k l1 bt565.1 bt565.2 bt567.1 bt567.2 bt571.1 bt571.2 bt575.1 true) else ((laws_gRules.f k bt575.1 bt579.1).bind fun t583 => (if t583 = true then (if bt571.2 = true then (laws_FnPrimesCounted.j0 k l1 bt565.1 bt565.2 bt567.1 bt567.2 bt571.1 bt571.2 bt575.1 (bt567.2 != bt575.2)) else (laws_FnPrimesCounted.j0 k l1 bt565.1 bt565.2 bt567.1 bt567.2 bt571.1 bt571.2 bt575.1 (bt567.2 != false))) else (laws_FnPrimesCounted.j0 k l1 bt565.1 bt565.2 bt567.1 bt567.2 bt571.1 bt571.2 bt575.1 true)))) else (laws_FnPrimesCounted.j0 k l1 bt565.1 bt565.2 bt567.1 bt567.2 bt571.1 bt571.2 bt575.1 true))) else (laws_FnPrimesCounted.j0 k l1 bt565.1 bt565.2 bt567.1 bt567.2 bt571.1 bt571.2 bt575.1 true)))))))))) = some r := by rw [if_neg (show ¬ (false = true) by decide)] at H; exact H
    clear H
    have H := H1
    clear H1
    replace H := Option.bind_eq_some_iff.mp H
    obtain ⟨⟨t565, t566⟩, A50, H⟩ := H
    replace H : ((impl_CountWithout.f k t565 t566).bind fun bt567 => ((spec_CountWithout.f k t565 t566).bind fun bt569 => ((impl_CountPrimes.f k t565).bind fun bt571 => ((spec_CountPrimes.f k t565).bind fun bt573 => ((impl_RulesOfPrimes.f k t566).bind fun bt575 => ((spec_RulesOfPrimes.f k t566).bind fun bt579 => (if (bt567.2 != bt569.2) = true then (laws_FnPrimesCounted.j0 k l1 t565 t566 bt567.1 bt567.2 bt571.1 bt571.2 bt575.1 true) else (if bt567.1 = bt569.1 then (if (bt571.2 != bt573.2) = true then (laws_FnPrimesCounted.j0 k l1 t565 t566 bt567.1 bt567.2 bt571.1 bt571.2 bt575.1 true) else (if bt571.1 = bt573.1 then (if (bt575.2 != bt579.2) = true then (laws_FnPrimesCounted.j0 k l1 t565 t566 bt567.1 bt567.2 bt571.1 bt571.2 bt575.1 true) else ((laws_gRules.f k bt575.1 bt579.1).bind fun t583 => (if t583 = true then (if bt571.2 = true then (laws_FnPrimesCounted.j0 k l1 t565 t566 bt567.1 bt567.2 bt571.1 bt571.2 bt575.1 (bt567.2 != bt575.2)) else (laws_FnPrimesCounted.j0 k l1 t565 t566 bt567.1 bt567.2 bt571.1 bt571.2 bt575.1 (bt567.2 != false))) else (laws_FnPrimesCounted.j0 k l1 t565 t566 bt567.1 bt567.2 bt571.1 bt571.2 bt575.1 true)))) else (laws_FnPrimesCounted.j0 k l1 t565 t566 bt567.1 bt567.2 bt571.1 bt571.2 bt575.1 true))) else (laws_FnPrimesCounted.j0 k l1 t565 t566 bt567.1 bt567.2 bt571.1 bt571.2 bt575.1 true))))))))) = some r := H
    have A5 := Aside0.mk A50
    clear A50
    replace H := Option.bind_eq_some_iff.mp H
    obtain ⟨⟨t567, t568⟩, A60, H⟩ := H
    replace H : ((spec_CountWithout.f k t565 t566).bind fun bt569 => ((impl_CountPrimes.f k t565).bind fun bt571 => ((spec_CountPrimes.f k t565).bind fun bt573 => ((impl_RulesOfPrimes.f k t566).bind fun bt575 => ((spec_RulesOfPrimes.f k t566).bind fun bt579 => (if (t568 != bt569.2) = true then (laws_FnPrimesCounted.j0 k l1 t565 t566 t567 t568 bt571.1 bt571.2 bt575.1 true) else (if t567 = bt569.1 then (if (bt571.2 != bt573.2) = true then (laws_FnPrimesCounted.j0 k l1 t565 t566 t567 t568 bt571.1 bt571.2 bt575.1 true) else (if bt571.1 = bt573.1 then (if (bt575.2 != bt579.2) = true then (laws_FnPrimesCounted.j0 k l1 t565 t566 t567 t568 bt571.1 bt571.2 bt575.1 true) else ((laws_gRules.f k bt575.1 bt579.1).bind fun t583 => (if t583 = true then (if bt571.2 = true then (laws_FnPrimesCounted.j0 k l1 t565 t566 t567 t568 bt571.1 bt571.2 bt575.1 (t568 != bt575.2)) else (laws_FnPrimesCounted.j0 k l1 t565 t566 t567 t568 bt571.1 bt571.2 bt575.1 (t568 != false))) else (laws_FnPrimesCounted.j0 k l1 t565 t566 t567 t568 bt571.1 bt571.2 bt575.1 true)))) else (laws_FnPrimesCounted.j0 k l1 t565 t566 t567 t568 bt571.1 bt571.2 bt575.1 true))) else (laws_FnPrimesCounted.j0 k l1 t565 t566 t567 t568 bt571.1 bt571.2 bt575.1 true)))))))) = some r := H
    have A6 := Aside0.mk A60
    clear A60
    replace H := Option.bind_eq_some_iff.mp H
    obtain ⟨⟨t569, t570⟩, A70, H⟩ := H
    replace H : ((impl_CountPrimes.f k t565).bind fun bt571 => ((spec_CountPrimes.f k t565).bind fun bt573 => ((impl_RulesOfPrimes.f k t566).bind fun bt575 => ((spec_RulesOfPrimes.f k t566).bind fun bt579 => (if (t568 != t570) = true then (laws_FnPrimesCounted.j0 k l1 t565 t566 t567 t568 bt571.1 bt571.2 bt575.1 true) else (if t567 = t569 then (if (bt571.2 != bt573.2) = true then (laws_FnPrimesCounted.j0 k l1 t565 t566 t567 t568 bt571.1 bt571.2 bt575.1 true) else (if bt571.1 = bt573.1 then (if (bt575.2 != bt579.2) = true then (laws_FnPrimesCounted.j0 k l1 t565 t566 t567 t568 bt571.1 bt571.2 bt575.1 true) else ((laws_gRules.f k bt575.1 bt579.1).bind fun t583 => (if t583 = true then (if bt571.2 = true then (laws_FnPrimesCounted.j0 k l1 t565 t566 t567 t568 bt571.1 bt571.2 bt575.1 (t568 != bt575.2)) else (laws_FnPrimesCounted.j0 k l1 t565 t566 t567 t568 bt571.1 bt571.2 bt575.1 (t568 != false))) else (laws_FnPrimesCounted.j0 k l1 t565 t566 t567 t568 bt571.1 bt571.2 bt575.1 true)))) else (laws_FnPrimesCounted.j0 k l1 t565 t566 t567 t568 bt571.1 bt571.2 bt575.1 true))) else (laws_FnPrimesCounted.j0 k l1 t565 t566 t567 t568 bt571.1 bt571.2 bt575.1 true))))))) = some r := H
    have A7 := Aside0.mk A70
    clear A70
    replace H := Option.bind_eq_some_iff.mp H
    obtain ⟨⟨t571, t572⟩, A80, H⟩ := H
    replace H : ((spec_CountPrimes.f k t565).bind fun bt573 => ((impl_RulesOfPrimes.f k t566).bind fun bt575 => ((spec_RulesOfPrimes.f k t566).bind fun bt579 => (if (t568 != t570) = true then (laws_FnPrimesCounted.j0 k l1 t565 t566 t567 t568 t571 t572 bt575.1 true) else (if t567 = t569 then (if (t572 != bt573.2) = true then (laws_FnPrimesCounted.j0 k l1 t565 t566 t567 t568 t571 t572 bt575.1 true) else (if t571 = bt573.1 then (if (bt575.2 != bt579.2) = true then (laws_FnPrimesCounted.j0 k l1 t565 t566 t567 t568 t571 t572 bt575.1 true) else ((laws_gRules.f k bt575.1 bt579.1).bind fun t583 => (if t583 = true then (if t572 = true then (laws_FnPrimesCounted.j0 k l1 t565 t566 t567 t568 t571 t572 bt575.1 (t568 != bt575.2)) else (laws_FnPrimesCounted.j0 k l1 t565 t566 t567 t568 t571 t572 bt575.1 (t568 != false))) else (laws_FnPrimesCounted.j0 k l1 t565 t566 t567 t568 t571 t572 bt575.1 true)))) else (laws_FnPrimesCounted.j0 k l1 t565 t566 t567 t568 t571 t572 bt575.1 true))) else (laws_FnPrimesCounted.j0 k l1 t565 t566 t567 t568 t571 t572 bt575.1 true)))))) = some r := H
    have A8 := Aside0.mk A80
    clear A80
    replace H := Option.bind_eq_some_iff.mp H
    obtain ⟨⟨t573, t574⟩, A90, H⟩ := H
    replace H : ((impl_RulesOfPrimes.f k t566).bind fun bt575 => ((spec_RulesOfPrimes.f k t566).bind fun bt579 => (if (t568 != t570) = true then (laws_FnPrimesCounted.j0 k l1 t565 t566 t567 t568 t571 t572 bt575.1 true) else (if t567 = t569 then (if (t572 != t574) = true then (laws_FnPrimesCounted.j0 k l1 t565 t566 t567 t568 t571 t572 bt575.1 true) else (if t571 = t573 then (if (bt575.2 != bt579.2) = true then (laws_FnPrimesCounted.j0 k l1 t565 t566 t567 t568 t571 t572 bt575.1 true) else ((laws_gRules.f k bt575.1 bt579.1).bind fun t583 => (if t583 = true then (if t572 = true then (laws_FnPrimesCounted.j0 k l1 t565 t566 t567 t568 t571 t572 bt575.1 (t568 != bt575.2)) else (laws_FnPrimesCounted.j0 k l1 t565 t566 t567 t568 t571 t572 bt575.1 (t568 != false))) else (laws_FnPrimesCounted.j0 k l1 t565 t566 t567 t568 t571 t572 bt575.1 true)))) else (laws_FnPrimesCounted.j0 k l1 t565 t566 t567 t568 t571 t572 bt575.1 true))) else (laws_FnPrimesCounted.j0 k l1 t565 t566 t567 t568 t571 t572 bt575.1 true))))) = some r := H
    have A9 := Aside0.mk A90
    clear A90
    replace H := Option.bind_eq_some_iff.mp H
    obtain ⟨⟨t575, t576⟩, A100, H⟩ := H
    replace H : ((spec_RulesOfPrimes.f k t566).bind fun bt579 => (if (t568 != t570) = true then (laws_FnPrimesCounted.j0 k l1 t565 t566 t567 t568 t571 t572 t575 true) else (if t567 = t569 then (if (t572 != t574) = true then (laws_FnPrimesCounted.j0 k l1 t565 t566 t567 t568 t571 t572 t575 true) else (if t571 = t573 then (if (t576 != bt579.2) = true then (laws_FnPrimesCounted.j0 k l1 t565 t566 t567 t568 t571 t572 t575 true) else ((laws_gRules.f k t575 bt579.1).bind fun t583 => (if t583 = true then (if t572 = true then (laws_FnPrimesCounted.j0 k l1 t565 t566 t567 t568 t571 t572 t575 (t568 != t576)) else (laws_FnPrimesCounted.j0 k l1 t565 t566 t567 t568 t571 t572 t575 (t568 != false))) else (laws_FnPrimesCounted.j0 k l1 t565 t566 t567 t568 t571 t572 t575 true)))) else (laws_FnPrimesCounted.j0 k l1 t565 t566 t567 t568 t571 t572 t575 true))) else (laws_FnPrimesCounted.j0 k l1 t565 t566 t567 t568 t571 t572 t575 true)))) = some r := H
    have A10 := Aside0.mk A100
    clear A100
    replace H := Option.bind_eq_some_iff.mp H
    obtain ⟨⟨t579, t580⟩, A110, H⟩ := H
    replace H : (if (t568 != t570) = true then (laws_FnPrimesCounted.j0 k l1 t565 t566 t567 t568 t571 t572 t575 true) else (if t567 = t569 then (if (t572 != t574) = true then (laws_FnPrimesCounted.j0 k l1 t565 t566 t567 t568 t571 t572 t575 true) else (if t571 = t573 then (if (t576 != t580) = true then (laws_FnPrimesCounted.j0 k l1 t565 t566 t567 t568 t571 t572 t575 true) else ((laws_gRules.f k t575 t579).bind fun t583 => (if t583 = true then (if t572 = true then (laws_FnPrimesCounted.j0 k l1 t565 t566 t567 t568 t571 t572 t575 (t568 != t576)) else (laws_FnPrimesCounted.j0 k l1 t565 t566 t567 t568 t571 t572 t575 (t568 != false))) else (laws_FnPrimesCounted.j0 k l1 t565 t566 t567 t568 t571 t572 t575 true)))) else (laws_FnPrimesCounted.j0 k l1 t565 t566 t567 t568 t571 t572 t575 true))) else (laws_FnPrimesCounted.j0 k l1 t565 t566 t567 t568 t571 t572 t575 true))) = some r := H
    have A11 := Aside0.mk A110
    clear A110
    have HC12 := Aside0.mk H
    clear H
    go_enter Try.func6, Try.ntmps6
    go_upto_region 10 with (first | ((with_reducible refine gate_callee (f := 22) rfl ?_); refine goesL_ (some 53) rfl rfl Try.func22 (by kernel_rfl) rfl #[.slice A0 l0.length c0, .slice A1 l1.length c1] rfl (by (try simp only [List.map_toArray, List.map_cons, List.map_nil]); first | done | rfl | (simp only [List.length_drop, List.length_take]; rfl)) ?_; (with_reducible refine (laws_big.calls _ _ l0 _ _ l1 false _ ?side1 ?side2 ?side3 ?side4 A3.out).mono ?_); (case side1 => repeat (first | exact HR0.out | (with_reducible refine Kd.C_alloc ?_ _) | (with_reducible refine Kd.C_drewN ?_ _) | (with_reducible refine Kd.C_drew ?_))); (case side2 => exact HC0.out); (case side3 => repeat (first | exact HR1.out | (with_reducible refine Kd.C_alloc ?_ _) | (with_reducible refine Kd.C_drewN ?_ _) | (with_reducible refine Kd.C_drew ?_))); (case side4 => exact HC1.out); rintro e w' ⟨rfl, ⟨nd, rfl⟩⟩; refine ⟨_, rfl, ?_⟩) | ((with_reducible refine gate_callee (f := 40) rfl ?_); refine goesL_ (some 56) rfl rfl Try.func40 (by kernel_rfl) rfl #[.slice A0 l0.length c0] rfl (by (try simp only [List.map_toArray, List.map_cons, List.map_nil]); first | done | rfl | (simp only [List.length_drop, List.length_take]; rfl)) ?_; (with_reducible refine (spec_DrawCountWithout.calls _ _ l0 t565 t566 _ ?side1 ?side2 A5.out).mono ?_); (case side1 => repeat (first | exact HR0.out | (with_reducible refine Kd.C_alloc ?_ _) | (with_reducible refine Kd.C_drewN ?_ _) | (with_reducible refine Kd.C_drew ?_))); (case side2 => exact HC0.out); rintro e w13 ⟨rfl, hb⟩; refine ⟨_, rfl, ?_⟩; have n0_ := Aside0.mk (below_step (by repeat (first | (with_reducible first | exact HB.out | apply below_alloc | apply pw_below_drewN | apply below_drew1) | exact HB.out)) hb); clear HB; have HB := n0_; clear n0_; (try clear hb); (try clear hb2); (try clear hk); (try clear hi)) | ((with_reducible refine gate_callee (f := 26) rfl ?_); refine goesL_ (some 62) rfl rfl Try.func26 (by kernel_rfl) rfl #[.int .i64 t565, .int .i64 t566] rfl (by (try simp only [List.map_toArray, List.map_cons, List.map_nil]); first | done | rfl | (simp only [List.length_drop, List.length_take]; rfl)) ?_; (with_reducible refine (impl_CountWithout.calls k t565 t566 t567 t568 _ A6.out).mono ?_); rintro e w14 ⟨rfl, hb⟩; refine ⟨_, rfl, ?_⟩; have n0_ := Aside0.mk (below_step (by repeat (first | (with_reducible first | exact HB.out | apply below_alloc | apply pw_below_drewN | apply below_drew1) | exact HB.out)) hb); clear HB; have HB := n0_; clear n0_; (try clear hb); (try clear hb2); (try clear hk); (try clear hi)) | ((with_reducible refine gate_callee (f := 27) rfl ?_); refine goesL_ (some 68) rfl rfl Try.func27 (by kernel_rfl) rfl #[.int .i64 t565, .int .i64 t566] rfl (by (try simp only [List.map_toArray, List.map_cons, List.map_nil]); first | done | rfl | (simp only [List.length_drop, List.length_take]; rfl)) ?_; (with_reducible refine (spec_CountWithout.calls k t565 t566 t569 t570 _ A7.out).mono ?_); rintro e w15 ⟨rfl, hb⟩; refine ⟨_, rfl, ?_⟩; have n0_ := Aside0.mk (below_step (by repeat (first | (with_reducible first | exact HB.out | apply below_alloc | apply pw_below_drewN | apply below_drew1) | exact HB.out)) hb); clear HB; have HB := n0_; clear n0_; (try clear hb); (try clear hb2); (try clear hk); (try clear hi)) | ((with_reducible refine gate_callee (f := 28) rfl ?_); refine goesL_ (some 73) rfl rfl Try.func28 (by kernel_rfl) rfl #[.int .i64 t565] rfl (by (try simp only [List.map_toArray, List.map_cons, List.map_nil]); first | done | rfl | (simp only [List.length_drop, List.length_take]; rfl)) ?_; (with_reducible refine (impl_CountPrimes.calls k t565 t571 t572 _ A8.out).mono ?_); rintro e w16 ⟨rfl, hb⟩; refine ⟨_, rfl, ?_⟩; have n0_ := Aside0.mk (below_step (by repeat (first | (with_reducible first | exact HB.out | apply below_alloc | apply pw_below_drewN | apply below_drew1) | exact HB.out)) hb); clear HB; have HB := n0_; clear n0_; (try clear hb); (try clear hb2); (try clear hk); (try clear hi)) | ((with_reducible refine gate_callee (f := 29) rfl ?_); refine goesL_ (some 78) rfl rfl Try.func29 (by kernel_rfl) rfl #[.int .i64 t565] rfl (by (try simp only [List.map_toArray, List.map_cons, List.map_nil]); first | done | rfl | (simp only [List.length_drop, List.length_take]; rfl)) ?_; (with_reducible refine (spec_CountPrimes.calls k t565 t573 t574 _ A9.out).mono ?_); rintro e w17 ⟨rfl, hb⟩; refine ⟨_, rfl, ?_⟩; have n0_ := Aside0.mk (below_step (by repeat (first | (with_reducible first | exact HB.out | apply below_alloc | apply pw_below_drewN | apply below_drew1) | exact HB.out)) hb); clear HB; have HB := n0_; clear n0_; (try clear hb); (try clear hb2); (try clear hk); (try clear hi)) | ((with_reducible refine gate_callee (f := 30) rfl ?_); refine goesL_ (some 83) rfl rfl Try.func30 (by kernel_rfl) rfl #[.int .i64 t566] rfl (by (try simp only [List.map_toArray, List.map_cons, List.map_nil]); first | done | rfl | (simp only [List.length_drop, List.length_take]; rfl)) ?_; (with_reducible refine (impl_RulesOfPrimes.calls k t566 t575 t576 _ A10.out).mono ?_); rintro e w18 ⟨v577, rfl, ho0, hb⟩; refine ⟨_, rfl, ?_⟩; have n0_ := Aside0.mk (Kd.R_lower ho0 (below_size (by repeat (first | (with_reducible first | exact HB.out | apply below_alloc | apply pw_below_drewN | apply below_drew1) | exact HB.out)))); have n1_ := Aside0.mk (below_step (by repeat (first | (with_reducible first | exact HB.out | apply below_alloc | apply pw_below_drewN | apply below_drew1) | exact HB.out)) hb); clear HB; have HO578 := n0_; have HB := n1_; clear n0_ n1_; (try clear hb); (try clear hb2); (try clear hk); (try clear hi); (try clear ho0)) | ((with_reducible refine gate_callee (f := 31) rfl ?_); refine goesL_ (some 88) rfl rfl Try.func31 (by kernel_rfl) rfl #[.int .i64 t566] rfl (by (try simp only [List.map_toArray, List.map_cons, List.map_nil]); first | done | rfl | (simp only [List.length_drop, List.length_take]; rfl)) ?_; (with_reducible refine (spec_RulesOfPrimes.calls k t566 t579 t580 _ A11.out).mono ?_); rintro e w19 ⟨v581, rfl, ho0, hb⟩; refine ⟨_, rfl, ?_⟩; have n0_ := Aside0.mk (Kd.R_elder' (by (with_reducible repeat (first | apply Kd.R_alloc | apply Kd.R_drewN | apply Kd.R_drew)); exact HO578.out) (Kd.R_base ho0) hb); have n1_ := Aside0.mk (Kd.R_lower (Kd.R_new' ho0 (Kd.R_lt (by (with_reducible repeat (first | apply Kd.R_alloc | apply Kd.R_drewN | apply Kd.R_drew)); exact HO578.out))) (below_size (by repeat (first | (with_reducible first | exact HB.out | apply below_alloc | apply pw_below_drewN | apply below_drew1) | exact HB.out)))); have n2_ := Aside0.mk (below_step (by repeat (first | (with_reducible first | exact HB.out | apply below_alloc | apply pw_below_drewN | apply below_drew1) | exact HB.out)) hb); clear HO578; clear HB; have HO578 := n0_; have HO582 := n1_; have HB := n2_; clear n0_ n1_ n2_; (try clear hb); (try clear hb2); (try clear hk); (try clear hi); (try clear ho0)))
    (try simp only [Act.put, List.setIfInBounds_toArray, List.set_cons_zero, List.set_cons_succ])
    go_cut [127] (fun v127 wc => ∃ (kq : Nat) (x127_11 : Bool), v127 = .bool x127_11 ∧ Aside0 (laws_FnPrimesCounted.j0 kq l1 t565 t566 t567 t568 t571 t572 t575 x127_11 = some r) ∧ Aside0 (kq ≤ k) ∧ Aside0 (Kd.R k71 71 wc w.heap.size (fun _ => True) v577 t575) ∧ Aside0 (Below w.heap.size w wc))
    case first =>
      as_aux_lemma =>
      have H := HC12.out
      clear HC12
      by_cases c20 : (t568 != t570) = true
      · as_aux_lemma =>
        rw [if_pos c20] at H
        have c20b0 : (t568 != t570) = true := c20
        (try (have c20b1 : decide (t568 = t570) = false := by simpa using c20))
        (try (have c20b2 : (t568 == t570) = false := by simpa using c20))
        (try (have c20b3 : ¬ (t568 = t570) := by simpa using c20))
        clear c20
        (first | rw [c20b0] | (simp only [i64_w, i32_w]; rw [c20b0]) | skip)
        have H' := Aside0.mk H
        clear H
        go_wp2
        go_meet
        case rel => exact ⟨_, (true), (by first | rfl | (simp; done) | (simp [*]; done)), H', ⟨by first | omega | exact Nat.le_refl _⟩, ⟨by (with_reducible repeat (first | apply Kd.R_alloc | apply Kd.R_drewN | apply Kd.R_drew)); exact Kd.R_mono HO578.out (fun _ hk => trivial)⟩, ⟨by repeat (first | (with_reducible first | exact HB.out | apply below_alloc | apply pw_below_drewN | apply below_drew1) | exact HB.out)⟩⟩
      · as_aux_lemma =>
        rw [if_neg c20] at H
        have c20b0 : (t568 != t570) = false := by simpa using c20
        (try (have c20b1 : decide (t568 = t570) = true := by simpa using c20))
        (try (have c20b2 : (t568 == t570) = true := by simpa using c20))
        clear c20
        (first | rw [c20b0] | (simp only [i64_w, i32_w]; rw [c20b0]) | skip)
        by_cases c21 : t567 = t569
        · as_aux_lemma =>
          rw [if_pos c21] at H
          have c21b0 : (t567 == t569) = true := beq_iff_eq.mpr c21
          have c21b1 : (t567 != t569) = false := bne_eq_false_iff_eq.mpr c21
          clear c21
          by_cases c22 : (t572 != t574) = true
          · as_aux_lemma =>
            rw [if_pos c22] at H
            have c22b0 : (t572 != t574) = true := c22
            (try (have c22b1 : decide (t572 = t574) = false := by simpa using c22))
            (try (have c22b2 : (t572 == t574) = false := by simpa using c22))
            (try (have c22b3 : ¬ (t572 = t574) := by simpa using c22))
            clear c22
            have H' := Aside0.mk H
            clear H
            go_wp2
            go_meet
            case rel => exact ⟨_, (true), (by first | rfl | (simp; done) | (simp [*]; done)), H', ⟨by first | omega | exact Nat.le_refl _⟩, ⟨by (with_reducible repeat (first | apply Kd.R_alloc | apply Kd.R_drewN | apply Kd.R_drew)); exact Kd.R_mono HO578.out (fun _ hk => trivial)⟩, ⟨by repeat (first | (with_reducible first | exact HB.out | apply below_alloc | apply pw_below_drewN | apply below_drew1) | exact HB.out)⟩⟩
          · as_aux_lemma =>
            rw [if_neg c22] at H
            have c22b0 : (t572 != t574) = false := by simpa using c22
            (try (have c22b1 : decide (t572 = t574) = true := by simpa using c22))
            (try (have c22b2 : (t572 == t574) = true := by simpa using c22))
            clear c22
            by_cases c23 : t571 = t573
            · as_aux_lemma =>
              rw [if_pos c23] at H
              have c23b0 : (t571 == t573) = true := beq_iff_eq.mpr c23
              have c23b1 : (t571 != t573) = false := bne_eq_false_iff_eq.mpr c23
              clear c23
              by_cases c24 : (t576 != t580) = true
              · as_aux_lemma =>
                rw [if_pos c24] at H
                have c24b0 : (t576 != t580) = true := c24
                (try (have c24b1 : decide (t576 = t580) = false := by simpa using c24))
                (try (have c24b2 : (t576 == t580) = false := by simpa using c24))
                (try (have c24b3 : ¬ (t576 = t580) := by simpa using c24))
                clear c24
                have H' := Aside0.mk H
                clear H
                go_wp2
                go_meet
                case rel => exact ⟨_, (true), (by first | rfl | (simp; done) | (simp [*]; done)), H', ⟨by first | omega | exact Nat.le_refl _⟩, ⟨by (with_reducible repeat (first | apply Kd.R_alloc | apply Kd.R_drewN | apply Kd.R_drew)); exact Kd.R_mono HO578.out (fun _ hk => trivial)⟩, ⟨by repeat (first | (with_reducible first | exact HB.out | apply below_alloc | apply pw_below_drewN | apply below_drew1) | exact HB.out)⟩⟩
              · as_aux_lemma =>
                rw [if_neg c24] at H
                have c24b0 : (t576 != t580) = false := by simpa using c24
                (try (have c24b1 : decide (t576 = t580) = true := by simpa using c24))
                (try (have c24b2 : (t576 == t580) = true := by simpa using c24))
                clear c24
                replace H := Option.bind_eq_some_iff.mp H
                obtain ⟨t583, A250, H⟩ := H
                replace H : (if t583 = true then (if t572 = true then (laws_FnPrimesCounted.j0 k l1 t565 t566 t567 t568 t571 t572 t575 (t568 != t576)) else (laws_FnPrimesCounted.j0 k l1 t565 t566 t567 t568 t571 t572 t575 (t568 != false))) else (laws_FnPrimesCounted.j0 k l1 t565 t566 t567 t568 t571 t572 t575 true)) = some r := H
                have A25 := Aside0.mk A250
                clear A250
                by_cases c26 : t583 = true
                · subst c26
                  have H1 : (if t572 = true then (laws_FnPrimesCounted.j0 k l1 t565 t566 t567 t568 t571 t572 t575 (t568 != t576)) else (laws_FnPrimesCounted.j0 k l1 t565 t566 t567 t568 t571 t572 t575 (t568 != false))) = some r := by rw [if_pos rfl] at H; exact H
                  clear H
                  have H := H1
                  clear H1
                  by_cases c27 : t572 = true
                  · subst c27
                    have H1 : (laws_FnPrimesCounted.j0 k l1 t565 t566 t567 t568 t571 true t575 (t568 != t576)) = some r := by rw [if_pos rfl] at H; exact H
                    clear H
                    have H := H1
                    clear H1
                    have H' := Aside0.mk H
                    clear H
                    obtain ⟨Ao28, co28, eo28⟩ := Kd.R_slice HO578.out
                    subst eo28
                    obtain ⟨Ao29, co29, eo29⟩ := Kd.R_slice HO582.out
                    subst eo29
                    go_wp2_with (first | (go_at_call 32; (with_reducible refine (laws_gRules.calls k _ _ t575 _ _ t579 true _ ?side1 ?side2 ?side3 ?side4 A25.out).mono ?_); (case side1 => repeat (first | exact (Kd.R_reads' HO578.out).2.2 | (with_reducible refine Kd.C_alloc ?_ _) | (with_reducible refine Kd.C_drewN ?_ _) | (with_reducible refine Kd.C_drew ?_))); (case side2 => exact (Kd.R_reads' HO578.out).2.1); (case side3 => repeat (first | exact (Kd.R_reads' HO582.out).2.2 | (with_reducible refine Kd.C_alloc ?_ _) | (with_reducible refine Kd.C_drewN ?_ _) | (with_reducible refine Kd.C_drew ?_))); (case side4 => exact (Kd.R_reads' HO582.out).2.1); rintro e w' ⟨rfl, ⟨nd, rfl⟩⟩))
                    go_meet
                    case rel => exact ⟨_, ((t568 != t576)), (by first | rfl | (simp; done) | (simp [*]; done)), H', ⟨by first | omega | exact Nat.le_refl _⟩, ⟨by (with_reducible repeat (first | apply Kd.R_alloc | apply Kd.R_drewN | apply Kd.R_drew)); exact Kd.R_mono HO578.out (fun _ hk => trivial)⟩, ⟨by repeat (first | (with_reducible first | exact HB.out | apply below_alloc | apply pw_below_drewN | apply below_drew1) | exact HB.out)⟩⟩
                  · replace c27 := Bool.eq_false_iff.mpr c27
                    subst c27
                    have H1 : (laws_FnPrimesCounted.j0 k l1 t565 t566 t567 t568 t571 false t575 (t568 != false)) = some r := by rw [if_neg (show ¬ (false = true) by decide)] at H; exact H
                    clear H
                    have H := H1
                    clear H1
                    have H' := Aside0.mk H
                    clear H
                    obtain ⟨Ao30, co30, eo30⟩ := Kd.R_slice HO578.out
                    subst eo30
                    obtain ⟨Ao31, co31, eo31⟩ := Kd.R_slice HO582.out
                    subst eo31
                    go_wp2_with (first | (go_at_call 32; (with_reducible refine (laws_gRules.calls k _ _ t575 _ _ t579 true _ ?side1 ?side2 ?side3 ?side4 A25.out).mono ?_); (case side1 => repeat (first | exact (Kd.R_reads' HO578.out).2.2 | (with_reducible refine Kd.C_alloc ?_ _) | (with_reducible refine Kd.C_drewN ?_ _) | (with_reducible refine Kd.C_drew ?_))); (case side2 => exact (Kd.R_reads' HO578.out).2.1); (case side3 => repeat (first | exact (Kd.R_reads' HO582.out).2.2 | (with_reducible refine Kd.C_alloc ?_ _) | (with_reducible refine Kd.C_drewN ?_ _) | (with_reducible refine Kd.C_drew ?_))); (case side4 => exact (Kd.R_reads' HO582.out).2.1); rintro e w' ⟨rfl, ⟨nd, rfl⟩⟩))
                    go_meet
                    case rel => exact ⟨_, ((t568 != false)), (by first | rfl | (simp; done) | (simp [*]; done)), H', ⟨by first | omega | exact Nat.le_refl _⟩, ⟨by (with_reducible repeat (first | apply Kd.R_alloc | apply Kd.R_drewN | apply Kd.R_drew)); exact Kd.R_mono HO578.out (fun _ hk => trivial)⟩, ⟨by repeat (first | (with_reducible first | exact HB.out | apply below_alloc | apply pw_below_drewN | apply below_drew1) | exact HB.out)⟩⟩
                · replace c26 := Bool.eq_false_iff.mpr c26
                  subst c26
                  have H1 : (laws_FnPrimesCounted.j0 k l1 t565 t566 t567 t568 t571 t572 t575 true) = some r := by rw [if_neg (show ¬ (false = true) by decide)] at H; exact H
                  clear H
                  have H := H1
                  clear H1
                  have H' := Aside0.mk H
                  clear H
                  obtain ⟨Ao32, co32, eo32⟩ := Kd.R_slice HO578.out
                  subst eo32
                  obtain ⟨Ao33, co33, eo33⟩ := Kd.R_slice HO582.out
                  subst eo33
                  go_wp2_with (first | (go_at_call 32; (with_reducible refine (laws_gRules.calls k _ _ t575 _ _ t579 false _ ?side1 ?side2 ?side3 ?side4 A25.out).mono ?_); (case side1 => repeat (first | exact (Kd.R_reads' HO578.out).2.2 | (with_reducible refine Kd.C_alloc ?_ _) | (with_reducible refine Kd.C_drewN ?_ _) | (with_reducible refine Kd.C_drew ?_))); (case side2 => exact (Kd.R_reads' HO578.out).2.1); (case side3 => repeat (first | exact (Kd.R_reads' HO582.out).2.2 | (with_reducible refine Kd.C_alloc ?_ _) | (with_reducible refine Kd.C_drewN ?_ _) | (with_reducible refine Kd.C_drew ?_))); (case side4 => exact (Kd.R_reads' HO582.out).2.1); rintro e w' ⟨rfl, ⟨nd, rfl⟩⟩))
                  go_meet
                  case rel => exact ⟨_, (true), (by first | rfl | (simp; done) | (simp [*]; done)), H', ⟨by first | omega | exact Nat.le_refl _⟩, ⟨by (with_reducible repeat (first | apply Kd.R_alloc | apply Kd.R_drewN | apply Kd.R_drew)); exact Kd.R_mono HO578.out (fun _ hk => trivial)⟩, ⟨by repeat (first | (with_reducible first | exact HB.out | apply below_alloc | apply pw_below_drewN | apply below_drew1) | exact HB.out)⟩⟩
            · as_aux_lemma =>
              rw [if_neg c23] at H
              have c23b0 : (t571 == t573) = false := beq_eq_false_iff_ne.mpr c23
              have c23b1 : (t571 != t573) = true := bne_iff_ne.mpr c23
              have H' := Aside0.mk H
              clear H
              go_wp2
              go_meet
              case rel => exact ⟨_, (true), (by first | rfl | (simp; done) | (simp [*]; done)), H', ⟨by first | omega | exact Nat.le_refl _⟩, ⟨by (with_reducible repeat (first | apply Kd.R_alloc | apply Kd.R_drewN | apply Kd.R_drew)); exact Kd.R_mono HO578.out (fun _ hk => trivial)⟩, ⟨by repeat (first | (with_reducible first | exact HB.out | apply below_alloc | apply pw_below_drewN | apply below_drew1) | exact HB.out)⟩⟩
        · as_aux_lemma =>
          rw [if_neg c21] at H
          have c21b0 : (t567 == t569) = false := beq_eq_false_iff_ne.mpr c21
          have c21b1 : (t567 != t569) = true := bne_iff_ne.mpr c21
          have H' := Aside0.mk H
          clear H
          go_wp2
          go_meet
          case rel => exact ⟨_, (true), (by first | rfl | (simp; done) | (simp [*]; done)), H', ⟨by first | omega | exact Nat.le_refl _⟩, ⟨by (with_reducible repeat (first | apply Kd.R_alloc | apply Kd.R_drewN | apply Kd.R_drew)); exact Kd.R_mono HO578.out (fun _ hk => trivial)⟩, ⟨by repeat (first | (with_reducible first | exact HB.out | apply below_alloc | apply pw_below_drewN | apply below_drew1) | exact HB.out)⟩⟩
    case rest =>
      as_aux_lemma =>
      clear HC12
      try clear c1
      try clear c2
      try clear p2
      try clear c3
      try clear c4
      try clear c6
      try clear c20
      try clear c20b0
      try clear c20b1
      try clear c20b2
      try clear c21
      try clear c21b0
      try clear c21b1
      try clear c22
      try clear c22b0
      try clear c22b1
      try clear c22b2
      try clear c23
      try clear c23b0
      try clear c23b1
      try clear c24
      try clear c24b0
      try clear c24b1
      try clear c24b2
      try clear c26
      try clear c27
      try clear c28
      try clear c29
      try clear c30
      try clear c31
      obtain ⟨kq, x127_11, rfl, HA, HJ11, HO_15, HB⟩ := hcut
      cases kq with
      | zero => exact absurd HA.out (by simp [laws_FnPrimesCounted.j0])
      | succ kj11 =>
        have H := HA.out
        clear HA
        simp only [laws_FnPrimesCounted.j0] at H
        by_cases c34 : x127_11 = true
        · subst c34
          have H1 : (some false) = some r := by rw [if_pos rfl] at H; exact H
          clear H
          have H := H1
          clear H1
          obtain rfl := Option.some.inj H
          go_wp2
          go_ret
          exact ⟨by first | rfl | (simp [errW_none, errW_some] <;> rfl) | (simp [*, errW_none, errW_some] <;> rfl), by repeat (first | (with_reducible first | exact HB.out | apply below_alloc | apply pw_below_drewN | apply below_drew1) | exact HB.out)⟩
        · replace c34 := Bool.eq_false_iff.mpr c34
          subst c34
          have H1 : (if t568 = true then (laws_FnPrimesCounted.j1 kj11 l1 t565 t566 t567 t571 t572 t575 (decide (t565 ≤ 600))) else (laws_FnPrimesCounted.j1 kj11 l1 t565 t566 t567 t571 t572 t575 false)) = some r := by rw [if_neg (show ¬ (false = true) by decide)] at H; exact H
          clear H
          have H := H1
          clear H1
          have HC35 := Aside0.mk H
          clear H
          go_upto_region 12 with (fail)
          go_cut [132] (fun v132 wc => ∃ (kq : Nat) (x132_34 : Bool), v132 = .bool x132_34 ∧ Aside0 (laws_FnPrimesCounted.j1 kq l1 t565 t566 t567 t571 t572 t575 x132_34 = some r) ∧ Aside0 (kq ≤ kj11) ∧ Aside0 (Kd.R k71 71 wc w.heap.size (fun _ => True) v577 t575) ∧ Aside0 (Below w.heap.size w wc))
          case first =>
            as_aux_lemma =>
            have H := HC35.out
            clear HC35
            by_cases c36 : t568 = true
            · subst c36
              have H1 : (laws_FnPrimesCounted.j1 kj11 l1 t565 t566 t567 t571 t572 t575 (decide (t565 ≤ 600))) = some r := by rw [if_pos rfl] at H; exact H
              clear H
              have H := H1
              clear H1
              have H' := Aside0.mk H
              clear H
              go_wp2
              go_meet
              case rel => exact ⟨_, (decide (t565 ≤ 600)), (by first | rfl | (simp; done) | (simp [*]; done)), H', ⟨by have := HJ11.out; first | omega | exact Nat.le_refl _⟩, ⟨by (with_reducible repeat (first | apply Kd.R_alloc | apply Kd.R_drewN | apply Kd.R_drew)); exact HO_15.out⟩, ⟨by repeat (first | (with_reducible first | exact HB.out | apply below_alloc | apply pw_below_drewN | apply below_drew1) | exact HB.out)⟩⟩
            · replace c36 := Bool.eq_false_iff.mpr c36
              subst c36
              have H1 : (laws_FnPrimesCounted.j1 kj11 l1 t565 t566 t567 t571 t572 t575 false) = some r := by rw [if_neg (show ¬ (false = true) by decide)] at H; exact H
              clear H
              have H := H1
              clear H1
              have H' := Aside0.mk H
              clear H
              go_wp2
              go_meet
              case rel => exact ⟨_, (false), (by first | rfl | (simp; done) | (simp [*]; done)), H', ⟨by have := HJ11.out; first | omega | exact Nat.le_refl _⟩, ⟨by (with_reducible repeat (first | apply Kd.R_alloc | apply Kd.R_drewN | apply Kd.R_drew)); exact HO_15.out⟩, ⟨by repeat (first | (with_reducible first | exact HB.out | apply below_alloc | apply pw_below_drewN | apply below_drew1) | exact HB.out)⟩⟩
          case rest =>
            as_aux_lemma =>
            clear HC35
            try clear c1
            try clear c2
            try clear p2
            try clear c3
            try clear c4
            try clear c6
            try clear c20
            try clear c20b0
            try clear c20b1
            try clear c20b2
            try clear c21
            try clear c21b0
            try clear c21b1
            try clear c22
            try clear c22b0
            try clear c22b1
            try clear c22b2
            try clear c23
            try clear c23b0
            try clear c23b1
            try clear c24
            try clear c24b0
            try clear c24b1
            try clear c24b2
            try clear c26
            try clear c27
            try clear c28
            try clear c29
            try clear c30
            try clear c31
            try clear c34
            try clear c36
            try clear p2
            obtain ⟨kq, x132_34, rfl, HA, HJ34, HO_15, HB⟩ := hcut
            cases kq with
            | zero => exact absurd HA.out (by simp [laws_FnPrimesCounted.j1])
            | succ kj34 =>
              have H := HA.out
              clear HA
              simp only [laws_FnPrimesCounted.j1] at H
              have HC37 := Aside0.mk H
              clear H
              go_upto_if 132 with (fail)
              go_cut [] (fun wc => ∃ (kq : Nat), Aside0 (laws_FnPrimesCounted.j2 kq l1 t565 t571 t572 = some r) ∧ Aside0 (kq ≤ kj34) ∧ Aside0 (Below w.heap.size w wc))
              case first =>
                as_aux_lemma =>
                have H := HC37.out
                clear HC37
                by_cases c38 : x132_34 = true
                · subst c38
                  have H1 : ((impl_CountLeft.f kj34 t575 t565).bind fun bt584 => (if bt584.2 = true then (if bt584.1 = t567 then (if (t575.length : Int) = t566 then (laws_FnPrimesCounted.j2 kj34 l1 t565 t571 t572) else (some false)) else (some false)) else (some false))) = some r := by rw [if_pos rfl] at H; exact H
                  clear H
                  have H := H1
                  clear H1
                  replace H := Option.bind_eq_some_iff.mp H
                  obtain ⟨⟨t584, t585⟩, A390, H⟩ := H
                  replace H : (if t585 = true then (if t584 = t567 then (if (t575.length : Int) = t566 then (laws_FnPrimesCounted.j2 kj34 l1 t565 t571 t572) else (some false)) else (some false)) else (some false)) = some r := H
                  have A39 := Aside0.mk A390
                  clear A390
                  by_cases c40 : t585 = true
                  · subst c40
                    have H1 : (if t584 = t567 then (if (t575.length : Int) = t566 then (laws_FnPrimesCounted.j2 kj34 l1 t565 t571 t572) else (some false)) else (some false)) = some r := by rw [if_pos rfl] at H; exact H
                    clear H
                    have H := H1
                    clear H1
                    by_cases c41 : t584 = t567
                    · as_aux_lemma =>
                      rw [if_pos c41] at H
                      have c41b0 : (t584 == t567) = true := beq_iff_eq.mpr c41
                      have c41b1 : (t584 != t567) = false := bne_eq_false_iff_eq.mpr c41
                      clear c41
                      (first | rw [c41b0] | (simp only [i64_w, i32_w]; rw [c41b0]) | skip)
                      by_cases c42 : (t575.length : Int) = t566
                      · as_aux_lemma =>
                        rw [if_pos c42] at H
                        have c42b0 : ((t575.length : Int) == t566) = true := beq_iff_eq.mpr c42
                        have c42b1 : ((t575.length : Int) != t566) = false := bne_eq_false_iff_eq.mpr c42
                        clear c42
                        have H' := Aside0.mk H
                        clear H
                        obtain ⟨Ao43, co43, eo43⟩ := Kd.R_slice HO_15.out
                        subst eo43
                        go_wp2_with (first | ((with_reducible refine gate_callee (f := 33) rfl ?_); refine goesL_ (some 136) rfl rfl Try.func33 (by kernel_rfl) rfl #[.slice Ao43 t575.length co43, .int .i64 t565] rfl (by (try simp only [List.map_toArray, List.map_cons, List.map_nil]); first | done | rfl | (simp only [List.length_drop, List.length_take]; rfl)) ?_; (with_reducible refine (impl_CountLeft.calls kj34 _ _ t575 t565 t584 true _ ?side1 ?side2 A39.out).mono ?_); (case side1 => repeat (first | exact (Kd.R_reads' HO_15.out).2.2 | (with_reducible refine Kd.C_alloc ?_ _) | (with_reducible refine Kd.C_drewN ?_ _) | (with_reducible refine Kd.C_drew ?_))); (case side2 => exact (Kd.R_reads' HO_15.out).2.1); rintro e w44 ⟨rfl, hb⟩; refine ⟨_, rfl, ?_⟩; have n0_ := Aside0.mk (Kd.R_below (by (with_reducible repeat (first | apply Kd.R_alloc | apply Kd.R_drewN | apply Kd.R_drew)); exact HO_15.out) hb); have n1_ := Aside0.mk (below_step (by repeat (first | (with_reducible first | exact HB.out | apply below_alloc | apply pw_below_drewN | apply below_drew1) | exact HB.out)) hb); clear HO_15; clear HB; have HO_15 := n0_; have HB := n1_; clear n0_ n1_; (try clear hb); (try clear hb2); (try clear hk); (try clear hi)))
                        go_meet
                        case rel => exact ⟨_, H', ⟨by have := HJ11.out; have := HJ34.out; first | omega | exact Nat.le_refl _⟩, ⟨by repeat (first | (with_reducible first | exact HB.out | apply below_alloc | apply pw_below_drewN | apply below_drew1) | exact HB.out)⟩⟩
                      · as_aux_lemma =>
                        rw [if_neg c42] at H
                        have c42b0 : ((t575.length : Int) == t566) = false := beq_eq_false_iff_ne.mpr c42
                        have c42b1 : ((t575.length : Int) != t566) = true := bne_iff_ne.mpr c42
                        obtain rfl := Option.some.inj H
                        obtain ⟨Ao45, co45, eo45⟩ := Kd.R_slice HO_15.out
                        subst eo45
                        go_wp2_with (first | ((with_reducible refine gate_callee (f := 33) rfl ?_); refine goesL_ (some 136) rfl rfl Try.func33 (by kernel_rfl) rfl #[.slice Ao45 t575.length co45, .int .i64 t565] rfl (by (try simp only [List.map_toArray, List.map_cons, List.map_nil]); first | done | rfl | (simp only [List.length_drop, List.length_take]; rfl)) ?_; (with_reducible refine (impl_CountLeft.calls kj34 _ _ t575 t565 t584 true _ ?side1 ?side2 A39.out).mono ?_); (case side1 => repeat (first | exact (Kd.R_reads' HO_15.out).2.2 | (with_reducible refine Kd.C_alloc ?_ _) | (with_reducible refine Kd.C_drewN ?_ _) | (with_reducible refine Kd.C_drew ?_))); (case side2 => exact (Kd.R_reads' HO_15.out).2.1); rintro e w46 ⟨rfl, hb⟩; refine ⟨_, rfl, ?_⟩; have n0_ := Aside0.mk (Kd.R_below (by (with_reducible repeat (first | apply Kd.R_alloc | apply Kd.R_drewN | apply Kd.R_drew)); exact HO_15.out) hb); have n1_ := Aside0.mk (below_step (by repeat (first | (with_reducible first | exact HB.out | apply below_alloc | apply pw_below_drewN | apply below_drew1) | exact HB.out)) hb); clear HO_15; clear HB; have HO_15 := n0_; have HB := n1_; clear n0_ n1_; (try clear hb); (try clear hb2); (try clear hk); (try clear hi)))
                        go_ret
                        exact ⟨by first | rfl | (simp [errW_none, errW_some] <;> rfl) | (simp [*, errW_none, errW_some] <;> rfl), by repeat (first | (with_reducible first | exact HB.out | apply below_alloc | apply pw_below_drewN | apply below_drew1) | exact HB.out)⟩
                    · as_aux_lemma =>
                      rw [if_neg c41] at H
                      have c41b0 : (t584 == t567) = false := beq_eq_false_iff_ne.mpr c41
                      have c41b1 : (t584 != t567) = true := bne_iff_ne.mpr c41
                      (first | rw [c41b0] | (simp only [i64_w, i32_w]; rw [c41b0]) | skip)
                      obtain rfl := Option.some.inj H
                      obtain ⟨Ao47, co47, eo47⟩ := Kd.R_slice HO_15.out
                      subst eo47
                      go_wp2_with (first | ((with_reducible refine gate_callee (f := 33) rfl ?_); refine goesL_ (some 136) rfl rfl Try.func33 (by kernel_rfl) rfl #[.slice Ao47 t575.length co47, .int .i64 t565] rfl (by (try simp only [List.map_toArray, List.map_cons, List.map_nil]); first | done | rfl | (simp only [List.length_drop, List.length_take]; rfl)) ?_; (with_reducible refine (impl_CountLeft.calls kj34 _ _ t575 t565 t584 true _ ?side1 ?side2 A39.out).mono ?_); (case side1 => repeat (first | exact (Kd.R_reads' HO_15.out).2.2 | (with_reducible refine Kd.C_alloc ?_ _) | (with_reducible refine Kd.C_drewN ?_ _) | (with_reducible refine Kd.C_drew ?_))); (case side2 => exact (Kd.R_reads' HO_15.out).2.1); rintro e w48 ⟨rfl, hb⟩; refine ⟨_, rfl, ?_⟩; have n0_ := Aside0.mk (Kd.R_below (by (with_reducible repeat (first | apply Kd.R_alloc | apply Kd.R_drewN | apply Kd.R_drew)); exact HO_15.out) hb); have n1_ := Aside0.mk (below_step (by repeat (first | (with_reducible first | exact HB.out | apply below_alloc | apply pw_below_drewN | apply below_drew1) | exact HB.out)) hb); clear HO_15; clear HB; have HO_15 := n0_; have HB := n1_; clear n0_ n1_; (try clear hb); (try clear hb2); (try clear hk); (try clear hi)))
                      go_ret
                      exact ⟨by first | rfl | (simp [errW_none, errW_some] <;> rfl) | (simp [*, errW_none, errW_some] <;> rfl), by repeat (first | (with_reducible first | exact HB.out | apply below_alloc | apply pw_below_drewN | apply below_drew1) | exact HB.out)⟩
                  · replace c40 := Bool.eq_false_iff.mpr c40
                    subst c40
                    have H1 : (some false) = some r := by rw [if_neg (show ¬ (false = true) by decide)] at H; exact H
                    clear H
                    have H := H1
                    clear H1
                    obtain rfl := Option.some.inj H
                    obtain ⟨Ao49, co49, eo49⟩ := Kd.R_slice HO_15.out
                    subst eo49
                    go_wp2_with (first | ((with_reducible refine gate_callee (f := 33) rfl ?_); refine goesL_ (some 136) rfl rfl Try.func33 (by kernel_rfl) rfl #[.slice Ao49 t575.length co49, .int .i64 t565] rfl (by (try simp only [List.map_toArray, List.map_cons, List.map_nil]); first | done | rfl | (simp only [List.length_drop, List.length_take]; rfl)) ?_; (with_reducible refine (impl_CountLeft.calls kj34 _ _ t575 t565 t584 false _ ?side1 ?side2 A39.out).mono ?_); (case side1 => repeat (first | exact (Kd.R_reads' HO_15.out).2.2 | (with_reducible refine Kd.C_alloc ?_ _) | (with_reducible refine Kd.C_drewN ?_ _) | (with_reducible refine Kd.C_drew ?_))); (case side2 => exact (Kd.R_reads' HO_15.out).2.1); rintro e w50 ⟨rfl, hb⟩; refine ⟨_, rfl, ?_⟩; have n0_ := Aside0.mk (Kd.R_below (by (with_reducible repeat (first | apply Kd.R_alloc | apply Kd.R_drewN | apply Kd.R_drew)); exact HO_15.out) hb); have n1_ := Aside0.mk (below_step (by repeat (first | (with_reducible first | exact HB.out | apply below_alloc | apply pw_below_drewN | apply below_drew1) | exact HB.out)) hb); clear HO_15; clear HB; have HO_15 := n0_; have HB := n1_; clear n0_ n1_; (try clear hb); (try clear hb2); (try clear hk); (try clear hi)))
                    go_ret
                    exact ⟨by first | rfl | (simp [errW_none, errW_some] <;> rfl) | (simp [*, errW_none, errW_some] <;> rfl), by repeat (first | (with_reducible first | exact HB.out | apply below_alloc | apply pw_below_drewN | apply below_drew1) | exact HB.out)⟩
                · replace c38 := Bool.eq_false_iff.mpr c38
                  subst c38
                  have H1 : (laws_FnPrimesCounted.j2 kj34 l1 t565 t571 t572) = some r := by rw [if_neg (show ¬ (false = true) by decide)] at H; exact H
                  clear H
                  have H := H1
                  clear H1
                  have H' := Aside0.mk H
                  clear H
                  go_wp2
                  go_meet
                  case rel => exact ⟨_, H', ⟨by have := HJ11.out; have := HJ34.out; first | omega | exact Nat.le_refl _⟩, ⟨by repeat (first | (with_reducible first | exact HB.out | apply below_alloc | apply pw_below_drewN | apply below_drew1) | exact HB.out)⟩⟩
              case rest =>
                as_aux_lemma =>
                clear HC37
                try clear c1
                try clear c2
                try clear p2
                try clear c3
                try clear c4
                try clear c6
                try clear c20
                try clear c20b0
                try clear c20b1
                try clear c20b2
                try clear c21
                try clear c21b0
                try clear c21b1
                try clear c22
                try clear c22b0
                try clear c22b1
                try clear c22b2
                try clear c23
                try clear c23b0
                try clear c23b1
                try clear c24
                try clear c24b0
                try clear c24b1
                try clear c24b2
                try clear c26
                try clear c27
                try clear c28
                try clear c29
                try clear c30
                try clear c31
                try clear c33
                try clear c34
                try clear c36
                try clear c38
                try clear c40
                try clear c41
                try clear c41b0
                try clear c41b1
                try clear c42
                try clear c42b0
                try clear c42b1
                try clear p2
                obtain ⟨kq, HA, HJ36, HB⟩ := hcut
                cases kq with
                | zero => exact absurd HA.out (by simp [laws_FnPrimesCounted.j2])
                | succ kj36 =>
                  have H := HA.out
                  clear HA
                  simp only [laws_FnPrimesCounted.j2] at H
                  have HC51 := Aside0.mk H
                  clear H
                  go_upto_region 16 with (fail)
                  go_cut [156] (fun v156 wc => ∃ (kq : Nat) (x156_50 : Bool), v156 = .bool x156_50 ∧ Aside0 (laws_FnPrimesCounted.j3 kq l1 t565 t571 x156_50 = some r) ∧ Aside0 (kq ≤ kj36) ∧ Aside0 (Below w.heap.size w wc))
                  case first =>
                    as_aux_lemma =>
                    have H := HC51.out
                    clear HC51
                    by_cases c52 : t572 = true
                    · subst c52
                      have H1 : (laws_FnPrimesCounted.j3 kj36 l1 t565 t571 (decide (t565 ≤ 2000))) = some r := by rw [if_pos rfl] at H; exact H
                      clear H
                      have H := H1
                      clear H1
                      have H' := Aside0.mk H
                      clear H
                      go_wp2
                      go_meet
                      case rel => exact ⟨_, (decide (t565 ≤ 2000)), (by first | rfl | (simp; done) | (simp [*]; done)), H', ⟨by have := HJ11.out; have := HJ34.out; have := HJ36.out; first | omega | exact Nat.le_refl _⟩, ⟨by repeat (first | (with_reducible first | exact HB.out | apply below_alloc | apply pw_below_drewN | apply below_drew1) | exact HB.out)⟩⟩
                    · replace c52 := Bool.eq_false_iff.mpr c52
                      subst c52
                      have H1 : (laws_FnPrimesCounted.j3 kj36 l1 t565 t571 false) = some r := by rw [if_neg (show ¬ (false = true) by decide)] at H; exact H
                      clear H
                      have H := H1
                      clear H1
                      have H' := Aside0.mk H
                      clear H
                      go_wp2
                      go_meet
                      case rel => exact ⟨_, (false), (by first | rfl | (simp; done) | (simp [*]; done)), H', ⟨by have := HJ11.out; have := HJ34.out; have := HJ36.out; first | omega | exact Nat.le_refl _⟩, ⟨by repeat (first | (with_reducible first | exact HB.out | apply below_alloc | apply pw_below_drewN | apply below_drew1) | exact HB.out)⟩⟩
                  case rest =>
                    as_aux_lemma =>
                    clear HC51
                    try clear c1
                    try clear c2
                    try clear p2
                    try clear c3
                    try clear c4
                    try clear c5
                    try clear c6
                    try clear c20
                    try clear c20b0
                    try clear c20b1
                    try clear c20b2
                    try clear c21
                    try clear c21b0
                    try clear c21b1
                    try clear c22
                    try clear c22b0
                    try clear c22b1
                    try clear c22b2
                    try clear c23
                    try clear c23b0
                    try clear c23b1
                    try clear c24
                    try clear c24b0
                    try clear c24b1
                    try clear c24b2
                    try clear c26
                    try clear c27
                    try clear c28
                    try clear c29
                    try clear c30
                    try clear c31
                    try clear c33
                    try clear c34
                    try clear c36
                    try clear c38
                    try clear c40
                    try clear c41
                    try clear c41b0
                    try clear c41b1
                    try clear c42
                    try clear c42b0
                    try clear c42b1
                    try clear c52
                    try clear p2
                    obtain ⟨kq, x156_50, rfl, HA, HJ50, HB⟩ := hcut
                    cases kq with
                    | zero => exact absurd HA.out (by simp [laws_FnPrimesCounted.j3])
                    | succ kj50 =>
                      have H := HA.out
                      clear HA
                      simp only [laws_FnPrimesCounted.j3] at H
                      have HC53 := Aside0.mk H
                      clear H
                      go_upto_if 156 with (fail)
                      go_cut [] (fun wc => ∃ (kq : Nat), Aside0 (laws_FnPrimesCounted.j6 kq l1 = some r) ∧ Aside0 (kq ≤ kj50) ∧ Aside0 (Below w.heap.size w wc))
                      case first =>
                        as_aux_lemma =>
                        have H := HC53.out
                        clear HC53
                        by_cases c54 : x156_50 = true
                        · subst c54
                          have H1 : ((impl_PrimesBetween.f kj50 0 t565).bind fun bt586 => (if bt586.2 = true then (laws_FnPrimesCounted.j4 kj50 l1 t565 t571 ((bt586.1.length : Int) != t571)) else (laws_FnPrimesCounted.j4 kj50 l1 t565 t571 true))) = some r := by rw [if_pos rfl] at H; exact H
                          clear H
                          have H := H1
                          clear H1
                          replace H := Option.bind_eq_some_iff.mp H
                          obtain ⟨⟨t586, t587⟩, A550, H⟩ := H
                          replace H : (if t587 = true then (laws_FnPrimesCounted.j4 kj50 l1 t565 t571 ((t586.length : Int) != t571)) else (laws_FnPrimesCounted.j4 kj50 l1 t565 t571 true)) = some r := H
                          have A55 := Aside0.mk A550
                          clear A550
                          have HC56 := Aside0.mk H
                          clear H
                          go_upto_region 18 with (first | ((with_reducible refine gate_callee (f := 34) rfl ?_); refine goesL_ (some 159) rfl rfl Try.func34 (by kernel_rfl) rfl #[.int .i64 0, .int .i64 t565] rfl (by (try simp only [List.map_toArray, List.map_cons, List.map_nil]); first | done | rfl | (simp only [List.length_drop, List.length_take]; rfl)) ?_; (with_reducible refine (impl_PrimesBetween.calls kj50 0 t565 t586 t587 _ A55.out).mono ?_); rintro e w57 ⟨v588, rfl, ho0, hb⟩; refine ⟨_, rfl, ?_⟩; have n0_ := Aside0.mk (Kd.R_lower ho0 (below_size (by repeat (first | (with_reducible first | exact HB.out | apply below_alloc | apply pw_below_drewN | apply below_drew1) | exact HB.out)))); have n1_ := Aside0.mk (below_step (by repeat (first | (with_reducible first | exact HB.out | apply below_alloc | apply pw_below_drewN | apply below_drew1) | exact HB.out)) hb); clear HB; have HO589 := n0_; have HB := n1_; clear n0_ n1_; (try clear hb); (try clear hb2); (try clear hk); (try clear hi); (try clear ho0)))
                          (try simp only [Act.put, List.setIfInBounds_toArray, List.set_cons_zero, List.set_cons_succ])
                          go_cut [169] (fun v169 wc => ∃ (kq : Nat) (x169_55 : Bool), v169 = .bool x169_55 ∧ Aside0 (laws_FnPrimesCounted.j4 kq l1 t565 t571 x169_55 = some r) ∧ Aside0 (kq ≤ kj50) ∧ Aside0 (Below w.heap.size w wc))
                          case first =>
                            as_aux_lemma =>
                            have H := HC56.out
                            clear HC56
                            by_cases c58 : t587 = true
                            · subst c58
                              have H1 : (laws_FnPrimesCounted.j4 kj50 l1 t565 t571 ((t586.length : Int) != t571)) = some r := by rw [if_pos rfl] at H; exact H
                              clear H
                              have H := H1
                              clear H1
                              have H' := Aside0.mk H
                              clear H
                              obtain ⟨Ao59, co59, eo59⟩ := Kd.R_slice HO589.out
                              subst eo59
                              go_wp2
                              go_meet
                              case rel => exact ⟨_, (((t586.length : Int) != t571)), (by first | rfl | (simp; done) | (simp [*]; done)), H', ⟨by have := HJ11.out; have := HJ34.out; have := HJ36.out; have := HJ50.out; first | omega | exact Nat.le_refl _⟩, ⟨by repeat (first | (with_reducible first | exact HB.out | apply below_alloc | apply pw_below_drewN | apply below_drew1) | exact HB.out)⟩⟩
                            · replace c58 := Bool.eq_false_iff.mpr c58
                              subst c58
                              have H1 : (laws_FnPrimesCounted.j4 kj50 l1 t565 t571 true) = some r := by rw [if_neg (show ¬ (false = true) by decide)] at H; exact H
                              clear H
                              have H := H1
                              clear H1
                              have H' := Aside0.mk H
                              clear H
                              go_wp2
                              go_meet
                              case rel => exact ⟨_, (true), (by first | rfl | (simp; done) | (simp [*]; done)), H', ⟨by have := HJ11.out; have := HJ34.out; have := HJ36.out; have := HJ50.out; first | omega | exact Nat.le_refl _⟩, ⟨by repeat (first | (with_reducible first | exact HB.out | apply below_alloc | apply pw_below_drewN | apply below_drew1) | exact HB.out)⟩⟩
                          case rest =>
                            as_aux_lemma =>
                            clear HC56
                            try clear c1
                            try clear c2
                            try clear p2
                            try clear c3
                            try clear c4
                            try clear c5
                            try clear c6
                            try clear c20
                            try clear c20b0
                            try clear c20b1
                            try clear c20b2
                            try clear c21
                            try clear c21b0
                            try clear c21b1
                            try clear c22
                            try clear c22b0
                            try clear c22b1
                            try clear c22b2
                            try clear c23
                            try clear c23b0
                            try clear c23b1
                            try clear c24
                            try clear c24b0
                            try clear c24b1
                            try clear c24b2
                            try clear c26
                            try clear c27
                            try clear c28
                            try clear c29
                            try clear c30
                            try clear c31
                            try clear c33
                            try clear c34
                            try clear c36
                            try clear c38
                            try clear c40
                            try clear c41
                            try clear c41b0
                            try clear c41b1
                            try clear c42
                            try clear c42b0
                            try clear c42b1
                            try clear c52
                            try clear c54
                            try clear c58
                            try clear p2
                            obtain ⟨kq, x169_55, rfl, HA, HJ55, HB⟩ := hcut
                            cases kq with
                            | zero => exact absurd HA.out (by simp [laws_FnPrimesCounted.j4])
                            | succ kj55 =>
                              have H := HA.out
                              clear HA
                              simp only [laws_FnPrimesCounted.j4] at H
                              by_cases c60 : x169_55 = true
                              · subst c60
                                have H1 : (some false) = some r := by rw [if_pos rfl] at H; exact H
                                clear H
                                have H := H1
                                clear H1
                                obtain rfl := Option.some.inj H
                                go_wp2
                                go_ret
                                exact ⟨by first | rfl | (simp [errW_none, errW_some] <;> rfl) | (simp [*, errW_none, errW_some] <;> rfl), by repeat (first | (with_reducible first | exact HB.out | apply below_alloc | apply pw_below_drewN | apply below_drew1) | exact HB.out)⟩
                              · replace c60 := Bool.eq_false_iff.mpr c60
                                subst c60
                                have H1 : ((impl_CrossersUpTo.f kj55 t565).bind fun bt590 => (if bt590.2 = true then (if (bt590.1.length : Int) ≤ 12 then (laws_FnPrimesCounted.j5 kj55 l1 t565 t571 bt590.1 (decide (t565 > 0))) else (laws_FnPrimesCounted.j5 kj55 l1 t565 t571 bt590.1 false)) else (laws_FnPrimesCounted.j5 kj55 l1 t565 t571 bt590.1 false))) = some r := by rw [if_neg (show ¬ (false = true) by decide)] at H; exact H
                                clear H
                                have H := H1
                                clear H1
                                replace H := Option.bind_eq_some_iff.mp H
                                obtain ⟨⟨t590, t591⟩, A610, H⟩ := H
                                replace H : (if t591 = true then (if (t590.length : Int) ≤ 12 then (laws_FnPrimesCounted.j5 kj55 l1 t565 t571 t590 (decide (t565 > 0))) else (laws_FnPrimesCounted.j5 kj55 l1 t565 t571 t590 false)) else (laws_FnPrimesCounted.j5 kj55 l1 t565 t571 t590 false)) = some r := H
                                have A61 := Aside0.mk A610
                                clear A610
                                have HC62 := Aside0.mk H
                                clear H
                                go_upto_region 21 with (first | ((with_reducible refine gate_callee (f := 15) rfl ?_); refine goesL_ (some 172) rfl rfl Try.func15 (by kernel_rfl) rfl #[.int .i64 t565] rfl (by (try simp only [List.map_toArray, List.map_cons, List.map_nil]); first | done | rfl | (simp only [List.length_drop, List.length_take]; rfl)) ?_; (with_reducible refine (impl_CrossersUpTo.calls kj55 t565 t590 t591 _ A61.out).mono ?_); rintro e w63 ⟨v592, rfl, ho0, hb⟩; refine ⟨_, rfl, ?_⟩; have n0_ := Aside0.mk (Kd.R_lower ho0 (below_size (by repeat (first | (with_reducible first | exact HB.out | apply below_alloc | apply pw_below_drewN | apply below_drew1) | exact HB.out)))); have n1_ := Aside0.mk (below_step (by repeat (first | (with_reducible first | exact HB.out | apply below_alloc | apply pw_below_drewN | apply below_drew1) | exact HB.out)) hb); clear HB; have HO593 := n0_; have HB := n1_; clear n0_ n1_; (try clear hb); (try clear hb2); (try clear hk); (try clear hi); (try clear ho0)))
                                (try simp only [Act.put, List.setIfInBounds_toArray, List.set_cons_zero, List.set_cons_succ])
                                go_cut [184] (fun v184 wc => ∃ (kq : Nat) (x184_61 : Bool), v184 = .bool x184_61 ∧ Aside0 (laws_FnPrimesCounted.j5 kq l1 t565 t571 t590 x184_61 = some r) ∧ Aside0 (kq ≤ kj55) ∧ Aside0 (Kd.R (Kd.int .i64) 3 wc w.heap.size (fun _ => True) v592 t590) ∧ Aside0 (Below w.heap.size w wc))
                                case first =>
                                  as_aux_lemma =>
                                  have H := HC62.out
                                  clear HC62
                                  by_cases c64 : t591 = true
                                  · subst c64
                                    have H1 : (if (t590.length : Int) ≤ 12 then (laws_FnPrimesCounted.j5 kj55 l1 t565 t571 t590 (decide (t565 > 0))) else (laws_FnPrimesCounted.j5 kj55 l1 t565 t571 t590 false)) = some r := by rw [if_pos rfl] at H; exact H
                                    clear H
                                    have H := H1
                                    clear H1
                                    by_cases c65 : (t590.length : Int) ≤ 12
                                    · as_aux_lemma =>
                                      rw [if_pos c65] at H
                                      have c65b0 : decide ((t590.length : Int) ≤ 12) = true := decide_eq_true c65
                                      have c65b1 : decide (t590.length ≤ 12) = true := decide_eq_true (by omega)
                                      clear c65
                                      (first | rw [c65b0] | (simp only [i64_w, i32_w]; rw [c65b0]) | skip)
                                      have H' := Aside0.mk H
                                      clear H
                                      obtain ⟨Ao66, co66, eo66⟩ := Kd.R_slice HO593.out
                                      subst eo66
                                      go_wp2
                                      go_meet
                                      case rel => exact ⟨_, (decide (t565 > 0)), (by first | rfl | (simp; done) | (simp [*]; done)), H', ⟨by have := HJ11.out; have := HJ34.out; have := HJ36.out; have := HJ50.out; have := HJ55.out; first | omega | exact Nat.le_refl _⟩, ⟨by (with_reducible repeat (first | apply Kd.R_alloc | apply Kd.R_drewN | apply Kd.R_drew)); exact HO593.out⟩, ⟨by repeat (first | (with_reducible first | exact HB.out | apply below_alloc | apply pw_below_drewN | apply below_drew1) | exact HB.out)⟩⟩
                                    · as_aux_lemma =>
                                      rw [if_neg c65] at H
                                      have c65b0 : decide ((t590.length : Int) ≤ 12) = false := decide_eq_false c65
                                      have c65b1 : decide (t590.length ≤ 12) = false := decide_eq_false (by omega)
                                      clear c65
                                      (first | rw [c65b0] | (simp only [i64_w, i32_w]; rw [c65b0]) | skip)
                                      have H' := Aside0.mk H
                                      clear H
                                      obtain ⟨Ao67, co67, eo67⟩ := Kd.R_slice HO593.out
                                      subst eo67
                                      go_wp2
                                      go_meet
                                      case rel => exact ⟨_, (false), (by first | rfl | (simp; done) | (simp [*]; done)), H', ⟨by have := HJ11.out; have := HJ34.out; have := HJ36.out; have := HJ50.out; have := HJ55.out; first | omega | exact Nat.le_refl _⟩, ⟨by (with_reducible repeat (first | apply Kd.R_alloc | apply Kd.R_drewN | apply Kd.R_drew)); exact HO593.out⟩, ⟨by repeat (first | (with_reducible first | exact HB.out | apply below_alloc | apply pw_below_drewN | apply below_drew1) | exact HB.out)⟩⟩
                                  · replace c64 := Bool.eq_false_iff.mpr c64
                                    subst c64
                                    have H1 : (laws_FnPrimesCounted.j5 kj55 l1 t565 t571 t590 false) = some r := by rw [if_neg (show ¬ (false = true) by decide)] at H; exact H
                                    clear H
                                    have H := H1
                                    clear H1
                                    have H' := Aside0.mk H
                                    clear H
                                    go_wp2
                                    go_meet
                                    case rel => exact ⟨_, (false), (by first | rfl | (simp; done) | (simp [*]; done)), H', ⟨by have := HJ11.out; have := HJ34.out; have := HJ36.out; have := HJ50.out; have := HJ55.out; first | omega | exact Nat.le_refl _⟩, ⟨by (with_reducible repeat (first | apply Kd.R_alloc | apply Kd.R_drewN | apply Kd.R_drew)); exact HO593.out⟩, ⟨by repeat (first | (with_reducible first | exact HB.out | apply below_alloc | apply pw_below_drewN | apply below_drew1) | exact HB.out)⟩⟩
                                case rest =>
                                  as_aux_lemma =>
                                  clear HC62
                                  try clear c1
                                  try clear c2
                                  try clear p2
                                  try clear c3
                                  try clear c4
                                  try clear c5
                                  try clear c6
                                  try clear c15
                                  try clear c20
                                  try clear c20b0
                                  try clear c20b1
                                  try clear c20b2
                                  try clear c21
                                  try clear c21b0
                                  try clear c21b1
                                  try clear c22
                                  try clear c22b0
                                  try clear c22b1
                                  try clear c22b2
                                  try clear c23
                                  try clear c23b0
                                  try clear c23b1
                                  try clear c24
                                  try clear c24b0
                                  try clear c24b1
                                  try clear c24b2
                                  try clear c26
                                  try clear c27
                                  try clear c28
                                  try clear c29
                                  try clear c30
                                  try clear c31
                                  try clear c33
                                  try clear c34
                                  try clear c36
                                  try clear c38
                                  try clear c40
                                  try clear c41
                                  try clear c41b0
                                  try clear c41b1
                                  try clear c42
                                  try clear c42b0
                                  try clear c42b1
                                  try clear c52
                                  try clear c54
                                  try clear c58
                                  try clear c60
                                  try clear c64
                                  try clear c65
                                  try clear c65b0
                                  try clear c65b1
                                  try clear p2
                                  obtain ⟨kq, x184_61, rfl, HA, HJ61, HO_23, HB⟩ := hcut
                                  cases kq with
                                  | zero => exact absurd HA.out (by simp [laws_FnPrimesCounted.j5])
                                  | succ kj61 =>
                                    have H := HA.out
                                    clear HA
                                    simp only [laws_FnPrimesCounted.j5] at H
                                    by_cases c68 : x184_61 = true
                                    · subst c68
                                      have H1 : ((impl_CountWithout.f kj61 t565 (t590.length : Int)).bind fun bt594 => (if bt594.2 = true then (if (wrap64 ((wrap64 (bt594.1 + (t590.length : Int))) - 1)) = t571 then (laws_FnPrimesCounted.j6 kj61 l1) else (some false)) else (some false))) = some r := by rw [if_pos rfl] at H; exact H
                                      clear H
                                      have H := H1
                                      clear H1
                                      replace H := Option.bind_eq_some_iff.mp H
                                      obtain ⟨⟨t594, t595⟩, A690, H⟩ := H
                                      replace H : (if t595 = true then (if (wrap64 ((wrap64 (t594 + (t590.length : Int))) - 1)) = t571 then (laws_FnPrimesCounted.j6 kj61 l1) else (some false)) else (some false)) = some r := H
                                      have A69 := Aside0.mk A690
                                      clear A690
                                      by_cases c70 : t595 = true
                                      · subst c70
                                        have H1 : (if (wrap64 ((wrap64 (t594 + (t590.length : Int))) - 1)) = t571 then (laws_FnPrimesCounted.j6 kj61 l1) else (some false)) = some r := by rw [if_pos rfl] at H; exact H
                                        clear H
                                        have H := H1
                                        clear H1
                                        by_cases c71 : (wrap64 ((wrap64 (t594 + (t590.length : Int))) - 1)) = t571
                                        · as_aux_lemma =>
                                          rw [if_pos c71] at H
                                          have c71b0 : ((wrap64 ((wrap64 (t594 + (t590.length : Int))) - 1)) == t571) = true := beq_iff_eq.mpr c71
                                          have c71b1 : ((wrap64 ((wrap64 (t594 + (t590.length : Int))) - 1)) != t571) = false := bne_eq_false_iff_eq.mpr c71
                                          clear c71
                                          have H' := Aside0.mk H
                                          clear H
                                          obtain ⟨Ao72, co72, eo72⟩ := Kd.R_slice HO_23.out
                                          subst eo72
                                          go_wp2_with (first | ((with_reducible refine gate_callee (f := 26) rfl ?_); refine goesL_ (some 189) rfl rfl Try.func26 (by kernel_rfl) rfl #[.int .i64 t565, .int .i64 (t590.length : Int)] rfl (by (try simp only [List.map_toArray, List.map_cons, List.map_nil]); first | done | rfl | (simp only [List.length_drop, List.length_take]; rfl)) ?_; (with_reducible refine (impl_CountWithout.calls kj61 t565 (t590.length : Int) t594 true _ A69.out).mono ?_); rintro e w73 ⟨rfl, hb⟩; refine ⟨_, rfl, ?_⟩; have n0_ := Aside0.mk (Kd.R_below (by (with_reducible repeat (first | apply Kd.R_alloc | apply Kd.R_drewN | apply Kd.R_drew)); exact HO_23.out) hb); have n1_ := Aside0.mk (below_step (by repeat (first | (with_reducible first | exact HB.out | apply below_alloc | apply pw_below_drewN | apply below_drew1) | exact HB.out)) hb); clear HO_23; clear HB; have HO_23 := n0_; have HB := n1_; clear n0_ n1_; (try clear hb); (try clear hb2); (try clear hk); (try clear hi)))
                                          go_meet
                                          case rel => exact ⟨_, H', ⟨by have := HJ11.out; have := HJ34.out; have := HJ36.out; have := HJ50.out; have := HJ55.out; have := HJ61.out; first | omega | exact Nat.le_refl _⟩, ⟨by repeat (first | (with_reducible first | exact HB.out | apply below_alloc | apply pw_below_drewN | apply below_drew1) | exact HB.out)⟩⟩
                                        · as_aux_lemma =>
                                          rw [if_neg c71] at H
                                          have c71b0 : ((wrap64 ((wrap64 (t594 + (t590.length : Int))) - 1)) == t571) = false := beq_eq_false_iff_ne.mpr c71
                                          have c71b1 : ((wrap64 ((wrap64 (t594 + (t590.length : Int))) - 1)) != t571) = true := bne_iff_ne.mpr c71
                                          obtain rfl := Option.some.inj H
                                          obtain ⟨Ao74, co74, eo74⟩ := Kd.R_slice HO_23.out
                                          subst eo74
                                          go_wp2_with (first | ((with_reducible refine gate_callee (f := 26) rfl ?_); refine goesL_ (some 189) rfl rfl Try.func26 (by kernel_rfl) rfl #[.int .i64 t565, .int .i64 (t590.length : Int)] rfl (by (try simp only [List.map_toArray, List.map_cons, List.map_nil]); first | done | rfl | (simp only [List.length_drop, List.length_take]; rfl)) ?_; (with_reducible refine (impl_CountWithout.calls kj61 t565 (t590.length : Int) t594 true _ A69.out).mono ?_); rintro e w75 ⟨rfl, hb⟩; refine ⟨_, rfl, ?_⟩; have n0_ := Aside0.mk (Kd.R_below (by (with_reducible repeat (first | apply Kd.R_alloc | apply Kd.R_drewN | apply Kd.R_drew)); exact HO_23.out) hb); have n1_ := Aside0.mk (below_step (by repeat (first | (with_reducible first | exact HB.out | apply below_alloc | apply pw_below_drewN | apply below_drew1) | exact HB.out)) hb); clear HO_23; clear HB; have HO_23 := n0_; have HB := n1_; clear n0_ n1_; (try clear hb); (try clear hb2); (try clear hk); (try clear hi)))
                                          go_ret
                                          exact ⟨by first | rfl | (simp [errW_none, errW_some] <;> rfl) | (simp [*, errW_none, errW_some] <;> rfl), by repeat (first | (with_reducible first | exact HB.out | apply below_alloc | apply pw_below_drewN | apply below_drew1) | exact HB.out)⟩
                                      · replace c70 := Bool.eq_false_iff.mpr c70
                                        subst c70
                                        have H1 : (some false) = some r := by rw [if_neg (show ¬ (false = true) by decide)] at H; exact H
                                        clear H
                                        have H := H1
                                        clear H1
                                        obtain rfl := Option.some.inj H
                                        obtain ⟨Ao76, co76, eo76⟩ := Kd.R_slice HO_23.out
                                        subst eo76
                                        go_wp2_with (first | ((with_reducible refine gate_callee (f := 26) rfl ?_); refine goesL_ (some 189) rfl rfl Try.func26 (by kernel_rfl) rfl #[.int .i64 t565, .int .i64 (t590.length : Int)] rfl (by (try simp only [List.map_toArray, List.map_cons, List.map_nil]); first | done | rfl | (simp only [List.length_drop, List.length_take]; rfl)) ?_; (with_reducible refine (impl_CountWithout.calls kj61 t565 (t590.length : Int) t594 false _ A69.out).mono ?_); rintro e w77 ⟨rfl, hb⟩; refine ⟨_, rfl, ?_⟩; have n0_ := Aside0.mk (Kd.R_below (by (with_reducible repeat (first | apply Kd.R_alloc | apply Kd.R_drewN | apply Kd.R_drew)); exact HO_23.out) hb); have n1_ := Aside0.mk (below_step (by repeat (first | (with_reducible first | exact HB.out | apply below_alloc | apply pw_below_drewN | apply below_drew1) | exact HB.out)) hb); clear HO_23; clear HB; have HO_23 := n0_; have HB := n1_; clear n0_ n1_; (try clear hb); (try clear hb2); (try clear hk); (try clear hi)))
                                        go_ret
                                        exact ⟨by first | rfl | (simp [errW_none, errW_some] <;> rfl) | (simp [*, errW_none, errW_some] <;> rfl), by repeat (first | (with_reducible first | exact HB.out | apply below_alloc | apply pw_below_drewN | apply below_drew1) | exact HB.out)⟩
                                    · replace c68 := Bool.eq_false_iff.mpr c68
                                      subst c68
                                      have H1 : (laws_FnPrimesCounted.j6 kj61 l1) = some r := by rw [if_neg (show ¬ (false = true) by decide)] at H; exact H
                                      clear H
                                      have H := H1
                                      clear H1
                                      have H' := Aside0.mk H
                                      clear H
                                      go_wp2
                                      go_meet
                                      case rel => exact ⟨_, H', ⟨by have := HJ11.out; have := HJ34.out; have := HJ36.out; have := HJ50.out; have := HJ55.out; have := HJ61.out; first | omega | exact Nat.le_refl _⟩, ⟨by repeat (first | (with_reducible first | exact HB.out | apply below_alloc | apply pw_below_drewN | apply below_drew1) | exact HB.out)⟩⟩
                        · replace c54 := Bool.eq_false_iff.mpr c54
                          subst c54
                          have H1 : (laws_FnPrimesCounted.j6 kj50 l1) = some r := by rw [if_neg (show ¬ (false = true) by decide)] at H; exact H
                          clear H
                          have H := H1
                          clear H1
                          have H' := Aside0.mk H
                          clear H
                          go_wp2
                          go_meet
                          case rel => exact ⟨_, H', ⟨by have := HJ11.out; have := HJ34.out; have := HJ36.out; have := HJ50.out; first | omega | exact Nat.le_refl _⟩, ⟨by repeat (first | (with_reducible first | exact HB.out | apply below_alloc | apply pw_below_drewN | apply below_drew1) | exact HB.out)⟩⟩
                      case rest =>
                        as_aux_lemma =>
                        clear HC53
                        try clear c1
                        try clear c2
                        try clear p2
                        try clear c3
                        try clear c4
                        try clear c5
                        try clear c6
                        try clear p6
                        try clear c7
                        try clear c15
                        try clear c20
                        try clear c20b0
                        try clear c20b1
                        try clear c20b2
                        try clear c21
                        try clear c21b0
                        try clear c21b1
                        try clear c22
                        try clear c22b0
                        try clear c22b1
                        try clear c22b2
                        try clear c23
                        try clear c23b0
                        try clear c23b1
                        try clear c24
                        try clear c24b0
                        try clear c24b1
                        try clear c24b2
                        try clear c26
                        try clear c27
                        try clear c28
                        try clear c29
                        try clear c30
                        try clear c31
                        try clear c33
                        try clear c34
                        try clear c36
                        try clear c38
                        try clear c40
                        try clear c41
                        try clear c41b0
                        try clear c41b1
                        try clear c42
                        try clear c42b0
                        try clear c42b1
                        try clear c52
                        try clear c54
                        try clear c58
                        try clear c60
                        try clear c64
                        try clear p64
                        try clear c65
                        try clear c65b0
                        try clear c65b1
                        try clear c68
                        try clear c70
                        try clear c71
                        try clear c71b0
                        try clear c71b1
                        try clear p2
                        obtain ⟨kq, HA, HJ52, HB⟩ := hcut
                        cases kq with
                        | zero => exact absurd HA.out (by simp [laws_FnPrimesCounted.j6])
                        | succ kj52 =>
                          have H := HA.out
                          clear HA
                          simp only [laws_FnPrimesCounted.j6] at H
                          replace H := Option.bind_eq_some_iff.mp H
                          obtain ⟨⟨t596, t597⟩, A780, H⟩ := H
                          replace H : ((impl_PrimesBetween.f kj52 t596 t597).bind fun bt598 => ((spec_PrimesBetween.f kj52 t596 t597).bind fun bt602 => (if (bt598.2 != bt602.2) = true then (laws_FnPrimesCounted.j7 kj52 l1 t596 t597 bt598.1 bt598.2 true) else ((laws_gSame.f kj52 bt598.1 bt602.1).bind fun t606 => (laws_FnPrimesCounted.j7 kj52 l1 t596 t597 bt598.1 bt598.2 (!t606)))))) = some r := H
                          have A78 := Aside0.mk A780
                          clear A780
                          replace H := Option.bind_eq_some_iff.mp H
                          obtain ⟨⟨t598, t599⟩, A790, H⟩ := H
                          replace H : ((spec_PrimesBetween.f kj52 t596 t597).bind fun bt602 => (if (t599 != bt602.2) = true then (laws_FnPrimesCounted.j7 kj52 l1 t596 t597 t598 t599 true) else ((laws_gSame.f kj52 t598 bt602.1).bind fun t606 => (laws_FnPrimesCounted.j7 kj52 l1 t596 t597 t598 t599 (!t606))))) = some r := H
                          have A79 := Aside0.mk A790
                          clear A790
                          replace H := Option.bind_eq_some_iff.mp H
                          obtain ⟨⟨t602, t603⟩, A800, H⟩ := H
                          replace H : (if (t599 != t603) = true then (laws_FnPrimesCounted.j7 kj52 l1 t596 t597 t598 t599 true) else ((laws_gSame.f kj52 t598 t602).bind fun t606 => (laws_FnPrimesCounted.j7 kj52 l1 t596 t597 t598 t599 (!t606)))) = some r := H
                          have A80 := Aside0.mk A800
                          clear A800
                          have HC81 := Aside0.mk H
                          clear H
                          go_upto_region 28 with (first | ((with_reducible refine gate_callee (f := 41) rfl ?_); refine goesL_ (some 205) rfl rfl Try.func41 (by kernel_rfl) rfl #[.slice A1 l1.length c1] rfl (by (try simp only [List.map_toArray, List.map_cons, List.map_nil]); first | done | rfl | (simp only [List.length_drop, List.length_take]; rfl)) ?_; (with_reducible refine (spec_DrawPrimesBetween.calls _ _ l1 t596 t597 _ ?side1 ?side2 A78.out).mono ?_); (case side1 => repeat (first | exact (Kd.C_below HR1.out HB.out) | (with_reducible refine Kd.C_alloc ?_ _) | (with_reducible refine Kd.C_drewN ?_ _) | (with_reducible refine Kd.C_drew ?_))); (case side2 => exact HC1.out); rintro e w82 ⟨rfl, hb⟩; refine ⟨_, rfl, ?_⟩; have n0_ := Aside0.mk (below_step (by repeat (first | (with_reducible first | exact HB.out | apply below_alloc | apply pw_below_drewN | apply below_drew1) | exact HB.out)) hb); clear HB; have HB := n0_; clear n0_; (try clear hb); (try clear hb2); (try clear hk); (try clear hi)) | ((with_reducible refine gate_callee (f := 34) rfl ?_); refine goesL_ (some 211) rfl rfl Try.func34 (by kernel_rfl) rfl #[.int .i64 t596, .int .i64 t597] rfl (by (try simp only [List.map_toArray, List.map_cons, List.map_nil]); first | done | rfl | (simp only [List.length_drop, List.length_take]; rfl)) ?_; (with_reducible refine (impl_PrimesBetween.calls kj52 t596 t597 t598 t599 _ A79.out).mono ?_); rintro e w83 ⟨v600, rfl, ho0, hb⟩; refine ⟨_, rfl, ?_⟩; have n0_ := Aside0.mk (Kd.R_lower ho0 (below_size (by repeat (first | (with_reducible first | exact HB.out | apply below_alloc | apply pw_below_drewN | apply below_drew1) | exact HB.out)))); have n1_ := Aside0.mk (below_step (by repeat (first | (with_reducible first | exact HB.out | apply below_alloc | apply pw_below_drewN | apply below_drew1) | exact HB.out)) hb); clear HB; have HO601 := n0_; have HB := n1_; clear n0_ n1_; (try clear hb); (try clear hb2); (try clear hk); (try clear hi); (try clear ho0)) | ((with_reducible refine gate_callee (f := 35) rfl ?_); refine goesL_ (some 217) rfl rfl Try.func35 (by kernel_rfl) rfl #[.int .i64 t596, .int .i64 t597] rfl (by (try simp only [List.map_toArray, List.map_cons, List.map_nil]); first | done | rfl | (simp only [List.length_drop, List.length_take]; rfl)) ?_; (with_reducible refine (spec_PrimesBetween.calls kj52 t596 t597 t602 t603 _ A80.out).mono ?_); rintro e w84 ⟨v604, rfl, ho0, hb⟩; refine ⟨_, rfl, ?_⟩; have n0_ := Aside0.mk (Kd.R_elder' (by (with_reducible repeat (first | apply Kd.R_alloc | apply Kd.R_drewN | apply Kd.R_drew)); exact HO601.out) (Kd.R_base ho0) hb); have n1_ := Aside0.mk (Kd.R_lower (Kd.R_new' ho0 (Kd.R_lt (by (with_reducible repeat (first | apply Kd.R_alloc | apply Kd.R_drewN | apply Kd.R_drew)); exact HO601.out))) (below_size (by repeat (first | (with_reducible first | exact HB.out | apply below_alloc | apply pw_below_drewN | apply below_drew1) | exact HB.out)))); have n2_ := Aside0.mk (below_step (by repeat (first | (with_reducible first | exact HB.out | apply below_alloc | apply pw_below_drewN | apply below_drew1) | exact HB.out)) hb); clear HO601; clear HB; have HO601 := n0_; have HO605 := n1_; have HB := n2_; clear n0_ n1_ n2_; (try clear hb); (try clear hb2); (try clear hk); (try clear hi); (try clear ho0)))
                          (try simp only [Act.put, List.setIfInBounds_toArray, List.set_cons_zero, List.set_cons_succ])
                          go_cut [228] (fun v228 wc => ∃ (kq : Nat) (x228_80 : Bool), v228 = .bool x228_80 ∧ Aside0 (laws_FnPrimesCounted.j7 kq l1 t596 t597 t598 t599 x228_80 = some r) ∧ Aside0 (kq ≤ kj52) ∧ Aside0 (Kd.R (Kd.int .i64) 3 wc w.heap.size (fun _ => True) v600 t598) ∧ Aside0 (Below w.heap.size w wc))
                          case first =>
                            as_aux_lemma =>
                            have H := HC81.out
                            clear HC81
                            by_cases c85 : (t599 != t603) = true
                            · as_aux_lemma =>
                              rw [if_pos c85] at H
                              have c85b0 : (t599 != t603) = true := c85
                              (try (have c85b1 : decide (t599 = t603) = false := by simpa using c85))
                              (try (have c85b2 : (t599 == t603) = false := by simpa using c85))
                              (try (have c85b3 : ¬ (t599 = t603) := by simpa using c85))
                              clear c85
                              (first | rw [c85b0] | (simp only [i64_w, i32_w]; rw [c85b0]) | skip)
                              have H' := Aside0.mk H
                              clear H
                              go_wp2
                              go_meet
                              case rel => exact ⟨_, (true), (by first | rfl | (simp; done) | (simp [*]; done)), H', ⟨by have := HJ11.out; have := HJ34.out; have := HJ36.out; have := HJ50.out; have := HJ52.out; first | omega | exact Nat.le_refl _⟩, ⟨by (with_reducible repeat (first | apply Kd.R_alloc | apply Kd.R_drewN | apply Kd.R_drew)); exact Kd.R_mono HO601.out (fun _ hk => trivial)⟩, ⟨by repeat (first | (with_reducible first | exact HB.out | apply below_alloc | apply pw_below_drewN | apply below_drew1) | exact HB.out)⟩⟩
                            · as_aux_lemma =>
                              rw [if_neg c85] at H
                              have c85b0 : (t599 != t603) = false := by simpa using c85
                              (try (have c85b1 : decide (t599 = t603) = true := by simpa using c85))
                              (try (have c85b2 : (t599 == t603) = true := by simpa using c85))
                              clear c85
                              (first | rw [c85b0] | (simp only [i64_w, i32_w]; rw [c85b0]) | skip)
                              replace H := Option.bind_eq_some_iff.mp H
                              obtain ⟨t606, A860, H⟩ := H
                              replace H : (laws_FnPrimesCounted.j7 kj52 l1 t596 t597 t598 t599 (!t606)) = some r := H
                              have A86 := Aside0.mk A860
                              clear A860
                              have H' := Aside0.mk H
                              clear H
                              obtain ⟨Ao87, co87, eo87⟩ := Kd.R_slice HO601.out
                              subst eo87
                              obtain ⟨Ao88, co88, eo88⟩ := Kd.R_slice HO605.out
                              subst eo88
                              go_wp2_with (first | (go_at_call 19; (with_reducible refine (laws_gSame.calls kj52 _ _ t598 _ _ t602 t606 _ ?side1 ?side2 ?side3 ?side4 A86.out).mono ?_); (case side1 => repeat (first | exact (Kd.R_reads' HO601.out).2.2 | (with_reducible refine Kd.C_alloc ?_ _) | (with_reducible refine Kd.C_drewN ?_ _) | (with_reducible refine Kd.C_drew ?_))); (case side2 => exact (Kd.R_reads' HO601.out).2.1); (case side3 => repeat (first | exact (Kd.R_reads' HO605.out).2.2 | (with_reducible refine Kd.C_alloc ?_ _) | (with_reducible refine Kd.C_drewN ?_ _) | (with_reducible refine Kd.C_drew ?_))); (case side4 => exact (Kd.R_reads' HO605.out).2.1); rintro e w' ⟨rfl, ⟨nd, rfl⟩⟩))
                              go_meet
                              case rel => exact ⟨_, (!t606), (by first | rfl | (simp; done) | (simp [*]; done)), H', ⟨by have := HJ11.out; have := HJ34.out; have := HJ36.out; have := HJ50.out; have := HJ52.out; first | omega | exact Nat.le_refl _⟩, ⟨by (with_reducible repeat (first | apply Kd.R_alloc | apply Kd.R_drewN | apply Kd.R_drew)); exact Kd.R_mono HO601.out (fun _ hk => trivial)⟩, ⟨by repeat (first | (with_reducible first | exact HB.out | apply below_alloc | apply pw_below_drewN | apply below_drew1) | exact HB.out)⟩⟩
                          case rest =>
                            as_aux_lemma =>
                            clear HC81
                            try clear c1
                            try clear c2
                            try clear p2
                            try clear c3
                            try clear c4
                            try clear c5
                            try clear c6
                            try clear p6
                            try clear c7
                            try clear c8
                            try clear c15
                            try clear c20
                            try clear c20b0
                            try clear c20b1
                            try clear c20b2
                            try clear c21
                            try clear c21b0
                            try clear c21b1
                            try clear c22
                            try clear c22b0
                            try clear c22b1
                            try clear c22b2
                            try clear c23
                            try clear c23b0
                            try clear c23b1
                            try clear c24
                            try clear c24b0
                            try clear c24b1
                            try clear c24b2
                            try clear c26
                            try clear c27
                            try clear c28
                            try clear c29
                            try clear c30
                            try clear c31
                            try clear c33
                            try clear c34
                            try clear c35
                            try clear c36
                            try clear c38
                            try clear c40
                            try clear c41
                            try clear c41b0
                            try clear c41b1
                            try clear c42
                            try clear c42b0
                            try clear c42b1
                            try clear c52
                            try clear c54
                            try clear c58
                            try clear c60
                            try clear c64
                            try clear p64
                            try clear c65
                            try clear c65b0
                            try clear c65b1
                            try clear c68
                            try clear c70
                            try clear c71
                            try clear c71b0
                            try clear c71b1
                            try clear c85
                            try clear c85b0
                            try clear c85b1
                            try clear c85b2
                            try clear p2
                            try clear p6
                            try clear p64
                            obtain ⟨kq, x228_80, rfl, HA, HJ80, HO_29, HB⟩ := hcut
                            cases kq with
                            | zero => exact absurd HA.out (by simp [laws_FnPrimesCounted.j7])
                            | succ kj80 =>
                              have H := HA.out
                              clear HA
                              simp only [laws_FnPrimesCounted.j7] at H
                              by_cases c89 : x228_80 = true
                              · subst c89
                                have H1 : (some false) = some r := by rw [if_pos rfl] at H; exact H
                                clear H
                                have H := H1
                                clear H1
                                obtain rfl := Option.some.inj H
                                go_wp2
                                go_ret
                                exact ⟨by first | rfl | (simp [errW_none, errW_some] <;> rfl) | (simp [*, errW_none, errW_some] <;> rfl), by repeat (first | (with_reducible first | exact HB.out | apply below_alloc | apply pw_below_drewN | apply below_drew1) | exact HB.out)⟩
                              · replace c89 := Bool.eq_false_iff.mpr c89
                                subst c89
                                have H1 : (if t599 = true then (laws_FnPrimesCounted.l0 kj80 l1 t596 t597 t598 t598 (t598.length : Int) 0) else (laws_FnPrimesCounted.j11 kj80 l1)) = some r := by rw [if_neg (show ¬ (false = true) by decide)] at H; exact H
                                clear H
                                have H := H1
                                clear H1
                                have HC90 := Aside0.mk H
                                clear H
                                go_upto_if 229 with (fail)
                                go_cut [] (fun wc => ∃ (kq : Nat), Aside0 (laws_FnPrimesCounted.j11 kq l1 = some r) ∧ Aside0 (kq ≤ kj80) ∧ Aside0 (Below w.heap.size w wc))
                                case first =>
                                  as_aux_lemma =>
                                  have H := HC90.out
                                  clear HC90
                                  by_cases c91 : t599 = true
                                  · subst c91
                                    have H1 : (laws_FnPrimesCounted.l0 kj80 l1 t596 t597 t598 t598 (t598.length : Int) 0) = some r := by rw [if_pos rfl] at H; exact H
                                    clear H
                                    have H := H1
                                    clear H1
                                    have H' := Aside0.mk H
                                    clear H
                                    obtain ⟨Ao92, co92, eo92⟩ := Kd.R_slice HO_29.out
                                    subst eo92
                                    go_wp2
                                    go_loopg [232] kj80 (fun kq v232 w' => ∃ (x232_7 : Int), v232 = .int .i64 x232_7 ∧ Aside0 (laws_FnPrimesCounted.l0 kq l1 t596 t597 t598 t598 (t598.length : Int) x232_7 = some r) ∧ Aside0 (kq ≤ kj80) ∧ Aside0 (Kd.R (Kd.int .i64) 3 w' w.heap.size (fun _ => True) (.slice Ao92 t598.length co92) t598) ∧ Aside0 (Kd.R (Kd.int .i64) 3 w' w.heap.size (fun _ => True) (.slice Ao92 t598.length co92) t598) ∧ Aside0 (Below w.heap.size w w'))
                                    case atStart => exact ⟨(0), (by first | rfl | (simp; done) | (simp [*]; done)), H', ⟨Nat.le_refl _⟩, ⟨by (with_reducible repeat (first | apply Kd.R_alloc | apply Kd.R_drewN | apply Kd.R_drew)); exact HO_29.out⟩, ⟨by (with_reducible repeat (first | apply Kd.R_alloc | apply Kd.R_drewN | apply Kd.R_drew)); exact HO_29.out⟩, ⟨by repeat (first | (with_reducible first | exact HB.out | apply below_alloc | apply pw_below_drewN | apply below_drew1) | exact HB.out)⟩⟩
                                    case round =>
                                      as_aux_lemma =>
                                      clear H'
                                      try clear c1
                                      try clear c2
                                      try clear p2
                                      try clear c3
                                      try clear c4
                                      try clear c5
                                      try clear c6
                                      try clear p6
                                      try clear c7
                                      try clear c8
                                      try clear c9
                                      try clear c15
                                      try clear c20
                                      try clear c20b0
                                      try clear c20b1
                                      try clear c20b2
                                      try clear c21
                                      try clear c21b0
                                      try clear c21b1
                                      try clear c22
                                      try clear c22b0
                                      try clear c22b1
                                      try clear c22b2
                                      try clear c23
                                      try clear c23b0
                                      try clear c23b1
                                      try clear c24
                                      try clear c24b0
                                      try clear c24b1
                                      try clear c24b2
                                      try clear c26
                                      try clear c27
                                      try clear c28
                                      try clear c29
                                      try clear c30
                                      try clear c31
                                      try clear c33
                                      try clear c34
                                      try clear c35
                                      try clear c36
                                      try clear c38
                                      try clear c40
                                      try clear c41
                                      try clear c41b0
                                      try clear c41b1
                                      try clear c42
                                      try clear c42b0
                                      try clear c42b1
                                      try clear c52
                                      try clear c54
                                      try clear c58
                                      try clear c60
                                      try clear c64
                                      try clear p64
                                      try clear c65
                                      try clear c65b0
                                      try clear c65b1
                                      try clear c68
                                      try clear c70
                                      try clear c71
                                      try clear c71b0
                                      try clear c71b1
                                      try clear c85
                                      try clear c85b0
                                      try clear c85b1
                                      try clear c85b2
                                      try clear c89
                                      try clear c91
                                      try clear p2
                                      try clear p6
                                      try clear p64
                                      obtain ⟨x232_7, rfl, HA, HK7, HO_29, HO_230, HB⟩ := hrel
                                      cases gk with
                                      | zero => exact absurd HA.out (by simp [laws_FnPrimesCounted.l0])
                                      | succ k7 =>
                                        have H := HA.out
                                        clear HA
                                        simp only [laws_FnPrimesCounted.l0] at H
                                        by_cases c93 : x232_7 < (t598.length : Int)
                                        · as_aux_lemma =>
                                          rw [if_pos c93] at H
                                          have c93b0 : decide (x232_7 < (t598.length : Int)) = true := decide_eq_true c93
                                          clear c93
                                          (first | rw [c93b0] | (simp only [i64_w, i32_w]; rw [c93b0]) | skip)
                                          by_cases c94 : 0 ≤ x232_7
                                          · as_aux_lemma =>
                                            rw [if_pos c94] at H
                                            have c94b0 : decide (0 ≤ x232_7) = true := decide_eq_true c94
                                            clear c94
                                            by_cases c95 : x232_7 < (t598.length : Int)
                                            · as_aux_lemma =>
                                              rw [if_pos c95] at H
                                              have c95b0 : decide (x232_7 < (t598.length : Int)) = true := decide_eq_true c95
                                              clear c95
                                              replace H := Option.bind_eq_some_iff.mp H
                                              obtain ⟨⟨t608, t609⟩, A960, H⟩ := H
                                              replace H : (if t609 = true then (if t608 = true then (if (rd t598 x232_7) < t596 then (laws_FnPrimesCounted.j9 k7 l1 t596 t597 t598 x232_7 (rd t598 x232_7) t598 (t598.length : Int) x232_7 true) else (if (rd t598 x232_7) > t597 then (laws_FnPrimesCounted.j9 k7 l1 t596 t597 t598 x232_7 (rd t598 x232_7) t598 (t598.length : Int) x232_7 true) else (if x232_7 > 0 then (if 0 ≤ (wrap64 (x232_7 - 1)) then (if (wrap64 (x232_7 - 1)) < (t598.length : Int) then (laws_FnPrimesCounted.j9 k7 l1 t596 t597 t598 x232_7 (rd t598 x232_7) t598 (t598.length : Int) x232_7 (decide ((rd t598 (wrap64 (x232_7 - 1))) ≥ (rd t598 x232_7)))) else (none)) else (none)) else (laws_FnPrimesCounted.j9 k7 l1 t596 t597 t598 x232_7 (rd t598 x232_7) t598 (t598.length : Int) x232_7 false)))) else (laws_FnPrimesCounted.j9 k7 l1 t596 t597 t598 x232_7 (rd t598 x232_7) t598 (t598.length : Int) x232_7 true)) else (laws_FnPrimesCounted.j9 k7 l1 t596 t597 t598 x232_7 (rd t598 x232_7) t598 (t598.length : Int) x232_7 true)) = some r := H
                                              have A96 := Aside0.mk A960
                                              clear A960
                                              have HC97 := Aside0.mk H
                                              clear H
                                              have p607 : 0 ≤ (x232_7 : Int) := of_decide_eq_true (by first | (with_reducible assumption) | assumption)
                                              have q607 : x232_7 < (t598.length : Int) := of_decide_eq_true (by first | (with_reducible assumption) | assumption)
                                              obtain ⟨ad607, e607, hx607_0⟩ := Kd.at_int (Kd.R_reads' HO_230.out).2.2 x232_7 p607 q607
                                              cases e607
                                              replace p607 := eq_true p607
                                              replace q607 := eq_true q607
                                              go_upto_region 35 with (first | ((with_reducible refine gate_callee (f := 12) rfl ?_); refine goesL_ (some 239) rfl rfl Try.func12 (by kernel_rfl) rfl #[.int .i64 (rd t598 x232_7)] rfl (by (try simp only [List.map_toArray, List.map_cons, List.map_nil]); first | done | rfl | (simp only [List.length_drop, List.length_take]; rfl)) ?_; (with_reducible refine (impl_IsPrime.calls k7 (rd t598 x232_7) t608 t609 _ A96.out).mono ?_); rintro e w' ⟨rfl, ⟨nd, rfl⟩⟩; refine ⟨_, rfl, ?_⟩))
                                              (try simp only [Act.put, List.setIfInBounds_toArray, List.set_cons_zero, List.set_cons_succ])
                                              go_cut [270] (fun v270 wc => ∃ (kq : Nat) (x270_96 : Bool), v270 = .bool x270_96 ∧ Aside0 (laws_FnPrimesCounted.j9 kq l1 t596 t597 t598 x232_7 (rd t598 x232_7) t598 (t598.length : Int) x232_7 x270_96 = some r) ∧ Aside0 (kq ≤ k7) ∧ Aside0 (Kd.R (Kd.int .i64) 3 wc w.heap.size (fun _ => True) (.slice (some ad607) t598.length co92) t598) ∧ Aside0 (Kd.R (Kd.int .i64) 3 wc w.heap.size (fun _ => True) (.slice (some ad607) t598.length co92) t598) ∧ Aside0 (Below w.heap.size w wc))
                                              case first =>
                                                as_aux_lemma =>
                                                have H := HC97.out
                                                clear HC97
                                                by_cases c98 : t609 = true
                                                · subst c98
                                                  have H1 : (if t608 = true then (if (rd t598 x232_7) < t596 then (laws_FnPrimesCounted.j9 k7 l1 t596 t597 t598 x232_7 (rd t598 x232_7) t598 (t598.length : Int) x232_7 true) else (if (rd t598 x232_7) > t597 then (laws_FnPrimesCounted.j9 k7 l1 t596 t597 t598 x232_7 (rd t598 x232_7) t598 (t598.length : Int) x232_7 true) else (if x232_7 > 0 then (if 0 ≤ (wrap64 (x232_7 - 1)) then (if (wrap64 (x232_7 - 1)) < (t598.length : Int) then (laws_FnPrimesCounted.j9 k7 l1 t596 t597 t598 x232_7 (rd t598 x232_7) t598 (t598.length : Int) x232_7 (decide ((rd t598 (wrap64 (x232_7 - 1))) ≥ (rd t598 x232_7)))) else (none)) else (none)) else (laws_FnPrimesCounted.j9 k7 l1 t596 t597 t598 x232_7 (rd t598 x232_7) t598 (t598.length : Int) x232_7 false)))) else (laws_FnPrimesCounted.j9 k7 l1 t596 t597 t598 x232_7 (rd t598 x232_7) t598 (t598.length : Int) x232_7 true)) = some r := by rw [if_pos rfl] at H; exact H
                                                  clear H
                                                  have H := H1
                                                  clear H1
                                                  by_cases c99 : t608 = true
                                                  · subst c99
                                                    have H1 : (if (rd t598 x232_7) < t596 then (laws_FnPrimesCounted.j9 k7 l1 t596 t597 t598 x232_7 (rd t598 x232_7) t598 (t598.length : Int) x232_7 true) else (if (rd t598 x232_7) > t597 then (laws_FnPrimesCounted.j9 k7 l1 t596 t597 t598 x232_7 (rd t598 x232_7) t598 (t598.length : Int) x232_7 true) else (if x232_7 > 0 then (if 0 ≤ (wrap64 (x232_7 - 1)) then (if (wrap64 (x232_7 - 1)) < (t598.length : Int) then (laws_FnPrimesCounted.j9 k7 l1 t596 t597 t598 x232_7 (rd t598 x232_7) t598 (t598.length : Int) x232_7 (decide ((rd t598 (wrap64 (x232_7 - 1))) ≥ (rd t598 x232_7)))) else (none)) else (none)) else (laws_FnPrimesCounted.j9 k7 l1 t596 t597 t598 x232_7 (rd t598 x232_7) t598 (t598.length : Int) x232_7 false)))) = some r := by rw [if_pos rfl] at H; exact H
                                                    clear H
                                                    have H := H1
                                                    clear H1
                                                    by_cases c100 : (rd t598 x232_7) < t596
                                                    · as_aux_lemma =>
                                                      rw [if_pos c100] at H
                                                      have c100b0 : decide ((rd t598 x232_7) < t596) = true := decide_eq_true c100
                                                      clear c100
                                                      (first | rw [c100b0] | (simp only [i64_w, i32_w]; rw [c100b0]) | skip)
                                                      have H' := Aside0.mk H
                                                      clear H
                                                      go_wp2
                                                      go_meet
                                                      case rel => exact ⟨_, (true), (by first | rfl | (simp; done) | (simp [*]; done)), H', ⟨by have := HJ11.out; have := HJ34.out; have := HJ36.out; have := HJ50.out; have := HJ52.out; have := HJ80.out; have := HK7.out; first | omega | exact Nat.le_refl _⟩, ⟨by (with_reducible repeat (first | apply Kd.R_alloc | apply Kd.R_drewN | apply Kd.R_drew)); exact HO_29.out⟩, ⟨by (with_reducible repeat (first | apply Kd.R_alloc | apply Kd.R_drewN | apply Kd.R_drew)); exact HO_230.out⟩, ⟨by repeat (first | (with_reducible first | exact HB.out | apply below_alloc | apply pw_below_drewN | apply below_drew1) | exact HB.out)⟩⟩
                                                    · as_aux_lemma =>
                                                      rw [if_neg c100] at H
                                                      have c100b0 : decide ((rd t598 x232_7) < t596) = false := decide_eq_false c100
                                                      clear c100
                                                      (first | rw [c100b0] | (simp only [i64_w, i32_w]; rw [c100b0]) | skip)
                                                      by_cases c101 : (rd t598 x232_7) > t597
                                                      · as_aux_lemma =>
                                                        rw [if_pos c101] at H
                                                        have c101b0 : decide (t597 < (rd t598 x232_7)) = true := decide_eq_true c101
                                                        clear c101
                                                        have H' := Aside0.mk H
                                                        clear H
                                                        go_wp2
                                                        go_meet
                                                        case rel => exact ⟨_, (true), (by first | rfl | (simp; done) | (simp [*]; done)), H', ⟨by have := HJ11.out; have := HJ34.out; have := HJ36.out; have := HJ50.out; have := HJ52.out; have := HJ80.out; have := HK7.out; first | omega | exact Nat.le_refl _⟩, ⟨by (with_reducible repeat (first | apply Kd.R_alloc | apply Kd.R_drewN | apply Kd.R_drew)); exact HO_29.out⟩, ⟨by (with_reducible repeat (first | apply Kd.R_alloc | apply Kd.R_drewN | apply Kd.R_drew)); exact HO_230.out⟩, ⟨by repeat (first | (with_reducible first | exact HB.out | apply below_alloc | apply pw_below_drewN | apply below_drew1) | exact HB.out)⟩⟩
                                                      · as_aux_lemma =>
                                                        rw [if_neg c101] at H
                                                        have c101b0 : decide (t597 < (rd t598 x232_7)) = false := decide_eq_false c101
                                                        clear c101
                                                        by_cases c102 : x232_7 > 0
                                                        · as_aux_lemma =>
                                                          rw [if_pos c102] at H
                                                          have c102b0 : decide (0 < x232_7) = true := decide_eq_true c102
                                                          clear c102
                                                          obtain ⟨ji103, hji103⟩ : ∃ j_ : Int, (wrap64 (x232_7 - 1)) = j_ := ⟨_, rfl⟩
                                                          replace H : (if 0 ≤ (ji103) then (if (ji103) < (t598.length : Int) then (laws_FnPrimesCounted.j9 k7 l1 t596 t597 t598 x232_7 (rd t598 x232_7) t598 (t598.length : Int) x232_7 (decide ((rd t598 (ji103)) ≥ (rd t598 x232_7)))) else (none)) else (none)) = some r := by first | (rw [hji103] at H; exact H) | (simp only [hji103] at H ⊢; exact H)
                                                          have hji103w : (IntKind.i64.wrap (x232_7 - 1)) = ji103 := (i64_w _).trans hji103
                                                          by_cases c104 : 0 ≤ (ji103)
                                                          · as_aux_lemma =>
                                                            rw [if_pos c104] at H
                                                            have c104b0 : decide (0 ≤ (ji103)) = true := decide_eq_true c104
                                                            clear c104
                                                            by_cases c105 : (ji103) < (t598.length : Int)
                                                            · as_aux_lemma =>
                                                              rw [if_pos c105] at H
                                                              have c105b0 : decide ((ji103) < (t598.length : Int)) = true := decide_eq_true c105
                                                              clear c105
                                                              have H' := Aside0.mk H
                                                              clear H
                                                              have p610 : 0 ≤ ((ji103) : Int) := of_decide_eq_true (by first | (with_reducible assumption) | assumption)
                                                              have q610 : (ji103) < (t598.length : Int) := of_decide_eq_true (by first | (with_reducible assumption) | assumption)
                                                              obtain ⟨ad610, e610, hx610_0⟩ := Kd.at_int (Kd.R_reads' HO_29.out).2.2 (ji103) p610 q610
                                                              obtain rfl : ad607 = ad610 := (by injection e610)
                                                              replace p610 := eq_true p610
                                                              replace q610 := eq_true q610
                                                              go_wp2
                                                              go_meet
                                                              case rel => exact ⟨_, (decide ((rd t598 (ji103)) ≥ (rd t598 x232_7))), (by first | rfl | (simp; done) | (simp only [← hji103] <;> (first | rfl | simp)) | (simp [*]; done)), H', ⟨by have := HJ11.out; have := HJ34.out; have := HJ36.out; have := HJ50.out; have := HJ52.out; have := HJ80.out; have := HK7.out; first | omega | exact Nat.le_refl _⟩, ⟨by (with_reducible repeat (first | apply Kd.R_alloc | apply Kd.R_drewN | apply Kd.R_drew)); exact HO_29.out⟩, ⟨by (with_reducible repeat (first | apply Kd.R_alloc | apply Kd.R_drewN | apply Kd.R_drew)); exact HO_230.out⟩, ⟨by repeat (first | (with_reducible first | exact HB.out | apply below_alloc | apply pw_below_drewN | apply below_drew1) | exact HB.out)⟩⟩
                                                            · as_aux_lemma =>
                                                              rw [if_neg c105] at H
                                                              exact absurd H (by simp)
                                                          · as_aux_lemma =>
                                                            rw [if_neg c104] at H
                                                            exact absurd H (by simp)
                                                        · as_aux_lemma =>
                                                          rw [if_neg c102] at H
                                                          have c102b0 : decide (0 < x232_7) = false := decide_eq_false c102
                                                          clear c102
                                                          have H' := Aside0.mk H
                                                          clear H
                                                          go_wp2
                                                          go_meet
                                                          case rel => exact ⟨_, (false), (by first | rfl | (simp; done) | (simp [*]; done)), H', ⟨by have := HJ11.out; have := HJ34.out; have := HJ36.out; have := HJ50.out; have := HJ52.out; have := HJ80.out; have := HK7.out; first | omega | exact Nat.le_refl _⟩, ⟨by (with_reducible repeat (first | apply Kd.R_alloc | apply Kd.R_drewN | apply Kd.R_drew)); exact HO_29.out⟩, ⟨by (with_reducible repeat (first | apply Kd.R_alloc | apply Kd.R_drewN | apply Kd.R_drew)); exact HO_230.out⟩, ⟨by repeat (first | (with_reducible first | exact HB.out | apply below_alloc | apply pw_below_drewN | apply below_drew1) | exact HB.out)⟩⟩
                                                  · replace c99 := Bool.eq_false_iff.mpr c99
                                                    subst c99
                                                    have H1 : (laws_FnPrimesCounted.j9 k7 l1 t596 t597 t598 x232_7 (rd t598 x232_7) t598 (t598.length : Int) x232_7 true) = some r := by rw [if_neg (show ¬ (false = true) by decide)] at H; exact H
                                                    clear H
                                                    have H := H1
                                                    clear H1
                                                    have H' := Aside0.mk H
                                                    clear H
                                                    go_wp2
                                                    go_meet
                                                    case rel => exact ⟨_, (true), (by first | rfl | (simp; done) | (simp [*]; done)), H', ⟨by have := HJ11.out; have := HJ34.out; have := HJ36.out; have := HJ50.out; have := HJ52.out; have := HJ80.out; have := HK7.out; first | omega | exact Nat.le_refl _⟩, ⟨by (with_reducible repeat (first | apply Kd.R_alloc | apply Kd.R_drewN | apply Kd.R_drew)); exact HO_29.out⟩, ⟨by (with_reducible repeat (first | apply Kd.R_alloc | apply Kd.R_drewN | apply Kd.R_drew)); exact HO_230.out⟩, ⟨by repeat (first | (with_reducible first | exact HB.out | apply below_alloc | apply pw_below_drewN | apply below_drew1) | exact HB.out)⟩⟩
                                                · replace c98 := Bool.eq_false_iff.mpr c98
                                                  subst c98
                                                  have H1 : (laws_FnPrimesCounted.j9 k7 l1 t596 t597 t598 x232_7 (rd t598 x232_7) t598 (t598.length : Int) x232_7 true) = some r := by rw [if_neg (show ¬ (false = true) by decide)] at H; exact H
                                                  clear H
                                                  have H := H1
                                                  clear H1
                                                  have H' := Aside0.mk H
                                                  clear H
                                                  go_wp2
                                                  go_meet
                                                  case rel => exact ⟨_, (true), (by first | rfl | (simp; done) | (simp [*]; done)), H', ⟨by have := HJ11.out; have := HJ34.out; have := HJ36.out; have := HJ50.out; have := HJ52.out; have := HJ80.out; have := HK7.out; first | omega | exact Nat.le_refl _⟩, ⟨by (with_reducible repeat (first | apply Kd.R_alloc | apply Kd.R_drewN | apply Kd.R_drew)); exact HO_29.out⟩, ⟨by (with_reducible repeat (first | apply Kd.R_alloc | apply Kd.R_drewN | apply Kd.R_drew)); exact HO_230.out⟩, ⟨by repeat (first | (with_reducible first | exact HB.out | apply below_alloc | apply pw_below_drewN | apply below_drew1) | exact HB.out)⟩⟩
                                              case rest =>
                                                as_aux_lemma =>
                                                clear HC97
                                                try clear c1
                                                try clear c2
                                                try clear p2
                                                try clear c3
                                                try clear c4
                                                try clear c5
                                                try clear c6
                                                try clear p6
                                                try clear q6
                                                try clear hx6
                                                try clear c7
                                                try clear c8
                                                try clear c9
                                                try clear c10
                                                try clear c12
                                                try clear c15
                                                try clear c20
                                                try clear c20b0
                                                try clear c20b1
                                                try clear c20b2
                                                try clear c21
                                                try clear c21b0
                                                try clear c21b1
                                                try clear c22
                                                try clear c22b0
                                                try clear c22b1
                                                try clear c22b2
                                                try clear c23
                                                try clear c23b0
                                                try clear c23b1
                                                try clear c24
                                                try clear c24b0
                                                try clear c24b1
                                                try clear c24b2
                                                try clear c26
                                                try clear c27
                                                try clear c28
                                                try clear c29
                                                try clear c30
                                                try clear c31
                                                try clear c33
                                                try clear c34
                                                try clear c35
                                                try clear c36
                                                try clear c38
                                                try clear c40
                                                try clear c41
                                                try clear c41b0
                                                try clear c41b1
                                                try clear c42
                                                try clear c42b0
                                                try clear c42b1
                                                try clear c52
                                                try clear c54
                                                try clear c58
                                                try clear c60
                                                try clear p60
                                                try clear q60
                                                try clear hx60
                                                try clear p61
                                                try clear q61
                                                try clear hx61
                                                try clear c64
                                                try clear p64
                                                try clear c65
                                                try clear c65b0
                                                try clear c65b1
                                                try clear c68
                                                try clear c70
                                                try clear c71
                                                try clear c71b0
                                                try clear c71b1
                                                try clear c85
                                                try clear c85b0
                                                try clear c85b1
                                                try clear c85b2
                                                try clear c89
                                                try clear c91
                                                try clear c93
                                                try clear c93b0
                                                try clear c94
                                                try clear c94b0
                                                try clear c95
                                                try clear c95b0
                                                try clear c98
                                                try clear c99
                                                try clear c100
                                                try clear c100b0
                                                try clear c101
                                                try clear c101b0
                                                try clear c102
                                                try clear c102b0
                                                try clear c104
                                                try clear c104b0
                                                try clear c105
                                                try clear c105b0
                                                try clear hx607_0
                                                try clear hx610_0
                                                try clear p2
                                                try clear p6
                                                try clear p607
                                                try clear p610
                                                try clear p64
                                                try clear q607
                                                try clear q610
                                                obtain ⟨kq, x270_96, rfl, HA, HJ96, HO_29, HO_230, HB⟩ := hcut
                                                cases kq with
                                                | zero => exact absurd HA.out (by simp [laws_FnPrimesCounted.j9])
                                                | succ kj96 =>
                                                  have H := HA.out
                                                  clear HA
                                                  simp only [laws_FnPrimesCounted.j9] at H
                                                  by_cases c106 : x270_96 = true
                                                  · subst c106
                                                    have H1 : (some false) = some r := by rw [if_pos rfl] at H; exact H
                                                    clear H
                                                    have H := H1
                                                    clear H1
                                                    obtain rfl := Option.some.inj H
                                                    go_wp2
                                                    go_ret
                                                    exact ⟨by first | rfl | (simp [errW_none, errW_some] <;> rfl) | (simp [*, errW_none, errW_some] <;> rfl), by repeat (first | (with_reducible first | exact HB.out | apply below_alloc | apply pw_below_drewN | apply below_drew1) | exact HB.out)⟩
                                                  · replace c106 := Bool.eq_false_iff.mpr c106
                                                    subst c106
                                                    have H1 : (if x232_7 > 0 then (laws_FnPrimesCounted.j10 kj96 l1 t596 t597 t598 x232_7 (rd t598 x232_7) t598 (t598.length : Int) x232_7 (decide ((rd t598 x232_7) ≤ 1000000))) else (laws_FnPrimesCounted.j10 kj96 l1 t596 t597 t598 x232_7 (rd t598 x232_7) t598 (t598.length : Int) x232_7 false)) = some r := by rw [if_neg (show ¬ (false = true) by decide)] at H; exact H
                                                    clear H
                                                    have H := H1
                                                    clear H1
                                                    have HC107 := Aside0.mk H
                                                    clear H
                                                    go_upto_region 37 with (fail)
                                                    go_cut [276] (fun v276 wc => ∃ (kq : Nat) (x276_106 : Bool), v276 = .bool x276_106 ∧ Aside0 (laws_FnPrimesCounted.j10 kq l1 t596 t597 t598 x232_7 (rd t598 x232_7) t598 (t598.length : Int) x232_7 x276_106 = some r) ∧ Aside0 (kq ≤ kj96) ∧ Aside0 (Kd.R (Kd.int .i64) 3 wc w.heap.size (fun _ => True) (.slice (some ad607) t598.length co92) t598) ∧ Aside0 (Kd.R (Kd.int .i64) 3 wc w.heap.size (fun _ => True) (.slice (some ad607) t598.length co92) t598) ∧ Aside0 (Below w.heap.size w wc))
                                                    case first =>
                                                      as_aux_lemma =>
                                                      have H := HC107.out
                                                      clear HC107
                                                      by_cases c108 : x232_7 > 0
                                                      · as_aux_lemma =>
                                                        rw [if_pos c108] at H
                                                        have c108b0 : decide (0 < x232_7) = true := decide_eq_true c108
                                                        clear c108
                                                        (first | rw [c108b0] | (simp only [i64_w, i32_w]; rw [c108b0]) | skip)
                                                        have H' := Aside0.mk H
                                                        clear H
                                                        go_wp2
                                                        go_meet
                                                        case rel => exact ⟨_, (decide ((rd t598 x232_7) ≤ 1000000)), (by first | rfl | (simp; done) | (simp [*]; done)), H', ⟨by have := HJ11.out; have := HJ34.out; have := HJ36.out; have := HJ50.out; have := HJ52.out; have := HJ80.out; have := HK7.out; have := HJ96.out; first | omega | exact Nat.le_refl _⟩, ⟨by (with_reducible repeat (first | apply Kd.R_alloc | apply Kd.R_drewN | apply Kd.R_drew)); exact HO_29.out⟩, ⟨by (with_reducible repeat (first | apply Kd.R_alloc | apply Kd.R_drewN | apply Kd.R_drew)); exact HO_230.out⟩, ⟨by repeat (first | (with_reducible first | exact HB.out | apply below_alloc | apply pw_below_drewN | apply below_drew1) | exact HB.out)⟩⟩
                                                      · as_aux_lemma =>
                                                        rw [if_neg c108] at H
                                                        have c108b0 : decide (0 < x232_7) = false := decide_eq_false c108
                                                        clear c108
                                                        (first | rw [c108b0] | (simp only [i64_w, i32_w]; rw [c108b0]) | skip)
                                                        have H' := Aside0.mk H
                                                        clear H
                                                        go_wp2
                                                        go_meet
                                                        case rel => exact ⟨_, (false), (by first | rfl | (simp; done) | (simp [*]; done)), H', ⟨by have := HJ11.out; have := HJ34.out; have := HJ36.out; have := HJ50.out; have := HJ52.out; have := HJ80.out; have := HK7.out; have := HJ96.out; first | omega | exact Nat.le_refl _⟩, ⟨by (with_reducible repeat (first | apply Kd.R_alloc | apply Kd.R_drewN | apply Kd.R_drew)); exact HO_29.out⟩, ⟨by (with_reducible repeat (first | apply Kd.R_alloc | apply Kd.R_drewN | apply Kd.R_drew)); exact HO_230.out⟩, ⟨by repeat (first | (with_reducible first | exact HB.out | apply below_alloc | apply pw_below_drewN | apply below_drew1) | exact HB.out)⟩⟩
                                                    case rest =>
                                                      as_aux_lemma =>
                                                      clear HC107
                                                      try clear c1
                                                      try clear c2
                                                      try clear p2
                                                      try clear c3
                                                      try clear c4
                                                      try clear c5
                                                      try clear c6
                                                      try clear p6
                                                      try clear q6
                                                      try clear hx6
                                                      try clear c7
                                                      try clear c8
                                                      try clear c9
                                                      try clear c10
                                                      try clear c12
                                                      try clear c15
                                                      try clear c20
                                                      try clear c20b0
                                                      try clear c20b1
                                                      try clear c20b2
                                                      try clear c21
                                                      try clear c21b0
                                                      try clear c21b1
                                                      try clear c22
                                                      try clear c22b0
                                                      try clear c22b1
                                                      try clear c22b2
                                                      try clear c23
                                                      try clear c23b0
                                                      try clear c23b1
                                                      try clear c24
                                                      try clear c24b0
                                                      try clear c24b1
                                                      try clear c24b2
                                                      try clear c26
                                                      try clear c27
                                                      try clear c28
                                                      try clear c29
                                                      try clear c30
                                                      try clear c31
                                                      try clear c33
                                                      try clear c34
                                                      try clear c35
                                                      try clear c36
                                                      try clear c38
                                                      try clear c40
                                                      try clear c41
                                                      try clear c41b0
                                                      try clear c41b1
                                                      try clear c42
                                                      try clear c42b0
                                                      try clear c42b1
                                                      try clear c52
                                                      try clear c54
                                                      try clear c58
                                                      try clear c60
                                                      try clear p60
                                                      try clear q60
                                                      try clear hx60
                                                      try clear p61
                                                      try clear q61
                                                      try clear hx61
                                                      try clear c64
                                                      try clear p64
                                                      try clear c65
                                                      try clear c65b0
                                                      try clear c65b1
                                                      try clear c68
                                                      try clear c70
                                                      try clear c71
                                                      try clear c71b0
                                                      try clear c71b1
                                                      try clear c85
                                                      try clear c85b0
                                                      try clear c85b1
                                                      try clear c85b2
                                                      try clear c89
                                                      try clear c91
                                                      try clear c93
                                                      try clear c93b0
                                                      try clear c94
                                                      try clear c94b0
                                                      try clear c95
                                                      try clear c95b0
                                                      try clear c98
                                                      try clear c99
                                                      try clear c100
                                                      try clear c100b0
                                                      try clear c101
                                                      try clear c101b0
                                                      try clear c102
                                                      try clear c102b0
                                                      try clear c104
                                                      try clear c104b0
                                                      try clear c105
                                                      try clear c105b0
                                                      try clear c106
                                                      try clear c108
                                                      try clear c108b0
                                                      try clear hx607_0
                                                      try clear hx610_0
                                                      try clear p2
                                                      try clear p6
                                                      try clear p60
                                                      try clear p607
                                                      try clear p61
                                                      try clear p610
                                                      try clear p64
                                                      try clear q6
                                                      try clear q60
                                                      try clear q607
                                                      try clear q61
                                                      try clear q610
                                                      obtain ⟨kq, x276_106, rfl, HA, HJ106, HO_29, HO_230, HB⟩ := hcut
                                                      cases kq with
                                                      | zero => exact absurd HA.out (by simp [laws_FnPrimesCounted.j10])
                                                      | succ kj106 =>
                                                        have H := HA.out
                                                        clear HA
                                                        simp only [laws_FnPrimesCounted.j10] at H
                                                        by_cases c109 : x276_106 = true
                                                        · subst c109
                                                          have H1 : (if 0 ≤ (wrap64 (x232_7 - 1)) then (if (wrap64 (x232_7 - 1)) < (t598.length : Int) then ((impl_NextPrime.f kj106 (rd t598 (wrap64 (x232_7 - 1)))).bind fun bt612 => (if bt612.2 = true then (if bt612.1 = (rd t598 x232_7) then (laws_FnPrimesCounted.l0 kj106 l1 t596 t597 t598 t598 (t598.length : Int) (wrap64 (x232_7 + 1))) else (some false)) else (some false))) else (none)) else (none)) = some r := by rw [if_pos rfl] at H; exact H
                                                          clear H
                                                          have H := H1
                                                          clear H1
                                                          obtain ⟨ji110, hji110⟩ : ∃ j_ : Int, (wrap64 (x232_7 - 1)) = j_ := ⟨_, rfl⟩
                                                          replace H : (if 0 ≤ (ji110) then (if (ji110) < (t598.length : Int) then ((impl_NextPrime.f kj106 (rd t598 (ji110))).bind fun bt612 => (if bt612.2 = true then (if bt612.1 = (rd t598 x232_7) then (laws_FnPrimesCounted.l0 kj106 l1 t596 t597 t598 t598 (t598.length : Int) (wrap64 (x232_7 + 1))) else (some false)) else (some false))) else (none)) else (none)) = some r := by first | (rw [hji110] at H; exact H) | (simp only [hji110] at H ⊢; exact H)
                                                          have hji110w : (IntKind.i64.wrap (x232_7 - 1)) = ji110 := (i64_w _).trans hji110
                                                          by_cases c111 : 0 ≤ (ji110)
                                                          · as_aux_lemma =>
                                                            rw [if_pos c111] at H
                                                            have c111b0 : decide (0 ≤ (ji110)) = true := decide_eq_true c111
                                                            clear c111
                                                            by_cases c112 : (ji110) < (t598.length : Int)
                                                            · as_aux_lemma =>
                                                              rw [if_pos c112] at H
                                                              have c112b0 : decide ((ji110) < (t598.length : Int)) = true := decide_eq_true c112
                                                              clear c112
                                                              replace H := Option.bind_eq_some_iff.mp H
                                                              obtain ⟨⟨t612, t613⟩, A1130, H⟩ := H
                                                              replace H : (if t613 = true then (if t612 = (rd t598 x232_7) then (laws_FnPrimesCounted.l0 kj106 l1 t596 t597 t598 t598 (t598.length : Int) (wrap64 (x232_7 + 1))) else (some false)) else (some false)) = some r := H
                                                              have A113 := Aside0.mk A1130
                                                              clear A1130
                                                              by_cases c114 : t613 = true
                                                              · subst c114
                                                                have H1 : (if t612 = (rd t598 x232_7) then (laws_FnPrimesCounted.l0 kj106 l1 t596 t597 t598 t598 (t598.length : Int) (wrap64 (x232_7 + 1))) else (some false)) = some r := by rw [if_pos rfl] at H; exact H
                                                                clear H
                                                                have H := H1
                                                                clear H1
                                                                by_cases c115 : t612 = (rd t598 x232_7)
                                                                · as_aux_lemma =>
                                                                  rw [if_pos c115] at H
                                                                  have c115b0 : (t612 == (rd t598 x232_7)) = true := beq_iff_eq.mpr c115
                                                                  have c115b1 : (t612 != (rd t598 x232_7)) = false := bne_eq_false_iff_eq.mpr c115
                                                                  clear c115
                                                                  have H' := Aside0.mk H
                                                                  clear H
                                                                  have p611 : 0 ≤ ((ji110) : Int) := of_decide_eq_true (by first | (with_reducible assumption) | assumption)
                                                                  have q611 : (ji110) < (t598.length : Int) := of_decide_eq_true (by first | (with_reducible assumption) | assumption)
                                                                  obtain ⟨ad611, e611, hx611_0⟩ := Kd.at_int (Kd.R_reads' HO_29.out).2.2 (ji110) p611 q611
                                                                  obtain rfl : ad607 = ad611 := (by injection e611)
                                                                  replace p611 := eq_true p611
                                                                  replace q611 := eq_true q611
                                                                  go_wp2_with (first | ((with_reducible refine gate_callee (f := 36) rfl ?_); refine goesL_ (some 283) rfl rfl Try.func36 (by kernel_rfl) rfl #[.int .i64 (rd t598 (ji110))] rfl (by (try simp only [List.map_toArray, List.map_cons, List.map_nil]); first | done | (simp only [hji110]; rfl) | rfl | (simp only [List.length_drop, List.length_take]; rfl)) ?_; (with_reducible refine (impl_NextPrime.calls kj106 (rd t598 (ji110)) t612 true _ A113.out).mono ?_); rintro e w' ⟨rfl, ⟨nd, rfl⟩⟩; refine ⟨_, rfl, ?_⟩))
                                                                  first | go_roundg kj106 | (try subst hji103; try subst hji110; go_roundg kj106)
                                                                  case measure => have := HJ11.out; have := HJ34.out; have := HJ36.out; have := HJ50.out; have := HJ52.out; have := HJ80.out; have := HK7.out; have := HJ96.out; have := HJ106.out; omega
                                                                  case rel => exact ⟨(wrap64 (x232_7 + 1)), (by first | rfl | (simp; done) | (simp [*]; done)), H', ⟨by have := HJ11.out; have := HJ34.out; have := HJ36.out; have := HJ50.out; have := HJ52.out; have := HJ80.out; have := HK7.out; have := HJ96.out; have := HJ106.out; omega⟩, ⟨by (with_reducible repeat (first | apply Kd.R_alloc | apply Kd.R_drewN | apply Kd.R_drew)); exact HO_29.out⟩, ⟨by (with_reducible repeat (first | apply Kd.R_alloc | apply Kd.R_drewN | apply Kd.R_drew)); exact HO_230.out⟩, ⟨by repeat (first | (with_reducible first | exact HB.out | apply below_alloc | apply pw_below_drewN | apply below_drew1) | exact HB.out)⟩⟩
                                                                · as_aux_lemma =>
                                                                  rw [if_neg c115] at H
                                                                  have c115b0 : (t612 == (rd t598 x232_7)) = false := beq_eq_false_iff_ne.mpr c115
                                                                  have c115b1 : (t612 != (rd t598 x232_7)) = true := bne_iff_ne.mpr c115
                                                                  obtain rfl := Option.some.inj H
                                                                  have p611 : 0 ≤ ((ji110) : Int) := of_decide_eq_true (by first | (with_reducible assumption) | assumption)
                                                                  have q611 : (ji110) < (t598.length : Int) := of_decide_eq_true (by first | (with_reducible assumption) | assumption)
                                                                  obtain ⟨ad611, e611, hx611_0⟩ := Kd.at_int (Kd.R_reads' HO_29.out).2.2 (ji110) p611 q611
                                                                  obtain rfl : ad607 = ad611 := (by injection e611)
                                                                  replace p611 := eq_true p611
                                                                  replace q611 := eq_true q611
                                                                  go_wp2_with (first | ((with_reducible refine gate_callee (f := 36) rfl ?_); refine goesL_ (some 283) rfl rfl Try.func36 (by kernel_rfl) rfl #[.int .i64 (rd t598 (ji110))] rfl (by (try simp only [List.map_toArray, List.map_cons, List.map_nil]); first | done | (simp only [hji110]; rfl) | rfl | (simp only [List.length_drop, List.length_take]; rfl)) ?_; (with_reducible refine (impl_NextPrime.calls kj106 (rd t598 (ji110)) t612 true _ A113.out).mono ?_); rintro e w' ⟨rfl, ⟨nd, rfl⟩⟩; refine ⟨_, rfl, ?_⟩))
                                                                  go_ret
                                                                  exact ⟨by first | rfl | (simp [errW_none, errW_some] <;> rfl) | (simp only [← hji110]; first | rfl | (simp [errW_none, errW_some] <;> rfl)) | (simp [*, errW_none, errW_some] <;> rfl), by repeat (first | (with_reducible first | exact HB.out | apply below_alloc | apply pw_below_drewN | apply below_drew1) | exact HB.out)⟩
                                                              · replace c114 := Bool.eq_false_iff.mpr c114
                                                                subst c114
                                                                have H1 : (some false) = some r := by rw [if_neg (show ¬ (false = true) by decide)] at H; exact H
                                                                clear H
                                                                have H := H1
                                                                clear H1
                                                                obtain rfl := Option.some.inj H
                                                                have p611 : 0 ≤ ((ji110) : Int) := of_decide_eq_true (by first | (with_reducible assumption) | assumption)
                                                                have q611 : (ji110) < (t598.length : Int) := of_decide_eq_true (by first | (with_reducible assumption) | assumption)
                                                                obtain ⟨ad611, e611, hx611_0⟩ := Kd.at_int (Kd.R_reads' HO_29.out).2.2 (ji110) p611 q611
                                                                obtain rfl : ad607 = ad611 := (by injection e611)
                                                                replace p611 := eq_true p611
                                                                replace q611 := eq_true q611
                                                                go_wp2_with (first | ((with_reducible refine gate_callee (f := 36) rfl ?_); refine goesL_ (some 283) rfl rfl Try.func36 (by kernel_rfl) rfl #[.int .i64 (rd t598 (ji110))] rfl (by (try simp only [List.map_toArray, List.map_cons, List.map_nil]); first | done | (simp only [hji110]; rfl) | rfl | (simp only [List.length_drop, List.length_take]; rfl)) ?_; (with_reducible refine (impl_NextPrime.calls kj106 (rd t598 (ji110)) t612 false _ A113.out).mono ?_); rintro e w' ⟨rfl, ⟨nd, rfl⟩⟩; refine ⟨_, rfl, ?_⟩))
                                                                go_ret
                                                                exact ⟨by first | rfl | (simp [errW_none, errW_some] <;> rfl) | (simp only [← hji110]; first | rfl | (simp [errW_none, errW_some] <;> rfl)) | (simp [*, errW_none, errW_some] <;> rfl), by repeat (first | (with_reducible first | exact HB.out | apply below_alloc | apply pw_below_drewN | apply below_drew1) | exact HB.out)⟩
                                                            · as_aux_lemma =>
                                                              rw [if_neg c112] at H
                                                              exact absurd H (by simp)
                                                          · as_aux_lemma =>
                                                            rw [if_neg c111] at H
                                                            exact absurd H (by simp)
                                                        · replace c109 := Bool.eq_false_iff.mpr c109
                                                          subst c109
                                                          have H1 : (laws_FnPrimesCounted.l0 kj106 l1 t596 t597 t598 t598 (t598.length : Int) (wrap64 (x232_7 + 1))) = some r := by rw [if_neg (show ¬ (false = true) by decide)] at H; exact H
                                                          clear H
                                                          have H := H1
                                                          clear H1
                                                          have H' := Aside0.mk H
                                                          clear H
                                                          go_wp2
                                                          first | go_roundg kj106 | (try subst hji103; try subst hji110; go_roundg kj106)
                                                          case measure => have := HJ11.out; have := HJ34.out; have := HJ36.out; have := HJ50.out; have := HJ52.out; have := HJ80.out; have := HK7.out; have := HJ96.out; have := HJ106.out; omega
                                                          case rel => exact ⟨(wrap64 (x232_7 + 1)), (by first | rfl | (simp; done) | (simp [*]; done)), H', ⟨by have := HJ11.out; have := HJ34.out; have := HJ36.out; have := HJ50.out; have := HJ52.out; have := HJ80.out; have := HK7.out; have := HJ96.out; have := HJ106.out; omega⟩, ⟨by (with_reducible repeat (first | apply Kd.R_alloc | apply Kd.R_drewN | apply Kd.R_drew)); exact HO_29.out⟩, ⟨by (with_reducible repeat (first | apply Kd.R_alloc | apply Kd.R_drewN | apply Kd.R_drew)); exact HO_230.out⟩, ⟨by repeat (first | (with_reducible first | exact HB.out | apply below_alloc | apply pw_below_drewN | apply below_drew1) | exact HB.out)⟩⟩
                                            · as_aux_lemma =>
                                              rw [if_neg c95] at H
                                              exact absurd H (by simp)
                                          · as_aux_lemma =>
                                            rw [if_neg c94] at H
                                            exact absurd H (by simp)
                                        · as_aux_lemma =>
                                          rw [if_neg c93] at H
                                          have c93b0 : decide (x232_7 < (t598.length : Int)) = false := decide_eq_false c93
                                          clear c93
                                          (first | rw [c93b0] | (simp only [i64_w, i32_w]; rw [c93b0]) | skip)
                                          have H' := Aside0.mk H
                                          clear H
                                          go_wp2
                                          go_meet
                                          case rel => exact ⟨_, H', ⟨by have := HJ11.out; have := HJ34.out; have := HJ36.out; have := HJ50.out; have := HJ52.out; have := HJ80.out; have := HK7.out; first | omega | exact Nat.le_refl _⟩, ⟨by repeat (first | (with_reducible first | exact HB.out | apply below_alloc | apply pw_below_drewN | apply below_drew1) | exact HB.out)⟩⟩
                                  · replace c91 := Bool.eq_false_iff.mpr c91
                                    subst c91
                                    have H1 : (laws_FnPrimesCounted.j11 kj80 l1) = some r := by rw [if_neg (show ¬ (false = true) by decide)] at H; exact H
                                    clear H
                                    have H := H1
                                    clear H1
                                    have H' := Aside0.mk H
                                    clear H
                                    go_wp2
                                    go_meet
                                    case rel => exact ⟨_, H', ⟨by have := HJ11.out; have := HJ34.out; have := HJ36.out; have := HJ50.out; have := HJ52.out; have := HJ80.out; first | omega | exact Nat.le_refl _⟩, ⟨by repeat (first | (with_reducible first | exact HB.out | apply below_alloc | apply pw_below_drewN | apply below_drew1) | exact HB.out)⟩⟩
                                case rest =>
                                  as_aux_lemma =>
                                  clear HC90
                                  try clear c1
                                  try clear c2
                                  try clear p2
                                  try clear c3
                                  try clear c4
                                  try clear c5
                                  try clear c6
                                  try clear p6
                                  try clear q6
                                  try clear hx6
                                  try clear c7
                                  try clear c8
                                  try clear c9
                                  try clear c10
                                  try clear c11
                                  try clear c12
                                  try clear c15
                                  try clear c20
                                  try clear c20b0
                                  try clear c20b1
                                  try clear c20b2
                                  try clear c21
                                  try clear c21b0
                                  try clear c21b1
                                  try clear c22
                                  try clear c22b0
                                  try clear c22b1
                                  try clear c22b2
                                  try clear c23
                                  try clear c23b0
                                  try clear c23b1
                                  try clear c24
                                  try clear c24b0
                                  try clear c24b1
                                  try clear c24b2
                                  try clear c26
                                  try clear c27
                                  try clear c28
                                  try clear c29
                                  try clear c30
                                  try clear c31
                                  try clear c33
                                  try clear c34
                                  try clear c35
                                  try clear c36
                                  try clear c38
                                  try clear c40
                                  try clear c41
                                  try clear c41b0
                                  try clear c41b1
                                  try clear c42
                                  try clear c42b0
                                  try clear c42b1
                                  try clear c52
                                  try clear c54
                                  try clear c58
                                  try clear c60
                                  try clear p60
                                  try clear q60
                                  try clear hx60
                                  try clear p61
                                  try clear q61
                                  try clear hx61
                                  try clear c64
                                  try clear p64
                                  try clear c65
                                  try clear c65b0
                                  try clear c65b1
                                  try clear c68
                                  try clear c70
                                  try clear c71
                                  try clear c71b0
                                  try clear c71b1
                                  try clear c85
                                  try clear c85b0
                                  try clear c85b1
                                  try clear c85b2
                                  try clear c89
                                  try clear c91
                                  try clear c93
                                  try clear c93b0
                                  try clear c94
                                  try clear c94b0
                                  try clear c95
                                  try clear c95b0
                                  try clear c98
                                  try clear c99
                                  try clear c100
                                  try clear c100b0
                                  try clear c101
                                  try clear c101b0
                                  try clear c102
                                  try clear c102b0
                                  try clear c104
                                  try clear c104b0
                                  try clear c105
                                  try clear c105b0
                                  try clear c106
                                  try clear c108
                                  try clear c108b0
                                  try clear c109
                                  try clear c111
                                  try clear c111b0
                                  try clear c112
                                  try clear c112b0
                                  try clear c114
                                  try clear c115
                                  try clear c115b0
                                  try clear c115b1
                                  try clear hx607_0
                                  try clear hx610_0
                                  try clear hx611_0
                                  try clear p2
                                  try clear p6
                                  try clear p60
                                  try clear p607
                                  try clear p61
                                  try clear p610
                                  try clear p611
                                  try clear p64
                                  try clear q6
                                  try clear q60
                                  try clear q607
                                  try clear q61
                                  try clear q610
                                  try clear q611
                                  obtain ⟨kq, HA, HJ89, HB⟩ := hcut
                                  cases kq with
                                  | zero => exact absurd HA.out (by simp [laws_FnPrimesCounted.j11])
                                  | succ kj89 =>
                                    have H := HA.out
                                    clear HA
                                    simp only [laws_FnPrimesCounted.j11] at H
                                    replace H := Option.bind_eq_some_iff.mp H
                                    obtain ⟨t614, A1160, H⟩ := H
                                    replace H : ((impl_PrimeOfRank.f kj89 t614).bind fun bt615 => ((spec_PrimeOfRank.f kj89 t614).bind fun bt617 => ((spec_DrawNextPrime.f l1).bind fun t619 => ((impl_NextPrime.f kj89 t619).bind fun bt620 => ((spec_NextPrime.f kj89 t619).bind fun bt622 => (if (bt615.2 != bt617.2) = true then (laws_FnPrimesCounted.j12 kj89 t614 bt615.1 bt615.2 true) else (if bt615.1 = bt617.1 then (if (bt620.2 != bt622.2) = true then (laws_FnPrimesCounted.j12 kj89 t614 bt615.1 bt615.2 true) else (laws_FnPrimesCounted.j12 kj89 t614 bt615.1 bt615.2 (bt620.1 != bt622.1))) else (laws_FnPrimesCounted.j12 kj89 t614 bt615.1 bt615.2 true)))))))) = some r := H
                                    have A116 := Aside0.mk A1160
                                    clear A1160
                                    replace H := Option.bind_eq_some_iff.mp H
                                    obtain ⟨⟨t615, t616⟩, A1170, H⟩ := H
                                    replace H : ((spec_PrimeOfRank.f kj89 t614).bind fun bt617 => ((spec_DrawNextPrime.f l1).bind fun t619 => ((impl_NextPrime.f kj89 t619).bind fun bt620 => ((spec_NextPrime.f kj89 t619).bind fun bt622 => (if (t616 != bt617.2) = true then (laws_FnPrimesCounted.j12 kj89 t614 t615 t616 true) else (if t615 = bt617.1 then (if (bt620.2 != bt622.2) = true then (laws_FnPrimesCounted.j12 kj89 t614 t615 t616 true) else (laws_FnPrimesCounted.j12 kj89 t614 t615 t616 (bt620.1 != bt622.1))) else (laws_FnPrimesCounted.j12 kj89 t614 t615 t616 true))))))) = some r := H
                                    have A117 := Aside0.mk A1170
                                    clear A1170
                                    replace H := Option.bind_eq_some_iff.mp H
                                    obtain ⟨⟨t617, t618⟩, A1180, H⟩ := H
                                    replace H : ((spec_DrawNextPrime.f l1).bind fun t619 => ((impl_NextPrime.f kj89 t619).bind fun bt620 => ((spec_NextPrime.f kj89 t619).bind fun bt622 => (if (t616 != t618) = true then (laws_FnPrimesCounted.j12 kj89 t614 t615 t616 true) else (if t615 = t617 then (if (bt620.2 != bt622.2) = true then (laws_FnPrimesCounted.j12 kj89 t614 t615 t616 true) else (laws_FnPrimesCounted.j12 kj89 t614 t615 t616 (bt620.1 != bt622.1))) else (laws_FnPrimesCounted.j12 kj89 t614 t615 t616 true)))))) = some r := H
                                    have A118 := Aside0.mk A1180
                                    clear A1180
                                    replace H := Option.bind_eq_some_iff.mp H
                                    obtain ⟨t619, A1190, H⟩ := H
                                    replace H : ((impl_NextPrime.f kj89 t619).bind fun bt620 => ((spec_NextPrime.f kj89 t619).bind fun bt622 => (if (t616 != t618) = true then (laws_FnPrimesCounted.j12 kj89 t614 t615 t616 true) else (if t615 = t617 then (if (bt620.2 != bt622.2) = true then (laws_FnPrimesCounted.j12 kj89 t614 t615 t616 true) else (laws_FnPrimesCounted.j12 kj89 t614 t615 t616 (bt620.1 != bt622.1))) else (laws_FnPrimesCounted.j12 kj89 t614 t615 t616 true))))) = some r := H
                                    have A119 := Aside0.mk A1190
                                    clear A1190
                                    replace H := Option.bind_eq_some_iff.mp H
                                    obtain ⟨⟨t620, t621⟩, A1200, H⟩ := H
                                    replace H : ((spec_NextPrime.f kj89 t619).bind fun bt622 => (if (t616 != t618) = true then (laws_FnPrimesCounted.j12 kj89 t614 t615 t616 true) else (if t615 = t617 then (if (t621 != bt622.2) = true then (laws_FnPrimesCounted.j12 kj89 t614 t615 t616 true) else (laws_FnPrimesCounted.j12 kj89 t614 t615 t616 (t620 != bt622.1))) else (laws_FnPrimesCounted.j12 kj89 t614 t615 t616 true)))) = some r := H
                                    have A120 := Aside0.mk A1200
                                    clear A1200
                                    replace H := Option.bind_eq_some_iff.mp H
                                    obtain ⟨⟨t622, t623⟩, A1210, H⟩ := H
                                    replace H : (if (t616 != t618) = true then (laws_FnPrimesCounted.j12 kj89 t614 t615 t616 true) else (if t615 = t617 then (if (t621 != t623) = true then (laws_FnPrimesCounted.j12 kj89 t614 t615 t616 true) else (laws_FnPrimesCounted.j12 kj89 t614 t615 t616 (t620 != t622))) else (laws_FnPrimesCounted.j12 kj89 t614 t615 t616 true))) = some r := H
                                    have A121 := Aside0.mk A1210
                                    clear A1210
                                    have HC122 := Aside0.mk H
                                    clear H
                                    go_upto_region 48 with (first | ((with_reducible refine gate_callee (f := 42) rfl ?_); refine goesL_ (some 295) rfl rfl Try.func42 (by kernel_rfl) rfl #[.slice A1 l1.length c1] rfl (by (try simp only [List.map_toArray, List.map_cons, List.map_nil]); first | done | rfl | (simp only [List.length_drop, List.length_take]; rfl)) ?_; (with_reducible refine (spec_DrawPrimeOfRank.calls _ _ l1 t614 _ ?side1 ?side2 A116.out).mono ?_); (case side1 => repeat (first | exact (Kd.C_below HR1.out HB.out) | (with_reducible refine Kd.C_alloc ?_ _) | (with_reducible refine Kd.C_drewN ?_ _) | (with_reducible refine Kd.C_drew ?_))); (case side2 => exact HC1.out); rintro e w123 ⟨rfl, hb⟩; refine ⟨_, rfl, ?_⟩; have n0_ := Aside0.mk (below_step (by repeat (first | (with_reducible first | exact HB.out | apply below_alloc | apply pw_below_drewN | apply below_drew1) | exact HB.out)) hb); clear HB; have HB := n0_; clear n0_; (try clear hb); (try clear hb2); (try clear hk); (try clear hi)) | ((with_reducible refine gate_callee (f := 37) rfl ?_); refine goesL_ (some 298) rfl rfl Try.func37 (by kernel_rfl) rfl #[.int .i64 t614] rfl (by (try simp only [List.map_toArray, List.map_cons, List.map_nil]); first | done | rfl | (simp only [List.length_drop, List.length_take]; rfl)) ?_; (with_reducible refine (impl_PrimeOfRank.calls kj89 t614 t615 t616 _ A117.out).mono ?_); rintro e w124 ⟨rfl, hb⟩; refine ⟨_, rfl, ?_⟩; have n0_ := Aside0.mk (below_step (by repeat (first | (with_reducible first | exact HB.out | apply below_alloc | apply pw_below_drewN | apply below_drew1) | exact HB.out)) hb); clear HB; have HB := n0_; clear n0_; (try clear hb); (try clear hb2); (try clear hk); (try clear hi)) | ((with_reducible refine gate_callee (f := 38) rfl ?_); refine goesL_ (some 303) rfl rfl Try.func38 (by kernel_rfl) rfl #[.int .i64 t614] rfl (by (try simp only [List.map_toArray, List.map_cons, List.map_nil]); first | done | rfl | (simp only [List.length_drop, List.length_take]; rfl)) ?_; (with_reducible refine (spec_PrimeOfRank.calls kj89 t614 t617 t618 _ A118.out).mono ?_); rintro e w125 ⟨rfl, hb⟩; refine ⟨_, rfl, ?_⟩; have n0_ := Aside0.mk (below_step (by repeat (first | (with_reducible first | exact HB.out | apply below_alloc | apply pw_below_drewN | apply below_drew1) | exact HB.out)) hb); clear HB; have HB := n0_; clear n0_; (try clear hb); (try clear hb2); (try clear hk); (try clear hi)) | ((with_reducible refine gate_callee (f := 43) rfl ?_); refine goesL_ (some 307) rfl rfl Try.func43 (by kernel_rfl) rfl #[.slice A1 l1.length c1] rfl (by (try simp only [List.map_toArray, List.map_cons, List.map_nil]); first | done | rfl | (simp only [List.length_drop, List.length_take]; rfl)) ?_; (with_reducible refine (spec_DrawNextPrime.calls _ _ l1 t619 _ ?side1 ?side2 A119.out).mono ?_); (case side1 => repeat (first | exact (Kd.C_below HR1.out HB.out) | (with_reducible refine Kd.C_alloc ?_ _) | (with_reducible refine Kd.C_drewN ?_ _) | (with_reducible refine Kd.C_drew ?_))); (case side2 => exact HC1.out); rintro e w126 ⟨rfl, hb⟩; refine ⟨_, rfl, ?_⟩; have n0_ := Aside0.mk (below_step (by repeat (first | (with_reducible first | exact HB.out | apply below_alloc | apply pw_below_drewN | apply below_drew1) | exact HB.out)) hb); clear HB; have HB := n0_; clear n0_; (try clear hb); (try clear hb2); (try clear hk); (try clear hi)) | ((with_reducible refine gate_callee (f := 36) rfl ?_); refine goesL_ (some 310) rfl rfl Try.func36 (by kernel_rfl) rfl #[.int .i64 t619] rfl (by (try simp only [List.map_toArray, List.map_cons, List.map_nil]); first | done | rfl | (simp only [List.length_drop, List.length_take]; rfl)) ?_; (with_reducible refine (impl_NextPrime.calls kj89 t619 t620 t621 _ A120.out).mono ?_); rintro e w' ⟨rfl, ⟨nd, rfl⟩⟩; refine ⟨_, rfl, ?_⟩) | ((with_reducible refine gate_callee (f := 39) rfl ?_); refine goesL_ (some 315) rfl rfl Try.func39 (by kernel_rfl) rfl #[.int .i64 t619] rfl (by (try simp only [List.map_toArray, List.map_cons, List.map_nil]); first | done | rfl | (simp only [List.length_drop, List.length_take]; rfl)) ?_; (with_reducible refine (spec_NextPrime.calls kj89 t619 t622 t623 _ A121.out).mono ?_); rintro e w' ⟨rfl, ⟨nd, rfl⟩⟩; refine ⟨_, rfl, ?_⟩))
                                    (try simp only [Act.put, List.setIfInBounds_toArray, List.set_cons_zero, List.set_cons_succ])
                                    go_cut [335] (fun v335 wc => ∃ (kq : Nat) (x335_121 : Bool), v335 = .bool x335_121 ∧ Aside0 (laws_FnPrimesCounted.j12 kq t614 t615 t616 x335_121 = some r) ∧ Aside0 (kq ≤ kj89) ∧ Aside0 (Below w.heap.size w wc))
                                    case first =>
                                      as_aux_lemma =>
                                      have H := HC122.out
                                      clear HC122
                                      by_cases c127 : (t616 != t618) = true
                                      · as_aux_lemma =>
                                        rw [if_pos c127] at H
                                        have c127b0 : (t616 != t618) = true := c127
                                        (try (have c127b1 : decide (t616 = t618) = false := by simpa using c127))
                                        (try (have c127b2 : (t616 == t618) = false := by simpa using c127))
                                        (try (have c127b3 : ¬ (t616 = t618) := by simpa using c127))
                                        clear c127
                                        (first | rw [c127b0] | (simp only [i64_w, i32_w]; rw [c127b0]) | skip)
                                        have H' := Aside0.mk H
                                        clear H
                                        go_wp2
                                        go_meet
                                        case rel => exact ⟨_, (true), (by first | rfl | (simp; done) | (simp [*]; done)), H', ⟨by have := HJ11.out; have := HJ34.out; have := HJ36.out; have := HJ50.out; have := HJ52.out; have := HJ80.out; have := HJ89.out; first | omega | exact Nat.le_refl _⟩, ⟨by repeat (first | (with_reducible first | exact HB.out | apply below_alloc | apply pw_below_drewN | apply below_drew1) | exact HB.out)⟩⟩
                                      · as_aux_lemma =>
                                        rw [if_neg c127] at H
                                        have c127b0 : (t616 != t618) = false := by simpa using c127
                                        (try (have c127b1 : decide (t616 = t618) = true := by simpa using c127))
                                        (try (have c127b2 : (t616 == t618) = true := by simpa using c127))
                                        clear c127
                                        (first | rw [c127b0] | (simp only [i64_w, i32_w]; rw [c127b0]) | skip)
                                        by_cases c128 : t615 = t617
                                        · as_aux_lemma =>
                                          rw [if_pos c128] at H
                                          have c128b0 : (t615 == t617) = true := beq_iff_eq.mpr c128
                                          have c128b1 : (t615 != t617) = false := bne_eq_false_iff_eq.mpr c128
                                          clear c128
                                          by_cases c129 : (t621 != t623) = true
                                          · as_aux_lemma =>
                                            rw [if_pos c129] at H
                                            have c129b0 : (t621 != t623) = true := c129
                                            (try (have c129b1 : decide (t621 = t623) = false := by simpa using c129))
                                            (try (have c129b2 : (t621 == t623) = false := by simpa using c129))
                                            (try (have c129b3 : ¬ (t621 = t623) := by simpa using c129))
                                            clear c129
                                            have H' := Aside0.mk H
                                            clear H
                                            go_wp2
                                            go_meet
                                            case rel => exact ⟨_, (true), (by first | rfl | (simp; done) | (simp [*]; done)), H', ⟨by have := HJ11.out; have := HJ34.out; have := HJ36.out; have := HJ50.out; have := HJ52.out; have := HJ80.out; have := HJ89.out; first | omega | exact Nat.le_refl _⟩, ⟨by repeat (first | (with_reducible first | exact HB.out | apply below_alloc | apply pw_below_drewN | apply below_drew1) | exact HB.out)⟩⟩
                                          · as_aux_lemma =>
                                            rw [if_neg c129] at H
                                            have c129b0 : (t621 != t623) = false := by simpa using c129
                                            (try (have c129b1 : decide (t621 = t623) = true := by simpa using c129))
                                            (try (have c129b2 : (t621 == t623) = true := by simpa using c129))
                                            clear c129
                                            have H' := Aside0.mk H
                                            clear H
                                            go_wp2
                                            go_meet
                                            case rel => exact ⟨_, ((t620 != t622)), (by first | rfl | (simp; done) | (simp [*]; done)), H', ⟨by have := HJ11.out; have := HJ34.out; have := HJ36.out; have := HJ50.out; have := HJ52.out; have := HJ80.out; have := HJ89.out; first | omega | exact Nat.le_refl _⟩, ⟨by repeat (first | (with_reducible first | exact HB.out | apply below_alloc | apply pw_below_drewN | apply below_drew1) | exact HB.out)⟩⟩
                                        · as_aux_lemma =>
                                          rw [if_neg c128] at H
                                          have c128b0 : (t615 == t617) = false := beq_eq_false_iff_ne.mpr c128
                                          have c128b1 : (t615 != t617) = true := bne_iff_ne.mpr c128
                                          have H' := Aside0.mk H
                                          clear H
                                          go_wp2
                                          go_meet
                                          case rel => exact ⟨_, (true), (by first | rfl | (simp; done) | (simp [*]; done)), H', ⟨by have := HJ11.out; have := HJ34.out; have := HJ36.out; have := HJ50.out; have := HJ52.out; have := HJ80.out; have := HJ89.out; first | omega | exact Nat.le_refl _⟩, ⟨by repeat (first | (with_reducible first | exact HB.out | apply below_alloc | apply pw_below_drewN | apply below_drew1) | exact HB.out)⟩⟩
                                    case rest =>
                                      as_aux_lemma =>
                                      clear HC122
                                      try clear c1
                                      try clear c2
                                      try clear p2
                                      try clear c3
                                      try clear c4
                                      try clear c5
                                      try clear c6
                                      try clear p6
                                      try clear q6
                                      try clear hx6
                                      try clear c7
                                      try clear c8
                                      try clear c9
                                      try clear c10
                                      try clear c11
                                      try clear c12
                                      try clear c15
                                      try clear c20
                                      try clear c20b0
                                      try clear c20b1
                                      try clear c20b2
                                      try clear c21
                                      try clear c21b0
                                      try clear c21b1
                                      try clear c22
                                      try clear c22b0
                                      try clear c22b1
                                      try clear c22b2
                                      try clear c23
                                      try clear c23b0
                                      try clear c23b1
                                      try clear c24
                                      try clear c24b0
                                      try clear c24b1
                                      try clear c24b2
                                      try clear c26
                                      try clear c27
                                      try clear c28
                                      try clear c29
                                      try clear c30
                                      try clear c31
                                      try clear c33
                                      try clear c34
                                      try clear c35
                                      try clear c36
                                      try clear c37
                                      try clear c38
                                      try clear c39
                                      try clear c40
                                      try clear c41
                                      try clear c41b0
                                      try clear c41b1
                                      try clear c42
                                      try clear c42b0
                                      try clear c42b1
                                      try clear c43
                                      try clear c52
                                      try clear c54
                                      try clear c58
                                      try clear c60
                                      try clear p60
                                      try clear q60
                                      try clear hx60
                                      try clear p61
                                      try clear q61
                                      try clear hx61
                                      try clear c64
                                      try clear p64
                                      try clear c65
                                      try clear c65b0
                                      try clear c65b1
                                      try clear c68
                                      try clear c70
                                      try clear c71
                                      try clear c71b0
                                      try clear c71b1
                                      try clear c85
                                      try clear c85b0
                                      try clear c85b1
                                      try clear c85b2
                                      try clear c89
                                      try clear c91
                                      try clear c93
                                      try clear c93b0
                                      try clear c94
                                      try clear c94b0
                                      try clear c95
                                      try clear c95b0
                                      try clear c98
                                      try clear c99
                                      try clear c100
                                      try clear c100b0
                                      try clear c101
                                      try clear c101b0
                                      try clear c102
                                      try clear c102b0
                                      try clear c104
                                      try clear c104b0
                                      try clear c105
                                      try clear c105b0
                                      try clear c106
                                      try clear c108
                                      try clear c108b0
                                      try clear c109
                                      try clear c111
                                      try clear c111b0
                                      try clear c112
                                      try clear c112b0
                                      try clear c114
                                      try clear c115
                                      try clear c115b0
                                      try clear c115b1
                                      try clear c127
                                      try clear c127b0
                                      try clear c127b1
                                      try clear c127b2
                                      try clear c128
                                      try clear c128b0
                                      try clear c128b1
                                      try clear c129
                                      try clear c129b0
                                      try clear c129b1
                                      try clear c129b2
                                      try clear hx607_0
                                      try clear hx610_0
                                      try clear hx611_0
                                      try clear p2
                                      try clear p6
                                      try clear p60
                                      try clear p607
                                      try clear p61
                                      try clear p610
                                      try clear p611
                                      try clear p64
                                      try clear q6
                                      try clear q60
                                      try clear q607
                                      try clear q61
                                      try clear q610
                                      try clear q611
                                      obtain ⟨kq, x335_121, rfl, HA, HJ121, HB⟩ := hcut
                                      cases kq with
                                      | zero => exact absurd HA.out (by simp [laws_FnPrimesCounted.j12])
                                      | succ kj121 =>
                                        have H := HA.out
                                        clear HA
                                        simp only [laws_FnPrimesCounted.j12] at H
                                        by_cases c130 : x335_121 = true
                                        · subst c130
                                          have H1 : (some false) = some r := by rw [if_pos rfl] at H; exact H
                                          clear H
                                          have H := H1
                                          clear H1
                                          obtain rfl := Option.some.inj H
                                          go_wp2
                                          go_ret
                                          exact ⟨by first | rfl | (simp [errW_none, errW_some] <;> rfl) | (simp [*, errW_none, errW_some] <;> rfl), by repeat (first | (with_reducible first | exact HB.out | apply below_alloc | apply pw_below_drewN | apply below_drew1) | exact HB.out)⟩
                                        · replace c130 := Bool.eq_false_iff.mpr c130
                                          subst c130
                                          have H1 : (if t616 = true then ((impl_CountPrimes.f kj121 t615).bind fun bt624 => (if bt624.2 = true then (some (bt624.1 == (wrap64 (t614 + 1)))) else (some false))) else (some true)) = some r := by rw [if_neg (show ¬ (false = true) by decide)] at H; exact H
                                          clear H
                                          have H := H1
                                          clear H1
                                          by_cases c131 : t616 = true
                                          · subst c131
                                            have H1 : ((impl_CountPrimes.f kj121 t615).bind fun bt624 => (if bt624.2 = true then (some (bt624.1 == (wrap64 (t614 + 1)))) else (some false))) = some r := by rw [if_pos rfl] at H; exact H
                                            clear H
                                            have H := H1
                                            clear H1
                                            replace H := Option.bind_eq_some_iff.mp H
                                            obtain ⟨⟨t624, t625⟩, A1320, H⟩ := H
                                            replace H : (if t625 = true then (some (t624 == (wrap64 (t614 + 1)))) else (some false)) = some r := H
                                            have A132 := Aside0.mk A1320
                                            clear A1320
                                            by_cases c133 : t625 = true
                                            · subst c133
                                              have H1 : (some (t624 == (wrap64 (t614 + 1)))) = some r := by rw [if_pos rfl] at H; exact H
                                              clear H
                                              have H := H1
                                              clear H1
                                              obtain rfl := Option.some.inj H
                                              go_wp2_with (first | ((with_reducible refine gate_callee (f := 28) rfl ?_); refine goesL_ (some 339) rfl rfl Try.func28 (by kernel_rfl) rfl #[.int .i64 t615] rfl (by (try simp only [List.map_toArray, List.map_cons, List.map_nil]); first | done | rfl | (simp only [List.length_drop, List.length_take]; rfl)) ?_; (with_reducible refine (impl_CountPrimes.calls kj121 t615 t624 true _ A132.out).mono ?_); rintro e w134 ⟨rfl, hb⟩; refine ⟨_, rfl, ?_⟩; have n0_ := Aside0.mk (below_step (by repeat (first | (with_reducible first | exact HB.out | apply below_alloc | apply pw_below_drewN | apply below_drew1) | exact HB.out)) hb); clear HB; have HB := n0_; clear n0_; (try clear hb); (try clear hb2); (try clear hk); (try clear hi)))
                                              go_ret
                                              exact ⟨by first | rfl | (simp [errW_none, errW_some] <;> rfl) | (simp [*, errW_none, errW_some] <;> rfl), by repeat (first | (with_reducible first | exact HB.out | apply below_alloc | apply pw_below_drewN | apply below_drew1) | exact HB.out)⟩
                                            · replace c133 := Bool.eq_false_iff.mpr c133
                                              subst c133
                                              have H1 : (some false) = some r := by rw [if_neg (show ¬ (false = true) by decide)] at H; exact H
                                              clear H
                                              have H := H1
                                              clear H1
                                              obtain rfl := Option.some.inj H
                                              go_wp2_with (first | ((with_reducible refine gate_callee (f := 28) rfl ?_); refine goesL_ (some 339) rfl rfl Try.func28 (by kernel_rfl) rfl #[.int .i64 t615] rfl (by (try simp only [List.map_toArray, List.map_cons, List.map_nil]); first | done | rfl | (simp only [List.length_drop, List.length_take]; rfl)) ?_; (with_reducible refine (impl_CountPrimes.calls kj121 t615 t624 false _ A132.out).mono ?_); rintro e w135 ⟨rfl, hb⟩; refine ⟨_, rfl, ?_⟩; have n0_ := Aside0.mk (below_step (by repeat (first | (with_reducible first | exact HB.out | apply below_alloc | apply pw_below_drewN | apply below_drew1) | exact HB.out)) hb); clear HB; have HB := n0_; clear n0_; (try clear hb); (try clear hb2); (try clear hk); (try clear hi)))
                                              go_ret
                                              exact ⟨by first | rfl | (simp [errW_none, errW_some] <;> rfl) | (simp [*, errW_none, errW_some] <;> rfl), by repeat (first | (with_reducible first | exact HB.out | apply below_alloc | apply pw_below_drewN | apply below_drew1) | exact HB.out)⟩
                                          · replace c131 := Bool.eq_false_iff.mpr c131
                                            subst c131
                                            have H1 : (some true) = some r := by rw [if_neg (show ¬ (false = true) by decide)] at H; exact H
                                            clear H
                                            have H := H1
                                            clear H1
                                            obtain rfl := Option.some.inj H
                                            go_wp2
                                            go_ret
                                            exact ⟨by first | rfl | (simp [errW_none, errW_some] <;> rfl) | (simp [*, errW_none, errW_some] <;> rfl), by repeat (first | (with_reducible first | exact HB.out | apply below_alloc | apply pw_below_drewN | apply below_drew1) | exact HB.out)⟩

/-- THE ONE PURE STATEMENT of laws_FnPrimesCounted: yours. -/
def laws_FnPrimesCounted.Pure : Prop := ∀ (l0 : List Int) (l1 : List Int), l0.length ≤ maxLen → l0.length * 1 ≤ 140737488351232 → (∀ x ∈ l0, (Lit.int .u8 x).wf = true) → l1.length ≤ maxLen → l1.length * 1 ≤ 140737488351232 → (∀ x ∈ l1, (Lit.int .u8 x).wf = true) → ∃ k, laws_FnPrimesCounted.f k l0 l1 = some true
theorem laws_FnPrimesCounted.walk (P : laws_FnPrimesCounted.Pure) (a0 : Option Addr) (len0 cap0 : Nat) (z0 : List Int) (a1 : Option Addr) (len1 cap1 : Nat) (z1 : List Int) (w : World) (w0 : (a0 = none ∧ len0 = 0 ∧ cap0 = 0 ∧ z0 = []) ∨ ∃ x, a0 = some x ∧ len0 ≤ cap0 ∧ cap0 ≤ maxLen ∧ z0.length = cap0 ∧ (∀ i, i < z0.length → w.cell? (x.add i) = some (.int .u8 (z0.getD i 0))) ∧ ∀ n ∈ z0, (Lit.int .u8 n).wf = true) (y0 : len0 * 1 ≤ 140737488351232) (w1 : (a1 = none ∧ len1 = 0 ∧ cap1 = 0 ∧ z1 = []) ∨ ∃ x, a1 = some x ∧ len1 ≤ cap1 ∧ cap1 ≤ maxLen ∧ z1.length = cap1 ∧ (∀ i, i < z1.length → w.cell? (x.add i) = some (.int .u8 (z1.getD i 0))) ∧ ∀ n ∈ z1, (Lit.int .u8 n).wf = true) (y1 : len1 * 1 ≤ 140737488351232) :
    Calls Try.prog 6 #[.slice a0 len0 cap0, .slice a1 len1 cap1] w fun e w' => e = .returned (.bool true) ∧ Below w.heap.size w w' := by
  obtain ⟨l0, rfl, hr0, hm0, hw0, hc0⟩ := ReadsInt.ofRowC w0
  obtain ⟨l1, rfl, hr1, hm1, hw1, hc1⟩ := ReadsInt.ofRowC w1
  obtain ⟨k, h⟩ := P l0 l1 hm0 y0 hw0 hm1 y1 hw1
  refine (laws_FnPrimesCounted.calls k _ _ l0 _ _ l1 true w (Kd.C_of_reads (d := (0 : Int)) (h1 := fun _ => rfl) hr0) hc0 (Kd.C_of_reads (d := (0 : Int)) (h1 := fun _ => rfl) hr1) hc1 h).mono ?_
  rintro e w' ⟨rfl, hd⟩
  exact ⟨rfl, hd⟩

end Go.Proofs.Ytjonkpeoiecchaa.P
