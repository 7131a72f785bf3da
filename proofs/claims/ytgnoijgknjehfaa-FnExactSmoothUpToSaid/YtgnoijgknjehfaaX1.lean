/- Three functions over primes and factors: the program's answer is the reference's, whatever the arguments. No condition beyond 64 bits. -/
import Derived.Test.YtgnoijgknjehfaaE0
import Derived.Test.YtgnoijgknjehfaaE4
import Derived.Test.YtgnoijgknjehfaaPx2
import Derived.Test.YtgnoijgknjehfaaPx3
import Derived.Test.YtgnoijgknjehfaaPx5
import Derived.Test.YtgnoijgknjehfaaPx6
import Derived.Test.YtgnoijgknjehfaaPx7
namespace Go.Proofs.Ytgnoijgknjehfaa.L
open Go.RowKit Go.Proofs.YtgnoijgknjehfaaW.PrintWords Go.Proofs.Ytgnoijgknjehfaa.P Go.Proofs.Ytgnoijgknjehfaa.M
set_option linter.unusedVariables false
set_option linter.unusedSimpArgs false

theorem FnExactPrimesBetween_main (a0 a1 : Int) (h0 : (Lit.int .i64 a0).wf = true) (h1 : (Lit.int .i64 a1).wf = true) :
    ∃ r b, Evl (fun k => spec_PrimesBetween.f k a0 a1) (r, b) ∧ Evl (fun k => impl_PrimesBetween.f k a0 a1) (r, b) ∧ r.length ≤ 1099511627776 := by
  have b0 := wf_bounds h0
  have b1 := wf_bounds h1
  by_cases g : (0 ≤ a0 ∧ a0 ≤ 1000000000) ∧ (0 ≤ a1 ∧ a1 ≤ 1000000000)
  · obtain ⟨g0, g1⟩ := g
    have hw : wrap64 (a1 - a0) = a1 - a0 := w64 (by omega) (by omega)
    have hw2 : wrap64 (a0 + 2000) = a0 + 2000 := w64 (by omega) (by omega)
    have i1 : ¬ a0 < 0 := by omega
    have i2 : ¬ a0 > 1000000000 := by omega
    have i3 : ¬ a1 < 0 := by omega
    have i4 : ¬ a1 > 1000000000 := by omega
    by_cases g2 : a1 - a0 > 2000
    · refine ⟨[], false, ?_, ?_, by simp⟩
      · simp only [spec_PrimesBetween.f, l1In_eq, decide_eq_true g0, decide_eq_true g1, Option.bind_some, if_true, hw, if_pos g2]
        exact Evl.ret _
      · have i5 : a1 > a0 + 2000 := by omega
        simp only [impl_PrimesBetween.f, if_neg i1, if_neg i2, if_neg i3, if_neg i4, hw2, if_pos i5]
        exact Evl.ret _
    · refine ⟨pl (a1 + 1 - a0).toNat a0, true, ?_, ?_, ?_⟩
      · simp only [spec_PrimesBetween.f, l1In_eq, decide_eq_true g0, decide_eq_true g1, Option.bind_some, if_true, hw, if_neg g2]
        refine Evl.bind (spec_prBetween_ev a0 a1 (by omega) (by omega)) ?_
        exact Evl.ret _
      · have i5 : ¬ a1 > a0 + 2000 := by omega
        simp only [impl_PrimesBetween.f, if_neg i1, if_neg i2, if_neg i3, if_neg i4, hw2, if_neg i5]
        refine Evl.bind (impl_primesBetween_ev a0 a1 (by omega) (by omega)) ?_
        exact Evl.ret _
      · have := pl_length (a1 + 1 - a0).toNat a0
        omega
  · refine ⟨[], false, ?_, ?_, by simp⟩
    · by_cases g0 : 0 ≤ a0 ∧ a0 ≤ 1000000000
      · have g1 : ¬ (0 ≤ a1 ∧ a1 ≤ 1000000000) := fun c => g ⟨g0, c⟩
        simp only [spec_PrimesBetween.f, l1In_eq, decide_eq_true g0, decide_eq_false g1, Option.bind_some, if_true, Bool.false_eq_true, if_false]
        exact Evl.ret _
      · simp only [spec_PrimesBetween.f, l1In_eq, decide_eq_false g0, Option.bind_some, Bool.false_eq_true, if_false]
        exact Evl.ret _
    · by_cases i1 : a0 < 0
      · simp only [impl_PrimesBetween.f, if_pos i1]
        exact Evl.ret _
      · by_cases i2 : a0 > 1000000000
        · simp only [impl_PrimesBetween.f, if_neg i1, if_pos i2]
          exact Evl.ret _
        · by_cases i3 : a1 < 0
          · simp only [impl_PrimesBetween.f, if_neg i1, if_neg i2, if_pos i3]
            exact Evl.ret _
          · have i4 : a1 > 1000000000 := by omega
            simp only [impl_PrimesBetween.f, if_neg i1, if_neg i2, if_neg i3, if_pos i4]
            exact Evl.ret _
theorem FnExactRadicalOf_main (a0 : Int) (h0 : (Lit.int .i64 a0).wf = true) :
    ∃ r b, Evl (fun k => spec_RadicalOf.f k a0) (r, b) ∧ Evl (fun k => impl_RadicalOf.f k a0) (r, b) := by
  by_cases g : 1 ≤ a0 ∧ a0 ≤ 1000000000
  · obtain ⟨n, rfl⟩ := Int.eq_ofNat_of_zero_le (show 0 ≤ a0 by omega)
    refine ⟨radW 1 (fL (facs n)), true, ?_, ?_⟩
    · simp only [spec_RadicalOf.f, prFactored_eq, decide_eq_true g, Option.bind_some, if_true]
      refine Evl.bind (spec_prRadical_ev n (by omega)) ?_
      exact Evl.ret _
    · simp only [impl_RadicalOf.f, isFactored_eq, decide_eq_true g, Option.bind_some, if_true]
      refine Evl.bind (impl_radical_ev n (by omega)) ?_
      exact Evl.ret _
  · refine ⟨0, false, ?_, ?_⟩
    · simp only [spec_RadicalOf.f, prFactored_eq, decide_eq_false g, Option.bind_some, Bool.false_eq_true, if_false]
      exact Evl.ret _
    · simp only [impl_RadicalOf.f, isFactored_eq, decide_eq_false g, Option.bind_some, Bool.false_eq_true, if_false]
      exact Evl.ret _
/-- The smooth ones among m numbers from n on. -/
def sml (b : Int) : Nat → Nat → List Int
  | 0, _ => []
  | m + 1, n => if smooth n b = true then (n : Int) :: sml b m (n + 1) else sml b m (n + 1)
theorem sml_length (b : Int) : ∀ (m n : Nat), (sml b m n).length ≤ m
  | 0, _ => Nat.le_refl _
  | m + 1, n => by
    unfold sml
    have := sml_length b m (n + 1)
    split
    · rw [List.length_cons]; omega
    · omega
theorem spec_SmoothUpTo_l0 (b : Int) (most : Nat) (hb : most ≤ 600) : ∀ (m n : Nat) (acc : List Int), m + n = most + 1 → acc.length + m ≤ 10000 → Evl (fun k => spec_SmoothUpTo.l0 k (most : Int) b acc (n : Int)) (acc ++ sml b m n, true) := by
  intro m
  induction m with
  | zero =>
    intro n acc h hl
    refine Evl.succ ?_
    have h1 : ¬ (n : Int) ≤ (most : Int) := by omega
    simp only [spec_SmoothUpTo.l0, if_neg h1]
    refine (Evl.ret _).cast ?_
    simp [sml]
  | succ m ih =>
    intro n acc h hl
    have h1 : (n : Int) ≤ (most : Int) := by omega
    have hw : wrap64 ((n : Int) + 1) = ((n + 1 : Nat) : Int) := by rw [w64 (by omega) (by omega)]; rfl
    refine Evl.succ ?_
    simp only [spec_SmoothUpTo.l0, if_pos h1, hw]
    refine Evl.bind (prSmooth_ev n b (by omega)) ?_
    unfold sml
    by_cases hp : smooth n b = true
    · have h2 : acc.length < 17592186044416 := by omega
      simp only [if_pos hp, if_pos h2]
      refine (ih (n + 1) (acc ++ [(n : Int)]) (by omega) (by rw [List.length_append]; simp; omega)).cast ?_
      simp
    · simp only [if_neg hp]
      exact ih (n + 1) acc (by omega) (by omega)
theorem spec_SmoothUpTo_no (a0 a1 : Int) : Evl (fun k => spec_SmoothUpTo.j0 k a0 a1 true) ([], false) := by
  refine Evl.succ ?_
  simp only [spec_SmoothUpTo.j0, if_true]
  exact Evl.ret _
theorem spec_SmoothUpTo_yes (n : Nat) (a1 : Int) (hn : n ≤ 600) : Evl (fun k => spec_SmoothUpTo.j0 k (n : Int) a1 false) (sml a1 n 1, true) := by
  refine Evl.succ ?_
  simp only [spec_SmoothUpTo.j0, Bool.false_eq_true, if_false]
  exact spec_SmoothUpTo_l0 a1 n hn n 1 [] rfl (by simp; omega)
theorem impl_SmoothUpTo_l0 (b : Int) (most : Nat) (hb : most ≤ 600) : ∀ (m n : Nat) (acc : List Int), m + n = most + 1 → acc.length + m ≤ 10000 → Evl (fun k => impl_SmoothUpTo.l0 k (most : Int) b acc (n : Int)) (acc ++ sml b m n, true) := by
  intro m
  induction m with
  | zero =>
    intro n acc h hl
    refine Evl.succ ?_
    have h1 : ¬ (n : Int) ≤ (most : Int) := by omega
    simp only [impl_SmoothUpTo.l0, if_neg h1]
    refine (Evl.ret _).cast ?_
    simp [sml]
  | succ m ih =>
    intro n acc h hl
    have h1 : (n : Int) ≤ (most : Int) := by omega
    have hw : wrap64 ((n : Int) + 1) = ((n + 1 : Nat) : Int) := by rw [w64 (by omega) (by omega)]; rfl
    refine Evl.succ ?_
    simp only [impl_SmoothUpTo.l0, if_pos h1, hw]
    refine Evl.bind (isSmooth_ev n b (by omega)) ?_
    unfold sml
    by_cases hp : smooth n b = true
    · have h2 : acc.length < 17592186044416 := by omega
      simp only [if_pos hp, if_pos h2]
      refine (ih (n + 1) (acc ++ [(n : Int)]) (by omega) (by rw [List.length_append]; simp; omega)).cast ?_
      simp
    · simp only [if_neg hp]
      exact ih (n + 1) acc (by omega) (by omega)
theorem impl_SmoothUpTo_no (a0 a1 : Int) : Evl (fun k => impl_SmoothUpTo.j0 k a0 a1 true) ([], false) := by
  refine Evl.succ ?_
  simp only [impl_SmoothUpTo.j0, if_true]
  exact Evl.ret _
theorem impl_SmoothUpTo_yes (n : Nat) (a1 : Int) (hn : n ≤ 600) : Evl (fun k => impl_SmoothUpTo.j0 k (n : Int) a1 false) (sml a1 n 1, true) := by
  refine Evl.succ ?_
  simp only [impl_SmoothUpTo.j0, Bool.false_eq_true, if_false]
  exact impl_SmoothUpTo_l0 a1 n hn n 1 [] rfl (by simp; omega)
theorem FnExactSmoothUpTo_main (a0 a1 : Int) (h0 : (Lit.int .i64 a0).wf = true) (h1 : (Lit.int .i64 a1).wf = true) :
    ∃ r b, Evl (fun k => spec_SmoothUpTo.f k a0 a1) (r, b) ∧ Evl (fun k => impl_SmoothUpTo.f k a0 a1) (r, b) ∧ r.length ≤ 1099511627776 := by
  by_cases g0 : 0 ≤ a0 ∧ a0 ≤ 600
  · by_cases g1 : 1 ≤ a1 ∧ a1 ≤ 600
    · obtain ⟨n, rfl⟩ := Int.eq_ofNat_of_zero_le g0.1
      refine ⟨sml a1 n 1, true, ?_, ?_, by have := sml_length a1 n 1; omega⟩
      · simp only [spec_SmoothUpTo.f, l1In_eq, decide_eq_true g0, decide_eq_true g1, Option.bind_some, if_true, Bool.not_true]
        exact spec_SmoothUpTo_yes n a1 (by omega)
      · have i1 : ¬ a1 < 1 := by omega
        simp only [impl_SmoothUpTo.f, isMost_eq, decide_eq_true g0, Option.bind_some, if_true, if_neg i1, decide_eq_false (show ¬ a1 > 600 by omega)]
        exact impl_SmoothUpTo_yes n a1 (by omega)
    · refine ⟨[], false, ?_, ?_, by simp⟩
      · simp only [spec_SmoothUpTo.f, l1In_eq, decide_eq_true g0, decide_eq_false g1, Option.bind_some, if_true, Bool.not_false]
        exact spec_SmoothUpTo_no a0 a1
      · by_cases i1 : a1 < 1
        · simp only [impl_SmoothUpTo.f, isMost_eq, decide_eq_true g0, Option.bind_some, if_true, if_pos i1]
          exact impl_SmoothUpTo_no a0 a1
        · simp only [impl_SmoothUpTo.f, isMost_eq, decide_eq_true g0, Option.bind_some, if_true, if_neg i1, decide_eq_true (show a1 > 600 by omega)]
          exact impl_SmoothUpTo_no a0 a1
  · refine ⟨[], false, ?_, ?_, by simp⟩
    · simp only [spec_SmoothUpTo.f, l1In_eq, decide_eq_false g0, Option.bind_some, Bool.false_eq_true, if_false]
      exact spec_SmoothUpTo_no a0 a1
    · simp only [impl_SmoothUpTo.f, isMost_eq, decide_eq_false g0, Option.bind_some, Bool.false_eq_true, if_false]
      exact impl_SmoothUpTo_no a0 a1

end Go.Proofs.Ytgnoijgknjehfaa.L
