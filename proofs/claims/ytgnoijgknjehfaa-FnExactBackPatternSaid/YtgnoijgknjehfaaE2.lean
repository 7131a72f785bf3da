/- The program's and the reference's lists of primes and of factors come to the plain ones. Conditions: numbers of at most 2 * 10^9. -/
import Derived.Test.YtgnoijgknjehfaaE1
import Derived.Test.YtgnoijgknjehfaaPx5
import Derived.Test.YtgnoijgknjehfaaPx6
namespace Go.Proofs.Ytgnoijgknjehfaa.L
open Go.RowKit Go.Proofs.YtgnoijgknjehfaaW.PrintWords Go.Proofs.Ytgnoijgknjehfaa.P Go.Proofs.Ytgnoijgknjehfaa.M
set_option linter.unusedVariables false
set_option linter.unusedSimpArgs false

/-- The primes among m numbers from n on. -/
def pl : Nat → Int → List Int
  | 0, _ => []
  | m + 1, n => if isPI n = true then n :: pl m (n + 1) else pl m (n + 1)
theorem pl_length : ∀ (m : Nat) (n : Int), (pl m n).length ≤ m
  | 0, _ => Nat.le_refl _
  | m + 1, n => by
    unfold pl
    have := pl_length m (n + 1)
    split
    · rw [List.length_cons]; omega
    · omega

theorem spec_prBetween_l0 (hi : Int) (hh : hi ≤ 1999999999) : ∀ (m : Nat) (n : Int) (acc : List Int), -1000 ≤ n → (m : Int) = hi + 1 - n → acc.length + m ≤ 10000000000 → Evl (fun k => spec_prBetween.l0 k hi acc n) (acc ++ pl m n) := by
  intro m
  induction m with
  | zero =>
    intro n acc h0 hm hb
    refine Evl.succ ?_
    have h1 : ¬ n ≤ hi := by omega
    simp only [spec_prBetween.l0, if_neg h1]
    refine (Evl.ret _).cast ?_
    simp [pl]
  | succ m ih =>
    intro n acc h0 hm hb
    have h1 : n ≤ hi := by omega
    have hw : wrap64 (n + 1) = n + 1 := w64 (by omega) (by omega)
    refine Evl.succ ?_
    simp only [spec_prBetween.l0, if_pos h1, hw]
    refine Evl.bind (spec_prIs_ev n (by omega)) ?_
    unfold pl
    by_cases hp : isPI n = true
    · have h2 : acc.length < 17592186044416 := by omega
      simp only [if_pos hp, if_pos h2]
      refine (ih (n + 1) (acc ++ [n]) (by omega) (by omega) (by rw [List.length_append]; simp; omega)).cast ?_
      simp
    · simp only [if_neg hp]
      exact ih (n + 1) acc (by omega) (by omega) (by omega)
theorem spec_prBetween_ev (lo hi : Int) (h0 : -1000 ≤ lo) (hh : hi ≤ 1999999999) : Evl (fun k => spec_prBetween.f k lo hi) (pl (hi + 1 - lo).toNat lo) := by
  simp only [spec_prBetween.f]
  rcases Int.lt_or_le hi lo with h | h
  · refine Evl.succ ?_
    have h1 : ¬ lo ≤ hi := by omega
    simp only [spec_prBetween.l0, if_neg h1]
    rw [show (hi + 1 - lo).toNat = 0 by omega]
    exact Evl.ret _
  · exact spec_prBetween_l0 hi hh (hi + 1 - lo).toNat lo [] h0 (by omega) (by simp; omega)

theorem impl_primesBetween_l0 (hi : Int) (hh : hi ≤ 1999999999) : ∀ (m : Nat) (n : Int) (acc : List Int), -1000 ≤ n → (m : Int) = hi + 1 - n → acc.length + m ≤ 10000000000 → Evl (fun k => impl_primesBetween.l0 k hi acc n) (acc ++ pl m n) := by
  intro m
  induction m with
  | zero =>
    intro n acc h0 hm hb
    refine Evl.succ ?_
    have h1 : ¬ n ≤ hi := by omega
    simp only [impl_primesBetween.l0, if_neg h1]
    refine (Evl.ret _).cast ?_
    simp [pl]
  | succ m ih =>
    intro n acc h0 hm hb
    have h1 : n ≤ hi := by omega
    have hw : wrap64 (n + 1) = n + 1 := w64 (by omega) (by omega)
    refine Evl.succ ?_
    simp only [impl_primesBetween.l0, if_pos h1, hw]
    refine Evl.bind (impl_isPrime_ev n (by omega)) ?_
    unfold pl
    by_cases hp : isPI n = true
    · have h2 : acc.length < 17592186044416 := by omega
      simp only [if_pos hp, if_pos h2]
      refine (ih (n + 1) (acc ++ [n]) (by omega) (by omega) (by rw [List.length_append]; simp; omega)).cast ?_
      simp
    · simp only [if_neg hp]
      exact ih (n + 1) acc (by omega) (by omega) (by omega)
theorem impl_primesBetween_ev (lo hi : Int) (h0 : -1000 ≤ lo) (hh : hi ≤ 1999999999) : Evl (fun k => impl_primesBetween.f k lo hi) (pl (hi + 1 - lo).toNat lo) := by
  simp only [impl_primesBetween.f]
  rcases Int.lt_or_le hi lo with h | h
  · refine Evl.succ ?_
    have h1 : ¬ lo ≤ hi := by omega
    simp only [impl_primesBetween.l0, if_neg h1]
    rw [show (hi + 1 - lo).toNat = 0 by omega]
    exact Evl.ret _
  · exact impl_primesBetween_l0 hi hh (hi + 1 - lo).toNat lo [] h0 (by omega) (by simp; omega)

end Go.Proofs.Ytgnoijgknjehfaa.L
