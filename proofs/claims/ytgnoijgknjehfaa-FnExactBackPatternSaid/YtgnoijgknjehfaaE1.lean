/- The program's and the reference's least divisors, primes and factors come to the plain ones. Conditions: numbers of at most 2 * 10^9. -/
import Derived.Test.YtgnoijgknjehfaaL0
import Derived.Test.YtgnoijgknjehfaaM1
import Derived.Test.YtgnoijgknjehfaaPx2
import Derived.Test.YtgnoijgknjehfaaPx5
namespace Go.Proofs.Ytgnoijgknjehfaa.L
open Go.RowKit Go.Proofs.YtgnoijgknjehfaaW.PrintWords Go.Proofs.Ytgnoijgknjehfaa.P Go.Proofs.Ytgnoijgknjehfaa.M
set_option linter.unusedVariables false
set_option linter.unusedSimpArgs false

/-- The same of whatever whole number. -/
def isPI (a : Int) : Bool := isP a.toNat
theorem isPI_nat (n : Nat) : isPI (n : Int) = isP n := by unfold isPI; rw [Int.toNat_natCast]
theorem isPI_neg {a : Int} (h : a < 2) : isPI a = false := by
  unfold isPI isP
  rw [decide_eq_false (by omega)]
  rfl

theorem spec_prLeast_l0 (n : Nat) (hn : 2 ≤ n) (hb : n ≤ 2000000000) : ∀ (m d : Nat), m + d = 50000 → 2 ≤ d → (∀ e, 2 ≤ e → e < d → n % e ≠ 0) → Evl (fun k => spec_prLeast.l0 k (n : Int) (d : Int)) (lf n : Int) := by
  intro m
  induction m with
  | zero =>
    intro d hd h2 hno
    obtain rfl : d = 50000 := by omega
    refine Evl.succ ?_
    have h1 : ¬ wrap64 (((50000 : Nat) : Int) * ((50000 : Nat) : Int)) ≤ (n : Int) := by rw [w64 (by omega) (by omega)]; omega
    simp only [spec_prLeast.l0, if_neg h1]
    rw [lf_root hn hno (by omega)]
    exact Evl.ret _
  | succ m ih =>
    intro d hd h2 hno
    have hdd : d * d ≤ 50000 * 50000 := Nat.mul_le_mul (by omega) (by omega)
    have hw : wrap64 ((d : Int) * (d : Int)) = ((d * d : Nat) : Int) := by rw [← Int.natCast_mul]; exact w64 (by omega) (by omega)
    have hw1 : wrap64 ((d : Int) + 1) = ((d + 1 : Nat) : Int) := by rw [w64 (by omega) (by omega)]; rfl
    refine Evl.succ ?_
    by_cases hr : d * d ≤ n
    · have h1 : ((d * d : Nat) : Int) ≤ (n : Int) := Int.ofNat_le.2 hr
      have h3 : ¬ (d : Int) = 0 := by omega
      have ht : Int.tmod (n : Int) (d : Int) = ((n % d : Nat) : Int) := rfl
      by_cases hm : n % d = 0
      · have h4 : ((n % d : Nat) : Int) = 0 := by rw [hm]; rfl
        simp only [spec_prLeast.l0, hw, if_pos h1, if_neg h3, ht, if_pos h4]
        rw [lf_eq hn ⟨h2, Nat.le_trans (Nat.le_mul_self d) hr, hm, hno⟩]
        exact Evl.ret _
      · have h4 : ¬ ((n % d : Nat) : Int) = 0 := by omega
        simp only [spec_prLeast.l0, hw, if_pos h1, if_neg h3, ht, if_neg h4, hw1]
        refine ih (d + 1) (by omega) (by omega) (fun e he hl => ?_)
        by_cases hed : e = d
        · rw [hed]; exact hm
        · exact hno e he (by omega)
    · have h1 : ¬ ((d * d : Nat) : Int) ≤ (n : Int) := fun h => hr (Int.ofNat_le.1 h)
      simp only [spec_prLeast.l0, hw, if_neg h1]
      rw [lf_root hn hno (by omega)]
      exact Evl.ret _
theorem spec_prLeast_ev (n : Nat) (hn : 2 ≤ n) (hb : n ≤ 2000000000) : Evl (fun k => spec_prLeast.f k (n : Int)) (lf n : Int) := by
  simp only [spec_prLeast.f]
  exact spec_prLeast_l0 n hn hb 49998 2 rfl (by omega) (fun e h1 h2 => by omega)

theorem spec_prIs_ev (a : Int) (hb : a ≤ 2000000000) : Evl (fun k => spec_prIs.f k a) (isPI a) := by
  by_cases h : a ≥ 2
  · obtain ⟨n, rfl⟩ := Int.eq_ofNat_of_zero_le (show 0 ≤ a by omega)
    simp only [spec_prIs.f, if_pos h]
    refine Evl.bind (spec_prLeast_ev n (by omega) (by omega)) ?_
    refine (Evl.ret _).cast ?_
    rw [isPI_nat]
    unfold isP
    rw [decide_eq_true (show 2 ≤ n by omega), Bool.true_and]
    by_cases e : lf n = n
    · rw [decide_eq_true e, e]
      exact beq_self_eq_true _
    · rw [decide_eq_false e]
      exact beq_eq_false_iff_ne.2 (by omega)
  · simp only [spec_prIs.f, if_neg h]
    rw [isPI_neg (by omega)]
    exact Evl.ret _

theorem impl_leastFactor_l0 (n : Nat) (hn : 2 ≤ n) (hb : n ≤ 2000000000) : ∀ (m d : Nat), m + d = 50000 → 2 ≤ d → (∀ e, 2 ≤ e → e < d → n % e ≠ 0) → Evl (fun k => impl_leastFactor.l0 k (n : Int) (d : Int)) (lf n : Int) := by
  intro m
  induction m with
  | zero =>
    intro d hd h2 hno
    obtain rfl : d = 50000 := by omega
    refine Evl.succ ?_
    have h1 : ¬ wrap64 (((50000 : Nat) : Int) * ((50000 : Nat) : Int)) ≤ (n : Int) := by rw [w64 (by omega) (by omega)]; omega
    simp only [impl_leastFactor.l0, if_neg h1]
    rw [lf_root hn hno (by omega)]
    exact Evl.ret _
  | succ m ih =>
    intro d hd h2 hno
    have hdd : d * d ≤ 50000 * 50000 := Nat.mul_le_mul (by omega) (by omega)
    have hw : wrap64 ((d : Int) * (d : Int)) = ((d * d : Nat) : Int) := by rw [← Int.natCast_mul]; exact w64 (by omega) (by omega)
    have hw1 : wrap64 ((d : Int) + 1) = ((d + 1 : Nat) : Int) := by rw [w64 (by omega) (by omega)]; rfl
    refine Evl.succ ?_
    by_cases hr : d * d ≤ n
    · have h1 : ((d * d : Nat) : Int) ≤ (n : Int) := Int.ofNat_le.2 hr
      have h3 : ¬ (d : Int) = 0 := by omega
      have ht : Int.tmod (n : Int) (d : Int) = ((n % d : Nat) : Int) := rfl
      by_cases hm : n % d = 0
      · have h4 : ((n % d : Nat) : Int) = 0 := by rw [hm]; rfl
        simp only [impl_leastFactor.l0, hw, if_pos h1, if_neg h3, ht, if_pos h4]
        rw [lf_eq hn ⟨h2, Nat.le_trans (Nat.le_mul_self d) hr, hm, hno⟩]
        exact Evl.ret _
      · have h4 : ¬ ((n % d : Nat) : Int) = 0 := by omega
        simp only [impl_leastFactor.l0, hw, if_pos h1, if_neg h3, ht, if_neg h4, hw1]
        refine ih (d + 1) (by omega) (by omega) (fun e he hl => ?_)
        by_cases hed : e = d
        · rw [hed]; exact hm
        · exact hno e he (by omega)
    · have h1 : ¬ ((d * d : Nat) : Int) ≤ (n : Int) := fun h => hr (Int.ofNat_le.1 h)
      simp only [impl_leastFactor.l0, hw, if_neg h1]
      rw [lf_root hn hno (by omega)]
      exact Evl.ret _
theorem impl_leastFactor_ev (n : Nat) (hn : 2 ≤ n) (hb : n ≤ 2000000000) : Evl (fun k => impl_leastFactor.f k (n : Int)) (lf n : Int) := by
  simp only [impl_leastFactor.f]
  exact impl_leastFactor_l0 n hn hb 49998 2 rfl (by omega) (fun e h1 h2 => by omega)

theorem impl_isPrime_ev (a : Int) (hb : a ≤ 2000000000) : Evl (fun k => impl_isPrime.f k a) (isPI a) := by
  by_cases h : a ≥ 2
  · obtain ⟨n, rfl⟩ := Int.eq_ofNat_of_zero_le (show 0 ≤ a by omega)
    simp only [impl_isPrime.f, if_pos h]
    refine Evl.bind (impl_leastFactor_ev n (by omega) (by omega)) ?_
    refine (Evl.ret _).cast ?_
    rw [isPI_nat]
    unfold isP
    rw [decide_eq_true (show 2 ≤ n by omega), Bool.true_and]
    by_cases e : lf n = n
    · rw [decide_eq_true e, e]
      exact beq_self_eq_true _
    · rw [decide_eq_false e]
      exact beq_eq_false_iff_ne.2 (by omega)
  · simp only [impl_isPrime.f, if_neg h]
    rw [isPI_neg (by omega)]
    exact Evl.ret _

end Go.Proofs.Ytgnoijgknjehfaa.L
