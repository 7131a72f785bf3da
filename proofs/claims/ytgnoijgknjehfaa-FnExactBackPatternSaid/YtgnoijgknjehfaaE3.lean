/- The program's and the reference's lists of factors come to the plain ones; smooth numbers. Conditions: numbers of at most 2 * 10^9. -/
import Derived.Test.YtgnoijgknjehfaaE2
import Derived.Test.YtgnoijgknjehfaaPx2
import Derived.Test.YtgnoijgknjehfaaPx3
namespace Go.Proofs.Ytgnoijgknjehfaa.L
open Go.RowKit Go.Proofs.YtgnoijgknjehfaaW.PrintWords Go.Proofs.Ytgnoijgknjehfaa.P Go.Proofs.Ytgnoijgknjehfaa.M
set_option linter.unusedVariables false
set_option linter.unusedSimpArgs false

/-- Factors as the program lays them. -/
def fL (l : List (Nat × Nat)) : List (List Int) := l.map fun pe => [(pe.1 : Int), (pe.2 : Int)]

theorem spec_prFactors_l1 : ∀ (f n : Nat) (xs : List (List Int)) (p e : Nat) (R : List (List Int)), 2 ≤ p → 1 ≤ n → n ≤ f → n ≤ 2000000000 → e + n ≤ 4000000000 → xs.length < 5000000000 →
    Evl (fun k => spec_prFactors.l0 k ((strip f p n).2 : Int) (xs ++ [[(p : Int), ((e + (strip f p n).1 : Nat) : Int)]])) R → Evl (fun k => spec_prFactors.l1 k (n : Int) xs (p : Int) (e : Int)) R := by
  intro f
  induction f with
  | zero => intro n xs p e R _ h1 h2; omega
  | succ f ih =>
    intro n xs p e R hp hn hf hb he hl h
    refine Evl.succ ?_
    have h1 : ¬ (p : Int) = 0 := by omega
    have ht : Int.tmod (n : Int) (p : Int) = ((n % p : Nat) : Int) := rfl
    have hq : Int.tdiv (n : Int) (p : Int) = ((n / p : Nat) : Int) := rfl
    unfold strip at h
    by_cases hm : n % p = 0
    · rw [if_pos hm] at h
      have hlt := div_lt_of hp hn
      have hpos := div_pos_of hp hn hm
      have h2 : ((n % p : Nat) : Int) = 0 := by rw [hm]; rfl
      generalize n / p = q at h hq hlt hpos
      have hw : wrap64 (q : Int) = (q : Int) := w64 (by omega) (by omega)
      have hw1 : wrap64 ((e : Int) + 1) = ((e + 1 : Nat) : Int) := by rw [w64 (by omega) (by omega)]; rfl
      simp only [spec_prFactors.l1, if_neg h1, ht, if_pos h2, hq, hw, hw1]
      have e1 : e + 1 + (strip f p q).1 = e + ((strip f p q).1 + 1) := by rw [Nat.add_assoc, Nat.add_comm 1]
      clear ht hq h2 hw hw1 hm h1
      refine ih q xs p (e + 1) R hp hpos ?_ ?_ ?_ hl ?_
      · omega
      · omega
      · clear h e1 ih
        omega
      · rw [e1]
        exact h
    · rw [if_neg hm] at h
      have h2 : ¬ ((n % p : Nat) : Int) = 0 := fun c => hm (Int.ofNat_eq_zero.1 c)
      have h3 : xs.length < 5864062014805 := by omega
      simp only [spec_prFactors.l1, if_neg h1, ht, if_neg h2, if_pos h3]
      simpa using h
theorem spec_prFactors_l0 : ∀ (m n : Nat) (xs : List (List Int)), n ≤ m → n ≤ 2000000000 → xs.length + n ≤ 4000000000 → Evl (fun k => spec_prFactors.l0 k (n : Int) xs) (xs ++ fL (facs n)) := by
  intro m
  induction m with
  | zero =>
    intro n xs h _ _
    refine Evl.succ ?_
    have h1 : ¬ (n : Int) > 1 := by omega
    simp only [spec_prFactors.l0, if_neg h1]
    rw [facs_one (by omega)]
    refine (Evl.ret _).cast ?_
    simp [fL]
  | succ m ih =>
    intro n xs h hb hl
    refine Evl.succ ?_
    rcases Nat.lt_or_ge n 2 with h2 | h2
    · have h1 : ¬ (n : Int) > 1 := by omega
      simp only [spec_prFactors.l0, if_neg h1]
      rw [facs_one (by omega)]
      refine (Evl.ret _).cast ?_
      simp [fL]
    · have h1 : (n : Int) > 1 := by omega
      have hr := rest_lt h2
      simp only [spec_prFactors.l0, if_pos h1]
      refine Evl.bind (spec_prLeast_ev n h2 hb) ?_
      refine spec_prFactors_l1 n n xs (lf n) 0 _ (lf_least h2).two (by omega) (Nat.le_refl _) hb (by omega) (by omega) ?_
      rw [Nat.zero_add]
      refine (ih _ _ (by omega) (by omega) (by rw [List.length_append, List.length_singleton]; omega)).cast ?_
      rw [facs_more h2]
      simp [fL]
theorem spec_prFactors_ev (n : Nat) (hb : n ≤ 2000000000) : Evl (fun k => spec_prFactors.f k (n : Int)) (fL (facs n)) := by
  simp only [spec_prFactors.f]
  exact spec_prFactors_l0 n n [] (Nat.le_refl _) hb (by simp; omega)

theorem impl_factors_l1 : ∀ (f n : Nat) (xs : List (List Int)) (p e : Nat) (R : List (List Int)), 2 ≤ p → 1 ≤ n → n ≤ f → n ≤ 2000000000 → e + n ≤ 4000000000 → xs.length < 5000000000 →
    Evl (fun k => impl_factors.l0 k ((strip f p n).2 : Int) (xs ++ [[(p : Int), ((e + (strip f p n).1 : Nat) : Int)]])) R → Evl (fun k => impl_factors.l1 k (n : Int) xs (p : Int) (e : Int)) R := by
  intro f
  induction f with
  | zero => intro n xs p e R _ h1 h2; omega
  | succ f ih =>
    intro n xs p e R hp hn hf hb he hl h
    refine Evl.succ ?_
    have h1 : ¬ (p : Int) = 0 := by omega
    have ht : Int.tmod (n : Int) (p : Int) = ((n % p : Nat) : Int) := rfl
    have hq : Int.tdiv (n : Int) (p : Int) = ((n / p : Nat) : Int) := rfl
    unfold strip at h
    by_cases hm : n % p = 0
    · rw [if_pos hm] at h
      have hlt := div_lt_of hp hn
      have hpos := div_pos_of hp hn hm
      have h2 : ((n % p : Nat) : Int) = 0 := by rw [hm]; rfl
      generalize n / p = q at h hq hlt hpos
      have hw : wrap64 (q : Int) = (q : Int) := w64 (by omega) (by omega)
      have hw1 : wrap64 ((e : Int) + 1) = ((e + 1 : Nat) : Int) := by rw [w64 (by omega) (by omega)]; rfl
      simp only [impl_factors.l1, if_neg h1, ht, if_pos h2, hq, hw, hw1]
      have e1 : e + 1 + (strip f p q).1 = e + ((strip f p q).1 + 1) := by rw [Nat.add_assoc, Nat.add_comm 1]
      clear ht hq h2 hw hw1 hm h1
      refine ih q xs p (e + 1) R hp hpos ?_ ?_ ?_ hl ?_
      · omega
      · omega
      · clear h e1 ih
        omega
      · rw [e1]
        exact h
    · rw [if_neg hm] at h
      have h2 : ¬ ((n % p : Nat) : Int) = 0 := fun c => hm (Int.ofNat_eq_zero.1 c)
      have h3 : xs.length < 5864062014805 := by omega
      simp only [impl_factors.l1, if_neg h1, ht, if_neg h2, if_pos h3]
      simpa using h
theorem impl_factors_l0 : ∀ (m n : Nat) (xs : List (List Int)), n ≤ m → n ≤ 2000000000 → xs.length + n ≤ 4000000000 → Evl (fun k => impl_factors.l0 k (n : Int) xs) (xs ++ fL (facs n)) := by
  intro m
  induction m with
  | zero =>
    intro n xs h _ _
    refine Evl.succ ?_
    have h1 : ¬ (n : Int) > 1 := by omega
    simp only [impl_factors.l0, if_neg h1]
    rw [facs_one (by omega)]
    refine (Evl.ret _).cast ?_
    simp [fL]
  | succ m ih =>
    intro n xs h hb hl
    refine Evl.succ ?_
    rcases Nat.lt_or_ge n 2 with h2 | h2
    · have h1 : ¬ (n : Int) > 1 := by omega
      simp only [impl_factors.l0, if_neg h1]
      rw [facs_one (by omega)]
      refine (Evl.ret _).cast ?_
      simp [fL]
    · have h1 : (n : Int) > 1 := by omega
      have hr := rest_lt h2
      simp only [impl_factors.l0, if_pos h1]
      refine Evl.bind (impl_leastFactor_ev n h2 hb) ?_
      refine impl_factors_l1 n n xs (lf n) 0 _ (lf_least h2).two (by omega) (Nat.le_refl _) hb (by omega) (by omega) ?_
      rw [Nat.zero_add]
      refine (ih _ _ (by omega) (by omega) (by rw [List.length_append, List.length_singleton]; omega)).cast ?_
      rw [facs_more h2]
      simp [fL]
theorem impl_factors_ev (n : Nat) (hb : n ≤ 2000000000) : Evl (fun k => impl_factors.f k (n : Int)) (fL (facs n)) := by
  simp only [impl_factors.f]
  exact impl_factors_l0 n n [] (Nat.le_refl _) hb (by simp; omega)

end Go.Proofs.Ytgnoijgknjehfaa.L
