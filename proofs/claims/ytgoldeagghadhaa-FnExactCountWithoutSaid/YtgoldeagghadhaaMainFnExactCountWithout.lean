/- CountWithout of the program tells what the reference's tells, for all arguments: what both functions compute. No condition beyond 64 bits and the lengths that the statement's guards give. -/
import Derived.Test.YtgoldeagghadhaaPx0
import Derived.Test.YtgoldeagghadhaaPx1
import Derived.Test.YtgoldeagghadhaaPx2
import Derived.Test.YtgoldeagghadhaaPx3
import Derived.Test.YtgoldeagghadhaaPx21
import Derived.Test.YtgoldeagghadhaaPx19
import Derived.Test.YtgoldeagghadhaaPx20
import Derived.Test.YtgoldeagghadhaaPx4
import Derived.Test.YtgoldeagghadhaaPx17
import Derived.Test.YtgoldeagghadhaaPx18
/-! ## L0 -/
namespace Go.Proofs.Ytgoldeagghadhaa.L
open Go.RowKit Go.Proofs.YtgoldeagghadhaaW.PrintWords
set_option linter.unusedVariables false
set_option linter.unusedSimpArgs false

/-- With enough rounds g tells r. -/
def Evl {α : Type} (g : Nat → Option α) (r : α) : Prop := ∃ K, ∀ k, K ≤ k → g k = some r
theorem Evl.ret {α : Type} (r : α) : Evl (fun _ => some r) r := ⟨0, fun _ _ => rfl⟩
theorem Evl.bind {α β : Type} {g : Nat → Option α} {f : Nat → α → Option β} {a : α} {r : β} (h : Evl g a) (h2 : Evl (fun k => f k a) r) : Evl (fun k => (g k).bind (f k)) r := by
  obtain ⟨K, hK⟩ := h
  obtain ⟨K2, hK2⟩ := h2
  refine ⟨max K K2, fun k hk => ?_⟩
  show (g k).bind (f k) = some r
  rw [hK k (Nat.le_trans (Nat.le_max_left _ _) hk), Option.bind_some]
  exact hK2 k (Nat.le_trans (Nat.le_max_right _ _) hk)
theorem Evl.succ {α : Type} {g : Nat → Option α} {r : α} (h : Evl (fun k => g (k + 1)) r) : Evl g r := by
  obtain ⟨K, hK⟩ := h
  refine ⟨K + 1, fun k hk => ?_⟩
  obtain ⟨m, rfl⟩ : ∃ m, k = m + 1 := ⟨k - 1, by omega⟩
  exact hK m (by omega)
theorem Evl.get {α : Type} {g : Nat → Option α} {r : α} (h : Evl g r) : ∃ k, g k = some r := by
  obtain ⟨K, hK⟩ := h
  exact ⟨K, hK K (Nat.le_refl _)⟩
theorem Evl.cast {α : Type} {g : Nat → Option α} {r r' : α} (h : Evl g r) (e : r = r') : Evl g r' := e ▸ h

theorem w64 {x : Int} (h0 : -9223372036854775808 ≤ x) (h1 : x ≤ 9223372036854775807) : wrap64 x = x := by
  unfold wrap64
  omega
theorem drop_nil {α : Type} {xs : List α} {i : Nat} (h : xs.drop i = []) : xs.length ≤ i := by
  simpa using h
theorem drop_cons {α : Type} {xs s : List α} {x : α} {i : Nat} (h : xs.drop i = x :: s) : i < xs.length ∧ xs[i]? = some x ∧ xs.drop (i + 1) = s := by
  have hl : i < xs.length := by
    rcases Nat.lt_or_ge i xs.length with h1 | h1
    · exact h1
    · rw [List.drop_of_length_le h1] at h
      cases h
  rw [List.drop_eq_getElem_cons hl] at h
  injection h with h1 h2
  exact ⟨hl, by rw [List.getElem?_eq_getElem hl, h1], h2⟩
theorem rd_of {xs : List Int} {i : Nat} {x : Int} (h : xs[i]? = some x) : rd xs (i : Int) = x := by
  unfold rd
  rw [Int.toNat_natCast, List.getD_eq_getElem?_getD, h]
  rfl
end Go.Proofs.Ytgoldeagghadhaa.L

/-! ## M1 -/
namespace Go.Proofs.Ytgoldeagghadhaa.M
set_option linter.unusedVariables false
set_option linter.unusedSimpArgs false

def lfAux : Nat → Nat → Nat → Nat
  | 0, _, n => n
  | f + 1, d, n => if n % d = 0 then d else lfAux f (d + 1) n
/-- The least divisor of at least 2. -/
def lf (n : Nat) : Nat := lfAux n 2 n
def isP (n : Nat) : Bool := decide (2 ≤ n) && decide (lf n = n)

structure Least (n r : Nat) : Prop where
  two : 2 ≤ r
  le : r ≤ n
  div : n % r = 0
  least : ∀ d, 2 ≤ d → d < r → n % d ≠ 0

theorem lfAux_least : ∀ (f d n : Nat), 2 ≤ d → d ≤ n → n < d + f → (∀ e, 2 ≤ e → e < d → n % e ≠ 0) → Least n (lfAux f d n)
  | 0, d, n, _, h1, h2, _ => by omega
  | f + 1, d, n, h0, h1, h2, h3 => by
    unfold lfAux
    by_cases h : n % d = 0
    · rw [if_pos h]
      exact ⟨h0, h1, h, h3⟩
    · rw [if_neg h]
      have hne : d ≠ n := fun e => h (by rw [e]; exact Nat.mod_self n)
      refine lfAux_least f (d + 1) n (by omega) (by omega) (by omega) (fun e he hl => ?_)
      by_cases hed : e = d
      · rw [hed]; exact h
      · exact h3 e he (by omega)
theorem lf_least {n : Nat} (h : 2 ≤ n) : Least n (lf n) := lfAux_least n 2 n (by omega) h (by omega) (fun e h1 h2 => by omega)
theorem Least.uniq {n r s : Nat} (h : Least n r) (h' : Least n s) : r = s := by
  rcases Nat.lt_trichotomy r s with h1 | h1 | h1
  · exact absurd h.div (h'.least r h.two h1)
  · exact h1
  · exact absurd h'.div (h.least s h'.two h1)
theorem lf_eq {n r : Nat} (hn : 2 ≤ n) (h : Least n r) : lf n = r := (lf_least hn).uniq h

theorem split_mod {n r : Nat} (h : n % r = 0) : n = r * (n / r) := by
  have := Nat.div_add_mod n r
  rw [h] at this
  omega

/-- No divisor up to the root: the number itself. -/
theorem lf_root {n d : Nat} (hn : 2 ≤ n) (hd : ∀ e, 2 ≤ e → e < d → n % e ≠ 0) (hr : n < d * d) : lf n = n := by
  have h := lf_least hn
  rcases Nat.lt_or_ge (lf n) n with hl | hl
  · exfalso
    have hq := split_mod h.div
    generalize hqe : n / lf n = q at hq
    have hq2 : 2 ≤ q := by
      rcases Nat.lt_or_ge q 2 with h1 | h1
      · have : q = 0 ∨ q = 1 := by omega
        rcases this with rfl | rfl
        · omega
        · omega
      · exact h1
    have hqm : n % q = 0 := by
      have e : n % q = (lf n * q) % q := by rw [← hq]
      rw [e]; exact Nat.mul_mod_left _ _
    have hlq : lf n ≤ q := by
      rcases Nat.lt_or_ge q (lf n) with h1 | h1
      · exact absurd hqm (h.least q hq2 h1)
      · exact h1
    have hdl : d ≤ lf n := by
      rcases Nat.lt_or_ge (lf n) d with h1 | h1
      · exact absurd h.div (hd _ h.two h1)
      · exact h1
    have : d * d ≤ lf n * q := Nat.mul_le_mul hdl (Nat.le_trans hdl hlq)
    omega
  · have := h.le
    omega

theorem isP_iff {n : Nat} : isP n = true ↔ 2 ≤ n ∧ lf n = n := by
  simp [isP]
theorem isP_two {n : Nat} (h : isP n = true) : 2 ≤ n := (isP_iff.1 h).1
theorem isP_least {n : Nat} (h : isP n = true) : Least n n := by
  obtain ⟨h2, he⟩ := isP_iff.1 h
  have := lf_least h2
  rwa [he] at this
theorem isP_no {n d : Nat} (h : isP n = true) (h2 : 2 ≤ d) (hl : d < n) : n % d ≠ 0 := (isP_least h).least d h2 hl
/-- Of a divisor of a prime there are two. -/
theorem isP_dvd {p d : Nat} (h : isP p = true) (hd : d ∣ p) : d = 1 ∨ d = p := by
  have hp := isP_two h
  have hm := Nat.mod_eq_zero_of_dvd hd
  rcases Nat.lt_or_ge d 2 with h1 | h1
  · have : d = 0 ∨ d = 1 := by omega
    rcases this with rfl | rfl
    · rw [Nat.mod_zero] at hm; omega
    · exact .inl rfl
  · rcases Nat.lt_or_ge d p with h3 | h3
    · exact absurd hm (isP_no h h1 h3)
    · exact .inr (Nat.le_antisymm (Nat.le_of_dvd (by omega) hd) h3)
theorem isP_euclid {p a b : Nat} (h : isP p = true) (hd : p ∣ a * b) : p ∣ a ∨ p ∣ b := by
  rcases isP_dvd h (Nat.gcd_dvd_left p a) with hg | hg
  · exact .inr (Nat.Coprime.dvd_of_dvd_mul_left hg hd)
  · exact .inl (hg ▸ Nat.gcd_dvd_right p a)
/-! ### factors -/
end Go.Proofs.Ytgoldeagghadhaa.M

/-! ## E1 -/
namespace Go.Proofs.Ytgoldeagghadhaa.L
open Go.RowKit Go.Proofs.YtgoldeagghadhaaW.PrintWords Go.Proofs.Ytgoldeagghadhaa.P Go.Proofs.Ytgoldeagghadhaa.M
set_option linter.unusedVariables false
set_option linter.unusedSimpArgs false

/-- The same of whatever whole number. -/
def isPI (a : Int) : Bool := isP a.toNat
theorem isPI_nat (n : Nat) : isPI (n : Int) = isP n := by unfold isPI; rw [Int.toNat_natCast]
theorem isPI_neg {a : Int} (h : a < 2) : isPI a = false := by
  unfold isPI isP
  rw [decide_eq_false (by omega)]
  rfl

theorem spec_prLeast_l0 (n : Nat) (hn : 2 ≤ n) (hb : n ≤ 2000000000) : ∀ (m d : Nat), m + d = 50000 → 2 ≤ d → (∀ e, 2 ≤ e → e < d → n % e ≠ 0) → Evl (fun k => spec_prLeast.l0 k (n : Int) (d : Int)) (lf n : Int) := by
  intro m
  induction m with
  | zero =>
    intro d hd h2 hno
    obtain rfl : d = 50000 := by omega
    refine Evl.succ ?_
    have h1 : ¬ wrap64 (((50000 : Nat) : Int) * ((50000 : Nat) : Int)) ≤ (n : Int) := by rw [w64 (by omega) (by omega)]; omega
    simp only [spec_prLeast.l0, if_neg h1]
    rw [lf_root hn hno (by omega)]
    exact Evl.ret _
  | succ m ih =>
    intro d hd h2 hno
    have hdd : d * d ≤ 50000 * 50000 := Nat.mul_le_mul (by omega) (by omega)
    have hw : wrap64 ((d : Int) * (d : Int)) = ((d * d : Nat) : Int) := by rw [← Int.natCast_mul]; exact w64 (by omega) (by omega)
    have hw1 : wrap64 ((d : Int) + 1) = ((d + 1 : Nat) : Int) := by rw [w64 (by omega) (by omega)]; rfl
    refine Evl.succ ?_
    by_cases hr : d * d ≤ n
    · have h1 : ((d * d : Nat) : Int) ≤ (n : Int) := Int.ofNat_le.2 hr
      have h3 : ¬ (d : Int) = 0 := by omega
      have ht : Int.tmod (n : Int) (d : Int) = ((n % d : Nat) : Int) := rfl
      by_cases hm : n % d = 0
      · have h4 : ((n % d : Nat) : Int) = 0 := by rw [hm]; rfl
        simp only [spec_prLeast.l0, hw, if_pos h1, if_neg h3, ht, if_pos h4]
        rw [lf_eq hn ⟨h2, Nat.le_trans (Nat.le_mul_self d) hr, hm, hno⟩]
        exact Evl.ret _
      · have h4 : ¬ ((n % d : Nat) : Int) = 0 := by omega
        simp only [spec_prLeast.l0, hw, if_pos h1, if_neg h3, ht, if_neg h4, hw1]
        refine ih (d + 1) (by omega) (by omega) (fun e he hl => ?_)
        by_cases hed : e = d
        · rw [hed]; exact hm
        · exact hno e he (by omega)
    · have h1 : ¬ ((d * d : Nat) : Int) ≤ (n : Int) := fun h => hr (Int.ofNat_le.1 h)
      simp only [spec_prLeast.l0, hw, if_neg h1]
      rw [lf_root hn hno (by omega)]
      exact Evl.ret _
theorem spec_prLeast_ev (n : Nat) (hn : 2 ≤ n) (hb : n ≤ 2000000000) : Evl (fun k => spec_prLeast.f k (n : Int)) (lf n : Int) := by
  simp only [spec_prLeast.f]
  exact spec_prLeast_l0 n hn hb 49998 2 rfl (by omega) (fun e h1 h2 => by omega)

theorem spec_prIs_ev (a : Int) (hb : a ≤ 2000000000) : Evl (fun k => spec_prIs.f k a) (isPI a) := by
  by_cases h : a ≥ 2
  · obtain ⟨n, rfl⟩ := Int.eq_ofNat_of_zero_le (show 0 ≤ a by omega)
    simp only [spec_prIs.f, if_pos h]
    refine Evl.bind (spec_prLeast_ev n (by omega) (by omega)) ?_
    refine (Evl.ret _).cast ?_
    rw [isPI_nat]
    unfold isP
    rw [decide_eq_true (show 2 ≤ n by omega), Bool.true_and]
    by_cases e : lf n = n
    · rw [decide_eq_true e, e]
      exact beq_self_eq_true _
    · rw [decide_eq_false e]
      exact beq_eq_false_iff_ne.2 (by omega)
  · simp only [spec_prIs.f, if_neg h]
    rw [isPI_neg (by omega)]
    exact Evl.ret _

theorem impl_leastFactor_l0 (n : Nat) (hn : 2 ≤ n) (hb : n ≤ 2000000000) : ∀ (m d : Nat), m + d = 50000 → 2 ≤ d → (∀ e, 2 ≤ e → e < d → n % e ≠ 0) → Evl (fun k => impl_leastFactor.l0 k (n : Int) (d : Int)) (lf n : Int) := by
  intro m
  induction m with
  | zero =>
    intro d hd h2 hno
    obtain rfl : d = 50000 := by omega
    refine Evl.succ ?_
    have h1 : ¬ wrap64 (((50000 : Nat) : Int) * ((50000 : Nat) : Int)) ≤ (n : Int) := by rw [w64 (by omega) (by omega)]; omega
    simp only [impl_leastFactor.l0, if_neg h1]
    rw [lf_root hn hno (by omega)]
    exact Evl.ret _
  | succ m ih =>
    intro d hd h2 hno
    have hdd : d * d ≤ 50000 * 50000 := Nat.mul_le_mul (by omega) (by omega)
    have hw : wrap64 ((d : Int) * (d : Int)) = ((d * d : Nat) : Int) := by rw [← Int.natCast_mul]; exact w64 (by omega) (by omega)
    have hw1 : wrap64 ((d : Int) + 1) = ((d + 1 : Nat) : Int) := by rw [w64 (by omega) (by omega)]; rfl
    refine Evl.succ ?_
    by_cases hr : d * d ≤ n
    · have h1 : ((d * d : Nat) : Int) ≤ (n : Int) := Int.ofNat_le.2 hr
      have h3 : ¬ (d : Int) = 0 := by omega
      have ht : Int.tmod (n : Int) (d : Int) = ((n % d : Nat) : Int) := rfl
      by_cases hm : n % d = 0
      · have h4 : ((n % d : Nat) : Int) = 0 := by rw [hm]; rfl
        simp only [impl_leastFactor.l0, hw, if_pos h1, if_neg h3, ht, if_pos h4]
        rw [lf_eq hn ⟨h2, Nat.le_trans (Nat.le_mul_self d) hr, hm, hno⟩]
        exact Evl.ret _
      · have h4 : ¬ ((n % d : Nat) : Int) = 0 := by omega
        simp only [impl_leastFactor.l0, hw, if_pos h1, if_neg h3, ht, if_neg h4, hw1]
        refine ih (d + 1) (by omega) (by omega) (fun e he hl => ?_)
        by_cases hed : e = d
        · rw [hed]; exact hm
        · exact hno e he (by omega)
    · have h1 : ¬ ((d * d : Nat) : Int) ≤ (n : Int) := fun h => hr (Int.ofNat_le.1 h)
      simp only [impl_leastFactor.l0, hw, if_neg h1]
      rw [lf_root hn hno (by omega)]
      exact Evl.ret _
theorem impl_leastFactor_ev (n : Nat) (hn : 2 ≤ n) (hb : n ≤ 2000000000) : Evl (fun k => impl_leastFactor.f k (n : Int)) (lf n : Int) := by
  simp only [impl_leastFactor.f]
  exact impl_leastFactor_l0 n hn hb 49998 2 rfl (by omega) (fun e h1 h2 => by omega)

theorem impl_isPrime_ev (a : Int) (hb : a ≤ 2000000000) : Evl (fun k => impl_isPrime.f k a) (isPI a) := by
  by_cases h : a ≥ 2
  · obtain ⟨n, rfl⟩ := Int.eq_ofNat_of_zero_le (show 0 ≤ a by omega)
    simp only [impl_isPrime.f, if_pos h]
    refine Evl.bind (impl_leastFactor_ev n (by omega) (by omega)) ?_
    refine (Evl.ret _).cast ?_
    rw [isPI_nat]
    unfold isP
    rw [decide_eq_true (show 2 ≤ n by omega), Bool.true_and]
    by_cases e : lf n = n
    · rw [decide_eq_true e, e]
      exact beq_self_eq_true _
    · rw [decide_eq_false e]
      exact beq_eq_false_iff_ne.2 (by omega)
  · simp only [impl_isPrime.f, if_neg h]
    rw [isPI_neg (by omega)]
    exact Evl.ret _

end Go.Proofs.Ytgoldeagghadhaa.L

/-! ## E2 -/
namespace Go.Proofs.Ytgoldeagghadhaa.L
open Go.RowKit Go.Proofs.YtgoldeagghadhaaW.PrintWords Go.Proofs.Ytgoldeagghadhaa.P Go.Proofs.Ytgoldeagghadhaa.M
set_option linter.unusedVariables false
set_option linter.unusedSimpArgs false

/-- The primes among m numbers from n on. -/
def pl : Nat → Int → List Int
  | 0, _ => []
  | m + 1, n => if isPI n = true then n :: pl m (n + 1) else pl m (n + 1)
theorem impl_primesBetween_l0 (hi : Int) (hh : hi ≤ 1999999999) : ∀ (m : Nat) (n : Int) (acc : List Int), -1000 ≤ n → (m : Int) = hi + 1 - n → acc.length + m ≤ 10000000000 → Evl (fun k => impl_primesBetween.l0 k hi acc n) (acc ++ pl m n) := by
  intro m
  induction m with
  | zero =>
    intro n acc h0 hm hb
    refine Evl.succ ?_
    have h1 : ¬ n ≤ hi := by omega
    simp only [impl_primesBetween.l0, if_neg h1]
    refine (Evl.ret _).cast ?_
    simp [pl]
  | succ m ih =>
    intro n acc h0 hm hb
    have h1 : n ≤ hi := by omega
    have hw : wrap64 (n + 1) = n + 1 := w64 (by omega) (by omega)
    refine Evl.succ ?_
    simp only [impl_primesBetween.l0, if_pos h1, hw]
    refine Evl.bind (impl_isPrime_ev n (by omega)) ?_
    unfold pl
    by_cases hp : isPI n = true
    · have h2 : acc.length < 17592186044416 := by omega
      simp only [if_pos hp, if_pos h2]
      refine (ih (n + 1) (acc ++ [n]) (by omega) (by omega) (by rw [List.length_append]; simp; omega)).cast ?_
      simp
    · simp only [if_neg hp]
      exact ih (n + 1) acc (by omega) (by omega) (by omega)
theorem impl_primesBetween_ev (lo hi : Int) (h0 : -1000 ≤ lo) (hh : hi ≤ 1999999999) : Evl (fun k => impl_primesBetween.f k lo hi) (pl (hi + 1 - lo).toNat lo) := by
  simp only [impl_primesBetween.f]
  rcases Int.lt_or_le hi lo with h | h
  · refine Evl.succ ?_
    have h1 : ¬ lo ≤ hi := by omega
    simp only [impl_primesBetween.l0, if_neg h1]
    rw [show (hi + 1 - lo).toNat = 0 by omega]
    exact Evl.ret _
  · exact impl_primesBetween_l0 hi hh (hi + 1 - lo).toNat lo [] h0 (by omega) (by simp; omega)

end Go.Proofs.Ytgoldeagghadhaa.L

/-! ## E3 -/

namespace Go.Proofs.Ytgoldeagghadhaa.L
open Go.RowKit Go.Proofs.YtgoldeagghadhaaW.PrintWords Go.Proofs.Ytgoldeagghadhaa.P Go.Proofs.Ytgoldeagghadhaa.M
set_option linter.unusedVariables false
set_option linter.unusedSimpArgs false

end Go.Proofs.Ytgoldeagghadhaa.L

/-! ## E4 -/
namespace Go.Proofs.Ytgoldeagghadhaa.L
open Go.RowKit Go.Proofs.YtgoldeagghadhaaW.PrintWords Go.Proofs.Ytgoldeagghadhaa.P Go.Proofs.Ytgoldeagghadhaa.M
set_option linter.unusedVariables false
set_option linter.unusedSimpArgs false

theorem l1In_eq (a lo hi : Int) : spec_l1In.f a lo hi = some (decide (lo ≤ a ∧ a ≤ hi)) := by
  unfold spec_l1In.f
  by_cases h : a ≥ lo
  · rw [if_pos h]
    by_cases h2 : a ≤ hi
    · rw [decide_eq_true h2, decide_eq_true ⟨h, h2⟩]
    · rw [decide_eq_false h2, decide_eq_false (fun c => h2 c.2)]
  · rw [if_neg h, decide_eq_false (fun c => h c.1)]
end Go.Proofs.Ytgoldeagghadhaa.L

/-! ## M2 -/
namespace Go.Proofs.Ytgoldeagghadhaa.M
set_option linter.unusedVariables false
set_option linter.unusedSimpArgs false

/-- A rule: every, rest. -/
abbrev Ru := Int × Int
def okR (r : Ru) : Bool := decide (2 ≤ r.1 ∧ r.1 ≤ 60 ∧ 0 ≤ r.2 ∧ r.2 < r.1)
def good (rs : List Ru) : Bool := decide (rs.length ≤ 12) && rs.all okR
def left (rs : List Ru) (n : Int) : Bool := rs.all fun r => decide (n % r.1 ≠ r.2)
theorem good_ok {rs : List Ru} (h : good rs = true) {r : Ru} (hr : r ∈ rs) : 2 ≤ r.1 ∧ r.1 ≤ 60 ∧ 0 ≤ r.2 ∧ r.2 < r.1 := by
  unfold good at h
  rw [Bool.and_eq_true] at h
  exact of_decide_eq_true (List.all_eq_true.1 h.2 r hr)
/-- The numbers among m from n on that are left. -/
def lb (rs : List Ru) : Nat → Int → List Int
  | 0, _ => []
  | m + 1, n => if left rs n = true then n :: lb rs m (n + 1) else lb rs m (n + 1)
theorem lb_append (rs : List Ru) : ∀ (m k : Nat) (n : Int), lb rs (m + k) n = lb rs m n ++ lb rs k (n + m)
  | 0, k, n => by simp [lb]
  | m + 1, k, n => by
    have ih := lb_append rs m k (n + 1)
    rw [show m + 1 + k = (m + k) + 1 by omega]
    simp only [lb]
    rw [ih, show n + 1 + (m : Int) = n + ((m + 1 : Nat) : Int) by omega]
    split <;> rfl

/-- The period of rules, if it is not too great. -/
def per : Nat → List Ru → Option Nat
  | p, [] => some p
  | p, r :: rs => if 100000 < p / Nat.gcd p r.1.toNat * r.1.toNat then none else per (p / Nat.gcd p r.1.toNat * r.1.toNat) rs
theorem left_add {rs : List Ru} {P : Nat} (hd : ∀ r ∈ rs, r.1.toNat ∣ P) (hp : ∀ r ∈ rs, 1 ≤ r.1) (n k : Int) : left rs (n + P * k) = left rs n := by
  unfold left
  have : ∀ (q : List Ru), (∀ r ∈ q, r ∈ rs) → (q.all fun r => decide ((n + P * k) % r.1 ≠ r.2)) = q.all fun r => decide (n % r.1 ≠ r.2) := by
    intro q
    induction q with
    | nil => intro _; rfl
    | cons r q ih =>
      intro hq
      have hr := hq r (by simp)
      obtain ⟨c, hc⟩ := hd r hr
      have h1 := hp r hr
      have e : (P : Int) = r.1 * (c : Int) := by
        rw [hc, Int.natCast_mul, Int.toNat_of_nonneg (by omega)]
      have e2 : (n + P * k) % r.1 = n % r.1 := by
        rw [e, Int.mul_assoc, Int.add_mul_emod_self_left]
      rw [List.all_cons, List.all_cons, ih (fun r hr => hq r (by simp [hr])), e2]
  exact this rs (fun r hr => hr)

structure Wheel (rs : List Ru) (P : Nat) : Prop where
  good : good rs = true
  per : per 1 rs = some P
  pos : 1 ≤ P
  most : P ≤ 5000
  dvd : ∀ r ∈ rs, r.1.toNat ∣ P
  some : lb rs P 1 ≠ []
theorem Wheel.one {rs : List Ru} {P : Nat} (h : Wheel rs P) : ∀ r ∈ rs, 1 ≤ r.1 := fun r hr => by have := good_ok h.good hr; omega
theorem Wheel.add {rs : List Ru} {P : Nat} (h : Wheel rs P) (n k : Int) : left rs (n + P * k) = left rs n := left_add h.dvd h.one n k
theorem Wheel.on {rs : List Ru} {P : Nat} (h : Wheel rs P) (n : Int) : left rs (n + P) = left rs n := by
  have := h.add n 1
  rw [Int.mul_one] at this
  exact this

end Go.Proofs.Ytgoldeagghadhaa.M

/-! ## E5 -/
namespace Go.Proofs.Ytgoldeagghadhaa.L
open Go.RowKit Go.Proofs.YtgoldeagghadhaaW.PrintWords Go.Proofs.Ytgoldeagghadhaa.P Go.Proofs.Ytgoldeagghadhaa.M
set_option linter.unusedVariables false
set_option linter.unusedSimpArgs false

/-- A rule as a pair. -/
def ru (x : S62) : Ru := (x.f0, x.f1)
def rs (l : List S62) : List Ru := l.map ru
/-- All numbers of rules at least 1 and at most 60. -/
def Sane (l : List S62) : Prop := ∀ x ∈ l, 1 ≤ x.f0 ∧ x.f0 ≤ 60

theorem tmod_range {a b : Int} (hb : 1 ≤ b) : -b < Int.tmod a b ∧ Int.tmod a b < b := by
  rcases Int.le_total 0 a with h | h
  · rw [Int.tmod_eq_emod_of_nonneg h]
    exact ⟨by have := Int.emod_nonneg a (show b ≠ 0 by omega); omega, Int.emod_lt_of_pos a (by omega)⟩
  · obtain ⟨c, rfl⟩ : ∃ c, a = -c := ⟨-a, by omega⟩
    rw [Int.neg_tmod, Int.tmod_eq_emod_of_nonneg (show 0 ≤ c by omega)]
    have h1 := Int.emod_nonneg c (show b ≠ 0 by omega)
    have h2 := Int.emod_lt_of_pos c (show 0 < b by omega)
    exact ⟨by omega, by omega⟩
theorem rest_eq {a b : Int} (hb : 1 ≤ b) (hb2 : b ≤ 1000000) : Int.tmod (wrap64 (Int.tmod a b + b)) b = a % b := by
  have hr := tmod_range (a := a) hb
  rw [w64 (by omega) (by omega), Int.tmod_eq_emod_of_nonneg (by omega), Int.tmod_def]
  rw [show a - b * Int.tdiv a b + b = a + b * (1 - Int.tdiv a b) by rw [Int.mul_sub, Int.mul_one]; omega, Int.add_mul_emod_self_left]
theorem impl_mod_eq {a b : Int} (hb : 1 ≤ b) (hb2 : b ≤ 1000000) : impl_mod.f a b = some (a % b) := by
  simp only [impl_mod.f, if_neg (show ¬ b = 0 by omega)]
  rw [rest_eq hb hb2]

/-- The first rule that crosses a number out, told from index i on; -1: none. -/
def fiFrom : List Ru → Int → Int → Int
  | [], _, _ => -1
  | r :: q, n, i => if n % r.1 = r.2 then i else fiFrom q n (i + 1)
theorem fiFrom_neg : ∀ (q : List Ru) (n i : Int), 0 ≤ i → decide (fiFrom q n i < 0) = left q n
  | [], n, i, h => rfl
  | r :: q, n, i, h => by
    unfold fiFrom
    have ih := fiFrom_neg q n (i + 1) (by omega)
    unfold left at ih ⊢
    rw [List.all_cons]
    by_cases c : n % r.1 = r.2
    · rw [if_pos c, decide_eq_false (show ¬ i < 0 by omega), decide_eq_false (by simp [c]), Bool.false_and]
    · rw [if_neg c, ih, decide_eq_true (show n % r.1 ≠ r.2 from c), Bool.true_and]
theorem firstRule_go : ∀ (l : List S62) (n i : Int), Sane l → impl_firstRule.go l n i = some (fiFrom (rs l) n i)
  | [], n, i, _ => rfl
  | x :: l, n, i, h => by
    have hx := h x (by simp)
    have ih := firstRule_go l n (i + 1) (fun y hy => h y (by simp [hy]))
    simp only [impl_firstRule.go, impl_mod_eq (a := n) hx.1 (show x.f0 ≤ 1000000 by omega), Option.bind_some, ih]
    unfold rs
    rw [List.map_cons, fiFrom]
    unfold ru
    by_cases c : n % x.f0 = x.f1
    · rw [if_pos c, if_pos c]
    · rw [if_neg c, if_neg c]
theorem isLeft_eq {l : List S62} (h : Sane l) (n : Int) : impl_isLeft.f l n = some (left (rs l) n) := by
  simp only [impl_isLeft.f, impl_firstRule.f, firstRule_go l n 0 h, Option.bind_some]
  rw [fiFrom_neg _ _ _ (Int.le_refl 0)]

/-! ### valid rules -/
end Go.Proofs.Ytgoldeagghadhaa.L

/-! ## E6 -/
namespace Go.Proofs.Ytgoldeagghadhaa.L
open Go.RowKit Go.Proofs.YtgoldeagghadhaaW.PrintWords Go.Proofs.Ytgoldeagghadhaa.P Go.Proofs.Ytgoldeagghadhaa.M
set_option linter.unusedVariables false
set_option linter.unusedSimpArgs false

theorem leftBetween_l0 (l : List S62) (h : Sane l) (hi : Int) (hh : hi ≤ 2000000000) : ∀ (m : Nat) (n : Int) (acc : List Int), -2000000000 ≤ n → (m : Int) = hi + 1 - n → acc.length + m ≤ 10000000000 → Evl (fun k => impl_leftBetween.l0 k l hi acc n) (acc ++ lb (rs l) m n) := by
  intro m
  induction m with
  | zero =>
    intro n acc h0 hm hb
    refine Evl.succ ?_
    simp only [impl_leftBetween.l0, if_neg (show ¬ n ≤ hi by omega)]
    refine (Evl.ret _).cast ?_
    simp [lb]
  | succ m ih =>
    intro n acc h0 hm hb
    have hw : wrap64 (n + 1) = n + 1 := w64 (by omega) (by omega)
    refine Evl.succ ?_
    simp only [impl_leftBetween.l0, if_pos (show n ≤ hi by omega), isLeft_eq h, Option.bind_some, hw]
    unfold lb
    by_cases hp : left (rs l) n = true
    · simp only [if_pos hp, if_pos (show acc.length < 17592186044416 by omega)]
      refine (ih (n + 1) (acc ++ [n]) (by omega) (by omega) (by rw [List.length_append]; simp; omega)).cast ?_
      simp
    · simp only [if_neg hp]
      exact ih (n + 1) acc (by omega) (by omega) (by omega)
theorem leftBetween_ev {l : List S62} (h : Sane l) (lo hi : Int) (h0 : -2000000000 ≤ lo) (hh : hi ≤ 2000000000) : Evl (fun k => impl_leftBetween.f k l lo hi) (lb (rs l) (hi + 1 - lo).toNat lo) := by
  simp only [impl_leftBetween.f]
  rcases Int.lt_or_le hi lo with c | c
  · refine Evl.succ ?_
    simp only [impl_leftBetween.l0, if_neg (show ¬ lo ≤ hi by omega)]
    rw [show (hi + 1 - lo).toNat = 0 by omega]
    exact Evl.ret _
  · exact leftBetween_l0 l h hi hh (hi + 1 - lo).toNat lo [] h0 (by omega) (by simp; omega)

/-! ### periods -/
end Go.Proofs.Ytgoldeagghadhaa.L

/-! ## M3 -/
namespace Go.Proofs.Ytgoldeagghadhaa.M
set_option linter.unusedVariables false
set_option linter.unusedSimpArgs false

/-- The number that factors make. -/
def prodF : List (Nat × Nat) → Nat
  | [] => 1
  | pe :: l => pe.1 ^ pe.2 * prodF l
/-- Primes that rise, each at least once. -/
structure Facs (l : List (Nat × Nat)) : Prop where
  pr : ∀ pe ∈ l, isP pe.1 = true ∧ 1 ≤ pe.2
  up : l.Pairwise (fun a b => a.1 < b.1)
theorem prodF_pos : ∀ (l : List (Nat × Nat)), (∀ pe ∈ l, 1 ≤ pe.1) → 1 ≤ prodF l
  | [], _ => Nat.le_refl _
  | pe :: l, h => by
    have h1 := prodF_pos l fun q hq => h q (List.mem_cons_of_mem _ hq)
    have h2 : 1 ≤ pe.1 ^ pe.2 := Nat.pow_pos (h pe (List.mem_cons_self ..))
    exact Nat.mul_le_mul h2 h1
theorem Facs.pos {l : List (Nat × Nat)} (h : Facs l) : 1 ≤ prodF l := prodF_pos l fun pe hp => by have := isP_two (h.pr pe hp).1; omega
/-! ### Legendre's recursion -/
/-- None of some numbers divides n. -/
def free (ps : List Nat) (n : Nat) : Bool := ps.all fun p => decide (n % p ≠ 0)
/-- How many of 1..n none of them divides. -/
def cnt (ps : List Nat) : Nat → Nat
  | 0 => 0
  | n + 1 => cnt ps n + if free ps (n + 1) = true then 1 else 0
theorem cnt_le (ps : List Nat) : ∀ n, cnt ps n ≤ n
  | 0 => Nat.le_refl _
  | n + 1 => by
    have := cnt_le ps n
    unfold cnt
    split <;> omega
theorem cnt_nil : ∀ n, cnt [] n = n
  | 0 => rfl
  | n + 1 => by unfold cnt; rw [cnt_nil n]; rfl
theorem free_snoc (ps : List Nat) (p n : Nat) : free (ps ++ [p]) n = (free ps n && decide (n % p ≠ 0)) := by
  unfold free
  rw [List.all_append]
  simp
theorem free_mul {ps : List Nat} {p : Nat} (hp : isP p = true) (h : ∀ q ∈ ps, isP q = true ∧ q ≠ p) (n : Nat) : free ps (p * n) = free ps n := by
  unfold free
  rw [Bool.eq_iff_iff, List.all_eq_true, List.all_eq_true]
  constructor
  · intro k q hq
    have := of_decide_eq_true (k q hq)
    refine decide_eq_true fun c => this (Nat.mod_eq_zero_of_dvd ?_)
    exact Nat.dvd_trans (Nat.dvd_of_mod_eq_zero c) (Nat.dvd_mul_left _ _)
  · intro k q hq
    have := of_decide_eq_true (k q hq)
    refine decide_eq_true fun c => ?_
    rcases isP_euclid (h q hq).1 (Nat.dvd_of_mod_eq_zero c) with h1 | h1
    · rcases isP_dvd hp h1 with h2 | h2
      · have := isP_two (h q hq).1; omega
      · exact (h q hq).2 h2
    · exact this (Nat.mod_eq_zero_of_dvd h1)
theorem succ_div_dvd {n p q : Nat} (hp : 1 ≤ p) (h : n + 1 = p * q) : (n + 1) / p = q ∧ n / p = q - 1 := by
  constructor
  · rw [h]; exact Nat.mul_div_cancel_left _ (by omega)
  · obtain ⟨k, rfl⟩ : ∃ k, q = k + 1 := ⟨q - 1, by rcases Nat.eq_zero_or_pos q with c | c; (rw [c] at h; omega); omega⟩
    have : n = p * k + (p - 1) := by rw [Nat.mul_add] at h; omega
    rw [this, Nat.mul_add_div (by omega), Nat.div_eq_of_lt (by omega)]
    omega
theorem succ_div_not {n p : Nat} (hp : 1 ≤ p) (h : (n + 1) % p ≠ 0) : (n + 1) / p = n / p := by
  rw [Nat.succ_div, if_neg fun c => h (Nat.mod_eq_zero_of_dvd c), Nat.add_zero]
theorem cnt_snoc {ps : List Nat} {p : Nat} (hp : isP p = true) (h : ∀ q ∈ ps, isP q = true ∧ q ≠ p) : ∀ n, cnt ps n = cnt (ps ++ [p]) n + cnt ps (n / p)
  | 0 => by rw [Nat.zero_div]; rfl
  | n + 1 => by
    have hp2 := isP_two hp
    have ih := cnt_snoc hp h n
    by_cases c : (n + 1) % p = 0
    · have hm : n + 1 = p * ((n + 1) / p) := split_mod c
      obtain ⟨e1, e2⟩ := succ_div_dvd (show 1 ≤ p by omega) hm
      have hq : 1 ≤ (n + 1) / p := by
        rcases Nat.eq_zero_or_pos ((n + 1) / p) with c | c
        · rw [c] at hm; omega
        · exact c
      have hf : free ps (n + 1) = free ps ((n + 1) / p) := by
        have := free_mul hp h ((n + 1) / p)
        rwa [← hm] at this
      generalize (n + 1) / p = q at *
      obtain ⟨k, rfl⟩ : ∃ k, q = k + 1 := ⟨q - 1, by omega⟩
      rw [e2, Nat.add_sub_cancel] at ih
      have f0 : free (ps ++ [p]) (n + 1) = false := by rw [free_snoc, c]; simp
      simp only [cnt, f0, hf, Bool.false_eq_true, if_false]
      omega
    · rw [succ_div_not (by omega) c]
      have f0 : free (ps ++ [p]) (n + 1) = free ps (n + 1) := by rw [free_snoc, decide_eq_true (show (n + 1) % p ≠ 0 from c), Bool.and_true]
      simp only [cnt, f0]
      omega

end Go.Proofs.Ytgoldeagghadhaa.M

/-! ## E0 -/

namespace Go.Proofs.Ytgoldeagghadhaa.L
open Go.RowKit Go.Proofs.YtgoldeagghadhaaW.PrintWords Go.Proofs.Ytgoldeagghadhaa.P
set_option linter.unusedVariables false
set_option linter.unusedSimpArgs false

end Go.Proofs.Ytgoldeagghadhaa.L

/-! ## X3 -/
namespace Go.Proofs.Ytgoldeagghadhaa.L
open Go.RowKit Go.Proofs.YtgoldeagghadhaaW.PrintWords Go.Proofs.Ytgoldeagghadhaa.P Go.Proofs.Ytgoldeagghadhaa.M
set_option linter.unusedVariables false
set_option linter.unusedSimpArgs false

/-- The first twelve primes. -/
def p12 : List Int := [2, 3, 5, 7, 11, 13, 17, 19, 23, 29, 31, 37]
theorem pl_36 : pl 36 2 = p12 := by decide +kernel
theorem pl_38 : pl 38 0 = p12 := by decide +kernel
theorem prFirst_l0 (c : Nat) (hc : c ≤ 1000) : ∀ (m : Nat) (n : Int) (acc : List Int), 0 ≤ n → n + m ≤ 10000 → acc.length ≤ c → c ≤ acc.length + (pl m n).length → Evl (fun k => spec_prFirst.l0 k (c : Int) acc n) (acc ++ (pl m n).take (c - acc.length)) := by
  intro m
  induction m with
  | zero =>
    intro n acc h0 hn ha hb
    simp only [pl, List.length_nil] at hb
    refine Evl.succ ?_
    simp only [spec_prFirst.l0, if_neg (show ¬ (acc.length : Int) < (c : Int) by omega)]
    refine (Evl.ret _).cast ?_
    simp [pl]
  | succ m ih =>
    intro n acc h0 hn ha hb
    have hw : wrap64 (n + 1) = n + 1 := w64 (by omega) (by omega)
    refine Evl.succ ?_
    by_cases e : acc.length < c
    · simp only [spec_prFirst.l0, if_pos (show (acc.length : Int) < (c : Int) by omega), if_pos (show acc.length < 17592186044416 by omega), hw]
      refine Evl.bind (spec_prIs_ev n (by omega)) ?_
      unfold pl at hb ⊢
      by_cases p : isPI n = true
      · rw [if_pos p] at hb ⊢
        rw [List.length_cons] at hb
        simp only [p, if_true]
        refine (ih (n + 1) (acc ++ [n]) (by omega) (by omega) (by rw [List.length_append, List.length_singleton]; omega) (by rw [List.length_append, List.length_singleton]; omega)).cast ?_
        rw [List.length_append, List.length_singleton, show c - acc.length = (c - (acc.length + 1)) + 1 by omega, List.take_succ_cons, List.append_assoc]
        rfl
      · rw [if_neg p] at hb ⊢
        simp only [if_neg p]
        exact ih (n + 1) acc (by omega) (by omega) ha hb
    · simp only [spec_prFirst.l0, if_neg (show ¬ (acc.length : Int) < (c : Int) by omega)]
      refine (Evl.ret _).cast ?_
      rw [show c - acc.length = 0 by omega, List.take_zero, List.append_nil]
theorem prFirst_ev (c : Nat) (hc : c ≤ 12) : Evl (fun k => spec_prFirst.f k (c : Int)) (p12.take c) := by
  simp only [spec_prFirst.f]
  refine (prFirst_l0 c (by omega) 36 2 [] (by omega) (by omega) (by simp) (by rw [pl_36]; show c ≤ 0 + 12; omega)).cast ?_
  rw [pl_36]
  rfl
theorem prK_eq (a : Int) : spec_prK.f a = some (decide (0 ≤ a ∧ a ≤ 12)) := by
  unfold spec_prK.f
  rw [l1In_eq]
  rfl
theorem impl_rulesOfPrimes_l0 (xs : List Int) (hl : xs.length ≤ 1000) : ∀ (s : List Int) (i : Nat) (acc : List S62), xs.drop i = s → acc.length + s.length ≤ 1000 → Evl (fun k => impl_rulesOfPrimes.l0 k acc xs (xs.length : Int) (i : Int)) (acc ++ s.map fun p => (⟨p, 0⟩ : S62)) := by
  intro s
  induction s with
  | nil =>
    intro i acc hd ha
    have hi := drop_nil hd
    refine Evl.succ ?_
    simp only [impl_rulesOfPrimes.l0, if_neg (show ¬ (i : Int) < (xs.length : Int) by omega)]
    refine (Evl.ret _).cast ?_
    simp
  | cons y s ih =>
    intro i acc hd ha
    obtain ⟨hi, hy, hs⟩ := drop_cons hd
    rw [List.length_cons] at ha
    have hw : wrap64 ((i : Int) + 1) = ((i + 1 : Nat) : Int) := by rw [w64 (by omega) (by omega)]; rfl
    refine Evl.succ ?_
    simp only [impl_rulesOfPrimes.l0, if_pos (show (i : Int) < (xs.length : Int) by omega), if_pos (show (0 : Int) ≤ (i : Int) by omega), if_pos (show acc.length < 8796093022208 by omega), rd_of hy, hw]
    refine (ih (i + 1) _ hs (by rw [List.length_append, List.length_singleton]; omega)).cast ?_
    rw [List.append_assoc]
    rfl
theorem take12 (c : Nat) : (p12.take c).length ≤ 12 := by rw [List.length_take]; exact Nat.min_le_right _ _
theorem rulesOfPrimes_ev (c : Nat) (hc : c ≤ 12) : Evl (fun k => impl_rulesOfPrimes.f k (c : Int)) ((p12.take c).map fun p => (⟨p, 0⟩ : S62)) := by
  simp only [impl_rulesOfPrimes.f]
  have hp : Evl (fun k => impl_primesBetween.f k 0 37) p12 := (impl_primesBetween_ev 0 37 (by omega) (by omega)).cast pl_38
  refine Evl.bind hp ?_
  have h12 : (p12.length : Int) = 12 := rfl
  have := take12 c
  simp only [if_pos (show (0 : Int) ≤ (c : Int) by omega), h12, if_pos (show (c : Int) ≤ 12 by omega), Option.bind_some, Int.toNat_natCast]
  exact impl_rulesOfPrimes_l0 (p12.take c) (by omega) _ 0 [] rfl (by simp only [List.length_nil]; omega)
end Go.Proofs.Ytgoldeagghadhaa.L

/-! ## X10 -/
namespace Go.Proofs.Ytgoldeagghadhaa.L
open Go.RowKit Go.Proofs.YtgoldeagghadhaaW.PrintWords Go.Proofs.Ytgoldeagghadhaa.P Go.Proofs.Ytgoldeagghadhaa.M
set_option linter.unusedVariables false
set_option linter.unusedSimpArgs false

/-- The first twelve primes. -/
def n12 : List Nat := [2, 3, 5, 7, 11, 13, 17, 19, 23, 29, 31, 37]
def ints (q : List Nat) : List Int := q.map fun (p : Nat) => (p : Int)
theorem ints_length (q : List Nat) : (ints q).length = q.length := by unfold ints; exact List.length_map ..
theorem n12_isP : ∀ p ∈ n12, isP p = true := by decide +kernel
theorem n12_nodup : n12.Nodup := by decide
theorem p12_take (c : Nat) : p12.take c = ints (n12.take c) := by
  unfold ints
  rw [List.map_take]
  rfl
theorem prWithout_ev : ∀ (m : Nat) (q : List Nat) (n : Nat), q.length = m → m ≤ 100 → (∀ p ∈ q, isP p = true) → q.Nodup → n ≤ 10000 → Evl (fun k => spec_prWithout.f k (n : Int) (ints q)) ((cnt q n : Nat) : Int)
  | 0, q, n, hm, _, _, _, _ => by
    obtain rfl : q = [] := List.eq_nil_of_length_eq_zero hm
    refine Evl.succ ?_
    simp only [spec_prWithout.f, ints_length, if_pos (show ((([] : List Nat).length : Nat) : Int) = 0 from rfl)]
    refine Evl.succ ?_
    simp only [spec_prWithout.j0, if_true]
    refine (Evl.ret _).cast ?_
    rw [cnt_nil]
  | m + 1, q, n, hm, hm2, hp, hd, hn => by
    obtain ⟨q', p, rfl⟩ : ∃ q' p, q = q' ++ [p] := by
      rcases List.eq_nil_or_concat q with h | ⟨q', p, h⟩
      · rw [h] at hm; cases hm
      · exact ⟨q', p, by rw [h, List.concat_eq_append]⟩
    have hl : q'.length = m := by rw [List.length_append] at hm; simp at hm; omega
    have hpp := hp p (by simp)
    have hp2 := isP_two hpp
    obtain ⟨hd1, _, hd2⟩ := List.nodup_append.1 hd
    have hq : ∀ r ∈ q', isP r = true ∧ r ≠ p := fun r hr => ⟨hp r (by simp [hr]), hd2 r hr p (by simp)⟩
    have hlen : (((ints (q' ++ [p])).length : Nat) : Int) = ((m + 1 : Nat) : Int) := by rw [ints_length, List.length_append, hl]; rfl
    have hw : wrap64 (((m + 1 : Nat) : Int) - 1) = (m : Int) := by rw [w64 (by omega) (by omega)]; omega
    have htk : (ints (q' ++ [p])).take (m : Int).toNat = ints q' := by
      rw [Int.toNat_natCast]
      unfold ints
      rw [List.map_append, List.take_left' (by rw [List.length_map]; exact hl)]
    have hrd : rd (ints (q' ++ [p])) (m : Int) = (p : Int) := by
      refine rd_of ?_
      unfold ints
      rw [List.map_append, List.getElem?_append_right (by rw [List.length_map]; omega), List.length_map, hl, Nat.sub_self]
      rfl
    refine Evl.succ ?_
    simp only [spec_prWithout.f, hlen, if_neg (show ¬ ((m + 1 : Nat) : Int) = 0 by omega)]
    refine Evl.succ ?_
    by_cases c : n = 0
    · subst c
      simp only [spec_prWithout.j0, show (((0 : Nat) : Int) == 0) = true from rfl, if_true]
      exact Evl.ret _
    · have hb : ((n : Int) == 0) = false := beq_eq_false_iff_ne.2 (by omega)
      have hdv : Int.tdiv (n : Int) (p : Int) = ((n / p : Nat) : Int) := rfl
      have hle : n / p ≤ n := Nat.div_le_self _ _
      have hs := cnt_snoc hpp hq n
      have h1 := cnt_le q' n
      have h2 := cnt_le (q' ++ [p]) n
      have e1 := prWithout_ev m q' n hl (by omega) (fun r hr => (hq r hr).1) hd1 hn
      have e2 := prWithout_ev m q' (n / p) hl (by omega) (fun r hr => (hq r hr).1) hd1 (by omega)
      generalize n / p = d at *
      have hwd : wrap64 (d : Int) = (d : Int) := w64 (by omega) (by omega)
      have hw3 : wrap64 (((cnt q' n : Nat) : Int) - ((cnt q' d : Nat) : Int)) = ((cnt (q' ++ [p]) n : Nat) : Int) := by rw [w64 (by omega) (by omega)]; omega
      simp only [spec_prWithout.j0, hb, Bool.false_eq_true, if_false, hw, hlen, if_pos (show (0 : Int) ≤ (m : Int) by omega), if_pos (show (m : Int) ≤ ((m + 1 : Nat) : Int) by omega), if_pos (show (m : Int) < ((m + 1 : Nat) : Int) by omega), htk, hrd, if_neg (show ¬ (p : Int) = 0 by omega), hdv, hwd]
      refine Evl.bind e1 ?_
      refine Evl.bind e2 ?_
      rw [hw3]
      exact Evl.ret _
theorem left_free (q : List Nat) (n : Nat) : left (rs ((ints q).map fun p => (⟨p, 0⟩ : S62))) (n : Int) = free q n := by
  unfold left free rs ints
  rw [List.map_map, List.map_map, List.all_map]
  refine List.all_congr rfl fun p => ?_
  show decide ((n : Int) % (p : Int) ≠ 0) = decide (n % p ≠ 0)
  have : (n : Int) % (p : Int) = ((n % p : Nat) : Int) := rfl
  rw [this]
  by_cases c : n % p = 0
  · rw [c]; rfl
  · rw [decide_eq_true (show n % p ≠ 0 from c), decide_eq_true (show ((n % p : Nat) : Int) ≠ 0 by omega)]
theorem lb_cnt {rs : List Ru} {q : List Nat} (h : ∀ n : Nat, left rs (n : Int) = free q n) : ∀ m : Nat, (lb rs m 1).length = cnt q m
  | 0 => rfl
  | m + 1 => by
    have e : (1 : Int) + (m : Int) = ((m + 1 : Nat) : Int) := by omega
    rw [lb_append rs m 1 1, List.length_append, lb_cnt h m, e]
    simp only [lb, cnt, h]
    split <;> rfl
theorem sane12 (c : Nat) : Sane ((p12.take c).map fun p => (⟨p, 0⟩ : S62)) := fun x hx => by
  obtain ⟨p, hp, rfl⟩ := List.mem_map.1 hx
  have h := List.mem_of_mem_take hp
  unfold p12 at h
  simp only [List.mem_cons, List.not_mem_nil, or_false] at h
  simp only
  omega
theorem FnExactCountWithout_main (a0 a1 : Int) (h0 : (Lit.int .i64 a0).wf = true) (h1 : (Lit.int .i64 a1).wf = true) :
    ∃ r b, Evl (fun k => spec_CountWithout.f k a0 a1) (r, b) ∧ Evl (fun k => impl_CountWithout.f k a0 a1) (r, b) := by
  have no : Evl (fun k => spec_CountWithout.j0 k a0 a1 true) (0, false) ∧ Evl (fun k => impl_CountWithout.j0 k a0 a1 true) (0, false) := by
    constructor
    · refine Evl.succ ?_
      simp only [spec_CountWithout.j0, if_true]
      exact Evl.ret _
    · refine Evl.succ ?_
      simp only [impl_CountWithout.j0, if_true]
      exact Evl.ret _
  by_cases g : 0 ≤ a0 ∧ a0 ≤ 10000
  · by_cases g1 : 0 ≤ a1 ∧ a1 ≤ 12
    · obtain ⟨n, rfl⟩ := Int.eq_ofNat_of_zero_le g.1
      obtain ⟨c, rfl⟩ := Int.eq_ofNat_of_zero_le g1.1
      have hc : c ≤ 12 := by omega
      have hn : n ≤ 10000 := by omega
      refine ⟨((cnt (n12.take c) n : Nat) : Int), true, ?_, ?_⟩
      · simp only [spec_CountWithout.f, spec_prCounted.f, l1In_eq, prK_eq, decide_eq_true g, decide_eq_true g1, Option.bind_some, if_true, Bool.not_true]
        refine Evl.succ ?_
        simp only [spec_CountWithout.j0, Bool.false_eq_true, if_false]
        refine Evl.bind (prFirst_ev c hc) ?_
        rw [p12_take]
        refine Evl.bind (prWithout_ev _ (n12.take c) n rfl (by rw [List.length_take]; have : n12.length = 12 := rfl; omega) (fun p hp => n12_isP p (List.mem_of_mem_take hp)) (n12_nodup.sublist (List.take_sublist _ _)) hn) ?_
        exact Evl.ret _
      · simp only [impl_CountWithout.f, if_neg (show ¬ (n : Int) < 0 by omega), if_neg (show ¬ (n : Int) > 10000 by omega), if_neg (show ¬ (c : Int) < 0 by omega), decide_eq_false (show ¬ (c : Int) > 12 by omega)]
        refine Evl.succ ?_
        simp only [impl_CountWithout.j0, Bool.false_eq_true, if_false]
        refine Evl.bind (rulesOfPrimes_ev c hc) ?_
        refine Evl.bind (leftBetween_ev (sane12 c) 1 (n : Int) (by omega) (by omega)) ?_
        refine (Evl.ret _).cast ?_
        rw [show ((n : Int) + 1 - 1).toNat = n by omega, p12_take, lb_cnt (left_free (n12.take c)) n]
    · refine ⟨0, false, ?_, ?_⟩
      · simp only [spec_CountWithout.f, spec_prCounted.f, l1In_eq, prK_eq, decide_eq_true g, decide_eq_false g1, Option.bind_some, if_true, Bool.not_false]
        exact no.1
      · simp only [impl_CountWithout.f, if_neg (show ¬ a0 < 0 by omega), if_neg (show ¬ a0 > 10000 by omega)]
        by_cases c : a1 < 0
        · simp only [if_pos c]
          exact no.2
        · simp only [if_neg c, decide_eq_true (show a1 > 12 by omega)]
          exact no.2
  · refine ⟨0, false, ?_, ?_⟩
    · simp only [spec_CountWithout.f, spec_prCounted.f, l1In_eq, decide_eq_false g, Option.bind_some, Bool.false_eq_true, if_false]
      exact no.1
    · simp only [impl_CountWithout.f]
      by_cases c : a0 < 0
      · simp only [if_pos c]
        exact no.2
      · simp only [if_neg c, if_pos (show a0 > 10000 by omega)]
        exact no.2

end Go.Proofs.Ytgoldeagghadhaa.L
