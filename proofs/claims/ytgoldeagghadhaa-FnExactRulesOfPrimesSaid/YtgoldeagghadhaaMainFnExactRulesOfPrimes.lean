/- RulesOfPrimes of the program tells what the reference's tells, for all arguments: what both functions compute. No condition beyond 64 bits and the lengths that the statement's guards give. -/
import Derived.Test.YtgoldeagghadhaaPx0
import Derived.Test.YtgoldeagghadhaaPx1
import Derived.Test.YtgoldeagghadhaaPx2
import Derived.Test.YtgoldeagghadhaaPx3
import Derived.Test.YtgoldeagghadhaaPx4
import Derived.Test.YtgoldeagghadhaaPx5
import Derived.Test.YtgoldeagghadhaaPx6
/-! ## L0 -/
namespace Go.Proofs.Ytgoldeagghadhaa.L
open Go.RowKit Go.Proofs.YtgoldeagghadhaaW.PrintWords
set_option linter.unusedVariables false
set_option linter.unusedSimpArgs false

/-- With enough rounds g tells r. -/
def Evl {α : Type} (g : Nat → Option α) (r : α) : Prop := ∃ K, ∀ k, K ≤ k → g k = some r
theorem Evl.ret {α : Type} (r : α) : Evl (fun _ => some r) r := ⟨0, fun _ _ => rfl⟩
theorem Evl.bind {α β : Type} {g : Nat → Option α} {f : Nat → α → Option β} {a : α} {r : β} (h : Evl g a) (h2 : Evl (fun k => f k a) r) : Evl (fun k => (g k).bind (f k)) r := by
  obtain ⟨K, hK⟩ := h
  obtain ⟨K2, hK2⟩ := h2
  refine ⟨max K K2, fun k hk => ?_⟩
  show (g k).bind (f k) = some r
  rw [hK k (Nat.le_trans (Nat.le_max_left _ _) hk), Option.bind_some]
  exact hK2 k (Nat.le_trans (Nat.le_max_right _ _) hk)
theorem Evl.succ {α : Type} {g : Nat → Option α} {r : α} (h : Evl (fun k => g (k + 1)) r) : Evl g r := by
  obtain ⟨K, hK⟩ := h
  refine ⟨K + 1, fun k hk => ?_⟩
  obtain ⟨m, rfl⟩ : ∃ m, k = m + 1 := ⟨k - 1, by omega⟩
  exact hK m (by omega)
theorem Evl.get {α : Type} {g : Nat → Option α} {r : α} (h : Evl g r) : ∃ k, g k = some r := by
  obtain ⟨K, hK⟩ := h
  exact ⟨K, hK K (Nat.le_refl _)⟩
theorem Evl.cast {α : Type} {g : Nat → Option α} {r r' : α} (h : Evl g r) (e : r = r') : Evl g r' := e ▸ h

theorem w64 {x : Int} (h0 : -9223372036854775808 ≤ x) (h1 : x ≤ 9223372036854775807) : wrap64 x = x := by
  unfold wrap64
  omega
theorem drop_nil {α : Type} {xs : List α} {i : Nat} (h : xs.drop i = []) : xs.length ≤ i := by
  simpa using h
theorem drop_cons {α : Type} {xs s : List α} {x : α} {i : Nat} (h : xs.drop i = x :: s) : i < xs.length ∧ xs[i]? = some x ∧ xs.drop (i + 1) = s := by
  have hl : i < xs.length := by
    rcases Nat.lt_or_ge i xs.length with h1 | h1
    · exact h1
    · rw [List.drop_of_length_le h1] at h
      cases h
  rw [List.drop_eq_getElem_cons hl] at h
  injection h with h1 h2
  exact ⟨hl, by rw [List.getElem?_eq_getElem hl, h1], h2⟩
theorem rd_of {xs : List Int} {i : Nat} {x : Int} (h : xs[i]? = some x) : rd xs (i : Int) = x := by
  unfold rd
  rw [Int.toNat_natCast, List.getD_eq_getElem?_getD, h]
  rfl
end Go.Proofs.Ytgoldeagghadhaa.L

/-! ## M1 -/
namespace Go.Proofs.Ytgoldeagghadhaa.M
set_option linter.unusedVariables false
set_option linter.unusedSimpArgs false

def lfAux : Nat → Nat → Nat → Nat
  | 0, _, n => n
  | f + 1, d, n => if n % d = 0 then d else lfAux f (d + 1) n
/-- The least divisor of at least 2. -/
def lf (n : Nat) : Nat := lfAux n 2 n
def isP (n : Nat) : Bool := decide (2 ≤ n) && decide (lf n = n)

structure Least (n r : Nat) : Prop where
  two : 2 ≤ r
  le : r ≤ n
  div : n % r = 0
  least : ∀ d, 2 ≤ d → d < r → n % d ≠ 0

theorem lfAux_least : ∀ (f d n : Nat), 2 ≤ d → d ≤ n → n < d + f → (∀ e, 2 ≤ e → e < d → n % e ≠ 0) → Least n (lfAux f d n)
  | 0, d, n, _, h1, h2, _ => by omega
  | f + 1, d, n, h0, h1, h2, h3 => by
    unfold lfAux
    by_cases h : n % d = 0
    · rw [if_pos h]
      exact ⟨h0, h1, h, h3⟩
    · rw [if_neg h]
      have hne : d ≠ n := fun e => h (by rw [e]; exact Nat.mod_self n)
      refine lfAux_least f (d + 1) n (by omega) (by omega) (by omega) (fun e he hl => ?_)
      by_cases hed : e = d
      · rw [hed]; exact h
      · exact h3 e he (by omega)
theorem lf_least {n : Nat} (h : 2 ≤ n) : Least n (lf n) := lfAux_least n 2 n (by omega) h (by omega) (fun e h1 h2 => by omega)
theorem Least.uniq {n r s : Nat} (h : Least n r) (h' : Least n s) : r = s := by
  rcases Nat.lt_trichotomy r s with h1 | h1 | h1
  · exact absurd h.div (h'.least r h.two h1)
  · exact h1
  · exact absurd h'.div (h.least s h'.two h1)
theorem lf_eq {n r : Nat} (hn : 2 ≤ n) (h : Least n r) : lf n = r := (lf_least hn).uniq h

theorem split_mod {n r : Nat} (h : n % r = 0) : n = r * (n / r) := by
  have := Nat.div_add_mod n r
  rw [h] at this
  omega

/-- No divisor up to the root: the number itself. -/
theorem lf_root {n d : Nat} (hn : 2 ≤ n) (hd : ∀ e, 2 ≤ e → e < d → n % e ≠ 0) (hr : n < d * d) : lf n = n := by
  have h := lf_least hn
  rcases Nat.lt_or_ge (lf n) n with hl | hl
  · exfalso
    have hq := split_mod h.div
    generalize hqe : n / lf n = q at hq
    have hq2 : 2 ≤ q := by
      rcases Nat.lt_or_ge q 2 with h1 | h1
      · have : q = 0 ∨ q = 1 := by omega
        rcases this with rfl | rfl
        · omega
        · omega
      · exact h1
    have hqm : n % q = 0 := by
      have e : n % q = (lf n * q) % q := by rw [← hq]
      rw [e]; exact Nat.mul_mod_left _ _
    have hlq : lf n ≤ q := by
      rcases Nat.lt_or_ge q (lf n) with h1 | h1
      · exact absurd hqm (h.least q hq2 h1)
      · exact h1
    have hdl : d ≤ lf n := by
      rcases Nat.lt_or_ge (lf n) d with h1 | h1
      · exact absurd h.div (hd _ h.two h1)
      · exact h1
    have : d * d ≤ lf n * q := Nat.mul_le_mul hdl (Nat.le_trans hdl hlq)
    omega
  · have := h.le
    omega

/-! ### factors -/
end Go.Proofs.Ytgoldeagghadhaa.M

/-! ## E1 -/
namespace Go.Proofs.Ytgoldeagghadhaa.L
open Go.RowKit Go.Proofs.YtgoldeagghadhaaW.PrintWords Go.Proofs.Ytgoldeagghadhaa.P Go.Proofs.Ytgoldeagghadhaa.M
set_option linter.unusedVariables false
set_option linter.unusedSimpArgs false

/-- The same of whatever whole number. -/
def isPI (a : Int) : Bool := isP a.toNat
theorem isPI_nat (n : Nat) : isPI (n : Int) = isP n := by unfold isPI; rw [Int.toNat_natCast]
theorem isPI_neg {a : Int} (h : a < 2) : isPI a = false := by
  unfold isPI isP
  rw [decide_eq_false (by omega)]
  rfl

theorem spec_prLeast_l0 (n : Nat) (hn : 2 ≤ n) (hb : n ≤ 2000000000) : ∀ (m d : Nat), m + d = 50000 → 2 ≤ d → (∀ e, 2 ≤ e → e < d → n % e ≠ 0) → Evl (fun k => spec_prLeast.l0 k (n : Int) (d : Int)) (lf n : Int) := by
  intro m
  induction m with
  | zero =>
    intro d hd h2 hno
    obtain rfl : d = 50000 := by omega
    refine Evl.succ ?_
    have h1 : ¬ wrap64 (((50000 : Nat) : Int) * ((50000 : Nat) : Int)) ≤ (n : Int) := by rw [w64 (by omega) (by omega)]; omega
    simp only [spec_prLeast.l0, if_neg h1]
    rw [lf_root hn hno (by omega)]
    exact Evl.ret _
  | succ m ih =>
    intro d hd h2 hno
    have hdd : d * d ≤ 50000 * 50000 := Nat.mul_le_mul (by omega) (by omega)
    have hw : wrap64 ((d : Int) * (d : Int)) = ((d * d : Nat) : Int) := by rw [← Int.natCast_mul]; exact w64 (by omega) (by omega)
    have hw1 : wrap64 ((d : Int) + 1) = ((d + 1 : Nat) : Int) := by rw [w64 (by omega) (by omega)]; rfl
    refine Evl.succ ?_
    by_cases hr : d * d ≤ n
    · have h1 : ((d * d : Nat) : Int) ≤ (n : Int) := Int.ofNat_le.2 hr
      have h3 : ¬ (d : Int) = 0 := by omega
      have ht : Int.tmod (n : Int) (d : Int) = ((n % d : Nat) : Int) := rfl
      by_cases hm : n % d = 0
      · have h4 : ((n % d : Nat) : Int) = 0 := by rw [hm]; rfl
        simp only [spec_prLeast.l0, hw, if_pos h1, if_neg h3, ht, if_pos h4]
        rw [lf_eq hn ⟨h2, Nat.le_trans (Nat.le_mul_self d) hr, hm, hno⟩]
        exact Evl.ret _
      · have h4 : ¬ ((n % d : Nat) : Int) = 0 := by omega
        simp only [spec_prLeast.l0, hw, if_pos h1, if_neg h3, ht, if_neg h4, hw1]
        refine ih (d + 1) (by omega) (by omega) (fun e he hl => ?_)
        by_cases hed : e = d
        · rw [hed]; exact hm
        · exact hno e he (by omega)
    · have h1 : ¬ ((d * d : Nat) : Int) ≤ (n : Int) := fun h => hr (Int.ofNat_le.1 h)
      simp only [spec_prLeast.l0, hw, if_neg h1]
      rw [lf_root hn hno (by omega)]
      exact Evl.ret _
theorem spec_prLeast_ev (n : Nat) (hn : 2 ≤ n) (hb : n ≤ 2000000000) : Evl (fun k => spec_prLeast.f k (n : Int)) (lf n : Int) := by
  simp only [spec_prLeast.f]
  exact spec_prLeast_l0 n hn hb 49998 2 rfl (by omega) (fun e h1 h2 => by omega)

theorem spec_prIs_ev (a : Int) (hb : a ≤ 2000000000) : Evl (fun k => spec_prIs.f k a) (isPI a) := by
  by_cases h : a ≥ 2
  · obtain ⟨n, rfl⟩ := Int.eq_ofNat_of_zero_le (show 0 ≤ a by omega)
    simp only [spec_prIs.f, if_pos h]
    refine Evl.bind (spec_prLeast_ev n (by omega) (by omega)) ?_
    refine (Evl.ret _).cast ?_
    rw [isPI_nat]
    unfold isP
    rw [decide_eq_true (show 2 ≤ n by omega), Bool.true_and]
    by_cases e : lf n = n
    · rw [decide_eq_true e, e]
      exact beq_self_eq_true _
    · rw [decide_eq_false e]
      exact beq_eq_false_iff_ne.2 (by omega)
  · simp only [spec_prIs.f, if_neg h]
    rw [isPI_neg (by omega)]
    exact Evl.ret _

theorem impl_leastFactor_l0 (n : Nat) (hn : 2 ≤ n) (hb : n ≤ 2000000000) : ∀ (m d : Nat), m + d = 50000 → 2 ≤ d → (∀ e, 2 ≤ e → e < d → n % e ≠ 0) → Evl (fun k => impl_leastFactor.l0 k (n : Int) (d : Int)) (lf n : Int) := by
  intro m
  induction m with
  | zero =>
    intro d hd h2 hno
    obtain rfl : d = 50000 := by omega
    refine Evl.succ ?_
    have h1 : ¬ wrap64 (((50000 : Nat) : Int) * ((50000 : Nat) : Int)) ≤ (n : Int) := by rw [w64 (by omega) (by omega)]; omega
    simp only [impl_leastFactor.l0, if_neg h1]
    rw [lf_root hn hno (by omega)]
    exact Evl.ret _
  | succ m ih =>
    intro d hd h2 hno
    have hdd : d * d ≤ 50000 * 50000 := Nat.mul_le_mul (by omega) (by omega)
    have hw : wrap64 ((d : Int) * (d : Int)) = ((d * d : Nat) : Int) := by rw [← Int.natCast_mul]; exact w64 (by omega) (by omega)
    have hw1 : wrap64 ((d : Int) + 1) = ((d + 1 : Nat) : Int) := by rw [w64 (by omega) (by omega)]; rfl
    refine Evl.succ ?_
    by_cases hr : d * d ≤ n
    · have h1 : ((d * d : Nat) : Int) ≤ (n : Int) := Int.ofNat_le.2 hr
      have h3 : ¬ (d : Int) = 0 := by omega
      have ht : Int.tmod (n : Int) (d : Int) = ((n % d : Nat) : Int) := rfl
      by_cases hm : n % d = 0
      · have h4 : ((n % d : Nat) : Int) = 0 := by rw [hm]; rfl
        simp only [impl_leastFactor.l0, hw, if_pos h1, if_neg h3, ht, if_pos h4]
        rw [lf_eq hn ⟨h2, Nat.le_trans (Nat.le_mul_self d) hr, hm, hno⟩]
        exact Evl.ret _
      · have h4 : ¬ ((n % d : Nat) : Int) = 0 := by omega
        simp only [impl_leastFactor.l0, hw, if_pos h1, if_neg h3, ht, if_neg h4, hw1]
        refine ih (d + 1) (by omega) (by omega) (fun e he hl => ?_)
        by_cases hed : e = d
        · rw [hed]; exact hm
        · exact hno e he (by omega)
    · have h1 : ¬ ((d * d : Nat) : Int) ≤ (n : Int) := fun h => hr (Int.ofNat_le.1 h)
      simp only [impl_leastFactor.l0, hw, if_neg h1]
      rw [lf_root hn hno (by omega)]
      exact Evl.ret _
theorem impl_leastFactor_ev (n : Nat) (hn : 2 ≤ n) (hb : n ≤ 2000000000) : Evl (fun k => impl_leastFactor.f k (n : Int)) (lf n : Int) := by
  simp only [impl_leastFactor.f]
  exact impl_leastFactor_l0 n hn hb 49998 2 rfl (by omega) (fun e h1 h2 => by omega)

theorem impl_isPrime_ev (a : Int) (hb : a ≤ 2000000000) : Evl (fun k => impl_isPrime.f k a) (isPI a) := by
  by_cases h : a ≥ 2
  · obtain ⟨n, rfl⟩ := Int.eq_ofNat_of_zero_le (show 0 ≤ a by omega)
    simp only [impl_isPrime.f, if_pos h]
    refine Evl.bind (impl_leastFactor_ev n (by omega) (by omega)) ?_
    refine (Evl.ret _).cast ?_
    rw [isPI_nat]
    unfold isP
    rw [decide_eq_true (show 2 ≤ n by omega), Bool.true_and]
    by_cases e : lf n = n
    · rw [decide_eq_true e, e]
      exact beq_self_eq_true _
    · rw [decide_eq_false e]
      exact beq_eq_false_iff_ne.2 (by omega)
  · simp only [impl_isPrime.f, if_neg h]
    rw [isPI_neg (by omega)]
    exact Evl.ret _

end Go.Proofs.Ytgoldeagghadhaa.L

/-! ## E2 -/
namespace Go.Proofs.Ytgoldeagghadhaa.L
open Go.RowKit Go.Proofs.YtgoldeagghadhaaW.PrintWords Go.Proofs.Ytgoldeagghadhaa.P Go.Proofs.Ytgoldeagghadhaa.M
set_option linter.unusedVariables false
set_option linter.unusedSimpArgs false

/-- The primes among m numbers from n on. -/
def pl : Nat → Int → List Int
  | 0, _ => []
  | m + 1, n => if isPI n = true then n :: pl m (n + 1) else pl m (n + 1)
theorem impl_primesBetween_l0 (hi : Int) (hh : hi ≤ 1999999999) : ∀ (m : Nat) (n : Int) (acc : List Int), -1000 ≤ n → (m : Int) = hi + 1 - n → acc.length + m ≤ 10000000000 → Evl (fun k => impl_primesBetween.l0 k hi acc n) (acc ++ pl m n) := by
  intro m
  induction m with
  | zero =>
    intro n acc h0 hm hb
    refine Evl.succ ?_
    have h1 : ¬ n ≤ hi := by omega
    simp only [impl_primesBetween.l0, if_neg h1]
    refine (Evl.ret _).cast ?_
    simp [pl]
  | succ m ih =>
    intro n acc h0 hm hb
    have h1 : n ≤ hi := by omega
    have hw : wrap64 (n + 1) = n + 1 := w64 (by omega) (by omega)
    refine Evl.succ ?_
    simp only [impl_primesBetween.l0, if_pos h1, hw]
    refine Evl.bind (impl_isPrime_ev n (by omega)) ?_
    unfold pl
    by_cases hp : isPI n = true
    · have h2 : acc.length < 17592186044416 := by omega
      simp only [if_pos hp, if_pos h2]
      refine (ih (n + 1) (acc ++ [n]) (by omega) (by omega) (by rw [List.length_append]; simp; omega)).cast ?_
      simp
    · simp only [if_neg hp]
      exact ih (n + 1) acc (by omega) (by omega) (by omega)
theorem impl_primesBetween_ev (lo hi : Int) (h0 : -1000 ≤ lo) (hh : hi ≤ 1999999999) : Evl (fun k => impl_primesBetween.f k lo hi) (pl (hi + 1 - lo).toNat lo) := by
  simp only [impl_primesBetween.f]
  rcases Int.lt_or_le hi lo with h | h
  · refine Evl.succ ?_
    have h1 : ¬ lo ≤ hi := by omega
    simp only [impl_primesBetween.l0, if_neg h1]
    rw [show (hi + 1 - lo).toNat = 0 by omega]
    exact Evl.ret _
  · exact impl_primesBetween_l0 hi hh (hi + 1 - lo).toNat lo [] h0 (by omega) (by simp; omega)

end Go.Proofs.Ytgoldeagghadhaa.L

/-! ## E3 -/

namespace Go.Proofs.Ytgoldeagghadhaa.L
open Go.RowKit Go.Proofs.YtgoldeagghadhaaW.PrintWords Go.Proofs.Ytgoldeagghadhaa.P Go.Proofs.Ytgoldeagghadhaa.M
set_option linter.unusedVariables false
set_option linter.unusedSimpArgs false

end Go.Proofs.Ytgoldeagghadhaa.L

/-! ## E4 -/
namespace Go.Proofs.Ytgoldeagghadhaa.L
open Go.RowKit Go.Proofs.YtgoldeagghadhaaW.PrintWords Go.Proofs.Ytgoldeagghadhaa.P Go.Proofs.Ytgoldeagghadhaa.M
set_option linter.unusedVariables false
set_option linter.unusedSimpArgs false

theorem l1In_eq (a lo hi : Int) : spec_l1In.f a lo hi = some (decide (lo ≤ a ∧ a ≤ hi)) := by
  unfold spec_l1In.f
  by_cases h : a ≥ lo
  · rw [if_pos h]
    by_cases h2 : a ≤ hi
    · rw [decide_eq_true h2, decide_eq_true ⟨h, h2⟩]
    · rw [decide_eq_false h2, decide_eq_false (fun c => h2 c.2)]
  · rw [if_neg h, decide_eq_false (fun c => h c.1)]

end Go.Proofs.Ytgoldeagghadhaa.L

/-! ## E0 -/

namespace Go.Proofs.Ytgoldeagghadhaa.L
open Go.RowKit Go.Proofs.YtgoldeagghadhaaW.PrintWords Go.Proofs.Ytgoldeagghadhaa.P
set_option linter.unusedVariables false
set_option linter.unusedSimpArgs false

end Go.Proofs.Ytgoldeagghadhaa.L

/-! ## M2 -/
namespace Go.Proofs.Ytgoldeagghadhaa.M
set_option linter.unusedVariables false
set_option linter.unusedSimpArgs false

/-- A rule: every, rest. -/
abbrev Ru := Int × Int
def okR (r : Ru) : Bool := decide (2 ≤ r.1 ∧ r.1 ≤ 60 ∧ 0 ≤ r.2 ∧ r.2 < r.1)
def good (rs : List Ru) : Bool := decide (rs.length ≤ 12) && rs.all okR
def left (rs : List Ru) (n : Int) : Bool := rs.all fun r => decide (n % r.1 ≠ r.2)
theorem good_ok {rs : List Ru} (h : good rs = true) {r : Ru} (hr : r ∈ rs) : 2 ≤ r.1 ∧ r.1 ≤ 60 ∧ 0 ≤ r.2 ∧ r.2 < r.1 := by
  unfold good at h
  rw [Bool.and_eq_true] at h
  exact of_decide_eq_true (List.all_eq_true.1 h.2 r hr)
/-- The numbers among m from n on that are left. -/
def lb (rs : List Ru) : Nat → Int → List Int
  | 0, _ => []
  | m + 1, n => if left rs n = true then n :: lb rs m (n + 1) else lb rs m (n + 1)
/-- The period of rules, if it is not too great. -/
def per : Nat → List Ru → Option Nat
  | p, [] => some p
  | p, r :: rs => if 100000 < p / Nat.gcd p r.1.toNat * r.1.toNat then none else per (p / Nat.gcd p r.1.toNat * r.1.toNat) rs
theorem left_add {rs : List Ru} {P : Nat} (hd : ∀ r ∈ rs, r.1.toNat ∣ P) (hp : ∀ r ∈ rs, 1 ≤ r.1) (n k : Int) : left rs (n + P * k) = left rs n := by
  unfold left
  have : ∀ (q : List Ru), (∀ r ∈ q, r ∈ rs) → (q.all fun r => decide ((n + P * k) % r.1 ≠ r.2)) = q.all fun r => decide (n % r.1 ≠ r.2) := by
    intro q
    induction q with
    | nil => intro _; rfl
    | cons r q ih =>
      intro hq
      have hr := hq r (by simp)
      obtain ⟨c, hc⟩ := hd r hr
      have h1 := hp r hr
      have e : (P : Int) = r.1 * (c : Int) := by
        rw [hc, Int.natCast_mul, Int.toNat_of_nonneg (by omega)]
      have e2 : (n + P * k) % r.1 = n % r.1 := by
        rw [e, Int.mul_assoc, Int.add_mul_emod_self_left]
      rw [List.all_cons, List.all_cons, ih (fun r hr => hq r (by simp [hr])), e2]
  exact this rs (fun r hr => hr)

structure Wheel (rs : List Ru) (P : Nat) : Prop where
  good : good rs = true
  per : per 1 rs = some P
  pos : 1 ≤ P
  most : P ≤ 5000
  dvd : ∀ r ∈ rs, r.1.toNat ∣ P
  some : lb rs P 1 ≠ []
theorem Wheel.one {rs : List Ru} {P : Nat} (h : Wheel rs P) : ∀ r ∈ rs, 1 ≤ r.1 := fun r hr => by have := good_ok h.good hr; omega
theorem Wheel.add {rs : List Ru} {P : Nat} (h : Wheel rs P) (n k : Int) : left rs (n + P * k) = left rs n := left_add h.dvd h.one n k
theorem Wheel.on {rs : List Ru} {P : Nat} (h : Wheel rs P) (n : Int) : left rs (n + P) = left rs n := by
  have := h.add n 1
  rw [Int.mul_one] at this
  exact this

end Go.Proofs.Ytgoldeagghadhaa.M

/-! ## E5 -/

namespace Go.Proofs.Ytgoldeagghadhaa.L
open Go.RowKit Go.Proofs.YtgoldeagghadhaaW.PrintWords Go.Proofs.Ytgoldeagghadhaa.P Go.Proofs.Ytgoldeagghadhaa.M
set_option linter.unusedVariables false
set_option linter.unusedSimpArgs false

/-- A rule as a pair. -/
def ru (x : S62) : Ru := (x.f0, x.f1)
def rs (l : List S62) : List Ru := l.map ru
theorem rdT_of {xs : List S62} {i : Nat} {x : S62} (h : xs[i]? = some x) : rd_T62 xs (i : Int) = x := by
  unfold rd_T62
  rw [Int.toNat_natCast, List.getD_eq_getElem?_getD, h]
  rfl
/-! ### valid rules -/
end Go.Proofs.Ytgoldeagghadhaa.L

/-! ## E7 -/
namespace Go.Proofs.Ytgoldeagghadhaa.L
open Go.RowKit Go.Proofs.YtgoldeagghadhaaW.PrintWords Go.Proofs.Ytgoldeagghadhaa.P Go.Proofs.Ytgoldeagghadhaa.M
set_option linter.unusedVariables false
set_option linter.unusedSimpArgs false

theorem eqRule_self (a b : Int) : laws_eqRule.f a b a b = some true := by
  simp only [laws_eqRule.f, if_true]
theorem eqRuleS_l0 (a : List S62) (hl : a.length ≤ 1099511627776) : ∀ (s : List S62) (i : Nat), a.drop i = s → Evl (fun k => laws_eqRuleS.l0 k a a (i : Int)) true := by
  intro s
  induction s with
  | nil =>
    intro i h
    have hi := drop_nil h
    refine Evl.succ ?_
    simp only [laws_eqRuleS.l0, if_neg (show ¬ (i : Int) < (a.length : Int) by omega)]
    exact Evl.ret _
  | cons x s ih =>
    intro i h
    obtain ⟨hi, hx, hs⟩ := drop_cons h
    have hw : wrap64 ((i : Int) + 1) = ((i + 1 : Nat) : Int) := by rw [w64 (by omega) (by omega)]; rfl
    refine Evl.succ ?_
    simp only [laws_eqRuleS.l0, if_pos (show (i : Int) < (a.length : Int) by omega), if_pos (show (0 : Int) ≤ (i : Int) by omega), eqRule_self, Option.bind_some, if_true, hw]
    exact ih (i + 1) hs
theorem eqRuleS_self (a : List S62) (hl : a.length ≤ 1099511627776) : Evl (fun k => laws_eqRuleS.f k a a) true := by
  simp only [laws_eqRuleS.f, if_true]
  exact eqRuleS_l0 a hl a 0 rfl
/-- n rules that hold the numbers from v on. -/
def iotR : Int → Nat → List S62
  | _, 0 => []
  | v, n + 1 => ⟨v, v + 1⟩ :: iotR (v + 2) n
theorem iotR_length : ∀ (n : Nat) (v : Int), (iotR v n).length = n
  | 0, _ => rfl
  | n + 1, v => by rw [iotR, List.length_cons, iotR_length n]
theorem markRuleS_l0 : ∀ (s pre : List S62) (v : Int) (i : Nat), pre.length = i → pre.length + s.length ≤ 1099511627776 → 0 ≤ v → v + 2 * s.length ≤ 4398046511104 → Evl (fun k => laws_markRuleS.l0 k (pre ++ s) v (i : Int)) (v + 2 * s.length, pre ++ iotR v s.length) := by
  intro s
  induction s with
  | nil =>
    intro pre v i hi _ _ _
    refine Evl.succ ?_
    have h1 : ¬ (i : Int) < ((pre ++ ([] : List S62)).length : Int) := by rw [List.append_nil]; omega
    simp only [laws_markRuleS.l0, if_neg h1]
    refine (Evl.ret _).cast ?_
    simp [iotR]
  | cons x s ih =>
    intro pre v i hi hb hv hvb
    rw [List.length_cons] at hb hvb
    have hw : wrap64 ((i : Int) + 1) = ((i + 1 : Nat) : Int) := by rw [w64 (by omega) (by omega)]; rfl
    have hw2 : wrap64 (v + 1) = v + 1 := w64 (by omega) (by omega)
    have hw3 : wrap64 (v + 1 + 1) = v + 2 := by rw [w64 (by omega) (by omega)]; omega
    refine Evl.succ ?_
    have h1 : (i : Int) < ((pre ++ x :: s).length : Int) := by rw [List.length_append, List.length_cons]; omega
    have h2 : (0 : Int) ≤ (i : Int) := by omega
    have hset : ∀ (y z : S62), (pre ++ y :: s).set (i : Int).toNat z = pre ++ z :: s := by
      intro y z
      rw [Int.toNat_natCast, ← hi, List.set_append_right _ _ (Nat.le_refl _), Nat.sub_self, List.set_cons_zero]
    have hrd : ∀ y : S62, rd_T62 (pre ++ y :: s) (i : Int) = y := fun y => rdT_of (by rw [List.getElem?_append_right (by omega), hi, Nat.sub_self]; rfl)
    simp only [laws_markRuleS.l0, if_pos h1, if_pos h2, hset, hrd, Option.bind_some, hw, hw2, hw3]
    rw [show pre ++ (⟨v, v + 1⟩ : S62) :: s = (pre ++ [(⟨v, v + 1⟩ : S62)]) ++ s by simp]
    have := ih (pre ++ [(⟨v, v + 1⟩ : S62)]) (v + 2) (i + 1) (by rw [List.length_append, hi]; rfl) (by rw [List.length_append, List.length_singleton]; omega) (by omega) (by omega)
    refine this.cast ?_
    rw [List.length_cons, iotR, List.append_assoc]
    refine Prod.ext ?_ rfl
    show v + 2 + 2 * (s.length : Int) = v + 2 * ((s.length + 1 : Nat) : Int)
    omega
theorem markRuleS_ev (a : List S62) (hl : a.length ≤ 1099511627776) : Evl (fun k => laws_markRuleS.f k a 1) (1 + 2 * a.length, iotR 1 a.length) := by
  simp only [laws_markRuleS.f]
  exact markRuleS_l0 a [] 1 0 rfl (by simpa using hl) (by omega) (by omega)
theorem heldRuleS_l0 (a : List S62) (hl : a.length ≤ 1099511627776) : ∀ (n : Nat) (v : Int) (i : Nat), a.drop i = iotR v n → 0 ≤ v → v + 2 * n ≤ 4398046511104 → Evl (fun k => laws_heldRuleS.l0 k a v (i : Int)) (v + 2 * n) := by
  intro n
  induction n with
  | zero =>
    intro v i h _ _
    have hi := drop_nil h
    refine Evl.succ ?_
    simp only [laws_heldRuleS.l0, if_neg (show ¬ (i : Int) < (a.length : Int) by omega)]
    refine (Evl.ret _).cast ?_
    omega
  | succ n ih =>
    intro v i h hv hb
    obtain ⟨hi, hx, hs⟩ := drop_cons h
    have hw : wrap64 ((i : Int) + 1) = ((i + 1 : Nat) : Int) := by rw [w64 (by omega) (by omega)]; rfl
    have hw2 : wrap64 (v + 1) = v + 1 := w64 (by omega) (by omega)
    have hw3 : wrap64 (v + 1 + 1) = v + 2 := by rw [w64 (by omega) (by omega)]; omega
    refine Evl.succ ?_
    simp only [laws_heldRuleS.l0, if_pos (show (i : Int) < (a.length : Int) by omega), if_pos (show (0 : Int) ≤ (i : Int) by omega), rdT_of hx, if_true, hw, hw2, hw3]
    refine (ih (v + 2) (i + 1) hs (by omega) (by omega)).cast ?_
    omega
theorem heldRuleS_ev (n : Nat) (hl : n ≤ 1099511627776) : Evl (fun k => laws_heldRuleS.f k (iotR 1 n) 1) (1 + 2 * n) := by
  simp only [laws_heldRuleS.f]
  exact heldRuleS_l0 (iotR 1 n) (by rw [iotR_length]; exact hl) n 1 0 rfl (by omega) (by omega)

end Go.Proofs.Ytgoldeagghadhaa.L

/-! ## X3 -/
namespace Go.Proofs.Ytgoldeagghadhaa.L
open Go.RowKit Go.Proofs.YtgoldeagghadhaaW.PrintWords Go.Proofs.Ytgoldeagghadhaa.P Go.Proofs.Ytgoldeagghadhaa.M
set_option linter.unusedVariables false
set_option linter.unusedSimpArgs false

/-- The first twelve primes. -/
def p12 : List Int := [2, 3, 5, 7, 11, 13, 17, 19, 23, 29, 31, 37]
theorem pl_36 : pl 36 2 = p12 := by decide +kernel
theorem pl_38 : pl 38 0 = p12 := by decide +kernel
theorem prFirst_l0 (c : Nat) (hc : c ≤ 1000) : ∀ (m : Nat) (n : Int) (acc : List Int), 0 ≤ n → n + m ≤ 10000 → acc.length ≤ c → c ≤ acc.length + (pl m n).length → Evl (fun k => spec_prFirst.l0 k (c : Int) acc n) (acc ++ (pl m n).take (c - acc.length)) := by
  intro m
  induction m with
  | zero =>
    intro n acc h0 hn ha hb
    simp only [pl, List.length_nil] at hb
    refine Evl.succ ?_
    simp only [spec_prFirst.l0, if_neg (show ¬ (acc.length : Int) < (c : Int) by omega)]
    refine (Evl.ret _).cast ?_
    simp [pl]
  | succ m ih =>
    intro n acc h0 hn ha hb
    have hw : wrap64 (n + 1) = n + 1 := w64 (by omega) (by omega)
    refine Evl.succ ?_
    by_cases e : acc.length < c
    · simp only [spec_prFirst.l0, if_pos (show (acc.length : Int) < (c : Int) by omega), if_pos (show acc.length < 17592186044416 by omega), hw]
      refine Evl.bind (spec_prIs_ev n (by omega)) ?_
      unfold pl at hb ⊢
      by_cases p : isPI n = true
      · rw [if_pos p] at hb ⊢
        rw [List.length_cons] at hb
        simp only [p, if_true]
        refine (ih (n + 1) (acc ++ [n]) (by omega) (by omega) (by rw [List.length_append, List.length_singleton]; omega) (by rw [List.length_append, List.length_singleton]; omega)).cast ?_
        rw [List.length_append, List.length_singleton, show c - acc.length = (c - (acc.length + 1)) + 1 by omega, List.take_succ_cons, List.append_assoc]
        rfl
      · rw [if_neg p] at hb ⊢
        simp only [if_neg p]
        exact ih (n + 1) acc (by omega) (by omega) ha hb
    · simp only [spec_prFirst.l0, if_neg (show ¬ (acc.length : Int) < (c : Int) by omega)]
      refine (Evl.ret _).cast ?_
      rw [show c - acc.length = 0 by omega, List.take_zero, List.append_nil]
theorem prFirst_ev (c : Nat) (hc : c ≤ 12) : Evl (fun k => spec_prFirst.f k (c : Int)) (p12.take c) := by
  simp only [spec_prFirst.f]
  refine (prFirst_l0 c (by omega) 36 2 [] (by omega) (by omega) (by simp) (by rw [pl_36]; show c ≤ 0 + 12; omega)).cast ?_
  rw [pl_36]
  rfl
theorem prK_eq (a : Int) : spec_prK.f a = some (decide (0 ≤ a ∧ a ≤ 12)) := by
  unfold spec_prK.f
  rw [l1In_eq]
  rfl
theorem impl_rulesOfPrimes_l0 (xs : List Int) (hl : xs.length ≤ 1000) : ∀ (s : List Int) (i : Nat) (acc : List S62), xs.drop i = s → acc.length + s.length ≤ 1000 → Evl (fun k => impl_rulesOfPrimes.l0 k acc xs (xs.length : Int) (i : Int)) (acc ++ s.map fun p => (⟨p, 0⟩ : S62)) := by
  intro s
  induction s with
  | nil =>
    intro i acc hd ha
    have hi := drop_nil hd
    refine Evl.succ ?_
    simp only [impl_rulesOfPrimes.l0, if_neg (show ¬ (i : Int) < (xs.length : Int) by omega)]
    refine (Evl.ret _).cast ?_
    simp
  | cons y s ih =>
    intro i acc hd ha
    obtain ⟨hi, hy, hs⟩ := drop_cons hd
    rw [List.length_cons] at ha
    have hw : wrap64 ((i : Int) + 1) = ((i + 1 : Nat) : Int) := by rw [w64 (by omega) (by omega)]; rfl
    refine Evl.succ ?_
    simp only [impl_rulesOfPrimes.l0, if_pos (show (i : Int) < (xs.length : Int) by omega), if_pos (show (0 : Int) ≤ (i : Int) by omega), if_pos (show acc.length < 8796093022208 by omega), rd_of hy, hw]
    refine (ih (i + 1) _ hs (by rw [List.length_append, List.length_singleton]; omega)).cast ?_
    rw [List.append_assoc]
    rfl
theorem spec_prRules_l0 (xs : List Int) (hl : xs.length ≤ 1000) : ∀ (s : List Int) (i : Nat) (acc : List S62), xs.drop i = s → acc.length + s.length ≤ 1000 → Evl (fun k => spec_prRules.l0 k acc xs (xs.length : Int) (i : Int)) (acc ++ s.map fun p => (⟨p, 0⟩ : S62)) := by
  intro s
  induction s with
  | nil =>
    intro i acc hd ha
    have hi := drop_nil hd
    refine Evl.succ ?_
    simp only [spec_prRules.l0, if_neg (show ¬ (i : Int) < (xs.length : Int) by omega)]
    refine (Evl.ret _).cast ?_
    simp
  | cons y s ih =>
    intro i acc hd ha
    obtain ⟨hi, hy, hs⟩ := drop_cons hd
    rw [List.length_cons] at ha
    have hw : wrap64 ((i : Int) + 1) = ((i + 1 : Nat) : Int) := by rw [w64 (by omega) (by omega)]; rfl
    refine Evl.succ ?_
    simp only [spec_prRules.l0, if_pos (show (i : Int) < (xs.length : Int) by omega), if_pos (show (0 : Int) ≤ (i : Int) by omega), if_pos (show acc.length < 8796093022208 by omega), rd_of hy, hw]
    refine (ih (i + 1) _ hs (by rw [List.length_append, List.length_singleton]; omega)).cast ?_
    rw [List.append_assoc]
    rfl
theorem take12 (c : Nat) : (p12.take c).length ≤ 12 := by rw [List.length_take]; exact Nat.min_le_right _ _
theorem rulesOfPrimes_ev (c : Nat) (hc : c ≤ 12) : Evl (fun k => impl_rulesOfPrimes.f k (c : Int)) ((p12.take c).map fun p => (⟨p, 0⟩ : S62)) := by
  simp only [impl_rulesOfPrimes.f]
  have hp : Evl (fun k => impl_primesBetween.f k 0 37) p12 := (impl_primesBetween_ev 0 37 (by omega) (by omega)).cast pl_38
  refine Evl.bind hp ?_
  have h12 : (p12.length : Int) = 12 := rfl
  have := take12 c
  simp only [if_pos (show (0 : Int) ≤ (c : Int) by omega), h12, if_pos (show (c : Int) ≤ 12 by omega), Option.bind_some, Int.toNat_natCast]
  exact impl_rulesOfPrimes_l0 (p12.take c) (by omega) _ 0 [] rfl (by simp only [List.length_nil]; omega)
theorem prRules_ev (c : Nat) (hc : c ≤ 12) : Evl (fun k => spec_prRules.f k (c : Int)) ((p12.take c).map fun p => (⟨p, 0⟩ : S62)) := by
  simp only [spec_prRules.f]
  refine Evl.bind (prFirst_ev c hc) ?_
  have := take12 c
  exact spec_prRules_l0 (p12.take c) (by omega) _ 0 [] rfl (by simp only [List.length_nil]; omega)
theorem FnExactRulesOfPrimes_main (a0 : Int) (h0 : (Lit.int .i64 a0).wf = true) : ∃ r b, Evl (fun k => spec_RulesOfPrimes.f k a0) (r, b) ∧ Evl (fun k => impl_RulesOfPrimes.f k a0) (r, b) ∧ r.length ≤ 1099511627776 := by
  by_cases c : 0 ≤ a0 ∧ a0 ≤ 12
  · obtain ⟨n, rfl⟩ := Int.eq_ofNat_of_zero_le c.1
    have hn : n ≤ 12 := by omega
    refine ⟨(p12.take n).map fun p => (⟨p, 0⟩ : S62), true, ?_, ?_, by have := take12 n; rw [List.length_map]; omega⟩
    · simp only [spec_RulesOfPrimes.f, prK_eq, decide_eq_true c, Option.bind_some, if_true]
      exact Evl.bind (prRules_ev n hn) (Evl.ret _)
    · simp only [impl_RulesOfPrimes.f, if_neg (show ¬ (n : Int) < 0 by omega), if_neg (show ¬ (n : Int) > 12 by omega)]
      exact Evl.bind (rulesOfPrimes_ev n hn) (Evl.ret _)
  · refine ⟨[], false, ?_, ?_, by simp⟩
    · simp only [spec_RulesOfPrimes.f, prK_eq, decide_eq_false c, Option.bind_some, Bool.false_eq_true, if_false]
      exact Evl.ret _
    · simp only [impl_RulesOfPrimes.f]
      by_cases h : a0 < 0
      · simp only [if_pos h]
        exact Evl.ret _
      · simp only [if_neg h, if_pos (show a0 > 12 by omega)]
        exact Evl.ret _

end Go.Proofs.Ytgoldeagghadhaa.L
