/- NumberOfFactors of the program tells what the reference's tells, for all arguments: what both functions compute. No condition beyond 64 bits and the lengths that the statement's guards give. -/
import Derived.Test.YtgoldeagghadhaaPx0
import Derived.Test.YtgoldeagghadhaaPx1
import Derived.Test.YtgoldeagghadhaaPx2
import Derived.Test.YtgoldeagghadhaaPx3
import Derived.Test.YtgoldeagghadhaaPx22
import Derived.Test.YtgoldeagghadhaaPx11
import Derived.Test.YtgoldeagghadhaaPx14
import Derived.Test.YtgoldeagghadhaaPx15
import Derived.Test.YtgoldeagghadhaaPx25
import Derived.Test.YtgoldeagghadhaaPx26
import Derived.Test.YtgoldeagghadhaaPx28
import Derived.Test.YtgoldeagghadhaaPx27
import Derived.Test.YtgoldeagghadhaaPx29
import Derived.Test.YtgoldeagghadhaaPx30
/-! ## L0 -/
namespace Go.Proofs.Ytgoldeagghadhaa.L
open Go.RowKit Go.Proofs.YtgoldeagghadhaaW.PrintWords
set_option linter.unusedVariables false
set_option linter.unusedSimpArgs false

/-- With enough rounds g tells r. -/
def Evl {α : Type} (g : Nat → Option α) (r : α) : Prop := ∃ K, ∀ k, K ≤ k → g k = some r
theorem Evl.ret {α : Type} (r : α) : Evl (fun _ => some r) r := ⟨0, fun _ _ => rfl⟩
theorem Evl.bind {α β : Type} {g : Nat → Option α} {f : Nat → α → Option β} {a : α} {r : β} (h : Evl g a) (h2 : Evl (fun k => f k a) r) : Evl (fun k => (g k).bind (f k)) r := by
  obtain ⟨K, hK⟩ := h
  obtain ⟨K2, hK2⟩ := h2
  refine ⟨max K K2, fun k hk => ?_⟩
  show (g k).bind (f k) = some r
  rw [hK k (Nat.le_trans (Nat.le_max_left _ _) hk), Option.bind_some]
  exact hK2 k (Nat.le_trans (Nat.le_max_right _ _) hk)
theorem Evl.succ {α : Type} {g : Nat → Option α} {r : α} (h : Evl (fun k => g (k + 1)) r) : Evl g r := by
  obtain ⟨K, hK⟩ := h
  refine ⟨K + 1, fun k hk => ?_⟩
  obtain ⟨m, rfl⟩ : ∃ m, k = m + 1 := ⟨k - 1, by omega⟩
  exact hK m (by omega)
theorem Evl.get {α : Type} {g : Nat → Option α} {r : α} (h : Evl g r) : ∃ k, g k = some r := by
  obtain ⟨K, hK⟩ := h
  exact ⟨K, hK K (Nat.le_refl _)⟩
theorem Evl.cast {α : Type} {g : Nat → Option α} {r r' : α} (h : Evl g r) (e : r = r') : Evl g r' := e ▸ h

theorem w64 {x : Int} (h0 : -9223372036854775808 ≤ x) (h1 : x ≤ 9223372036854775807) : wrap64 x = x := by
  unfold wrap64
  omega
theorem wf_bounds {x : Int} (h : (Lit.int .i64 x).wf = true) : -9223372036854775808 ≤ x ∧ x ≤ 9223372036854775807 := by
  simp [Lit.wf, IntKind.min, IntKind.max, IntKind.signed, IntKind.bits] at h
  omega

theorem drop_nil {α : Type} {xs : List α} {i : Nat} (h : xs.drop i = []) : xs.length ≤ i := by
  simpa using h
theorem drop_cons {α : Type} {xs s : List α} {x : α} {i : Nat} (h : xs.drop i = x :: s) : i < xs.length ∧ xs[i]? = some x ∧ xs.drop (i + 1) = s := by
  have hl : i < xs.length := by
    rcases Nat.lt_or_ge i xs.length with h1 | h1
    · exact h1
    · rw [List.drop_of_length_le h1] at h
      cases h
  rw [List.drop_eq_getElem_cons hl] at h
  injection h with h1 h2
  exact ⟨hl, by rw [List.getElem?_eq_getElem hl, h1], h2⟩
theorem rd_of {xs : List Int} {i : Nat} {x : Int} (h : xs[i]? = some x) : rd xs (i : Int) = x := by
  unfold rd
  rw [Int.toNat_natCast, List.getD_eq_getElem?_getD, h]
  rfl
end Go.Proofs.Ytgoldeagghadhaa.L

/-! ## M1 -/
namespace Go.Proofs.Ytgoldeagghadhaa.M
set_option linter.unusedVariables false
set_option linter.unusedSimpArgs false

def lfAux : Nat → Nat → Nat → Nat
  | 0, _, n => n
  | f + 1, d, n => if n % d = 0 then d else lfAux f (d + 1) n
/-- The least divisor of at least 2. -/
def lf (n : Nat) : Nat := lfAux n 2 n
def isP (n : Nat) : Bool := decide (2 ≤ n) && decide (lf n = n)

structure Least (n r : Nat) : Prop where
  two : 2 ≤ r
  le : r ≤ n
  div : n % r = 0
  least : ∀ d, 2 ≤ d → d < r → n % d ≠ 0

theorem lfAux_least : ∀ (f d n : Nat), 2 ≤ d → d ≤ n → n < d + f → (∀ e, 2 ≤ e → e < d → n % e ≠ 0) → Least n (lfAux f d n)
  | 0, d, n, _, h1, h2, _ => by omega
  | f + 1, d, n, h0, h1, h2, h3 => by
    unfold lfAux
    by_cases h : n % d = 0
    · rw [if_pos h]
      exact ⟨h0, h1, h, h3⟩
    · rw [if_neg h]
      have hne : d ≠ n := fun e => h (by rw [e]; exact Nat.mod_self n)
      refine lfAux_least f (d + 1) n (by omega) (by omega) (by omega) (fun e he hl => ?_)
      by_cases hed : e = d
      · rw [hed]; exact h
      · exact h3 e he (by omega)
theorem lf_least {n : Nat} (h : 2 ≤ n) : Least n (lf n) := lfAux_least n 2 n (by omega) h (by omega) (fun e h1 h2 => by omega)
theorem Least.uniq {n r s : Nat} (h : Least n r) (h' : Least n s) : r = s := by
  rcases Nat.lt_trichotomy r s with h1 | h1 | h1
  · exact absurd h.div (h'.least r h.two h1)
  · exact h1
  · exact absurd h'.div (h.least s h'.two h1)
theorem lf_eq {n r : Nat} (hn : 2 ≤ n) (h : Least n r) : lf n = r := (lf_least hn).uniq h

theorem split_mod {n r : Nat} (h : n % r = 0) : n = r * (n / r) := by
  have := Nat.div_add_mod n r
  rw [h] at this
  omega

/-- No divisor up to the root: the number itself. -/
theorem lf_root {n d : Nat} (hn : 2 ≤ n) (hd : ∀ e, 2 ≤ e → e < d → n % e ≠ 0) (hr : n < d * d) : lf n = n := by
  have h := lf_least hn
  rcases Nat.lt_or_ge (lf n) n with hl | hl
  · exfalso
    have hq := split_mod h.div
    generalize hqe : n / lf n = q at hq
    have hq2 : 2 ≤ q := by
      rcases Nat.lt_or_ge q 2 with h1 | h1
      · have : q = 0 ∨ q = 1 := by omega
        rcases this with rfl | rfl
        · omega
        · omega
      · exact h1
    have hqm : n % q = 0 := by
      have e : n % q = (lf n * q) % q := by rw [← hq]
      rw [e]; exact Nat.mul_mod_left _ _
    have hlq : lf n ≤ q := by
      rcases Nat.lt_or_ge q (lf n) with h1 | h1
      · exact absurd hqm (h.least q hq2 h1)
      · exact h1
    have hdl : d ≤ lf n := by
      rcases Nat.lt_or_ge (lf n) d with h1 | h1
      · exact absurd h.div (hd _ h.two h1)
      · exact h1
    have : d * d ≤ lf n * q := Nat.mul_le_mul hdl (Nat.le_trans hdl hlq)
    omega
  · have := h.le
    omega

/-! ### factors -/
end Go.Proofs.Ytgoldeagghadhaa.M

/-! ## E1 -/
namespace Go.Proofs.Ytgoldeagghadhaa.L
open Go.RowKit Go.Proofs.YtgoldeagghadhaaW.PrintWords Go.Proofs.Ytgoldeagghadhaa.P Go.Proofs.Ytgoldeagghadhaa.M
set_option linter.unusedVariables false
set_option linter.unusedSimpArgs false

/-- The same of whatever whole number. -/
def isPI (a : Int) : Bool := isP a.toNat
theorem isPI_nat (n : Nat) : isPI (n : Int) = isP n := by unfold isPI; rw [Int.toNat_natCast]
theorem isPI_neg {a : Int} (h : a < 2) : isPI a = false := by
  unfold isPI isP
  rw [decide_eq_false (by omega)]
  rfl

theorem spec_prLeast_l0 (n : Nat) (hn : 2 ≤ n) (hb : n ≤ 2000000000) : ∀ (m d : Nat), m + d = 50000 → 2 ≤ d → (∀ e, 2 ≤ e → e < d → n % e ≠ 0) → Evl (fun k => spec_prLeast.l0 k (n : Int) (d : Int)) (lf n : Int) := by
  intro m
  induction m with
  | zero =>
    intro d hd h2 hno
    obtain rfl : d = 50000 := by omega
    refine Evl.succ ?_
    have h1 : ¬ wrap64 (((50000 : Nat) : Int) * ((50000 : Nat) : Int)) ≤ (n : Int) := by rw [w64 (by omega) (by omega)]; omega
    simp only [spec_prLeast.l0, if_neg h1]
    rw [lf_root hn hno (by omega)]
    exact Evl.ret _
  | succ m ih =>
    intro d hd h2 hno
    have hdd : d * d ≤ 50000 * 50000 := Nat.mul_le_mul (by omega) (by omega)
    have hw : wrap64 ((d : Int) * (d : Int)) = ((d * d : Nat) : Int) := by rw [← Int.natCast_mul]; exact w64 (by omega) (by omega)
    have hw1 : wrap64 ((d : Int) + 1) = ((d + 1 : Nat) : Int) := by rw [w64 (by omega) (by omega)]; rfl
    refine Evl.succ ?_
    by_cases hr : d * d ≤ n
    · have h1 : ((d * d : Nat) : Int) ≤ (n : Int) := Int.ofNat_le.2 hr
      have h3 : ¬ (d : Int) = 0 := by omega
      have ht : Int.tmod (n : Int) (d : Int) = ((n % d : Nat) : Int) := rfl
      by_cases hm : n % d = 0
      · have h4 : ((n % d : Nat) : Int) = 0 := by rw [hm]; rfl
        simp only [spec_prLeast.l0, hw, if_pos h1, if_neg h3, ht, if_pos h4]
        rw [lf_eq hn ⟨h2, Nat.le_trans (Nat.le_mul_self d) hr, hm, hno⟩]
        exact Evl.ret _
      · have h4 : ¬ ((n % d : Nat) : Int) = 0 := by omega
        simp only [spec_prLeast.l0, hw, if_pos h1, if_neg h3, ht, if_neg h4, hw1]
        refine ih (d + 1) (by omega) (by omega) (fun e he hl => ?_)
        by_cases hed : e = d
        · rw [hed]; exact hm
        · exact hno e he (by omega)
    · have h1 : ¬ ((d * d : Nat) : Int) ≤ (n : Int) := fun h => hr (Int.ofNat_le.1 h)
      simp only [spec_prLeast.l0, hw, if_neg h1]
      rw [lf_root hn hno (by omega)]
      exact Evl.ret _
theorem spec_prLeast_ev (n : Nat) (hn : 2 ≤ n) (hb : n ≤ 2000000000) : Evl (fun k => spec_prLeast.f k (n : Int)) (lf n : Int) := by
  simp only [spec_prLeast.f]
  exact spec_prLeast_l0 n hn hb 49998 2 rfl (by omega) (fun e h1 h2 => by omega)

theorem spec_prIs_ev (a : Int) (hb : a ≤ 2000000000) : Evl (fun k => spec_prIs.f k a) (isPI a) := by
  by_cases h : a ≥ 2
  · obtain ⟨n, rfl⟩ := Int.eq_ofNat_of_zero_le (show 0 ≤ a by omega)
    simp only [spec_prIs.f, if_pos h]
    refine Evl.bind (spec_prLeast_ev n (by omega) (by omega)) ?_
    refine (Evl.ret _).cast ?_
    rw [isPI_nat]
    unfold isP
    rw [decide_eq_true (show 2 ≤ n by omega), Bool.true_and]
    by_cases e : lf n = n
    · rw [decide_eq_true e, e]
      exact beq_self_eq_true _
    · rw [decide_eq_false e]
      exact beq_eq_false_iff_ne.2 (by omega)
  · simp only [spec_prIs.f, if_neg h]
    rw [isPI_neg (by omega)]
    exact Evl.ret _

theorem impl_leastFactor_l0 (n : Nat) (hn : 2 ≤ n) (hb : n ≤ 2000000000) : ∀ (m d : Nat), m + d = 50000 → 2 ≤ d → (∀ e, 2 ≤ e → e < d → n % e ≠ 0) → Evl (fun k => impl_leastFactor.l0 k (n : Int) (d : Int)) (lf n : Int) := by
  intro m
  induction m with
  | zero =>
    intro d hd h2 hno
    obtain rfl : d = 50000 := by omega
    refine Evl.succ ?_
    have h1 : ¬ wrap64 (((50000 : Nat) : Int) * ((50000 : Nat) : Int)) ≤ (n : Int) := by rw [w64 (by omega) (by omega)]; omega
    simp only [impl_leastFactor.l0, if_neg h1]
    rw [lf_root hn hno (by omega)]
    exact Evl.ret _
  | succ m ih =>
    intro d hd h2 hno
    have hdd : d * d ≤ 50000 * 50000 := Nat.mul_le_mul (by omega) (by omega)
    have hw : wrap64 ((d : Int) * (d : Int)) = ((d * d : Nat) : Int) := by rw [← Int.natCast_mul]; exact w64 (by omega) (by omega)
    have hw1 : wrap64 ((d : Int) + 1) = ((d + 1 : Nat) : Int) := by rw [w64 (by omega) (by omega)]; rfl
    refine Evl.succ ?_
    by_cases hr : d * d ≤ n
    · have h1 : ((d * d : Nat) : Int) ≤ (n : Int) := Int.ofNat_le.2 hr
      have h3 : ¬ (d : Int) = 0 := by omega
      have ht : Int.tmod (n : Int) (d : Int) = ((n % d : Nat) : Int) := rfl
      by_cases hm : n % d = 0
      · have h4 : ((n % d : Nat) : Int) = 0 := by rw [hm]; rfl
        simp only [impl_leastFactor.l0, hw, if_pos h1, if_neg h3, ht, if_pos h4]
        rw [lf_eq hn ⟨h2, Nat.le_trans (Nat.le_mul_self d) hr, hm, hno⟩]
        exact Evl.ret _
      · have h4 : ¬ ((n % d : Nat) : Int) = 0 := by omega
        simp only [impl_leastFactor.l0, hw, if_pos h1, if_neg h3, ht, if_neg h4, hw1]
        refine ih (d + 1) (by omega) (by omega) (fun e he hl => ?_)
        by_cases hed : e = d
        · rw [hed]; exact hm
        · exact hno e he (by omega)
    · have h1 : ¬ ((d * d : Nat) : Int) ≤ (n : Int) := fun h => hr (Int.ofNat_le.1 h)
      simp only [impl_leastFactor.l0, hw, if_neg h1]
      rw [lf_root hn hno (by omega)]
      exact Evl.ret _
theorem impl_leastFactor_ev (n : Nat) (hn : 2 ≤ n) (hb : n ≤ 2000000000) : Evl (fun k => impl_leastFactor.f k (n : Int)) (lf n : Int) := by
  simp only [impl_leastFactor.f]
  exact impl_leastFactor_l0 n hn hb 49998 2 rfl (by omega) (fun e h1 h2 => by omega)

theorem impl_isPrime_ev (a : Int) (hb : a ≤ 2000000000) : Evl (fun k => impl_isPrime.f k a) (isPI a) := by
  by_cases h : a ≥ 2
  · obtain ⟨n, rfl⟩ := Int.eq_ofNat_of_zero_le (show 0 ≤ a by omega)
    simp only [impl_isPrime.f, if_pos h]
    refine Evl.bind (impl_leastFactor_ev n (by omega) (by omega)) ?_
    refine (Evl.ret _).cast ?_
    rw [isPI_nat]
    unfold isP
    rw [decide_eq_true (show 2 ≤ n by omega), Bool.true_and]
    by_cases e : lf n = n
    · rw [decide_eq_true e, e]
      exact beq_self_eq_true _
    · rw [decide_eq_false e]
      exact beq_eq_false_iff_ne.2 (by omega)
  · simp only [impl_isPrime.f, if_neg h]
    rw [isPI_neg (by omega)]
    exact Evl.ret _

end Go.Proofs.Ytgoldeagghadhaa.L

/-! ## E2 -/
namespace Go.Proofs.Ytgoldeagghadhaa.L
open Go.RowKit Go.Proofs.YtgoldeagghadhaaW.PrintWords Go.Proofs.Ytgoldeagghadhaa.P Go.Proofs.Ytgoldeagghadhaa.M
set_option linter.unusedVariables false
set_option linter.unusedSimpArgs false

end Go.Proofs.Ytgoldeagghadhaa.L

/-! ## E3 -/

namespace Go.Proofs.Ytgoldeagghadhaa.L
open Go.RowKit Go.Proofs.YtgoldeagghadhaaW.PrintWords Go.Proofs.Ytgoldeagghadhaa.P Go.Proofs.Ytgoldeagghadhaa.M
set_option linter.unusedVariables false
set_option linter.unusedSimpArgs false

end Go.Proofs.Ytgoldeagghadhaa.L

/-! ## E4 -/
namespace Go.Proofs.Ytgoldeagghadhaa.L
open Go.RowKit Go.Proofs.YtgoldeagghadhaaW.PrintWords Go.Proofs.Ytgoldeagghadhaa.P Go.Proofs.Ytgoldeagghadhaa.M
set_option linter.unusedVariables false
set_option linter.unusedSimpArgs false

theorem l1In_eq (a lo hi : Int) : spec_l1In.f a lo hi = some (decide (lo ≤ a ∧ a ≤ hi)) := by
  unfold spec_l1In.f
  by_cases h : a ≥ lo
  · rw [if_pos h]
    by_cases h2 : a ≤ hi
    · rw [decide_eq_true h2, decide_eq_true ⟨h, h2⟩]
    · rw [decide_eq_false h2, decide_eq_false (fun c => h2 c.2)]
  · rw [if_neg h, decide_eq_false (fun c => h c.1)]
theorem prFactored_eq (a : Int) : spec_prFactored.f a = some (decide (1 ≤ a ∧ a ≤ 1000000000)) := by
  unfold spec_prFactored.f
  rw [l1In_eq]
  rfl

theorem rdL_of {xs : List (List Int)} {i : Nat} {x : List Int} (h : xs[i]? = some x) : rd_L3 xs (i : Int) = x := by
  unfold rd_L3
  rw [Int.toNat_natCast, List.getD_eq_getElem?_getD, h]
  rfl
end Go.Proofs.Ytgoldeagghadhaa.L

/-! ## M3 -/
namespace Go.Proofs.Ytgoldeagghadhaa.M
set_option linter.unusedVariables false
set_option linter.unusedSimpArgs false

/-! ### Legendre's recursion -/
end Go.Proofs.Ytgoldeagghadhaa.M

/-! ## E0 -/
namespace Go.Proofs.Ytgoldeagghadhaa.L
open Go.RowKit Go.Proofs.YtgoldeagghadhaaW.PrintWords Go.Proofs.Ytgoldeagghadhaa.P
set_option linter.unusedVariables false
set_option linter.unusedSimpArgs false

theorem eqIntS_l0 (a : List Int) (hl : a.length ≤ 1099511627776) : ∀ (s : List Int) (i : Nat), a.drop i = s → Evl (fun k => laws_eqIntS.l0 k a a (i : Int)) true := by
  intro s
  induction s with
  | nil =>
    intro i h
    have hi := drop_nil h
    refine Evl.succ ?_
    have h1 : ¬ (i : Int) < (a.length : Int) := by omega
    simp only [laws_eqIntS.l0, if_neg h1]
    exact Evl.ret _
  | cons x s ih =>
    intro i h
    obtain ⟨hi, hx, hs⟩ := drop_cons h
    have hw : wrap64 ((i : Int) + 1) = ((i + 1 : Nat) : Int) := by rw [w64 (by omega) (by omega)]; rfl
    refine Evl.succ ?_
    have h1 : (i : Int) < (a.length : Int) := by omega
    have h2 : (0 : Int) ≤ (i : Int) := by omega
    simp only [laws_eqIntS.l0, if_pos h1, if_pos h2, if_true, hw]
    exact ih (i + 1) hs
theorem eqIntS_self (a : List Int) (hl : a.length ≤ 1099511627776) : Evl (fun k => laws_eqIntS.f k a a) true := by
  simp only [laws_eqIntS.f, if_true]
  exact eqIntS_l0 a hl a 0 rfl

theorem toIntS_l0 (a : List Int) (hl : a.length ≤ 1099511627776) : ∀ (s pre t : List Int) (i : Nat), pre.length = i → a = pre ++ s → t.length = s.length → Evl (fun k => laws_toIntS.l0 k a (pre ++ t) (i : Int)) a := by
  intro s
  induction s with
  | nil =>
    intro pre t i hi ha ht
    obtain rfl : t = [] := List.eq_nil_of_length_eq_zero ht
    refine Evl.succ ?_
    have h1 : ¬ (i : Int) < (a.length : Int) := by rw [ha, List.append_nil]; omega
    simp only [laws_toIntS.l0, if_neg h1]
    rw [← ha]
    exact Evl.ret _
  | cons x s ih =>
    intro pre t i hi ha ht
    obtain ⟨y, t, rfl⟩ : ∃ y t', t = y :: t' := by
      cases t with
      | nil => cases ht
      | cons y t => exact ⟨y, t, rfl⟩
    have hal : a.length = i + (s.length + 1) := by rw [ha, List.length_append, hi, List.length_cons]
    have h1 : (i : Int) < (a.length : Int) := by omega
    have h0 : (0 : Int) ≤ (i : Int) := by omega
    have h2 : (i : Int) < ((pre ++ y :: t).length : Int) := by rw [List.length_append, List.length_cons]; omega
    have hx : rd a (i : Int) = x := rd_of (by rw [ha, List.getElem?_append_right (by omega), hi, Nat.sub_self]; rfl)
    have hw : wrap64 ((i : Int) + 1) = ((i + 1 : Nat) : Int) := by rw [w64 (by omega) (by omega)]; rfl
    have hset : (pre ++ y :: t).set (i : Int).toNat x = (pre ++ [x]) ++ t := by
      rw [Int.toNat_natCast, ← hi, List.set_append_right _ _ (Nat.le_refl _), Nat.sub_self, List.set_cons_zero, List.append_assoc]
      rfl
    refine Evl.succ ?_
    simp only [laws_toIntS.l0, if_pos h1, if_pos h0, if_pos h2, hx, hw, hset]
    refine ih (pre ++ [x]) t (i + 1) (by rw [List.length_append, hi]; rfl) (by rw [ha, List.append_assoc]; rfl) ?_
    rw [List.length_cons, List.length_cons] at ht
    omega
theorem toIntS_ev (a : List Int) (hl : a.length ≤ 1099511627776) : Evl (fun k => laws_toIntS.f k a) a := by
  have h0 : (0 : Int) ≤ (a.length : Int) := by omega
  have h1 : ((a.length : Int)).toNat ≤ 35184372088832 := by omega
  simp only [laws_toIntS.f, if_pos h0, if_pos h1]
  exact toIntS_l0 a hl a [] (List.replicate _ 0) 0 rfl rfl (by rw [List.length_replicate]; exact Int.toNat_natCast _)

end Go.Proofs.Ytgoldeagghadhaa.L

/-! ## E10 -/
namespace Go.Proofs.Ytgoldeagghadhaa.L
open Go.RowKit Go.Proofs.YtgoldeagghadhaaW.PrintWords Go.Proofs.Ytgoldeagghadhaa.P Go.Proofs.Ytgoldeagghadhaa.M
set_option linter.unusedVariables false
set_option linter.unusedSimpArgs false

/-- How many numbers rows have together, and one more a row. -/
def wt : List (List Int) → Nat
  | [] => 0
  | x :: s => x.length + wt s
theorem wt_le {x : List Int} : ∀ {l : List (List Int)}, x ∈ l → x.length ≤ wt l
  | [], h => absurd h (by simp)
  | y :: l, h => by
    rcases List.mem_cons.1 h with rfl | h
    · exact Nat.le_add_right _ _
    · exact Nat.le_trans (wt_le h) (Nat.le_add_left _ _)
theorem eqIntSS_l0 (a : List (List Int)) (hl : a.length ≤ 1099511627776) (hw : wt a ≤ 1099511627776) : ∀ (s : List (List Int)) (i : Nat), a.drop i = s → Evl (fun k => laws_eqIntSS.l0 k a a (i : Int)) true := by
  intro s
  induction s with
  | nil =>
    intro i h
    have hi := drop_nil h
    refine Evl.succ ?_
    simp only [laws_eqIntSS.l0, if_neg (show ¬ (i : Int) < (a.length : Int) by omega)]
    exact Evl.ret _
  | cons x s ih =>
    intro i h
    obtain ⟨hi, hx, hs⟩ := drop_cons h
    have hwr : wrap64 ((i : Int) + 1) = ((i + 1 : Nat) : Int) := by rw [w64 (by omega) (by omega)]; rfl
    refine Evl.succ ?_
    simp only [laws_eqIntSS.l0, if_pos (show (i : Int) < (a.length : Int) by omega), if_pos (show (0 : Int) ≤ (i : Int) by omega), rdL_of hx, hwr]
    refine Evl.bind (eqIntS_self x (Nat.le_trans (wt_le (List.mem_of_getElem? hx)) hw)) ?_
    simp only [if_true]
    exact ih (i + 1) hs
theorem eqIntSS_self (a : List (List Int)) (hl : a.length ≤ 1099511627776) (hw : wt a ≤ 1099511627776) : Evl (fun k => laws_eqIntSS.f k a a) true := by
  simp only [laws_eqIntSS.f, if_true]
  exact eqIntSS_l0 a hl hw a 0 rfl
theorem toIntSS_l0 (a : List (List Int)) (hl : a.length ≤ 1099511627776) (hw : wt a ≤ 1099511627776) : ∀ (s pre t : List (List Int)) (i : Nat), pre.length = i → a = pre ++ s → t.length = s.length → Evl (fun k => laws_toIntSS.l0 k a (pre ++ t) (i : Int)) a := by
  intro s
  induction s with
  | nil =>
    intro pre t i hi ha ht
    obtain rfl : t = [] := List.eq_nil_of_length_eq_zero ht
    refine Evl.succ ?_
    simp only [laws_toIntSS.l0, if_neg (show ¬ (i : Int) < (a.length : Int) by rw [ha, List.append_nil]; omega)]
    rw [← ha]
    exact Evl.ret _
  | cons x s ih =>
    intro pre t i hi ha ht
    obtain ⟨y, t, rfl⟩ : ∃ y t', t = y :: t' := by
      cases t with
      | nil => cases ht
      | cons y t => exact ⟨y, t, rfl⟩
    have hal : a.length = i + (s.length + 1) := by rw [ha, List.length_append, hi, List.length_cons]
    have h2 : (i : Int) < ((pre ++ y :: t).length : Int) := by rw [List.length_append, List.length_cons]; omega
    have hx0 : a[i]? = some x := by rw [ha, List.getElem?_append_right (by omega), hi, Nat.sub_self]; rfl
    have hwr : wrap64 ((i : Int) + 1) = ((i + 1 : Nat) : Int) := by rw [w64 (by omega) (by omega)]; rfl
    have hset : (pre ++ y :: t).set (i : Int).toNat x = (pre ++ [x]) ++ t := by
      rw [Int.toNat_natCast, ← hi, List.set_append_right _ _ (Nat.le_refl _), Nat.sub_self, List.set_cons_zero, List.append_assoc]
      rfl
    refine Evl.succ ?_
    simp only [laws_toIntSS.l0, if_pos (show (i : Int) < (a.length : Int) by omega), if_pos (show (0 : Int) ≤ (i : Int) by omega), if_pos h2, rdL_of hx0, hwr]
    refine Evl.bind (toIntS_ev x (Nat.le_trans (wt_le (List.mem_of_getElem? hx0)) hw)) ?_
    rw [hset]
    refine ih (pre ++ [x]) t (i + 1) (by rw [List.length_append, hi]; rfl) (by rw [ha, List.append_assoc]; rfl) ?_
    rw [List.length_cons, List.length_cons] at ht
    omega
theorem toIntSS_ev (a : List (List Int)) (hl : a.length ≤ 1099511627776) (hw : wt a ≤ 1099511627776) : Evl (fun k => laws_toIntSS.f k a) a := by
  have h0 : (0 : Int) ≤ (a.length : Int) := by omega
  have h1 : ((a.length : Int)).toNat ≤ 11728124029610 := by omega
  simp only [laws_toIntSS.f, if_pos h0, if_pos h1]
  exact toIntSS_l0 a hl hw a [] (List.replicate _ []) 0 rfl rfl (by rw [List.length_replicate]; exact Int.toNat_natCast _)
/-- Whether the size fits: what is left, or not. -/
theorem szIntSS_l0 (a : List (List Int)) (hl : a.length ≤ 1099511627776) (hb : ∀ x ∈ a, x.length ≤ 9223372036854775807) : ∀ (s : List (List Int)) (i : Nat) (v : Int), a.drop i = s → 0 ≤ v → v ≤ 1048576 → ∃ r, Evl (fun k => laws_szIntSS.l0 k a v (i : Int)) r ∧ (0 ≤ r → (wt s : Int) ≤ v) := by
  intro s
  induction s with
  | nil =>
    intro i v h h0 h1
    have hi := drop_nil h
    refine ⟨v, Evl.succ ?_, fun _ => h0⟩
    simp only [laws_szIntSS.l0, if_neg (show ¬ (i : Int) < (a.length : Int) by omega)]
    exact Evl.ret _
  | cons x s ih =>
    intro i v h h0 h1
    obtain ⟨hi, hx, hs⟩ := drop_cons h
    have hxl := hb x (List.mem_of_getElem? hx)
    have hwr : wrap64 ((i : Int) + 1) = ((i + 1 : Nat) : Int) := by rw [w64 (by omega) (by omega)]; rfl
    have hwv : wrap64 (v - (x.length : Int)) = v - (x.length : Int) := w64 (by omega) (by omega)
    by_cases c : v - (x.length : Int) < 0
    · refine ⟨-1, Evl.succ ?_, fun h => by omega⟩
      simp only [laws_szIntSS.l0, laws_szIntS.f, if_pos (show (i : Int) < (a.length : Int) by omega), if_pos (show (0 : Int) ≤ (i : Int) by omega), rdL_of hx, hwv, if_pos c, Option.bind_some, if_pos (show (-1 : Int) < 0 by omega)]
      exact Evl.ret _
    · obtain ⟨r, h2, h3⟩ := ih (i + 1) (v - (x.length : Int)) hs (by omega) (by omega)
      refine ⟨r, Evl.succ ?_, fun h => ?_⟩
      · simp only [laws_szIntSS.l0, laws_szIntS.f, if_pos (show (i : Int) < (a.length : Int) by omega), if_pos (show (0 : Int) ≤ (i : Int) by omega), rdL_of hx, hwv, if_neg c, Option.bind_some, hwr]
        exact h2
      · have := h3 h
        unfold wt
        omega
theorem szIntSS_ev (a : List (List Int)) (hl : a.length ≤ 10000000000000) (hb : ∀ x ∈ a, x.length ≤ 9223372036854775807) : ∃ r, Evl (fun k => laws_szIntSS.f k a 1048576) r ∧ (0 ≤ r → a.length ≤ 1048576 ∧ wt a ≤ 1048576) := by
  have hw : wrap64 (1048576 - (a.length : Int)) = 1048576 - (a.length : Int) := w64 (by omega) (by omega)
  by_cases c : 1048576 - (a.length : Int) < 0
  · refine ⟨-1, ?_, fun h => by omega⟩
    simp only [laws_szIntSS.f, hw, if_pos c]
    exact Evl.ret _
  · obtain ⟨r, h1, h2⟩ := szIntSS_l0 a (by omega) hb a 0 (1048576 - (a.length : Int)) rfl (by omega) (by omega)
    refine ⟨r, ?_, fun h => by have := h2 h; omega⟩
    simp only [laws_szIntSS.f, hw, if_neg c]
    exact h1

end Go.Proofs.Ytgoldeagghadhaa.L

/-! ## X11 -/
namespace Go.Proofs.Ytgoldeagghadhaa.L
open Go.RowKit Go.Proofs.YtgoldeagghadhaaW.PrintWords Go.Proofs.Ytgoldeagghadhaa.P Go.Proofs.Ytgoldeagghadhaa.M
set_option linter.unusedVariables false
set_option linter.unusedSimpArgs false

/-- Whether a row is a prime of at most 10^9 and how often, rising. -/
def fOk (prev : Option Int) (f : List Int) : Bool := decide (f.length = 2 ∧ 1 ≤ rd f 0 ∧ rd f 0 ≤ 1000000000 ∧ 1 ≤ rd f 1) && isPI (rd f 0) && (match prev with | some q => decide (q < rd f 0) | none => true)
/-- n times p, as often as told, at most 10^9. -/
def mulE : Nat → Nat → Nat → Option Nat
  | 0, _, n => some n
  | e + 1, p, n => if n * p ≤ 1000000000 then mulE e p (n * p) else none
theorem mulE_eq : ∀ (e p n : Nat), 1 ≤ p → n ≤ 1000000000 → mulE e p n = if n * p ^ e ≤ 1000000000 then some (n * p ^ e) else none
  | 0, p, n, hp, h => by rw [Nat.pow_zero, Nat.mul_one, if_pos h]; rfl
  | e + 1, p, n, hp, h => by
    unfold mulE
    have e1 : n * p ^ (e + 1) = n * p * p ^ e := by rw [Nat.pow_succ, Nat.mul_assoc, Nat.mul_comm (p ^ e) p]
    by_cases c : n * p ≤ 1000000000
    · rw [if_pos c, mulE_eq e p (n * p) hp c, e1]
    · rw [if_neg c, if_neg]
      rw [e1]
      have : n * p ≤ n * p * p ^ e := Nat.le_mul_of_pos_right _ (Nat.pow_pos (by omega))
      omega
theorem mulE_le : ∀ {e p n m : Nat}, mulE e p n = some m → n ≤ 1000000000 → m ≤ 1000000000
  | 0, p, n, m, h, hn => by injection h with h; omega
  | e + 1, p, n, m, h, hn => by
    unfold mulE at h
    by_cases c : n * p ≤ 1000000000
    · rw [if_pos c] at h; exact mulE_le h c
    · rw [if_neg c] at h; cases h
/-- More than thirty times at least 2 is too much. -/
theorem mulE_many : ∀ (e p n : Nat), 2 ≤ p → 1 ≤ n → 30 < e → mulE e p n = none := by
  have key : ∀ (e p n : Nat), 2 ≤ p → 2 ^ (31 - e) ≤ n * 2 ∨ True := fun _ _ _ _ => .inr trivial
  have step : ∀ (d e p n : Nat), 2 ≤ p → d ≤ e → 2 ^ (30 - d) ≤ n → d ≤ 30 → mulE e p n = none ∨ d = 0 := by
    intro d
    induction d with
    | zero => intro e p n _ _ _ _; exact .inr rfl
    | succ d ih =>
      intro e p n hp hd hn h30
      refine .inl ?_
      obtain ⟨e', rfl⟩ : ∃ k, e = k + 1 := ⟨e - 1, by omega⟩
      unfold mulE
      by_cases c : n * p ≤ 1000000000
      · rw [if_pos c]
        have h1 : 2 ^ (30 - d) ≤ n * p := by
          have e1 : 30 - d = (30 - (d + 1)) + 1 := by omega
          rw [e1, Nat.pow_succ]
          exact Nat.mul_le_mul hn hp
        rcases ih e' p (n * p) hp (by omega) h1 (by omega) with h | h
        · exact h
        · subst h
          exfalso
          have : (2 : Nat) ^ (30 - 0) = 1073741824 := by decide
          omega
      · rw [if_neg c]
  intro e p n hp hn he
  rcases step 30 e p n hp (by omega) (by simpa using hn) (by omega) with h | h
  · exact h
  · omega
def prevOf (f : List Int) : Option Int := some (rd f 0)
/-- The number that rows make, if they are factors and it is at most 10^9. -/
def nof : Option Int → Nat → List (List Int) → Option Nat
  | _, n, [] => some n
  | prev, n, f :: s => if fOk prev f = true then (match mulE (rd f 1).toNat (rd f 0).toNat n with | some m => nof (prevOf f) m s | none => none) else none
def nofR (o : Option Nat) : Int × Bool := match o with | some n => ((n : Int), true) | none => (0, false)

theorem spec_NOF_l1 (l : List (List Int)) (f : List Int) (xs : List (List Int)) (m i : Int) (p : Nat) (hp : 2 ≤ p) (hf : rd f 0 = (p : Int)) (hfl : 0 < f.length) (hp2 : p ≤ 1000000000) {R : Option Nat → Int × Bool} (hno : R none = (0, false)) (hw : wrap64 (i + 1) = i + 1) :
    ∀ (e n : Nat), n ≤ 1000000000 → e ≤ 30 → (∀ q, mulE e p n = some q → Evl (fun k => spec_NumberOfFactors.l0 k l (q : Int) xs m (i + 1)) (R (some q))) → Evl (fun k => spec_NumberOfFactors.l1 k l (n : Int) f (e : Int) xs m i) (R (mulE e p n)) := by
  intro e
  induction e with
  | zero =>
    intro n hn _ h
    refine Evl.succ ?_
    simp only [spec_NumberOfFactors.l1, if_neg (show ¬ ((0 : Nat) : Int) > 0 by omega), hw]
    exact h n rfl
  | succ e ih =>
    intro n hn he h
    have hnp : n * p ≤ 1000000000 * 1000000000 := Nat.mul_le_mul hn hp2
    have hw1 : wrap64 ((n : Int) * (p : Int)) = ((n * p : Nat) : Int) := by rw [← Int.natCast_mul]; exact w64 (by omega) (by omega)
    have hw2 : wrap64 (((e + 1 : Nat) : Int) - 1) = (e : Int) := by rw [w64 (by omega) (by omega)]; omega
    refine Evl.succ ?_
    simp only [spec_NumberOfFactors.l1, if_pos (show ((e + 1 : Nat) : Int) > 0 by omega), if_pos (show (0 : Int) < (f.length : Int) by omega), hf, hw1, hw2]
    unfold mulE at h ⊢
    by_cases c : n * p ≤ 1000000000
    · rw [if_pos c] at h ⊢
      simp only [if_neg (show ¬ ((n * p : Nat) : Int) > 1000000000 by omega)]
      exact ih (n * p) c (by omega) h
    · rw [if_neg c, hno]
      simp only [if_pos (show ((n * p : Nat) : Int) > 1000000000 by omega)]
      exact Evl.ret _
theorem impl_NOF_l1 (l : List (List Int)) (f : List Int) (xs : List (List Int)) (m i : Int) (p : Nat) (hp : 2 ≤ p) (hf : rd f 0 = (p : Int)) (hfl : 0 < f.length) (hp2 : p ≤ 1000000000) {R : Option Nat → Int × Bool} (hno : R none = (0, false)) (hw : wrap64 (i + 1) = i + 1) :
    ∀ (e n j : Nat), n ≤ 1000000000 → ((e + j : Nat) : Int) ≤ 9223372036854775807 → (∀ q, mulE e p n = some q → Evl (fun k => impl_numberOf.l0 k l (q : Int) xs m (i + 1)) (R (some q))) → Evl (fun k => impl_numberOf.l1 k l (n : Int) f xs m i ((e + j : Nat) : Int) (j : Int)) (R (mulE e p n)) := by
  intro e
  induction e with
  | zero =>
    intro n j hn _ h
    refine Evl.succ ?_
    simp only [impl_numberOf.l1, if_neg (show ¬ (j : Int) < ((0 + j : Nat) : Int) by omega), hw]
    exact h n rfl
  | succ e ih =>
    intro n j hn he h
    have hnp : n * p ≤ 1000000000 * 1000000000 := Nat.mul_le_mul hn hp2
    have hw1 : wrap64 ((n : Int) * (p : Int)) = ((n * p : Nat) : Int) := by rw [← Int.natCast_mul]; exact w64 (by omega) (by omega)
    have hw2 : wrap64 ((j : Int) + 1) = ((j + 1 : Nat) : Int) := by rw [w64 (by omega) (by omega)]; rfl
    refine Evl.succ ?_
    simp only [impl_numberOf.l1, if_pos (show (j : Int) < ((e + 1 + j : Nat) : Int) by omega), if_pos (show (0 : Int) < (f.length : Int) by omega), hf, hw1, hw2]
    unfold mulE at h ⊢
    by_cases c : n * p ≤ 1000000000
    · rw [if_pos c] at h ⊢
      simp only [if_neg (show ¬ ((n * p : Nat) : Int) > 1000000000 by omega)]
      have ej : e + (j + 1) = e + 1 + j := by rw [Nat.add_comm j 1, ← Nat.add_assoc]
      have := ih (n * p) (j + 1) c (by rw [ej]; exact he) h
      rw [ej] at this
      exact this
    · rw [if_neg c, hno]
      simp only [if_pos (show ((n * p : Nat) : Int) > 1000000000 by omega)]
      exact Evl.ret _
/-- What a loop over the rows holds of the row ahead. -/
def ahead (l : List (List Int)) (i : Nat) : Option Int := if i = 0 then none else some (rd (rd_L3 l ((i - 1 : Nat) : Int)) 0)
theorem nat_of {x : Int} (h : 0 ≤ x) : ((x.toNat : Nat) : Int) = x := Int.toNat_of_nonneg h
theorem spec_NOF_j1_no (l : List (List Int)) (n : Int) (f : List Int) (xs : List (List Int)) (m i : Int) : Evl (fun k => spec_NumberOfFactors.j1 k l n f xs m i true) (0, false) := by
  refine Evl.succ ?_
  simp only [spec_NumberOfFactors.j1, if_true]
  exact Evl.ret _
theorem spec_NOF_l0 (l : List (List Int)) (hl : l.length ≤ 30) (hb : ∀ f ∈ l, ∀ x ∈ f, x ≤ 9223372036854775807) : ∀ (s : List (List Int)) (i n : Nat), l.drop i = s → n ≤ 1000000000 → 1 ≤ n → (∀ j, j < i → 1 ≤ (rd_L3 l (j : Int)).length) →
    Evl (fun k => spec_NumberOfFactors.l0 k l (n : Int) l (l.length : Int) (i : Int)) (nofR (nof (ahead l i) n s)) := by
  intro s
  induction s with
  | nil =>
    intro i n hd hn h1 hpre
    have hi := drop_nil hd
    refine Evl.succ ?_
    simp only [spec_NumberOfFactors.l0, if_neg (show ¬ (i : Int) < (l.length : Int) by omega)]
    exact Evl.ret _
  | cons f s ih =>
    intro i n hd hn h1 hpre
    obtain ⟨hi, hx, hs⟩ := drop_cons hd
    have hw : wrap64 ((i : Int) + 1) = (i : Int) + 1 := by rw [w64 (by omega) (by omega)]
    have hwm : 0 < i → wrap64 ((i : Int) - 1) = ((i - 1 : Nat) : Int) := fun h => by rw [w64 (by omega) (by omega)]; omega
    have hno : ∀ (c : fOk (ahead l i) f = false), nofR (nof (ahead l i) n (f :: s)) = (0, false) := fun c => by unfold nof; rw [if_neg (by rw [c]; simp)]; rfl
    refine Evl.succ ?_
    simp only [spec_NumberOfFactors.l0, if_pos (show (i : Int) < (l.length : Int) by omega), if_pos (show (0 : Int) ≤ (i : Int) by omega), rdL_of hx]
    by_cases c1 : f.length = 2
    · have g0 : (0 : Int) < (f.length : Int) := by omega
      have g1 : (1 : Int) < (f.length : Int) := by omega
      simp only [if_pos (show (f.length : Int) = 2 by omega), if_pos g0, if_pos g1, prFactored_eq, Option.bind_some]
      by_cases c2 : 1 ≤ rd f 0 ∧ rd f 0 ≤ 1000000000
      · simp only [decide_eq_true c2, if_true]
        refine Evl.bind (spec_prIs_ev (rd f 0) (by omega)) ?_
        cases c3 : isPI (rd f 0) with
        | false =>
          simp only [Bool.false_eq_true, if_false]
          rw [hno (by unfold fOk; rw [c3]; simp)]
          exact spec_NOF_j1_no ..
        | true =>
          have hp2 : 2 ≤ rd f 0 := by
            rcases Int.lt_or_le (rd f 0) 2 with h | h
            · rw [isPI_neg h] at c3; cases c3
            · exact h
          simp only [if_true, l1In_eq, Option.bind_some]
          by_cases c4 : 1 ≤ rd f 1 ∧ rd f 1 ≤ 30
          · simp only [decide_eq_true c4, if_true]
            have fin : ∀ b : Bool, (fOk (ahead l i) f = !b) → Evl (fun k => spec_NumberOfFactors.j1 k l (n : Int) f l (l.length : Int) (i : Int) b) (nofR (nof (ahead l i) n (f :: s))) := by
              intro b hb2
              cases b with
              | true => rw [hno hb2]; exact spec_NOF_j1_no ..
              | false =>
                have hok : fOk (ahead l i) f = true := hb2
                refine Evl.succ ?_
                simp only [spec_NumberOfFactors.j1, Bool.false_eq_true, if_false, if_pos g1]
                have hnof : nof (ahead l i) n (f :: s) = (match mulE (rd f 1).toNat (rd f 0).toNat n with | some m => nof (prevOf f) m s | none => none) := by conv => lhs; unfold nof; rw [if_pos hok]
                rw [hnof]
                have := spec_NOF_l1 l f l (l.length : Int) (i : Int) (rd f 0).toNat (by omega) (nat_of (by omega)).symm (by omega) (by omega) (R := fun o => nofR (match o with | some m => nof (prevOf f) m s | none => none)) rfl hw (rd f 1).toNat n hn (by omega) (fun q hq => by
                  have h2 := ih (i + 1) q hs (mulE_le hq hn) (by
                    rw [mulE_eq _ _ _ (by omega) hn] at hq
                    by_cases c : n * (rd f 0).toNat ^ (rd f 1).toNat ≤ 1000000000
                    · rw [if_pos c] at hq
                      injection hq with hq
                      rw [← hq]
                      exact Nat.mul_le_mul h1 (Nat.pow_pos (n := (rd f 1).toNat) (show 0 < (rd f 0).toNat by omega))
                    · rw [if_neg c] at hq; cases hq) (fun j hj => by
                    rcases Nat.lt_or_ge j i with h | h
                    · exact hpre j h
                    · obtain rfl : j = i := by omega
                      rw [rdL_of hx]; omega)
                  have e1 : ahead l (i + 1) = prevOf f := by unfold ahead prevOf; rw [if_neg (by omega), Nat.add_sub_cancel, rdL_of hx]
                  rw [e1] at h2
                  exact h2)
                rw [nat_of (show 0 ≤ rd f 1 by omega)] at this
                exact this
            by_cases c5 : i = 0
            · subst c5
              simp only [if_neg (show ¬ ((0 : Nat) : Int) > 0 by omega)]
              refine fin false ?_
              unfold fOk ahead
              rw [if_pos rfl, c3, decide_eq_true ⟨c1, c2.1, c2.2, c4.1⟩]
              rfl
            · have hi1 : (((i - 1 : Nat) : Nat) : Int) < (l.length : Int) := by omega
              have hpl := hpre (i - 1) (by omega)
              simp only [if_pos (show (i : Int) > 0 by omega), hwm (by omega), if_pos (show (0 : Int) ≤ ((i - 1 : Nat) : Int) by omega), if_pos hi1, if_pos (show (0 : Int) < ((rd_L3 l ((i - 1 : Nat) : Int)).length : Int) by omega)]
              refine fin _ ?_
              unfold fOk ahead
              rw [if_neg c5, c3, decide_eq_true ⟨c1, c2.1, c2.2, c4.1⟩]
              simp only [Bool.true_and]
              by_cases c6 : rd (rd_L3 l ((i - 1 : Nat) : Int)) 0 < rd f 0
              · rw [decide_eq_true c6, decide_eq_false (by omega)]; rfl
              · rw [decide_eq_false c6, decide_eq_true (by omega)]; rfl
          · simp only [decide_eq_false c4, Bool.false_eq_true, if_false]
            by_cases c7 : 1 ≤ rd f 1
            · have : nofR (nof (ahead l i) n (f :: s)) = (0, false) := by
                unfold nof
                by_cases hok : fOk (ahead l i) f = true
                · rw [if_pos hok, mulE_many _ _ _ (by omega) h1 (by omega)]; rfl
                · rw [if_neg hok]; rfl
              rw [this]
              exact spec_NOF_j1_no ..
            · rw [hno (by unfold fOk; rw [decide_eq_false (fun c => c7 c.2.2.2)]; simp)]
              exact spec_NOF_j1_no ..
      · simp only [decide_eq_false c2, Bool.false_eq_true, if_false]
        rw [hno (by unfold fOk; rw [decide_eq_false (fun c => c2 ⟨c.2.1, c.2.2.1⟩)]; simp)]
        exact spec_NOF_j1_no ..
    · simp only [if_neg (show ¬ (f.length : Int) = 2 by omega)]
      rw [hno (by unfold fOk; rw [decide_eq_false (fun c => c1 c.1)]; simp)]
      exact spec_NOF_j1_no ..
theorem impl_NOF_j1_no (l : List (List Int)) (n : Int) (f : List Int) (xs : List (List Int)) (m i : Int) : Evl (fun k => impl_numberOf.j1 k l n f xs m i true) (0, false) := by
  refine Evl.succ ?_
  simp only [impl_numberOf.j1, if_true]
  exact Evl.ret _
theorem impl_NOF_l0 (l : List (List Int)) (hl : l.length ≤ 1099511627776) (hb : ∀ f ∈ l, ∀ x ∈ f, x ≤ 9223372036854775807) : ∀ (s : List (List Int)) (i n : Nat), l.drop i = s → n ≤ 1000000000 → 1 ≤ n → (∀ j, j < i → 1 ≤ (rd_L3 l (j : Int)).length) →
    Evl (fun k => impl_numberOf.l0 k l (n : Int) l (l.length : Int) (i : Int)) (nofR (nof (ahead l i) n s)) := by
  intro s
  induction s with
  | nil =>
    intro i n hd hn h1 hpre
    have hi := drop_nil hd
    refine Evl.succ ?_
    simp only [impl_numberOf.l0, if_neg (show ¬ (i : Int) < (l.length : Int) by omega)]
    exact Evl.ret _
  | cons f s ih =>
    intro i n hd hn h1 hpre
    obtain ⟨hi, hx, hs⟩ := drop_cons hd
    have hw : wrap64 ((i : Int) + 1) = (i : Int) + 1 := by rw [w64 (by omega) (by omega)]
    have hwm : 0 < i → wrap64 ((i : Int) - 1) = ((i - 1 : Nat) : Int) := fun h => by rw [w64 (by omega) (by omega)]; omega
    have hno : ∀ (c : fOk (ahead l i) f = false), nofR (nof (ahead l i) n (f :: s)) = (0, false) := fun c => by unfold nof; rw [if_neg (by rw [c]; simp)]; rfl
    refine Evl.succ ?_
    simp only [impl_numberOf.l0, if_pos (show (i : Int) < (l.length : Int) by omega), if_pos (show (0 : Int) ≤ (i : Int) by omega), rdL_of hx]
    by_cases c1 : f.length = 2
    · have g0 : (0 : Int) < (f.length : Int) := by omega
      have g1 : (1 : Int) < (f.length : Int) := by omega
      simp only [if_pos (show (f.length : Int) = 2 by omega), if_pos g0, if_pos g1]
      by_cases c4 : rd f 1 < 1
      · simp only [if_pos c4]
        rw [hno (by unfold fOk; rw [decide_eq_false (fun c => by omega)]; simp)]
        exact impl_NOF_j1_no ..
      · simp only [if_neg c4]
        by_cases c2 : rd f 0 > 1000000000
        · simp only [if_pos c2]
          rw [hno (by unfold fOk; rw [decide_eq_false (fun c => by omega)]; simp)]
          exact impl_NOF_j1_no ..
        · simp only [if_neg c2]
          refine Evl.bind (impl_isPrime_ev (rd f 0) (by omega)) ?_
          cases c3 : isPI (rd f 0) with
          | false =>
            simp only [Bool.false_eq_true, if_false]
            rw [hno (by unfold fOk; rw [c3]; simp)]
            exact impl_NOF_j1_no ..
          | true =>
            have hp2 : 2 ≤ rd f 0 := by
              rcases Int.lt_or_le (rd f 0) 2 with h | h
              · rw [isPI_neg h] at c3; cases c3
              · exact h
            simp only [if_true]
            have hrb : rd f 1 ≤ 9223372036854775807 := by
              have hg : f[1]? = some (f[1]'(by omega)) := List.getElem?_eq_getElem (by omega)
              rw [show rd f 1 = f[1]'(by omega) from rd_of (i := 1) hg]
              exact hb f (List.mem_of_getElem? hx) _ (List.getElem_mem _)
            have fin : ∀ b : Bool, (fOk (ahead l i) f = !b) → Evl (fun k => impl_numberOf.j1 k l (n : Int) f l (l.length : Int) (i : Int) b) (nofR (nof (ahead l i) n (f :: s))) := by
              intro b hb2
              cases b with
              | true => rw [hno hb2]; exact impl_NOF_j1_no ..
              | false =>
                have hok : fOk (ahead l i) f = true := hb2
                refine Evl.succ ?_
                simp only [impl_numberOf.j1, Bool.false_eq_true, if_false, if_pos g1]
                have hnof : nof (ahead l i) n (f :: s) = (match mulE (rd f 1).toNat (rd f 0).toNat n with | some m => nof (prevOf f) m s | none => none) := by conv => lhs; unfold nof; rw [if_pos hok]
                rw [hnof]
                have := impl_NOF_l1 l f l (l.length : Int) (i : Int) (rd f 0).toNat (by omega) (nat_of (by omega)).symm (by omega) (by omega) (R := fun o => nofR (match o with | some m => nof (prevOf f) m s | none => none)) rfl hw (rd f 1).toNat n 0 hn (by omega) (fun q hq => by
                  have h2 := ih (i + 1) q hs (mulE_le hq hn) (by
                    rw [mulE_eq _ _ _ (by omega) hn] at hq
                    by_cases c : n * (rd f 0).toNat ^ (rd f 1).toNat ≤ 1000000000
                    · rw [if_pos c] at hq
                      injection hq with hq
                      rw [← hq]
                      exact Nat.mul_le_mul h1 (Nat.pow_pos (n := (rd f 1).toNat) (show 0 < (rd f 0).toNat by omega))
                    · rw [if_neg c] at hq; cases hq) (fun j hj => by
                    rcases Nat.lt_or_ge j i with h | h
                    · exact hpre j h
                    · obtain rfl : j = i := by omega
                      rw [rdL_of hx]; omega)
                  have e1 : ahead l (i + 1) = prevOf f := by unfold ahead prevOf; rw [if_neg (by omega), Nat.add_sub_cancel, rdL_of hx]
                  rw [e1] at h2
                  exact h2)
                rw [Nat.add_zero, nat_of (show 0 ≤ rd f 1 by omega)] at this
                exact this
            by_cases c5 : i = 0
            · subst c5
              simp only [if_neg (show ¬ ((0 : Nat) : Int) > 0 by omega)]
              refine fin false ?_
              unfold fOk ahead
              rw [if_pos rfl, c3, decide_eq_true ⟨c1, by omega, by omega, by omega⟩]
              rfl
            · have hi1 : (((i - 1 : Nat) : Nat) : Int) < (l.length : Int) := by omega
              have hpl := hpre (i - 1) (by omega)
              simp only [if_pos (show (i : Int) > 0 by omega), hwm (by omega), if_pos (show (0 : Int) ≤ ((i - 1 : Nat) : Int) by omega), if_pos hi1, if_pos (show (0 : Int) < ((rd_L3 l ((i - 1 : Nat) : Int)).length : Int) by omega)]
              refine fin _ ?_
              unfold fOk ahead
              rw [if_neg c5, c3, decide_eq_true ⟨c1, by omega, by omega, by omega⟩]
              simp only [Bool.true_and]
              by_cases c6 : rd (rd_L3 l ((i - 1 : Nat) : Int)) 0 < rd f 0
              · rw [decide_eq_true c6, decide_eq_false (by omega)]; rfl
              · rw [decide_eq_false c6, decide_eq_true (by omega)]; rfl
    · simp only [if_neg (show ¬ (f.length : Int) = 2 by omega)]
      rw [hno (by unfold fOk; rw [decide_eq_false (fun c => c1 c.1)]; simp)]
      exact impl_NOF_j1_no ..
/-- What NumberOfFactors of both tells. -/
def nofA (l : List (List Int)) : Int × Bool := if l.length ≤ 30 then nofR (nof none 1 l) else (0, false)
theorem spec_NumberOfFactors_ev (l : List (List Int)) (hb : ∀ f ∈ l, ∀ x ∈ f, x ≤ 9223372036854775807) : Evl (fun k => spec_NumberOfFactors.f k l) (nofA l) := by
  simp only [spec_NumberOfFactors.f]
  unfold nofA
  by_cases c : l.length ≤ 30
  · rw [if_pos c]
    simp only [if_neg (show ¬ (l.length : Int) > 30 by omega)]
    exact spec_NOF_l0 l c hb l 0 1 rfl (by omega) (by omega) (fun j hj => absurd hj (Nat.not_lt_zero _))
  · rw [if_neg c]
    simp only [if_pos (show (l.length : Int) > 30 by omega)]
    exact Evl.ret _
theorem impl_NumberOfFactors_ev (l : List (List Int)) (hb : ∀ f ∈ l, ∀ x ∈ f, x ≤ 9223372036854775807) : Evl (fun k => impl_NumberOfFactors.f k l) (nofA l) := by
  simp only [impl_NumberOfFactors.f]
  unfold nofA
  by_cases c : l.length ≤ 30
  · rw [if_pos c]
    simp only [if_neg (show ¬ (l.length : Int) > 30 by omega)]
    have h := impl_NOF_l0 l (by omega) hb l 0 1 rfl (by omega) (by omega) (fun j hj => absurd hj (Nat.not_lt_zero _))
    refine Evl.bind (a := nofR (nof none 1 l)) ?_ (Evl.ret _)
    simp only [impl_numberOf.f]
    exact h
  · rw [if_neg c]
    simp only [if_pos (show (l.length : Int) > 30 by omega)]
    exact Evl.ret _
theorem FnExactNumberOfFactors_main (l0 : List (List Int)) (hm : l0.length ≤ maxLen) (hl : l0.length * 24 ≤ 140737488351232) (hw : ∀ x ∈ l0, x.length ≤ maxLen ∧ ∀ n ∈ x, (Lit.int .i64 n).wf = true) :
    ∃ r b, Evl (fun k => spec_NumberOfFactors.f k l0) (r, b) ∧ Evl (fun k => impl_NumberOfFactors.f k l0) (r, b) := by
  have hb : ∀ f ∈ l0, ∀ x ∈ f, x ≤ 9223372036854775807 := fun f hf x hx => (wf_bounds ((hw f hf).2 x hx)).2
  exact ⟨(nofA l0).1, (nofA l0).2, spec_NumberOfFactors_ev l0 hb, impl_NumberOfFactors_ev l0 hb⟩

end Go.Proofs.Ytgoldeagghadhaa.L
