/- the law of spokes that come again, ranks there and back and steps around, for all that is drawn: what both functions compute. No condition beyond 64 bits and the lengths that the statement's guards give. -/
import Derived.Test.YtdaodlhcedjfoaaPx0
import Derived.Test.YtdaodlhcedjfoaaPx22
import Derived.Test.YtdaodlhcedjfoaaPx6
import Derived.Test.YtdaodlhcedjfoaaPx1
import Derived.Test.YtdaodlhcedjfoaaPx2
import Derived.Test.YtdaodlhcedjfoaaPx3
import Derived.Test.YtdaodlhcedjfoaaPx5
import Derived.Test.YtdaodlhcedjfoaaPx7
import Derived.Test.YtdaodlhcedjfoaaPx4
import Derived.Test.YtdaodlhcedjfoaaPx8
import Derived.Test.YtdaodlhcedjfoaaPx9
import Derived.Test.YtdaodlhcedjfoaaPx16
import Derived.Test.YtdaodlhcedjfoaaPx17
import Derived.Test.YtdaodlhcedjfoaaPx12
import Derived.Test.YtdaodlhcedjfoaaPx14
import Derived.Test.YtdaodlhcedjfoaaPx15
import Derived.Test.YtdaodlhcedjfoaaPx18
import Derived.Test.YtdaodlhcedjfoaaPx10
import Derived.Test.YtdaodlhcedjfoaaPx11
import Derived.Test.YtdaodlhcedjfoaaPx13
import Derived.Test.YtdaodlhcedjfoaaPx19
import Derived.Test.YtdaodlhcedjfoaaPx20
import Derived.Laws.Bits64b
import Derived.Test.YtdaodlhcedjfoaaPx21
import Derived.Test.YtdaodlhcedjfoaaPx23
import Derived.Test.YtdaodlhcedjfoaaPx24
import Derived.Test.YtdaodlhcedjfoaaPx25
import Derived.Test.YtdaodlhcedjfoaaPx26
/-! ## L0 -/
namespace Go.Proofs.Ytdaodlhcedjfoaa.L
open Go.RowKit Go.Proofs.YtdaodlhcedjfoaaW.PrintWords
set_option linter.unusedVariables false
set_option linter.unusedSimpArgs false

/-- With enough rounds g tells r. -/
def Evl {α : Type} (g : Nat → Option α) (r : α) : Prop := ∃ K, ∀ k, K ≤ k → g k = some r
theorem Evl.ret {α : Type} (r : α) : Evl (fun _ => some r) r := ⟨0, fun _ _ => rfl⟩
theorem Evl.bind {α β : Type} {g : Nat → Option α} {f : Nat → α → Option β} {a : α} {r : β} (h : Evl g a) (h2 : Evl (fun k => f k a) r) : Evl (fun k => (g k).bind (f k)) r := by
  obtain ⟨K, hK⟩ := h
  obtain ⟨K2, hK2⟩ := h2
  refine ⟨max K K2, fun k hk => ?_⟩
  show (g k).bind (f k) = some r
  rw [hK k (Nat.le_trans (Nat.le_max_left _ _) hk), Option.bind_some]
  exact hK2 k (Nat.le_trans (Nat.le_max_right _ _) hk)
theorem Evl.succ {α : Type} {g : Nat → Option α} {r : α} (h : Evl (fun k => g (k + 1)) r) : Evl g r := by
  obtain ⟨K, hK⟩ := h
  refine ⟨K + 1, fun k hk => ?_⟩
  obtain ⟨m, rfl⟩ : ∃ m, k = m + 1 := ⟨k - 1, by omega⟩
  exact hK m (by omega)
theorem Evl.get {α : Type} {g : Nat → Option α} {r : α} (h : Evl g r) : ∃ k, g k = some r := by
  obtain ⟨K, hK⟩ := h
  exact ⟨K, hK K (Nat.le_refl _)⟩
theorem Evl.cast {α : Type} {g : Nat → Option α} {r r' : α} (h : Evl g r) (e : r = r') : Evl g r' := e ▸ h

theorem w64 {x : Int} (h0 : -9223372036854775808 ≤ x) (h1 : x ≤ 9223372036854775807) : wrap64 x = x := by
  unfold wrap64
  omega
theorem drop_nil {α : Type} {xs : List α} {i : Nat} (h : xs.drop i = []) : xs.length ≤ i := by
  simpa using h
theorem drop_cons {α : Type} {xs s : List α} {x : α} {i : Nat} (h : xs.drop i = x :: s) : i < xs.length ∧ xs[i]? = some x ∧ xs.drop (i + 1) = s := by
  have hl : i < xs.length := by
    rcases Nat.lt_or_ge i xs.length with h1 | h1
    · exact h1
    · rw [List.drop_of_length_le h1] at h
      cases h
  rw [List.drop_eq_getElem_cons hl] at h
  injection h with h1 h2
  exact ⟨hl, by rw [List.getElem?_eq_getElem hl, h1], h2⟩
theorem rd_of {xs : List Int} {i : Nat} {x : Int} (h : xs[i]? = some x) : rd xs (i : Int) = x := by
  unfold rd
  rw [Int.toNat_natCast, List.getD_eq_getElem?_getD, h]
  rfl
theorem rd_nat {xs : List Int} {i : Nat} (h : i < xs.length) : rd xs (i : Int) = xs[i] := rd_of (List.getElem?_eq_getElem h)

end Go.Proofs.Ytdaodlhcedjfoaa.L

/-! ## E0 -/

namespace Go.Proofs.Ytdaodlhcedjfoaa.L
open Go.RowKit Go.Proofs.YtdaodlhcedjfoaaW.PrintWords Go.Proofs.Ytdaodlhcedjfoaa.P
set_option linter.unusedVariables false
set_option linter.unusedSimpArgs false

end Go.Proofs.Ytdaodlhcedjfoaa.L

/-! ## M1 -/
namespace Go.Proofs.Ytdaodlhcedjfoaa.M
set_option linter.unusedVariables false
set_option linter.unusedSimpArgs false

def lfAux : Nat → Nat → Nat → Nat
  | 0, _, n => n
  | f + 1, d, n => if n % d = 0 then d else lfAux f (d + 1) n
/-- The least divisor of at least 2. -/
def lf (n : Nat) : Nat := lfAux n 2 n
def isP (n : Nat) : Bool := decide (2 ≤ n) && decide (lf n = n)

structure Least (n r : Nat) : Prop where
  two : 2 ≤ r
  le : r ≤ n
  div : n % r = 0
  least : ∀ d, 2 ≤ d → d < r → n % d ≠ 0

theorem lfAux_least : ∀ (f d n : Nat), 2 ≤ d → d ≤ n → n < d + f → (∀ e, 2 ≤ e → e < d → n % e ≠ 0) → Least n (lfAux f d n)
  | 0, d, n, _, h1, h2, _ => by omega
  | f + 1, d, n, h0, h1, h2, h3 => by
    unfold lfAux
    by_cases h : n % d = 0
    · rw [if_pos h]
      exact ⟨h0, h1, h, h3⟩
    · rw [if_neg h]
      have hne : d ≠ n := fun e => h (by rw [e]; exact Nat.mod_self n)
      refine lfAux_least f (d + 1) n (by omega) (by omega) (by omega) (fun e he hl => ?_)
      by_cases hed : e = d
      · rw [hed]; exact h
      · exact h3 e he (by omega)
theorem lf_least {n : Nat} (h : 2 ≤ n) : Least n (lf n) := lfAux_least n 2 n (by omega) h (by omega) (fun e h1 h2 => by omega)
theorem Least.uniq {n r s : Nat} (h : Least n r) (h' : Least n s) : r = s := by
  rcases Nat.lt_trichotomy r s with h1 | h1 | h1
  · exact absurd h.div (h'.least r h.two h1)
  · exact h1
  · exact absurd h'.div (h.least s h'.two h1)
theorem lf_eq {n r : Nat} (hn : 2 ≤ n) (h : Least n r) : lf n = r := (lf_least hn).uniq h

theorem split_mod {n r : Nat} (h : n % r = 0) : n = r * (n / r) := by
  have := Nat.div_add_mod n r
  rw [h] at this
  omega

/-- No divisor up to the root: the number itself. -/
theorem lf_root {n d : Nat} (hn : 2 ≤ n) (hd : ∀ e, 2 ≤ e → e < d → n % e ≠ 0) (hr : n < d * d) : lf n = n := by
  have h := lf_least hn
  rcases Nat.lt_or_ge (lf n) n with hl | hl
  · exfalso
    have hq := split_mod h.div
    generalize hqe : n / lf n = q at hq
    have hq2 : 2 ≤ q := by
      rcases Nat.lt_or_ge q 2 with h1 | h1
      · have : q = 0 ∨ q = 1 := by omega
        rcases this with rfl | rfl
        · omega
        · omega
      · exact h1
    have hqm : n % q = 0 := by
      have e : n % q = (lf n * q) % q := by rw [← hq]
      rw [e]; exact Nat.mul_mod_left _ _
    have hlq : lf n ≤ q := by
      rcases Nat.lt_or_ge q (lf n) with h1 | h1
      · exact absurd hqm (h.least q hq2 h1)
      · exact h1
    have hdl : d ≤ lf n := by
      rcases Nat.lt_or_ge (lf n) d with h1 | h1
      · exact absurd h.div (hd _ h.two h1)
      · exact h1
    have : d * d ≤ lf n * q := Nat.mul_le_mul hdl (Nat.le_trans hdl hlq)
    omega
  · have := h.le
    omega

/-! ### factors -/
end Go.Proofs.Ytdaodlhcedjfoaa.M

/-! ## E1 -/
namespace Go.Proofs.Ytdaodlhcedjfoaa.L
open Go.RowKit Go.Proofs.YtdaodlhcedjfoaaW.PrintWords Go.Proofs.Ytdaodlhcedjfoaa.P Go.Proofs.Ytdaodlhcedjfoaa.M
set_option linter.unusedVariables false
set_option linter.unusedSimpArgs false

/-- The same of whatever whole number. -/
def isPI (a : Int) : Bool := isP a.toNat
theorem isPI_nat (n : Nat) : isPI (n : Int) = isP n := by unfold isPI; rw [Int.toNat_natCast]
theorem isPI_neg {a : Int} (h : a < 2) : isPI a = false := by
  unfold isPI isP
  rw [decide_eq_false (by omega)]
  rfl

theorem spec_prLeast_l0 (n : Nat) (hn : 2 ≤ n) (hb : n ≤ 2000000000) : ∀ (m d : Nat), m + d = 50000 → 2 ≤ d → (∀ e, 2 ≤ e → e < d → n % e ≠ 0) → Evl (fun k => spec_prLeast.l0 k (n : Int) (d : Int)) (lf n : Int) := by
  intro m
  induction m with
  | zero =>
    intro d hd h2 hno
    obtain rfl : d = 50000 := by omega
    refine Evl.succ ?_
    have h1 : ¬ wrap64 (((50000 : Nat) : Int) * ((50000 : Nat) : Int)) ≤ (n : Int) := by rw [w64 (by omega) (by omega)]; omega
    simp only [spec_prLeast.l0, if_neg h1]
    rw [lf_root hn hno (by omega)]
    exact Evl.ret _
  | succ m ih =>
    intro d hd h2 hno
    have hdd : d * d ≤ 50000 * 50000 := Nat.mul_le_mul (by omega) (by omega)
    have hw : wrap64 ((d : Int) * (d : Int)) = ((d * d : Nat) : Int) := by rw [← Int.natCast_mul]; exact w64 (by omega) (by omega)
    have hw1 : wrap64 ((d : Int) + 1) = ((d + 1 : Nat) : Int) := by rw [w64 (by omega) (by omega)]; rfl
    refine Evl.succ ?_
    by_cases hr : d * d ≤ n
    · have h1 : ((d * d : Nat) : Int) ≤ (n : Int) := Int.ofNat_le.2 hr
      have h3 : ¬ (d : Int) = 0 := by omega
      have ht : Int.tmod (n : Int) (d : Int) = ((n % d : Nat) : Int) := rfl
      by_cases hm : n % d = 0
      · have h4 : ((n % d : Nat) : Int) = 0 := by rw [hm]; rfl
        simp only [spec_prLeast.l0, hw, if_pos h1, if_neg h3, ht, if_pos h4]
        rw [lf_eq hn ⟨h2, Nat.le_trans (Nat.le_mul_self d) hr, hm, hno⟩]
        exact Evl.ret _
      · have h4 : ¬ ((n % d : Nat) : Int) = 0 := by omega
        simp only [spec_prLeast.l0, hw, if_pos h1, if_neg h3, ht, if_neg h4, hw1]
        refine ih (d + 1) (by omega) (by omega) (fun e he hl => ?_)
        by_cases hed : e = d
        · rw [hed]; exact hm
        · exact hno e he (by omega)
    · have h1 : ¬ ((d * d : Nat) : Int) ≤ (n : Int) := fun h => hr (Int.ofNat_le.1 h)
      simp only [spec_prLeast.l0, hw, if_neg h1]
      rw [lf_root hn hno (by omega)]
      exact Evl.ret _
theorem spec_prLeast_ev (n : Nat) (hn : 2 ≤ n) (hb : n ≤ 2000000000) : Evl (fun k => spec_prLeast.f k (n : Int)) (lf n : Int) := by
  simp only [spec_prLeast.f]
  exact spec_prLeast_l0 n hn hb 49998 2 rfl (by omega) (fun e h1 h2 => by omega)
theorem spec_prIs_ev (a : Int) (hb : a ≤ 2000000000) : Evl (fun k => spec_prIs.f k a) (isPI a) := by
  by_cases h : a ≥ 2
  · obtain ⟨n, rfl⟩ := Int.eq_ofNat_of_zero_le (show 0 ≤ a by omega)
    simp only [spec_prIs.f, if_pos h]
    refine Evl.bind (spec_prLeast_ev n (by omega) (by omega)) ?_
    refine (Evl.ret _).cast ?_
    rw [isPI_nat]
    unfold isP
    rw [decide_eq_true (show 2 ≤ n by omega), Bool.true_and]
    by_cases e : lf n = n
    · rw [decide_eq_true e, e]
      exact beq_self_eq_true _
    · rw [decide_eq_false e]
      exact beq_eq_false_iff_ne.2 (by omega)
  · simp only [spec_prIs.f, if_neg h]
    rw [isPI_neg (by omega)]
    exact Evl.ret _

end Go.Proofs.Ytdaodlhcedjfoaa.L

/-! ## E2 -/

namespace Go.Proofs.Ytdaodlhcedjfoaa.L
open Go.RowKit Go.Proofs.YtdaodlhcedjfoaaW.PrintWords Go.Proofs.Ytdaodlhcedjfoaa.P Go.Proofs.Ytdaodlhcedjfoaa.M
set_option linter.unusedVariables false
set_option linter.unusedSimpArgs false

/-- The primes among m numbers from n on. -/
def pl : Nat → Int → List Int
  | 0, _ => []
  | m + 1, n => if isPI n = true then n :: pl m (n + 1) else pl m (n + 1)
end Go.Proofs.Ytdaodlhcedjfoaa.L

/-! ## E3 -/

namespace Go.Proofs.Ytdaodlhcedjfoaa.L
open Go.RowKit Go.Proofs.YtdaodlhcedjfoaaW.PrintWords Go.Proofs.Ytdaodlhcedjfoaa.P Go.Proofs.Ytdaodlhcedjfoaa.M
set_option linter.unusedVariables false
set_option linter.unusedSimpArgs false

end Go.Proofs.Ytdaodlhcedjfoaa.L

/-! ## E4 -/
namespace Go.Proofs.Ytdaodlhcedjfoaa.L
open Go.RowKit Go.Proofs.YtdaodlhcedjfoaaW.PrintWords Go.Proofs.Ytdaodlhcedjfoaa.P Go.Proofs.Ytdaodlhcedjfoaa.M
set_option linter.unusedVariables false
set_option linter.unusedSimpArgs false

theorem l1In_eq (a lo hi : Int) : spec_l1In.f a lo hi = some (decide (lo ≤ a ∧ a ≤ hi)) := by
  unfold spec_l1In.f
  by_cases h : a ≥ lo
  · rw [if_pos h]
    by_cases h2 : a ≤ hi
    · rw [decide_eq_true h2, decide_eq_true ⟨h, h2⟩]
    · rw [decide_eq_false h2, decide_eq_false (fun c => h2 c.2)]
  · rw [if_neg h, decide_eq_false (fun c => h c.1)]

end Go.Proofs.Ytdaodlhcedjfoaa.L

/-! ## M2 -/
namespace Go.Proofs.Ytdaodlhcedjfoaa.M
set_option linter.unusedVariables false
set_option linter.unusedSimpArgs false

/-- A rule: every, rest. -/
abbrev Ru := Int × Int
def okR (r : Ru) : Bool := decide (2 ≤ r.1 ∧ r.1 ≤ 60 ∧ 0 ≤ r.2 ∧ r.2 < r.1)
def good (rs : List Ru) : Bool := decide (rs.length ≤ 12) && rs.all okR
def left (rs : List Ru) (n : Int) : Bool := rs.all fun r => decide (n % r.1 ≠ r.2)
theorem good_len {rs : List Ru} (h : good rs = true) : rs.length ≤ 12 := by
  unfold good at h
  rw [Bool.and_eq_true] at h
  exact of_decide_eq_true h.1
theorem good_ok {rs : List Ru} (h : good rs = true) {r : Ru} (hr : r ∈ rs) : 2 ≤ r.1 ∧ r.1 ≤ 60 ∧ 0 ≤ r.2 ∧ r.2 < r.1 := by
  unfold good at h
  rw [Bool.and_eq_true] at h
  exact of_decide_eq_true (List.all_eq_true.1 h.2 r hr)
/-- The numbers among m from n on that are left. -/
def lb (rs : List Ru) : Nat → Int → List Int
  | 0, _ => []
  | m + 1, n => if left rs n = true then n :: lb rs m (n + 1) else lb rs m (n + 1)
theorem lb_length (rs : List Ru) : ∀ (m : Nat) (n : Int), (lb rs m n).length ≤ m
  | 0, _ => Nat.le_refl _
  | m + 1, n => by
    unfold lb
    have := lb_length rs m (n + 1)
    split
    · rw [List.length_cons]; omega
    · omega
theorem lb_mem (rs : List Ru) : ∀ (m : Nat) (n x : Int), x ∈ lb rs m n ↔ n ≤ x ∧ x < n + m ∧ left rs x = true
  | 0, n, x => by
    unfold lb
    constructor
    · intro h; cases h
    · intro h; omega
  | m + 1, n, x => by
    unfold lb
    have ih := lb_mem rs m (n + 1) x
    by_cases h : left rs n = true
    · rw [if_pos h, List.mem_cons, ih]
      constructor
      · rintro (rfl | h1)
        · exact ⟨Int.le_refl _, by omega, h⟩
        · exact ⟨by omega, by omega, h1.2.2⟩
      · rintro ⟨h1, h2, h3⟩
        by_cases e : x = n
        · exact .inl e
        · exact .inr ⟨by omega, by omega, h3⟩
    · rw [if_neg h, ih]
      constructor
      · rintro ⟨h1, h2, h3⟩
        exact ⟨by omega, by omega, h3⟩
      · rintro ⟨h1, h2, h3⟩
        have e : x ≠ n := fun e => h (e ▸ h3)
        exact ⟨by omega, by omega, h3⟩
theorem lb_sorted (rs : List Ru) : ∀ (m : Nat) (n : Int), (lb rs m n).Pairwise (· < ·)
  | 0, _ => List.Pairwise.nil
  | m + 1, n => by
    unfold lb
    have ih := lb_sorted rs m (n + 1)
    split
    · refine List.Pairwise.cons (fun x hx => ?_) ih
      have := (lb_mem rs m (n + 1) x).1 hx
      omega
    · exact ih
/-- The period of rules, if it is not too great. -/
def per : Nat → List Ru → Option Nat
  | p, [] => some p
  | p, r :: rs => if 100000 < p / Nat.gcd p r.1.toNat * r.1.toNat then none else per (p / Nat.gcd p r.1.toNat * r.1.toNat) rs
theorem lcm_eq (p e : Nat) : p / Nat.gcd p e * e = Nat.lcm p e := by
  unfold Nat.lcm
  rw [Nat.div_mul_right_comm (Nat.gcd_dvd_left p e)]
theorem per_spec : ∀ (rs : List Ru) (p P : Nat), 1 ≤ p → p ≤ 100000 → (∀ r ∈ rs, 1 ≤ r.1) → per p rs = some P → 1 ≤ P ∧ P ≤ 100000 ∧ p ∣ P ∧ ∀ r ∈ rs, r.1.toNat ∣ P
  | [], p, P, h1, h2, _, h => by
    injection h with h
    subst h
    exact ⟨h1, h2, Nat.dvd_refl _, fun r hr => absurd hr (by simp)⟩
  | r :: rs, p, P, h1, h2, hr, h => by
    unfold per at h
    have he : 1 ≤ r.1.toNat := by have := hr r (by simp); omega
    by_cases hc : 100000 < p / Nat.gcd p r.1.toNat * r.1.toNat
    · rw [if_pos hc] at h
      cases h
    · rw [if_neg hc] at h
      rw [lcm_eq] at h hc
      have hp : 1 ≤ Nat.lcm p r.1.toNat := Nat.lcm_pos (by omega) (by omega)
      obtain ⟨g1, g2, g3, g4⟩ := per_spec rs _ P hp (by omega) (fun q hq => hr q (by simp [hq])) h
      refine ⟨g1, g2, Nat.dvd_trans (Nat.dvd_lcm_left _ _) g3, fun q hq => ?_⟩
      rcases List.mem_cons.1 hq with rfl | hq
      · exact Nat.dvd_trans (Nat.dvd_lcm_right _ _) g3
      · exact g4 q hq
theorem left_add {rs : List Ru} {P : Nat} (hd : ∀ r ∈ rs, r.1.toNat ∣ P) (hp : ∀ r ∈ rs, 1 ≤ r.1) (n k : Int) : left rs (n + P * k) = left rs n := by
  unfold left
  have : ∀ (q : List Ru), (∀ r ∈ q, r ∈ rs) → (q.all fun r => decide ((n + P * k) % r.1 ≠ r.2)) = q.all fun r => decide (n % r.1 ≠ r.2) := by
    intro q
    induction q with
    | nil => intro _; rfl
    | cons r q ih =>
      intro hq
      have hr := hq r (by simp)
      obtain ⟨c, hc⟩ := hd r hr
      have h1 := hp r hr
      have e : (P : Int) = r.1 * (c : Int) := by
        rw [hc, Int.natCast_mul, Int.toNat_of_nonneg (by omega)]
      have e2 : (n + P * k) % r.1 = n % r.1 := by
        rw [e, Int.mul_assoc, Int.add_mul_emod_self_left]
      rw [List.all_cons, List.all_cons, ih (fun r hr => hq r (by simp [hr])), e2]
  exact this rs (fun r hr => hr)

/-- A wheel: its period. -/
def whl (rs : List Ru) : Option Nat :=
  if good rs = true then match per 1 rs with
    | none => none
    | some P => if P ≤ 5000 ∧ lb rs P 1 ≠ [] then some P else none
  else none
structure Wheel (rs : List Ru) (P : Nat) : Prop where
  good : good rs = true
  per : per 1 rs = some P
  pos : 1 ≤ P
  most : P ≤ 5000
  dvd : ∀ r ∈ rs, r.1.toNat ∣ P
  some : lb rs P 1 ≠ []
theorem whl_spec {rs : List Ru} {P : Nat} (h : whl rs = some P) : Wheel rs P := by
  unfold whl at h
  by_cases hg : good rs = true
  · rw [if_pos hg] at h
    cases hp : per 1 rs with
    | none => rw [hp] at h; cases h
    | some Q =>
      rw [hp] at h
      dsimp only at h
      by_cases hc : Q ≤ 5000 ∧ lb rs Q 1 ≠ []
      · rw [if_pos hc] at h
        injection h with h
        subst h
        obtain ⟨g1, g2, g3, g4⟩ := per_spec rs 1 Q (by omega) (by omega) (fun r hr => by have := good_ok hg hr; omega) hp
        exact ⟨hg, hp, g1, hc.1, g4, hc.2⟩
      · rw [if_neg hc] at h
        cases h
  · rw [if_neg hg] at h
    cases h
theorem Wheel.one {rs : List Ru} {P : Nat} (h : Wheel rs P) : ∀ r ∈ rs, 1 ≤ r.1 := fun r hr => by have := good_ok h.good hr; omega
theorem Wheel.add {rs : List Ru} {P : Nat} (h : Wheel rs P) (n k : Int) : left rs (n + P * k) = left rs n := left_add h.dvd h.one n k
theorem Wheel.back {rs : List Ru} {P : Nat} (h : Wheel rs P) (n : Int) : left rs (n - P) = left rs n := by
  have := h.add n (-1)
  rw [show n + (P : Int) * (-1) = n - P by omega] at this
  exact this
theorem Wheel.on {rs : List Ru} {P : Nat} (h : Wheel rs P) (n : Int) : left rs (n + P) = left rs n := by
  have := h.add n 1
  rw [Int.mul_one] at this
  exact this

end Go.Proofs.Ytdaodlhcedjfoaa.M

/-! ## E5 -/
namespace Go.Proofs.Ytdaodlhcedjfoaa.L
open Go.RowKit Go.Proofs.YtdaodlhcedjfoaaW.PrintWords Go.Proofs.Ytdaodlhcedjfoaa.P Go.Proofs.Ytdaodlhcedjfoaa.M
set_option linter.unusedVariables false
set_option linter.unusedSimpArgs false

/-- A rule as a pair. -/
def ru (x : S45) : Ru := (x.f0, x.f1)
def rs (l : List S45) : List Ru := l.map ru
theorem rdT_of {xs : List S45} {i : Nat} {x : S45} (h : xs[i]? = some x) : rd_T45 xs (i : Int) = x := by
  unfold rd_T45
  rw [Int.toNat_natCast, List.getD_eq_getElem?_getD, h]
  rfl
/-- All numbers of rules at least 1 and at most 60. -/
def Sane (l : List S45) : Prop := ∀ x ∈ l, 1 ≤ x.f0 ∧ x.f0 ≤ 60

theorem tmod_range {a b : Int} (hb : 1 ≤ b) : -b < Int.tmod a b ∧ Int.tmod a b < b := by
  rcases Int.le_total 0 a with h | h
  · rw [Int.tmod_eq_emod_of_nonneg h]
    exact ⟨by have := Int.emod_nonneg a (show b ≠ 0 by omega); omega, Int.emod_lt_of_pos a (by omega)⟩
  · obtain ⟨c, rfl⟩ : ∃ c, a = -c := ⟨-a, by omega⟩
    rw [Int.neg_tmod, Int.tmod_eq_emod_of_nonneg (show 0 ≤ c by omega)]
    have h1 := Int.emod_nonneg c (show b ≠ 0 by omega)
    have h2 := Int.emod_lt_of_pos c (show 0 < b by omega)
    exact ⟨by omega, by omega⟩
theorem rest_eq {a b : Int} (hb : 1 ≤ b) (hb2 : b ≤ 1000000) : Int.tmod (wrap64 (Int.tmod a b + b)) b = a % b := by
  have hr := tmod_range (a := a) hb
  rw [w64 (by omega) (by omega), Int.tmod_eq_emod_of_nonneg (by omega), Int.tmod_def]
  rw [show a - b * Int.tdiv a b + b = a + b * (1 - Int.tdiv a b) by rw [Int.mul_sub, Int.mul_one]; omega, Int.add_mul_emod_self_left]
theorem impl_mod_eq {a b : Int} (hb : 1 ≤ b) (hb2 : b ≤ 1000000) : impl_mod.f a b = some (a % b) := by
  simp only [impl_mod.f, if_neg (show ¬ b = 0 by omega)]
  rw [rest_eq hb hb2]
theorem spec_siRest_eq {a b : Int} (hb : 1 ≤ b) (hb2 : b ≤ 1000000) : spec_siRest.f a b = some (a % b) := by
  simp only [spec_siRest.f, if_neg (show ¬ b = 0 by omega)]
  rw [rest_eq hb hb2]

/-- The first rule that crosses a number out, told from index i on; -1: none. -/
def fiFrom : List Ru → Int → Int → Int
  | [], _, _ => -1
  | r :: q, n, i => if n % r.1 = r.2 then i else fiFrom q n (i + 1)
theorem fiFrom_neg : ∀ (q : List Ru) (n i : Int), 0 ≤ i → decide (fiFrom q n i < 0) = left q n
  | [], n, i, h => rfl
  | r :: q, n, i, h => by
    unfold fiFrom
    have ih := fiFrom_neg q n (i + 1) (by omega)
    unfold left at ih ⊢
    rw [List.all_cons]
    by_cases c : n % r.1 = r.2
    · rw [if_pos c, decide_eq_false (show ¬ i < 0 by omega), decide_eq_false (by simp [c]), Bool.false_and]
    · rw [if_neg c, ih, decide_eq_true (show n % r.1 ≠ r.2 from c), Bool.true_and]
theorem firstRule_go : ∀ (l : List S45) (n i : Int), Sane l → impl_firstRule.go l n i = some (fiFrom (rs l) n i)
  | [], n, i, _ => rfl
  | x :: l, n, i, h => by
    have hx := h x (by simp)
    have ih := firstRule_go l n (i + 1) (fun y hy => h y (by simp [hy]))
    simp only [impl_firstRule.go, impl_mod_eq (a := n) hx.1 (show x.f0 ≤ 1000000 by omega), Option.bind_some, ih]
    unfold rs
    rw [List.map_cons, fiFrom]
    unfold ru
    by_cases c : n % x.f0 = x.f1
    · rw [if_pos c, if_pos c]
    · rw [if_neg c, if_neg c]
theorem isLeft_eq {l : List S45} (h : Sane l) (n : Int) : impl_isLeft.f l n = some (left (rs l) n) := by
  simp only [impl_isLeft.f, impl_firstRule.f, firstRule_go l n 0 h, Option.bind_some]
  rw [fiFrom_neg _ _ _ (Int.le_refl 0)]
theorem siFirst_l0 (l : List S45) (h : Sane l) (hl : l.length ≤ 1099511627776) (n : Int) : ∀ (s : List S45) (i : Nat), l.drop i = s → Evl (fun k => spec_siFirst.l0 k n l (l.length : Int) (i : Int)) (fiFrom (rs s) n (i : Int)) := by
  intro s
  induction s with
  | nil =>
    intro i hd
    have hi := drop_nil hd
    refine Evl.succ ?_
    simp only [spec_siFirst.l0, if_neg (show ¬ (i : Int) < (l.length : Int) by omega)]
    exact Evl.ret _
  | cons x s ih =>
    intro i hd
    obtain ⟨hi, hx, hs⟩ := drop_cons hd
    have hsx := h x (List.mem_of_getElem? hx)
    have hw : wrap64 ((i : Int) + 1) = ((i + 1 : Nat) : Int) := by rw [w64 (by omega) (by omega)]; rfl
    refine Evl.succ ?_
    simp only [spec_siFirst.l0, if_pos (show (i : Int) < (l.length : Int) by omega), if_pos (show (0 : Int) ≤ (i : Int) by omega), rdT_of hx, spec_siRest_eq (a := n) hsx.1 (show x.f0 ≤ 1000000 by omega), Option.bind_some, hw]
    have e : fiFrom (rs (x :: s)) n (i : Int) = if n % x.f0 = x.f1 then (i : Int) else fiFrom (rs s) n ((i : Int) + 1) := rfl
    rw [e]
    by_cases c : n % x.f0 = x.f1
    · simp only [if_pos c]
      exact Evl.ret _
    · simp only [if_neg c]
      exact ih (i + 1) hs
theorem siLeft_ev {l : List S45} (h : Sane l) (hl : l.length ≤ 1099511627776) (n : Int) : Evl (fun k => spec_siLeft.f k l n) (left (rs l) n) := by
  simp only [spec_siLeft.f, spec_siFirst.f]
  refine Evl.bind (siFirst_l0 l h hl n l 0 rfl) ?_
  rw [← fiFrom_neg (rs l) n 0 (Int.le_refl 0)]
  exact Evl.ret _

/-! ### valid rules -/
theorem isRule_eq (a b : Int) : impl_isRule.f a b = some (okR (a, b)) := by
  unfold impl_isRule.f okR
  by_cases h1 : a ≥ 2
  · by_cases h2 : a ≤ 60
    · by_cases h3 : b ≥ 0
      · rw [if_pos h1, if_pos h2, if_pos h3]
        by_cases h4 : b < a
        · rw [decide_eq_true h4, decide_eq_true ⟨h1, h2, h3, h4⟩]
        · rw [decide_eq_false h4, decide_eq_false (fun c => h4 c.2.2.2)]
      · rw [if_pos h1, if_pos h2, if_neg h3, decide_eq_false (fun c => h3 c.2.2.1)]
    · rw [if_pos h1, if_neg h2, decide_eq_false (fun c => h2 c.2.1)]
  · rw [if_neg h1, decide_eq_false (fun c => h1 c.1)]
theorem siRule_eq (a b : Int) : spec_siRule.f a b = some (okR (a, b)) := by
  unfold spec_siRule.f okR
  rw [l1In_eq, Option.bind_some]
  by_cases h1 : 2 ≤ a ∧ a ≤ 60
  · rw [decide_eq_true h1, if_pos rfl, l1In_eq, Option.bind_some, w64 (by omega) (by omega)]
    by_cases h2 : 0 ≤ b ∧ b ≤ a - 1
    · rw [decide_eq_true h2, decide_eq_true (by omega)]
    · rw [decide_eq_false h2, decide_eq_false (by omega)]
  · rw [decide_eq_false h1, if_neg (by simp), decide_eq_false (fun c => h1 ⟨c.1, c.2.1⟩)]
theorem areRules_go : ∀ (l : List S45) (i : Int), 0 ≤ i → ∃ r, impl_areRules.go l i = some r ∧ (!(decide (0 ≤ r))) = (rs l).all okR
  | [], i, _ => ⟨-1, rfl, rfl⟩
  | x :: l, i, h => by
    have e : rs (x :: l) = ru x :: rs l := rfl
    simp only [impl_areRules.go, isRule_eq, Option.bind_some]
    rw [e, List.all_cons]
    cases c : okR (x.f0, x.f1) with
    | true =>
      simp only [if_true]
      obtain ⟨r, h1, h2⟩ := areRules_go l (i + 1) (by omega)
      refine ⟨r, h1, ?_⟩
      rw [h2, show okR (ru x) = true from c, Bool.true_and]
    | false =>
      simp only [Bool.false_eq_true, if_false]
      refine ⟨i, rfl, ?_⟩
      rw [show okR (ru x) = false from c, Bool.false_and, decide_eq_true h]
      rfl
theorem rs_length (l : List S45) : (rs l).length = l.length := by unfold rs; exact List.length_map ..
theorem areRules_eq (l : List S45) : impl_areRules.f l = some (good (rs l)) := by
  unfold impl_areRules.f good
  rw [rs_length]
  by_cases h : l.length ≤ 12
  · obtain ⟨r, h1, h2⟩ := areRules_go l 0 (Int.le_refl 0)
    rw [if_pos (show (l.length : Int) ≤ 12 by omega), h1, Option.bind_some, h2, decide_eq_true h, Bool.true_and]
  · rw [if_neg (show ¬ (l.length : Int) ≤ 12 by omega), decide_eq_false h, Bool.false_and]
theorem siGood_l0 (l : List S45) (hl : l.length ≤ 12) : ∀ (s : List S45) (i : Nat), l.drop i = s → Evl (fun k => spec_siGood.l0 k l (l.length : Int) (i : Int)) ((rs s).all okR) := by
  intro s
  induction s with
  | nil =>
    intro i hd
    have hi := drop_nil hd
    refine Evl.succ ?_
    simp only [spec_siGood.l0, if_neg (show ¬ (i : Int) < (l.length : Int) by omega)]
    exact Evl.ret _
  | cons x s ih =>
    intro i hd
    obtain ⟨hi, hx, hs⟩ := drop_cons hd
    have hw : wrap64 ((i : Int) + 1) = ((i + 1 : Nat) : Int) := by rw [w64 (by omega) (by omega)]; rfl
    have e : rs (x :: s) = ru x :: rs s := rfl
    refine Evl.succ ?_
    simp only [spec_siGood.l0, if_pos (show (i : Int) < (l.length : Int) by omega), if_pos (show (0 : Int) ≤ (i : Int) by omega), rdT_of hx, siRule_eq, Option.bind_some, hw]
    rw [e, List.all_cons]
    cases c : okR (x.f0, x.f1) with
    | true =>
      simp only [if_true]
      refine (ih (i + 1) hs).cast ?_
      rw [show okR (ru x) = true from c, Bool.true_and]
    | false =>
      simp only [Bool.false_eq_true, if_false]
      refine (Evl.ret _).cast ?_
      rw [show okR (ru x) = false from c, Bool.false_and]
theorem siGood_ev (l : List S45) : Evl (fun k => spec_siGood.f k l) (good (rs l)) := by
  unfold good
  rw [rs_length]
  by_cases h : l.length ≤ 12
  · simp only [spec_siGood.f, if_neg (show ¬ (l.length : Int) > 12 by omega)]
    rw [decide_eq_true h, Bool.true_and]
    exact siGood_l0 l h l 0 rfl
  · simp only [spec_siGood.f, if_pos (show (l.length : Int) > 12 by omega)]
    rw [decide_eq_false h, Bool.false_and]
    exact Evl.ret _
theorem sane_of_good {l : List S45} (h : good (rs l) = true) : Sane l := fun x hx => by
  have := good_ok h (r := ru x) (List.mem_map.2 ⟨x, hx, rfl⟩)
  exact ⟨by have := this.1; unfold ru at this; omega, this.2.1⟩
theorem len_of_good {l : List S45} (h : good (rs l) = true) : l.length ≤ 12 := by
  have := good_len h
  rwa [rs_length] at this

end Go.Proofs.Ytdaodlhcedjfoaa.L

/-! ## E6 -/
namespace Go.Proofs.Ytdaodlhcedjfoaa.L
open Go.RowKit Go.Proofs.YtdaodlhcedjfoaaW.PrintWords Go.Proofs.Ytdaodlhcedjfoaa.P Go.Proofs.Ytdaodlhcedjfoaa.M
set_option linter.unusedVariables false
set_option linter.unusedSimpArgs false

theorem leftBetween_l0 (l : List S45) (h : Sane l) (hi : Int) (hh : hi ≤ 2000000000) : ∀ (m : Nat) (n : Int) (acc : List Int), -2000000000 ≤ n → (m : Int) = hi + 1 - n → acc.length + m ≤ 10000000000 → Evl (fun k => impl_leftBetween.l0 k l hi acc n) (acc ++ lb (rs l) m n) := by
  intro m
  induction m with
  | zero =>
    intro n acc h0 hm hb
    refine Evl.succ ?_
    simp only [impl_leftBetween.l0, if_neg (show ¬ n ≤ hi by omega)]
    refine (Evl.ret _).cast ?_
    simp [lb]
  | succ m ih =>
    intro n acc h0 hm hb
    have hw : wrap64 (n + 1) = n + 1 := w64 (by omega) (by omega)
    refine Evl.succ ?_
    simp only [impl_leftBetween.l0, if_pos (show n ≤ hi by omega), isLeft_eq h, Option.bind_some, hw]
    unfold lb
    by_cases hp : left (rs l) n = true
    · simp only [if_pos hp, if_pos (show acc.length < 17592186044416 by omega)]
      refine (ih (n + 1) (acc ++ [n]) (by omega) (by omega) (by rw [List.length_append]; simp; omega)).cast ?_
      simp
    · simp only [if_neg hp]
      exact ih (n + 1) acc (by omega) (by omega) (by omega)
theorem leftBetween_ev {l : List S45} (h : Sane l) (lo hi : Int) (h0 : -2000000000 ≤ lo) (hh : hi ≤ 2000000000) : Evl (fun k => impl_leftBetween.f k l lo hi) (lb (rs l) (hi + 1 - lo).toNat lo) := by
  simp only [impl_leftBetween.f]
  rcases Int.lt_or_le hi lo with c | c
  · refine Evl.succ ?_
    simp only [impl_leftBetween.l0, if_neg (show ¬ lo ≤ hi by omega)]
    rw [show (hi + 1 - lo).toNat = 0 by omega]
    exact Evl.ret _
  · exact leftBetween_l0 l h hi hh (hi + 1 - lo).toNat lo [] h0 (by omega) (by simp; omega)
theorem whSpokes_l0 (l : List S45) (h : Sane l) (hl : l.length ≤ 1099511627776) (hi : Int) (hh : hi ≤ 2000000000) : ∀ (m : Nat) (n : Int) (acc : List Int), -2000000000 ≤ n → (m : Int) = hi + 1 - n → acc.length + m ≤ 10000000000 → Evl (fun k => spec_whSpokes.l0 k l hi acc n) (acc ++ lb (rs l) m n) := by
  intro m
  induction m with
  | zero =>
    intro n acc h0 hm hb
    refine Evl.succ ?_
    simp only [spec_whSpokes.l0, if_neg (show ¬ n ≤ hi by omega)]
    refine (Evl.ret _).cast ?_
    simp [lb]
  | succ m ih =>
    intro n acc h0 hm hb
    have hw : wrap64 (n + 1) = n + 1 := w64 (by omega) (by omega)
    refine Evl.succ ?_
    simp only [spec_whSpokes.l0, if_pos (show n ≤ hi by omega), hw]
    refine Evl.bind (siLeft_ev h hl n) ?_
    unfold lb
    by_cases hp : left (rs l) n = true
    · simp only [if_pos hp, if_pos (show acc.length < 17592186044416 by omega)]
      refine (ih (n + 1) (acc ++ [n]) (by omega) (by omega) (by rw [List.length_append]; simp; omega)).cast ?_
      simp
    · simp only [if_neg hp]
      exact ih (n + 1) acc (by omega) (by omega) (by omega)
theorem whSpokes_ev {l : List S45} (h : Sane l) (hl : l.length ≤ 1099511627776) (P : Nat) (hp : P ≤ 100000) : Evl (fun k => spec_whSpokes.f k l (P : Int)) (lb (rs l) P 1) := by
  simp only [spec_whSpokes.f]
  exact whSpokes_l0 l h hl (P : Int) (by omega) P 1 [] (by omega) (by omega) (by simp; omega)

/-! ### periods -/
theorem impl_gcd_l0 : ∀ (b a : Nat), Evl (fun k => impl_gcd.l0 k (a : Int) (b : Int)) ((Nat.gcd a b : Nat) : Int) := by
  intro b
  induction b using Nat.strongRecOn with
  | ind b ih =>
    intro a
    refine Evl.succ ?_
    rcases Nat.eq_zero_or_pos b with h | h
    · subst h
      simp only [impl_gcd.l0, if_neg (show ¬ ((0 : Nat) : Int) > 0 by omega)]
      rw [Nat.gcd_zero_right]
      exact Evl.ret _
    · have ht : Int.tmod (a : Int) (b : Int) = ((a % b : Nat) : Int) := rfl
      simp only [impl_gcd.l0, if_pos (show (b : Int) > 0 by omega), if_neg (show ¬ (b : Int) = 0 by omega), ht]
      refine (ih (a % b) (Nat.mod_lt _ h) b).cast ?_
      rw [Nat.gcd_comm, ← Nat.gcd_rec, Nat.gcd_comm]
theorem impl_gcd_ev (a b : Nat) : Evl (fun k => impl_gcd.f k (a : Int) (b : Int)) ((Nat.gcd a b : Nat) : Int) := by
  simp only [impl_gcd.f]
  exact impl_gcd_l0 b a
theorem spec_siCommon_l0 : ∀ (b a : Nat), Evl (fun k => spec_siCommon.l0 k (a : Int) (b : Int)) ((Nat.gcd a b : Nat) : Int) := by
  intro b
  induction b using Nat.strongRecOn with
  | ind b ih =>
    intro a
    refine Evl.succ ?_
    rcases Nat.eq_zero_or_pos b with h | h
    · subst h
      simp only [spec_siCommon.l0, if_neg (show ¬ ((0 : Nat) : Int) > 0 by omega)]
      rw [Nat.gcd_zero_right]
      exact Evl.ret _
    · have ht : Int.tmod (a : Int) (b : Int) = ((a % b : Nat) : Int) := rfl
      simp only [spec_siCommon.l0, if_pos (show (b : Int) > 0 by omega), if_neg (show ¬ (b : Int) = 0 by omega), ht]
      refine (ih (a % b) (Nat.mod_lt _ h) b).cast ?_
      rw [Nat.gcd_comm, ← Nat.gcd_rec, Nat.gcd_comm]
theorem spec_siCommon_ev (a b : Nat) : Evl (fun k => spec_siCommon.f k (a : Int) (b : Int)) ((Nat.gcd a b : Nat) : Int) := by
  simp only [spec_siCommon.f]
  exact spec_siCommon_l0 b a
theorem per_step {p e : Nat} (hp : 1 ≤ p) (hp2 : p ≤ 100000) (he : 1 ≤ e) (he2 : e ≤ 60) :
    1 ≤ Nat.gcd p e ∧ wrap64 (Int.tdiv (p : Int) ((Nat.gcd p e : Nat) : Int)) = ((p / Nat.gcd p e : Nat) : Int) ∧ wrap64 (((p / Nat.gcd p e : Nat) : Int) * (e : Int)) = ((p / Nat.gcd p e * e : Nat) : Int) := by
  have hg : 1 ≤ Nat.gcd p e := Nat.gcd_pos_of_pos_left _ (by omega)
  have hq : p / Nat.gcd p e ≤ p := Nat.div_le_self _ _
  have ht : Int.tdiv (p : Int) ((Nat.gcd p e : Nat) : Int) = ((p / Nat.gcd p e : Nat) : Int) := rfl
  generalize p / Nat.gcd p e = q at hq ht
  refine ⟨hg, by rw [ht]; exact w64 (by omega) (by omega), ?_⟩
  have hm : q * e ≤ 100000 * 60 := Nat.mul_le_mul (by omega) he2
  rw [← Int.natCast_mul]
  exact w64 (by omega) (by omega)
theorem lcmOf_l0 (l : List S45) (h : Sane l) (hl : l.length ≤ 1099511627776) : ∀ (s : List S45) (i p : Nat), l.drop i = s → 1 ≤ p → p ≤ 100000 →
    Evl (fun k => impl_lcmOf.l0 k (p : Int) l (l.length : Int) (i : Int)) (match per p (rs s) with | some P => ((P : Int), true) | none => (0, false)) := by
  intro s
  induction s with
  | nil =>
    intro i p hd h1 h2
    have hi := drop_nil hd
    refine Evl.succ ?_
    simp only [impl_lcmOf.l0, if_neg (show ¬ (i : Int) < (l.length : Int) by omega)]
    exact Evl.ret _
  | cons x s ih =>
    intro i p hd h1 h2
    obtain ⟨hi, hx, hs⟩ := drop_cons hd
    have hsx := h x (List.mem_of_getElem? hx)
    have hw : wrap64 ((i : Int) + 1) = ((i + 1 : Nat) : Int) := by rw [w64 (by omega) (by omega)]; rfl
    obtain ⟨e, he⟩ := Int.eq_ofNat_of_zero_le (show 0 ≤ x.f0 by omega)
    obtain ⟨g1, g2, g3⟩ := per_step h1 h2 (show 1 ≤ e by omega) (show e ≤ 60 by omega)
    have e1 : rs (x :: s) = ru x :: rs s := rfl
    have e2 : (ru x).1.toNat = e := by show x.f0.toNat = e; rw [he]; exact Int.toNat_natCast e
    refine Evl.succ ?_
    simp only [impl_lcmOf.l0, if_pos (show (i : Int) < (l.length : Int) by omega), if_pos (show (0 : Int) ≤ (i : Int) by omega), rdT_of hx, hw, he]
    refine Evl.bind (impl_gcd_ev p e) ?_
    rw [e1, per, e2]
    simp only [if_neg (show ¬ ((Nat.gcd p e : Nat) : Int) = 0 by omega), g2, g3]
    have hpos : 1 ≤ p / Nat.gcd p e * e := by rw [lcm_eq]; exact Nat.lcm_pos (by omega) (by omega)
    generalize p / Nat.gcd p e * e = q at hpos
    by_cases c : 100000 < q
    · simp only [if_pos c, if_pos (show (q : Int) > 100000 by omega)]
      exact Evl.ret _
    · simp only [if_neg c, if_neg (show ¬ (q : Int) > 100000 by omega)]
      exact ih (i + 1) q hs hpos (by omega)
theorem lcmOf_ev {l : List S45} (h : Sane l) (hl : l.length ≤ 1099511627776) : Evl (fun k => impl_lcmOf.f k l) (match per 1 (rs l) with | some P => ((P : Int), true) | none => (0, false)) := by
  simp only [impl_lcmOf.f]
  exact lcmOf_l0 l h hl l 0 1 rfl (by omega) (by omega)
theorem siPeriod_l0 (l : List S45) (h : Sane l) (hl : l.length ≤ 1099511627776) : ∀ (s : List S45) (i p : Nat), l.drop i = s → 1 ≤ p → p ≤ 100000 →
    Evl (fun k => spec_siPeriod.l0 k (p : Int) l (l.length : Int) (i : Int)) (match per p (rs s) with | some P => (P : Int) | none => 0) := by
  intro s
  induction s with
  | nil =>
    intro i p hd h1 h2
    have hi := drop_nil hd
    refine Evl.succ ?_
    simp only [spec_siPeriod.l0, if_neg (show ¬ (i : Int) < (l.length : Int) by omega)]
    exact Evl.ret _
  | cons x s ih =>
    intro i p hd h1 h2
    obtain ⟨hi, hx, hs⟩ := drop_cons hd
    have hsx := h x (List.mem_of_getElem? hx)
    have hw : wrap64 ((i : Int) + 1) = ((i + 1 : Nat) : Int) := by rw [w64 (by omega) (by omega)]; rfl
    obtain ⟨e, he⟩ := Int.eq_ofNat_of_zero_le (show 0 ≤ x.f0 by omega)
    obtain ⟨g1, g2, g3⟩ := per_step h1 h2 (show 1 ≤ e by omega) (show e ≤ 60 by omega)
    have e1 : rs (x :: s) = ru x :: rs s := rfl
    have e2 : (ru x).1.toNat = e := by show x.f0.toNat = e; rw [he]; exact Int.toNat_natCast e
    refine Evl.succ ?_
    simp only [spec_siPeriod.l0, if_pos (show (i : Int) < (l.length : Int) by omega), if_pos (show (0 : Int) ≤ (i : Int) by omega), rdT_of hx, hw, he]
    refine Evl.bind (spec_siCommon_ev p e) ?_
    rw [e1, per, e2]
    simp only [if_neg (show ¬ ((Nat.gcd p e : Nat) : Int) = 0 by omega), g2, g3]
    have hpos : 1 ≤ p / Nat.gcd p e * e := by rw [lcm_eq]; exact Nat.lcm_pos (by omega) (by omega)
    generalize p / Nat.gcd p e * e = q at hpos
    by_cases c : 100000 < q
    · simp only [if_pos c, if_pos (show (q : Int) > 100000 by omega)]
      exact Evl.ret _
    · simp only [if_neg c, if_neg (show ¬ (q : Int) > 100000 by omega)]
      exact ih (i + 1) q hs hpos (by omega)
theorem siPeriod_ev {l : List S45} (h : Sane l) (hl : l.length ≤ 1099511627776) : Evl (fun k => spec_siPeriod.f k l) (match per 1 (rs l) with | some P => (P : Int) | none => 0) := by
  simp only [spec_siPeriod.f]
  exact siPeriod_l0 l h hl l 0 1 rfl (by omega) (by omega)
theorem periodOf_ev (l : List S45) : Evl (fun k => impl_periodOf.f k l) (if good (rs l) = true then (match per 1 (rs l) with | some P => ((P : Int), true) | none => (0, false)) else (0, false)) := by
  simp only [impl_periodOf.f, areRules_eq, Option.bind_some]
  by_cases g : good (rs l) = true
  · have hl := len_of_good g
    simp only [if_pos g]
    refine Evl.bind (lcmOf_ev (sane_of_good g) (by omega)) ?_
    refine (Evl.ret _).cast ?_
    cases per 1 (rs l) <;> rfl
  · simp only [if_neg g]
    exact Evl.ret _
/-- A wheel as the program makes it: told apart by whl. -/
theorem wheelOf_ev (l : List S45) : (∃ P, whl (rs l) = some P ∧ Evl (fun k => impl_wheelOf.f k l) ((P : Int), lb (rs l) P 1, true)) ∨ (whl (rs l) = none ∧ ∃ x y, Evl (fun k => impl_wheelOf.f k l) (x, y, false)) := by
  have hp := periodOf_ev l
  unfold whl
  by_cases g : good (rs l) = true
  · rw [if_pos g] at hp ⊢
    cases c : per 1 (rs l) with
    | none =>
      rw [c] at hp
      refine .inr ⟨rfl, 0, [], ?_⟩
      simp only [impl_wheelOf.f]
      refine Evl.bind hp ?_
      simp only [Bool.false_eq_true, if_false]
      exact Evl.ret _
    | some P =>
      rw [c] at hp
      dsimp only
      by_cases c5 : P ≤ 5000
      · have hw : Evl (fun k => impl_wheelOf.f k l) ((P : Int), lb (rs l) P 1, decide (((lb (rs l) P 1).length : Int) > 0)) := by
          simp only [impl_wheelOf.f]
          refine Evl.bind hp ?_
          simp only [if_true, if_neg (show ¬ (P : Int) > 5000 by omega)]
          have hb := leftBetween_ev (sane_of_good g) 1 (P : Int) (by omega) (by omega)
          rw [show ((P : Int) + 1 - 1).toNat = P by omega] at hb
          exact Evl.bind hb (Evl.ret _)
        by_cases ce : lb (rs l) P 1 = []
        · rw [if_neg (fun x => x.2 ce)]
          refine .inr ⟨rfl, (P : Int), [], ?_⟩
          rw [ce] at hw
          exact hw
        · rw [if_pos ⟨c5, ce⟩]
          refine .inl ⟨P, rfl, ?_⟩
          have : decide (((lb (rs l) P 1).length : Int) > 0) = true := decide_eq_true (by have := List.length_pos_iff.2 ce; omega)
          rw [this] at hw
          exact hw
      · rw [if_neg (fun x => c5 x.1)]
        refine .inr ⟨rfl, 0, [], ?_⟩
        simp only [impl_wheelOf.f]
        refine Evl.bind hp ?_
        simp only [if_true, if_pos (show (P : Int) > 5000 by omega)]
        exact Evl.ret _
  · rw [if_neg g] at hp ⊢
    refine .inr ⟨rfl, 0, [], ?_⟩
    simp only [impl_wheelOf.f]
    refine Evl.bind hp ?_
    simp only [Bool.false_eq_true, if_false]
    exact Evl.ret _
theorem whPeriod_l0 (l : List S45) (h : Sane l) (hl : l.length ≤ 1099511627776) (P : Nat) (hp : P ≤ 5000) : ∀ (m n : Nat), m + n = P → Evl (fun k => spec_whPeriod.l0 k l (P : Int) (n : Int)) (if lb (rs l) m (n : Int) = [] then 0 else (P : Int)) := by
  intro m
  induction m with
  | zero =>
    intro n hn
    refine Evl.succ ?_
    simp only [spec_whPeriod.l0, if_neg (show ¬ (n : Int) < (P : Int) by omega)]
    exact Evl.ret _
  | succ m ih =>
    intro n hn
    have hw : wrap64 ((n : Int) + 1) = ((n + 1 : Nat) : Int) := by rw [w64 (by omega) (by omega)]; rfl
    refine Evl.succ ?_
    simp only [spec_whPeriod.l0, if_pos (show (n : Int) < (P : Int) by omega), hw]
    refine Evl.bind (siLeft_ev h hl (n : Int)) ?_
    unfold lb
    by_cases c : left (rs l) (n : Int) = true
    · simp only [if_pos c]
      refine (Evl.ret _).cast ?_
      rw [if_neg (by simp)]
    · simp only [if_neg c]
      exact ih (n + 1) (by omega)
/-- Whether one is left in 0 .. P - 1 is whether one is in 1 .. P. -/
theorem lb_shift {q : List Ru} {P : Nat} (h1 : 1 ≤ P) (hd : ∀ r ∈ q, r.1.toNat ∣ P) (hp : ∀ r ∈ q, 1 ≤ r.1) : lb q P 0 = [] ↔ lb q P 1 = [] := by
  have key : ∀ (n : Int), lb q P n = [] ↔ ∀ x, n ≤ x → x < n + P → left q x = false := by
    intro n
    constructor
    · intro h x hx hx2
      cases c : left q x with
      | false => rfl
      | true =>
        have := (lb_mem q P n x).2 ⟨hx, hx2, c⟩
        rw [h] at this
        cases this
    · intro h
      rcases e : lb q P n with _ | ⟨x, s⟩
      · rfl
      · have := (lb_mem q P n x).1 (by rw [e]; simp)
        rw [h x this.1 this.2.1] at this
        cases this.2.2
  have hsh : left q (0 + (P : Int)) = left q 0 := by
    have := left_add hd hp 0 1
    rwa [Int.mul_one] at this
  rw [Int.zero_add] at hsh
  rw [key, key]
  constructor
  · intro h x hx hx2
    by_cases c : x = (P : Int)
    · rw [c, hsh]; exact h 0 (by omega) (by omega)
    · exact h x (by omega) (by omega)
  · intro h x hx hx2
    by_cases c : x = 0
    · rw [c, ← hsh]; exact h P (by omega) (by omega)
    · exact h x (by omega) (by omega)
theorem whPeriod_ev (l : List S45) : Evl (fun k => spec_whPeriod.f k l) (match whl (rs l) with | some P => (P : Int) | none => 0) := by
  simp only [spec_whPeriod.f]
  refine Evl.bind (siGood_ev l) ?_
  unfold whl
  by_cases g : good (rs l) = true
  · have hl := len_of_good g
    simp only [if_pos g]
    refine Evl.bind (siPeriod_ev (sane_of_good g) (by omega)) ?_
    cases c : per 1 (rs l) with
    | none =>
      refine Evl.succ ?_
      simp only [if_neg (show ¬ (0 : Int) > 5000 by omega), spec_whPeriod.l0, if_neg (show ¬ (0 : Int) < 0 by omega)]
      exact Evl.ret _
    | some P =>
      dsimp only
      obtain ⟨g1, g2, _, g4⟩ := per_spec (rs l) 1 P (by omega) (by omega) (fun r hr => by have := good_ok g hr; omega) c
      by_cases c5 : P ≤ 5000
      · simp only [if_neg (show ¬ (P : Int) > 5000 by omega)]
        refine (whPeriod_l0 l (sane_of_good g) (by omega) P c5 P 0 rfl).cast ?_
        have hs : lb (rs l) P ((0 : Nat) : Int) = [] ↔ lb (rs l) P 1 = [] := lb_shift g1 g4 (fun r hr => by have := good_ok g hr; omega)
        by_cases ce : lb (rs l) P 1 = []
        · rw [if_pos (hs.2 ce), if_neg (fun x : P ≤ 5000 ∧ lb (rs l) P 1 ≠ [] => x.2 ce)]
        · rw [if_neg (fun x => ce (hs.1 x)), if_pos (show P ≤ 5000 ∧ lb (rs l) P 1 ≠ [] from ⟨c5, ce⟩)]
      · simp only [if_pos (show (P : Int) > 5000 by omega), if_neg (fun x : P ≤ 5000 ∧ lb (rs l) P 1 ≠ [] => c5 x.1)]
        exact Evl.ret _
  · simp only [if_neg g]
    exact Evl.ret _

end Go.Proofs.Ytdaodlhcedjfoaa.L

/-! ## E8 -/
namespace Go.Proofs.Ytdaodlhcedjfoaa.L
open Go.RowKit Go.Proofs.YtdaodlhcedjfoaaW.PrintWords Go.Proofs.Ytdaodlhcedjfoaa.P Go.Proofs.Ytdaodlhcedjfoaa.M
set_option linter.unusedVariables false
set_option linter.unusedSimpArgs false

/-- The differences from each to the next; behind the last one the first one of the next period. -/
def stepsL (first P : Int) : List Int → List Int
  | [] => []
  | [x] => [first + P - x]
  | x :: y :: t => (y - x) :: stepsL first P (y :: t)
theorem stepsL_length (first P : Int) : ∀ l : List Int, (stepsL first P l).length = l.length
  | [] => rfl
  | [x] => rfl
  | x :: y :: t => by rw [stepsL, List.length_cons, stepsL_length first P (y :: t)]; rfl
/-- The steps of a wheel. -/
def steps (q : List Ru) (P : Nat) : List Int := stepsL ((lb q P 1).headD 0) P (lb q P 1)
theorem steps_length (q : List Ru) (P : Nat) : (steps q P).length = (lb q P 1).length := stepsL_length _ _ _

theorem wheel_steps_l0 (xs : List Int) (P first : Int) (hx : ∀ x ∈ xs, 0 ≤ x ∧ x ≤ 1000000) (hP : 0 ≤ P ∧ P ≤ 1000000) (hf : rd xs 0 = first) (hl : xs.length ≤ 1000000) : ∀ (s : List Int) (i : Nat) (acc : List Int), xs.drop i = s → acc.length + s.length ≤ 1000000 →
    Evl (fun k => impl_wheel_steps.l0 k acc xs (xs.length : Int) (i : Int) P xs) (acc ++ stepsL first P s) := by
  intro s
  induction s with
  | nil =>
    intro i acc hd ha
    have hi := drop_nil hd
    refine Evl.succ ?_
    simp only [impl_wheel_steps.l0, if_neg (show ¬ (i : Int) < (xs.length : Int) by omega)]
    refine (Evl.ret _).cast ?_
    simp [stepsL]
  | cons x s ih =>
    intro i acc hd ha
    obtain ⟨hi, hxx, hs⟩ := drop_cons hd
    have bx := hx x (List.mem_of_getElem? hxx)
    rw [List.length_cons] at ha
    have hw : wrap64 ((i : Int) + 1) = ((i + 1 : Nat) : Int) := by rw [w64 (by omega) (by omega)]; rfl
    refine Evl.succ ?_
    simp only [impl_wheel_steps.l0, if_pos (show (i : Int) < (xs.length : Int) by omega), if_pos (show (0 : Int) ≤ (i : Int) by omega), hw, rd_of hxx]
    cases s with
    | nil =>
      have hn := drop_nil hs
      have bf : 0 ≤ first ∧ first ≤ 1000000 := by
        have h0 : 0 < xs.length := by omega
        have := hx xs[0] (List.getElem_mem h0)
        have e : rd xs 0 = xs[0] := rd_nat (i := 0) h0
        rw [← hf, e]; exact this
      have e1 : wrap64 (rd xs 0 + P) = first + P := by rw [hf]; exact w64 (by omega) (by omega)
      have e2 : wrap64 (first + P - x) = first + P - x := w64 (by omega) (by omega)
      simp only [if_neg (show ¬ ((i + 1 : Nat) : Int) < (xs.length : Int) by omega), if_pos (show (0 : Int) < (xs.length : Int) by omega), if_pos (show acc.length < 17592186044416 by omega), e1, e2]
      refine (ih (i + 1) _ hs (by rw [List.length_append, List.length_singleton]; simp; omega)).cast ?_
      simp [stepsL]
    | cons y t =>
      obtain ⟨hi2, hy, _⟩ := drop_cons hs
      have byy := hx y (List.mem_of_getElem? hy)
      have e2 : wrap64 (y - x) = y - x := w64 (by omega) (by omega)
      simp only [if_pos (show ((i + 1 : Nat) : Int) < (xs.length : Int) by omega), if_pos (show (0 : Int) ≤ ((i + 1 : Nat) : Int) by omega), if_pos (show acc.length < 17592186044416 by omega), rd_of hy, e2]
      refine (ih (i + 1) _ hs (by rw [List.length_append, List.length_singleton]; omega)).cast ?_
      simp [stepsL]
theorem wheel_bounds {q : List Ru} {P : Nat} (h : P ≤ 5000) : ∀ x ∈ lb q P 1, 0 ≤ x ∧ x ≤ 1000000 := fun x hx => by
  have := (lb_mem q P 1 x).1 hx
  omega
theorem rd_head (xs : List Int) : rd xs 0 = xs.headD 0 := by cases xs <;> rfl
theorem wheel_steps_ev (q : List Ru) (P : Nat) (h : P ≤ 5000) : Evl (fun k => impl_wheel_steps.f k (P : Int) (lb q P 1)) (steps q P) := by
  simp only [impl_wheel_steps.f]
  have hl := lb_length q P 1
  exact wheel_steps_l0 (lb q P 1) (P : Int) _ (wheel_bounds h) (by omega) (rd_head _) (by omega) _ 0 [] rfl (by simp; omega)
theorem whSteps_l0 (xs : List Int) (P first : Int) (hx : ∀ x ∈ xs, 0 ≤ x ∧ x ≤ 1000000) (hP : 0 ≤ P ∧ P ≤ 1000000) (hf : rd xs 0 = first) (hl : xs.length ≤ 1000000) : ∀ (s : List Int) (i : Nat) (acc : List Int), xs.drop i = s → acc.length + s.length ≤ 1000000 →
    Evl (fun k => spec_whSteps.l0 k P xs acc xs (xs.length : Int) (i : Int)) (acc ++ stepsL first P s) := by
  intro s
  induction s with
  | nil =>
    intro i acc hd ha
    have hi := drop_nil hd
    refine Evl.succ ?_
    simp only [spec_whSteps.l0, if_neg (show ¬ (i : Int) < (xs.length : Int) by omega)]
    refine (Evl.ret _).cast ?_
    simp [stepsL]
  | cons x s ih =>
    intro i acc hd ha
    obtain ⟨hi, hxx, hs⟩ := drop_cons hd
    have bx := hx x (List.mem_of_getElem? hxx)
    rw [List.length_cons] at ha
    have hw : wrap64 ((i : Int) + 1) = ((i + 1 : Nat) : Int) := by rw [w64 (by omega) (by omega)]; rfl
    have bf : 0 ≤ first ∧ first ≤ 1000000 := by
      have h0 : 0 < xs.length := by omega
      have := hx xs[0] (List.getElem_mem h0)
      have e : rd xs 0 = xs[0] := rd_nat (i := 0) h0
      rw [← hf, e]; exact this
    have e1 : wrap64 (rd xs 0 + P) = first + P := by rw [hf]; exact w64 (by omega) (by omega)
    refine Evl.succ ?_
    simp only [spec_whSteps.l0, if_pos (show (i : Int) < (xs.length : Int) by omega), if_pos (show (0 : Int) ≤ (i : Int) by omega), if_pos (show (0 : Int) < (xs.length : Int) by omega), hw, rd_of hxx, e1]
    cases s with
    | nil =>
      have hn := drop_nil hs
      have e2 : wrap64 (first + P - x) = first + P - x := w64 (by omega) (by omega)
      simp only [if_neg (show ¬ ((i + 1 : Nat) : Int) < (xs.length : Int) by omega), if_pos (show acc.length < 17592186044416 by omega), e2]
      refine (ih (i + 1) _ hs (by rw [List.length_append, List.length_singleton]; simp; omega)).cast ?_
      simp [stepsL]
    | cons y t =>
      obtain ⟨hi2, hy, _⟩ := drop_cons hs
      have byy := hx y (List.mem_of_getElem? hy)
      have e2 : wrap64 (y - x) = y - x := w64 (by omega) (by omega)
      simp only [if_pos (show ((i + 1 : Nat) : Int) < (xs.length : Int) by omega), if_pos (show (0 : Int) ≤ ((i + 1 : Nat) : Int) by omega), if_pos (show acc.length < 17592186044416 by omega), rd_of hy, e2]
      refine (ih (i + 1) _ hs (by rw [List.length_append, List.length_singleton]; omega)).cast ?_
      simp [stepsL]
theorem whSteps_ev (l : List S45) (h : Sane l) (hl : l.length ≤ 1099511627776) (P : Nat) (hp : P ≤ 5000) : Evl (fun k => spec_whSteps.f k l (P : Int)) (steps (rs l) P) := by
  simp only [spec_whSteps.f]
  refine Evl.bind (whSpokes_ev h hl P (by omega)) ?_
  have hll := lb_length (rs l) P 1
  exact whSteps_l0 (lb (rs l) P 1) (P : Int) _ (wheel_bounds hp) (by omega) (rd_head _) (by omega) _ 0 [] rfl (by simp; omega)

end Go.Proofs.Ytdaodlhcedjfoaa.L

/-! ## X5 -/
namespace Go.Proofs.Ytdaodlhcedjfoaa.L
open Go.RowKit Go.Proofs.YtdaodlhcedjfoaaW.PrintWords Go.Proofs.Ytdaodlhcedjfoaa.P Go.Proofs.Ytdaodlhcedjfoaa.M
set_option linter.unusedVariables false
set_option linter.unusedSimpArgs false

/-- A wheel, or none, as both tell it. -/
theorem wheel_cases (l : List S45) : (∃ P : Nat, Wheel (rs l) P ∧ Evl (fun k => impl_wheelOf.f k l) ((P : Int), lb (rs l) P 1, true) ∧ Evl (fun k => spec_whPeriod.f k l) (P : Int) ∧ Sane l ∧ l.length ≤ 1099511627776 ∧ ¬ (P : Int) = 0 ∧ 1 ≤ P ∧ P ≤ 5000) ∨
    ((∃ x y, Evl (fun k => impl_wheelOf.f k l) (x, y, false)) ∧ Evl (fun k => spec_whPeriod.f k l) 0) := by
  have hs := whPeriod_ev l
  rcases wheelOf_ev l with ⟨P, hw, hi⟩ | ⟨hw, hi⟩
  · have hW := whl_spec hw
    rw [hw] at hs
    have := len_of_good hW.good
    have h1 := hW.pos
    exact .inl ⟨P, hW, hi, hs, sane_of_good hW.good, by omega, by omega, h1, hW.most⟩
  · rw [hw] at hs
    exact .inr ⟨hi, hs⟩

theorem FnExactCountSpokes_main (l : List S45) (hlc : l.length ≤ 1099511627776) : ∃ r b, Evl (fun k => spec_CountSpokes.f k l) (r, b) ∧ Evl (fun k => impl_CountSpokes.f k l) (r, b) := by
  rcases wheel_cases l with ⟨P, hW, hi, hs, hsane, hl, hz, h1, h5⟩ | ⟨⟨x, y, hi⟩, hs⟩
  · refine ⟨((lb (rs l) P 1).length : Int), true, ?_, ?_⟩
    · simp only [spec_CountSpokes.f]
      refine Evl.bind hs ?_
      simp only [if_neg hz]
      exact Evl.bind (whSpokes_ev hsane hl P (by omega)) (Evl.ret _)
    · simp only [impl_CountSpokes.f]
      refine Evl.bind hi ?_
      simp only [if_true]
      exact Evl.ret _
  · refine ⟨0, false, ?_, ?_⟩
    · simp only [spec_CountSpokes.f]
      refine Evl.bind hs ?_
      simp only [if_true]
      exact Evl.ret _
    · simp only [impl_CountSpokes.f]
      refine Evl.bind hi ?_
      simp only [Bool.false_eq_true, if_false]
      exact Evl.ret _
theorem FnExactSpokesOf_main (l : List S45) (hlc : l.length ≤ 1099511627776) : ∃ r b, Evl (fun k => spec_SpokesOf.f k l) (r, b) ∧ Evl (fun k => impl_SpokesOf.f k l) (r, b) ∧ r.length ≤ 1099511627776 := by
  rcases wheel_cases l with ⟨P, hW, hi, hs, hsane, hl, hz, h1, h5⟩ | ⟨⟨x, y, hi⟩, hs⟩
  · refine ⟨lb (rs l) P 1, true, ?_, ?_, by have := lb_length (rs l) P 1; omega⟩
    · simp only [spec_SpokesOf.f]
      refine Evl.bind hs ?_
      simp only [if_neg hz]
      exact Evl.bind (whSpokes_ev hsane hl P (by omega)) (Evl.ret _)
    · simp only [impl_SpokesOf.f]
      refine Evl.bind hi ?_
      simp only [if_true]
      exact Evl.ret _
  · refine ⟨[], false, ?_, ?_, by simp⟩
    · simp only [spec_SpokesOf.f]
      refine Evl.bind hs ?_
      simp only [if_true]
      exact Evl.ret _
    · simp only [impl_SpokesOf.f]
      refine Evl.bind hi ?_
      simp only [Bool.false_eq_true, if_false]
      exact Evl.ret _
theorem FnExactStepsOf_main (l : List S45) (hlc : l.length ≤ 1099511627776) : ∃ r b, Evl (fun k => spec_StepsOf.f k l) (r, b) ∧ Evl (fun k => impl_StepsOf.f k l) (r, b) ∧ r.length ≤ 1099511627776 := by
  rcases wheel_cases l with ⟨P, hW, hi, hs, hsane, hl, hz, h1, h5⟩ | ⟨⟨x, y, hi⟩, hs⟩
  · refine ⟨steps (rs l) P, true, ?_, ?_, by have := lb_length (rs l) P 1; rw [steps_length]; omega⟩
    · simp only [spec_StepsOf.f]
      refine Evl.bind hs ?_
      simp only [if_neg hz]
      exact Evl.bind (whSteps_ev l hsane hl P h5) (Evl.ret _)
    · simp only [impl_StepsOf.f]
      refine Evl.bind hi ?_
      simp only [if_true]
      exact Evl.bind (wheel_steps_ev (rs l) P h5) (Evl.ret _)
  · refine ⟨[], false, ?_, ?_, by simp⟩
    · simp only [spec_StepsOf.f]
      refine Evl.bind hs ?_
      simp only [if_true]
      exact Evl.ret _
    · simp only [impl_StepsOf.f]
      refine Evl.bind hi ?_
      simp only [Bool.false_eq_true, if_false]
      exact Evl.ret _

theorem isFar_eq (a : Int) : impl_isFar.f a = some (decide (0 ≤ a ∧ a ≤ 1000000000)) := by
  unfold impl_isFar.f
  by_cases h : a ≥ 0
  · rw [if_pos h]
    by_cases h2 : a ≤ 1000000000
    · rw [decide_eq_true h2, decide_eq_true ⟨h, h2⟩]
    · rw [decide_eq_false h2, decide_eq_false (fun c => h2 c.2)]
  · rw [if_neg h, decide_eq_false (fun c => h c.1)]
theorem whFar_eq (a : Int) : spec_whFar.f a = some (decide (0 ≤ a ∧ a ≤ 1000000000)) := by
  unfold spec_whFar.f
  rw [l1In_eq]
  rfl

/-! ### counting -/
theorem FnExactIsSpoke_main (l : List S45) (a1 : Int) (hlc : l.length ≤ 1099511627776) (h1 : (Lit.int .i64 a1).wf = true) : ∃ r b, Evl (fun k => spec_IsSpoke.f k l a1) (r, b) ∧ Evl (fun k => impl_IsSpoke.f k l a1) (r, b) := by
  rcases wheel_cases l with ⟨P, hW, hi, hs, hsane, hl, hz, h1, h5⟩ | ⟨⟨x, y, hi⟩, hs⟩
  · by_cases c : 0 ≤ a1 ∧ a1 ≤ 1000000000
    · refine ⟨left (rs l) a1, true, ?_, ?_⟩
      · simp only [spec_IsSpoke.f]
        refine Evl.bind hs ?_
        simp only [if_neg hz, whFar_eq, decide_eq_true c, Option.bind_some, if_true]
        exact Evl.bind (siLeft_ev hsane hl a1) (Evl.ret _)
      · simp only [impl_IsSpoke.f]
        refine Evl.bind hi ?_
        simp only [if_true, isFar_eq, decide_eq_true c, Option.bind_some, isLeft_eq hsane]
        exact Evl.ret _
    · refine ⟨false, false, ?_, ?_⟩
      · simp only [spec_IsSpoke.f]
        refine Evl.bind hs ?_
        simp only [if_neg hz, whFar_eq, decide_eq_false c, Option.bind_some, Bool.false_eq_true, if_false]
        exact Evl.ret _
      · simp only [impl_IsSpoke.f]
        refine Evl.bind hi ?_
        simp only [if_true, isFar_eq, decide_eq_false c, Option.bind_some, Bool.false_eq_true, if_false]
        exact Evl.ret _
  · refine ⟨false, false, ?_, ?_⟩
    · simp only [spec_IsSpoke.f]
      refine Evl.bind hs ?_
      simp only [if_true]
      exact Evl.ret _
    · simp only [impl_IsSpoke.f]
      refine Evl.bind hi ?_
      simp only [Bool.false_eq_true, if_false]
      exact Evl.ret _



end Go.Proofs.Ytdaodlhcedjfoaa.L

/-! ## X6 -/
namespace Go.Proofs.Ytdaodlhcedjfoaa.L
open Go.RowKit Go.Proofs.YtdaodlhcedjfoaaW.PrintWords Go.Proofs.Ytdaodlhcedjfoaa.P Go.Proofs.Ytdaodlhcedjfoaa.M
set_option linter.unusedVariables false
set_option linter.unusedSimpArgs false

/-- Some number at or behind n is left, less than a period on. -/
theorem exists_left {q : List Ru} {P : Nat} (h : Wheel q P) (n : Int) : ∃ d : Nat, d < P ∧ left q (n + d) = true := by
  obtain ⟨x, s, hxs⟩ : ∃ x s, lb q P 1 = x :: s := by
    cases e : lb q P 1 with
    | nil => exact absurd e h.some
    | cons x s => exact ⟨x, s, rfl⟩
  have hx := (lb_mem q P 1 x).1 (by rw [hxs]; simp)
  have hP := h.pos
  have h0 := Int.emod_nonneg (x - n) (show (P : Int) ≠ 0 by omega)
  have h1 := Int.emod_lt_of_pos (x - n) (show 0 < (P : Int) by omega)
  have hd := Int.emod_add_mul_ediv (x - n) (P : Int)
  obtain ⟨d, hdd⟩ := Int.eq_ofNat_of_zero_le h0
  refine ⟨d, by omega, ?_⟩
  have e : n + (d : Int) = x + (P : Int) * (-((x - n) / (P : Int))) := by
    rw [Int.mul_neg]
    omega
  rw [e, h.add]
  exact hx.2.2

def near (q : List Ru) (n : Int) : Nat → Int → Int
  | 0, d => n + d
  | m + 1, d => if left q (n - d) = true then n - d else if left q (n + d) = true then n + d else near q n m (d + 1)
theorem spec_SpokeNear_l0 (l : List S45) (hsane : Sane l) (hl : l.length ≤ 1099511627776) (n : Int) (hn : 0 ≤ n ∧ n ≤ 1000000000) : ∀ (m d : Nat), m + d ≤ 1000000 → (∃ e : Nat, d ≤ e ∧ e < d + m ∧ left (rs l) (n + e) = true) →
    Evl (fun k => spec_SpokeNear.l0 k l n (d : Int)) (near (rs l) n m (d : Int), true) := by
  intro m
  induction m with
  | zero =>
    intro d hd ⟨e, h1, h2, _⟩
    omega
  | succ m ih =>
    intro d hd ⟨e, h1, h2, h3⟩
    have hw1 : wrap64 (n - (d : Int)) = n - (d : Int) := w64 (by omega) (by omega)
    have hw2 : wrap64 (n + (d : Int)) = n + (d : Int) := w64 (by omega) (by omega)
    have hw : wrap64 ((d : Int) + 1) = ((d + 1 : Nat) : Int) := by rw [w64 (by omega) (by omega)]; rfl
    refine Evl.succ ?_
    simp only [spec_SpokeNear.l0, hw1, hw2, hw]
    first | refine Evl.bind (siLeft_ev hsane hl (n - (d : Int))) ?_ | simp only [isLeft_eq hsane, Option.bind_some]
    unfold near
    by_cases c1 : left (rs l) (n - (d : Int)) = true
    · simp only [if_pos c1]
      exact Evl.ret _
    · simp only [if_neg c1]
      first | refine Evl.bind (siLeft_ev hsane hl (n + (d : Int))) ?_ | skip
      by_cases c2 : left (rs l) (n + (d : Int)) = true
      · simp only [if_pos c2]
        exact Evl.ret _
      · simp only [if_neg c2]
        refine ih (d + 1) (by omega) ⟨e, ?_, by omega, h3⟩
        have hne : e ≠ d := fun x => c2 (x ▸ h3)
        omega
theorem impl_SpokeNear_l0 (l : List S45) (hsane : Sane l) (hl : l.length ≤ 1099511627776) (n : Int) (hn : 0 ≤ n ∧ n ≤ 1000000000) : ∀ (m d : Nat), m + d ≤ 1000000 → (∃ e : Nat, d ≤ e ∧ e < d + m ∧ left (rs l) (n + e) = true) →
    Evl (fun k => impl_SpokeNear.l0 k l n (d : Int)) (near (rs l) n m (d : Int), true) := by
  intro m
  induction m with
  | zero =>
    intro d hd ⟨e, h1, h2, _⟩
    omega
  | succ m ih =>
    intro d hd ⟨e, h1, h2, h3⟩
    have hw1 : wrap64 (n - (d : Int)) = n - (d : Int) := w64 (by omega) (by omega)
    have hw2 : wrap64 (n + (d : Int)) = n + (d : Int) := w64 (by omega) (by omega)
    have hw : wrap64 ((d : Int) + 1) = ((d + 1 : Nat) : Int) := by rw [w64 (by omega) (by omega)]; rfl
    refine Evl.succ ?_
    simp only [impl_SpokeNear.l0, hw1, hw2, hw]
    first | refine Evl.bind (siLeft_ev hsane hl (n - (d : Int))) ?_ | simp only [isLeft_eq hsane, Option.bind_some]
    unfold near
    by_cases c1 : left (rs l) (n - (d : Int)) = true
    · simp only [if_pos c1]
      exact Evl.ret _
    · simp only [if_neg c1]
      first | refine Evl.bind (siLeft_ev hsane hl (n + (d : Int))) ?_ | skip
      by_cases c2 : left (rs l) (n + (d : Int)) = true
      · simp only [if_pos c2]
        exact Evl.ret _
      · simp only [if_neg c2]
        refine ih (d + 1) (by omega) ⟨e, ?_, by omega, h3⟩
        have hne : e ≠ d := fun x => c2 (x ▸ h3)
        omega
theorem spec_SN_no (l : List S45) (a : Int) : Evl (fun k => spec_SpokeNear.j0 k l a true) (0, false) := by
  refine Evl.succ ?_
  simp only [spec_SpokeNear.j0, if_true]
  exact Evl.ret _
theorem impl_SN_no (l : List S45) (a : Int) : Evl (fun k => impl_SpokeNear.j0 k l a true) (0, false) := by
  refine Evl.succ ?_
  simp only [impl_SpokeNear.j0, if_true]
  exact Evl.ret _
theorem FnExactSpokeNear_main (l : List S45) (a1 : Int) (hlc : l.length ≤ 1099511627776) (h1 : (Lit.int .i64 a1).wf = true) : ∃ r b, Evl (fun k => spec_SpokeNear.f k l a1) (r, b) ∧ Evl (fun k => impl_SpokeNear.f k l a1) (r, b) := by
  rcases wheel_cases l with ⟨P, hW, hi, hs, hsane, hl, hz, h1, h5⟩ | ⟨⟨x, y, hi⟩, hs⟩
  · by_cases c : 0 ≤ a1 ∧ a1 ≤ 1000000000
    · obtain ⟨d, hd, hleft⟩ := exists_left hW a1
      refine ⟨near (rs l) a1 5000 ((0 : Nat) : Int), true, ?_, ?_⟩
      · simp only [spec_SpokeNear.f]
        refine Evl.bind hs ?_
        simp only [if_neg hz, whFar_eq, decide_eq_true c, Option.bind_some, Bool.not_true]
        refine Evl.succ ?_
        simp only [spec_SpokeNear.j0, Bool.false_eq_true, if_false]
        exact spec_SpokeNear_l0 l hsane hl a1 c 5000 0 (by omega) ⟨d, by omega, by omega, hleft⟩
      · simp only [impl_SpokeNear.f]
        refine Evl.bind hi ?_
        simp only [if_true, isFar_eq, decide_eq_true c, Option.bind_some, Bool.not_true]
        refine Evl.succ ?_
        simp only [impl_SpokeNear.j0, Bool.false_eq_true, if_false]
        exact impl_SpokeNear_l0 l hsane hl a1 c 5000 0 (by omega) ⟨d, by omega, by omega, hleft⟩
    · refine ⟨0, false, ?_, ?_⟩
      · simp only [spec_SpokeNear.f]
        refine Evl.bind hs ?_
        simp only [if_neg hz, whFar_eq, decide_eq_false c, Option.bind_some, Bool.not_false]
        exact spec_SN_no _ _
      · simp only [impl_SpokeNear.f]
        refine Evl.bind hi ?_
        simp only [if_true, isFar_eq, decide_eq_false c, Option.bind_some, Bool.not_false]
        exact impl_SN_no _ _
  · refine ⟨0, false, ?_, ?_⟩
    · simp only [spec_SpokeNear.f]
      refine Evl.bind hs ?_
      simp only [if_true]
      exact spec_SN_no _ _
    · simp only [impl_SpokeNear.f]
      refine Evl.bind hi ?_
      simp only [Bool.false_eq_true, if_false]
      exact impl_SN_no _ _

/-- A spoke's number by its rank stays small. -/
theorem rank_small {r c P : Nat} {x : Int} (hr : r ≤ 1000000000) (hc : 1 ≤ c) (hP : P ≤ 5000) (hx : 0 ≤ x ∧ x ≤ 1000000) :
    wrap64 (wrap64 (wrap64 (Int.tdiv (r : Int) (c : Int)) * (P : Int)) + x) = ((r / c * P : Nat) : Int) + x ∧ r / c * P ≤ 5000000000000 := by
  have ht : Int.tdiv (r : Int) (c : Int) = ((r / c : Nat) : Int) := rfl
  have hq : r / c ≤ r := Nat.div_le_self _ _
  rw [ht]
  generalize r / c = q at hq
  have hm : q * P ≤ 1000000000 * 5000 := Nat.mul_le_mul (by omega) hP
  rw [w64 (x := (q : Int)) (by omega) (by omega), ← Int.natCast_mul]
  generalize q * P = m at hm
  rw [w64 (x := (m : Int)) (by omega) (by omega), w64 (by omega) (by omega)]
  exact ⟨rfl, by omega⟩
theorem FnExactSpokeOfRank_main (l : List S45) (a1 : Int) (hlc : l.length ≤ 1099511627776) (h1 : (Lit.int .i64 a1).wf = true) : ∃ r b, Evl (fun k => spec_SpokeOfRank.f k l a1) (r, b) ∧ Evl (fun k => impl_SpokeOfRank.f k l a1) (r, b) := by
  rcases wheel_cases l with ⟨P, hW, hi, hs, hsane, hl, hz, h1, h5⟩ | ⟨⟨x, y, hi⟩, hs⟩
  · by_cases c : 0 ≤ a1 ∧ a1 ≤ 1000000000
    · obtain ⟨r, rfl⟩ := Int.eq_ofNat_of_zero_le c.1
      have hlen : 1 ≤ (lb (rs l) P 1).length := List.length_pos_iff.2 hW.some
      have hlen5 := lb_length (rs l) P 1
      have ht : Int.tmod (r : Int) ((lb (rs l) P 1).length : Int) = ((r % (lb (rs l) P 1).length : Nat) : Int) := rfl
      have hlt : r % (lb (rs l) P 1).length < (lb (rs l) P 1).length := Nat.mod_lt _ (by omega)
      have hv := wheel_bounds (q := rs l) h5 _ (List.getElem_mem hlt)
      have hrd : rd (lb (rs l) P 1) ((r % (lb (rs l) P 1).length : Nat) : Int) = (lb (rs l) P 1)[r % (lb (rs l) P 1).length] := rd_nat hlt
      obtain ⟨g1, g2⟩ := rank_small (r := r) (c := (lb (rs l) P 1).length) (P := P) (by omega) hlen h5 hv
      have z1 : ¬ (((lb (rs l) P 1).length : Nat) : Int) = 0 := by omega
      have z2 : (0 : Int) ≤ ((r % (lb (rs l) P 1).length : Nat) : Int) := by omega
      have z3 : ((r % (lb (rs l) P 1).length : Nat) : Int) < (((lb (rs l) P 1).length : Nat) : Int) := by omega
      refine ⟨((r / (lb (rs l) P 1).length * P : Nat) : Int) + (lb (rs l) P 1)[r % (lb (rs l) P 1).length], true, ?_, ?_⟩
      rotate_left
      · simp only [impl_SpokeOfRank.f]
        refine Evl.bind hi ?_
        simp only [if_true, isFar_eq, decide_eq_true c, Option.bind_some, Bool.not_true]
        refine Evl.succ ?_
        simp only [impl_SpokeOfRank.j0, Bool.false_eq_true, if_false, if_neg z1, ht, if_pos z2, if_pos z3, hrd, g1]
        simp only [if_neg (show ¬ ((r / (lb (rs l) P 1).length * P : Nat) : Int) + (lb (rs l) P 1)[r % (lb (rs l) P 1).length] > 1000000000000000 by omega)]
        exact Evl.ret _
      · simp only [spec_SpokeOfRank.f]
        refine Evl.bind hs ?_
        simp only [if_neg hz, whFar_eq, decide_eq_true c, Option.bind_some, if_true]
        refine Evl.bind (whSpokes_ev hsane hl P (by omega)) ?_
        simp only [if_neg z1, ht, if_pos z2, if_pos z3, hrd, g1]
        exact Evl.ret _
    · refine ⟨0, false, ?_, ?_⟩
      · simp only [spec_SpokeOfRank.f]
        refine Evl.bind hs ?_
        simp only [if_neg hz, whFar_eq, decide_eq_false c, Option.bind_some, Bool.false_eq_true, if_false]
        exact Evl.ret _
      · simp only [impl_SpokeOfRank.f]
        refine Evl.bind hi ?_
        simp only [if_true, isFar_eq, decide_eq_false c, Option.bind_some, Bool.not_false]
        refine Evl.succ ?_
        simp only [impl_SpokeOfRank.j0, if_true]
        exact Evl.ret _
  · refine ⟨0, false, ?_, ?_⟩
    · simp only [spec_SpokeOfRank.f]
      refine Evl.bind hs ?_
      simp only [if_true]
      exact Evl.ret _
    · simp only [impl_SpokeOfRank.f]
      refine Evl.bind hi ?_
      simp only [Bool.false_eq_true, if_false]
      refine Evl.succ ?_
      simp only [impl_SpokeOfRank.j0, if_true]
      exact Evl.ret _


end Go.Proofs.Ytdaodlhcedjfoaa.L

/-! ## X7 -/
namespace Go.Proofs.Ytdaodlhcedjfoaa.L
open Go.RowKit Go.Proofs.YtdaodlhcedjfoaaW.PrintWords Go.Proofs.Ytdaodlhcedjfoaa.P Go.Proofs.Ytdaodlhcedjfoaa.M
set_option linter.unusedVariables false
set_option linter.unusedSimpArgs false

/-- How many are less than x. -/
def below_ (x : Int) (s : List Int) : Nat := (s.filter fun y => decide (y < x)).length
theorem below_le (x : Int) (s : List Int) : below_ x s ≤ s.length := List.length_filter_le _ _
/-- The index of what rises, found: as many as are less. -/
theorem Index_l0 (xs : List Int) (hl : xs.length ≤ 1000000) (x : Int) : ∀ (s : List Int) (i : Nat), xs.drop i = s → s.Pairwise (· < ·) → x ∈ s → Evl (fun k => slices_Index_int_int.l0 k xs x (xs.length : Int) (i : Int)) ((i : Int) + below_ x s) := by
  intro s
  induction s with
  | nil => intro i _ _ hx; cases hx
  | cons y s ih =>
    intro i hd hp hx
    obtain ⟨hi, hy, hs⟩ := drop_cons hd
    have hw : wrap64 ((i : Int) + 1) = ((i + 1 : Nat) : Int) := by rw [w64 (by omega) (by omega)]; rfl
    rw [List.pairwise_cons] at hp
    refine Evl.succ ?_
    simp only [slices_Index_int_int.l0, if_pos (show (i : Int) < (xs.length : Int) by omega), if_pos (show (0 : Int) ≤ (i : Int) by omega), rd_of hy, hw]
    by_cases c : x = y
    · simp only [if_pos c]
      refine (Evl.ret _).cast ?_
      have : below_ x (y :: s) = 0 := by
        unfold below_
        rw [List.length_eq_zero_iff, List.filter_eq_nil_iff]
        intro z hz
        rcases List.mem_cons.1 hz with rfl | hz
        · simp [c]
        · have := hp.1 z hz
          simp
          omega
      rw [this]
      omega
    · simp only [if_neg c]
      rcases List.mem_cons.1 hx with h | h
      · exact absurd h c
      · refine (ih (i + 1) hs hp.2 h).cast ?_
        have := hp.1 x h
        have e : below_ x (y :: s) = below_ x s + 1 := by
          unfold below_
          rw [List.filter_cons_of_pos (by simpa using this), List.length_cons]
        rw [e]
        omega
theorem Index_ev (xs : List Int) (hl : xs.length ≤ 1000000) (hp : xs.Pairwise (· < ·)) (x : Int) (hx : x ∈ xs) : Evl (fun k => slices_Index_int_int.f k xs x) (below_ x xs : Int) := by
  simp only [slices_Index_int_int.f]
  refine (Index_l0 xs hl x xs 0 rfl hp hx).cast ?_
  omega
theorem spec_RS_l0 (n p base v : Int) (hp : ¬ p = 0) (hv : wrap64 (n - wrap64 (wrap64 (Int.tdiv (wrap64 (n - 1)) p) * p)) = v) (xs : List Int) (hl : xs.length ≤ 1000000) : ∀ (s : List Int) (i : Nat) (c : Int), xs.drop i = s → 0 ≤ c → c + s.length ≤ 1000000000000000000 →
    Evl (fun k => spec_RankOfSpoke.l0 k n p c xs (xs.length : Int) (i : Int)) (c + below_ v s, true) := by
  intro s
  induction s with
  | nil =>
    intro i c hd h0 hb
    have hi := drop_nil hd
    refine Evl.succ ?_
    simp only [spec_RankOfSpoke.l0, if_neg (show ¬ (i : Int) < (xs.length : Int) by omega)]
    refine (Evl.ret _).cast ?_
    simp [below_]
  | cons y s ih =>
    intro i c hd h0 hb
    obtain ⟨hi, hy, hs⟩ := drop_cons hd
    rw [List.length_cons] at hb
    have hw : wrap64 ((i : Int) + 1) = ((i + 1 : Nat) : Int) := by rw [w64 (by omega) (by omega)]; rfl
    have hw2 : wrap64 (c + 1) = c + 1 := w64 (by omega) (by omega)
    refine Evl.succ ?_
    simp only [spec_RankOfSpoke.l0, if_pos (show (i : Int) < (xs.length : Int) by omega), if_pos (show (0 : Int) ≤ (i : Int) by omega), rd_of hy, hw, hw2, if_neg hp, hv]
    by_cases e : y < v
    · simp only [if_pos e]
      refine (ih (i + 1) (c + 1) hs (by omega) (by omega)).cast ?_
      unfold below_
      rw [List.filter_cons_of_pos (by simpa using e), List.length_cons]
      refine Prod.ext ?_ rfl
      show c + 1 + ((s.filter fun y => decide (y < v)).length : Int) = c + (((s.filter fun y => decide (y < v)).length + 1 : Nat) : Int)
      omega
    · simp only [if_neg e]
      refine (ih (i + 1) c hs h0 (by omega)).cast ?_
      unfold below_
      rw [List.filter_cons_of_neg (by simpa using e)]
theorem spec_RS_no (l : List S45) (a p : Int) : Evl (fun k => spec_RankOfSpoke.j0 k l a p true) (0, false) := by
  refine Evl.succ ?_
  simp only [spec_RankOfSpoke.j0, if_true]
  exact Evl.ret _
/-- The numbers that a rank is made of. -/
theorem rank_parts {P n : Nat} (h1 : 1 ≤ P) (h5 : P ≤ 5000) (hn : 1 ≤ n) (hn9 : n ≤ 1000000000) (c : Nat) (hc : c ≤ 5000) :
    wrap64 ((n : Int) - 1) = ((n - 1 : Nat) : Int) ∧ Int.tdiv ((n - 1 : Nat) : Int) (P : Int) = (((n - 1) / P : Nat) : Int) ∧ Int.tmod ((n - 1 : Nat) : Int) (P : Int) = (((n - 1) % P : Nat) : Int) ∧
    wrap64 (((n - 1) / P : Nat) : Int) = (((n - 1) / P : Nat) : Int) ∧ wrap64 ((((n - 1) / P : Nat) : Int) * (P : Int)) = (((n - 1) / P * P : Nat) : Int) ∧ wrap64 ((((n - 1) / P : Nat) : Int) * (c : Int)) = (((n - 1) / P * c : Nat) : Int) ∧
    wrap64 ((n : Int) - (((n - 1) / P * P : Nat) : Int)) = (((n - 1) % P + 1 : Nat) : Int) ∧ wrap64 ((((n - 1) % P : Nat) : Int) + 1) = (((n - 1) % P + 1 : Nat) : Int) ∧ (n - 1) / P * c ≤ 5000000000000 ∧ (n - 1) % P < P ∧ (n - 1) / P * P + (n - 1) % P = n - 1 := by
  have hlt : (n - 1) % P < P := Nat.mod_lt _ (by omega)
  have hdm : (n - 1) / P * P + (n - 1) % P = n - 1 := by rw [Nat.mul_comm]; exact Nat.div_add_mod _ _
  have hq : (n - 1) / P ≤ n - 1 := Nat.div_le_self _ _
  have ht1 : Int.tdiv ((n - 1 : Nat) : Int) (P : Int) = (((n - 1) / P : Nat) : Int) := rfl
  have ht2 : Int.tmod ((n - 1 : Nat) : Int) (P : Int) = (((n - 1) % P : Nat) : Int) := rfl
  have hm1 : (n - 1) / P * P ≤ 1000000000 * 5000 := Nat.mul_le_mul (by omega) h5
  have hm2 : (n - 1) / P * c ≤ 1000000000 * 5000 := Nat.mul_le_mul (by omega) hc
  refine ⟨by rw [w64 (by omega) (by omega)]; omega, ht1, ht2, ?_, ?_, ?_, ?_, ?_, by omega, hlt, hdm⟩
  · clear ht1 ht2 hm1 hm2 hdm
    generalize (n - 1) / P = q at hq
    exact w64 (by omega) (by omega)
  · rw [← Int.natCast_mul]
    clear ht1 ht2 hm2 hdm
    generalize (n - 1) / P * P = m at hm1
    exact w64 (by omega) (by omega)
  · rw [← Int.natCast_mul]
    clear ht1 ht2 hm1 hdm
    generalize (n - 1) / P * c = m at hm2
    exact w64 (by omega) (by omega)
  · clear ht1 ht2 hm2
    generalize (n - 1) / P * P = m at hm1 hdm
    generalize (n - 1) % P = r at hdm hlt
    rw [w64 (by omega) (by omega)]
    omega
  · clear ht1 ht2 hm1 hm2 hdm
    generalize (n - 1) % P = r at hlt
    rw [w64 (by omega) (by omega)]
    rfl
theorem rank_mem {P n : Nat} {rs : List Ru} (hW : Wheel rs P) (hn : 1 ≤ n) (c2 : left rs (n : Int) = true) : (((n - 1) % P + 1 : Nat) : Int) ∈ lb rs P 1 := by
  have hlt : (n - 1) % P < P := Nat.mod_lt _ hW.pos
  have hdm : P * ((n - 1) / P) + (n - 1) % P = n - 1 := Nat.div_add_mod _ _
  rw [lb_mem]
  generalize (n - 1) / P = q at hdm
  generalize (n - 1) % P = r at hlt hdm ⊢
  have e : ((r + 1 : Nat) : Int) = (n : Int) + (P : Int) * (-(q : Int)) := by
    rw [Int.mul_neg, ← Int.natCast_mul]
    generalize P * q = m at hdm ⊢
    omega
  clear hdm
  refine ⟨by omega, by omega, ?_⟩
  rw [e, hW.add]
  exact c2
theorem FnExactRankOfSpoke_main (l : List S45) (a1 : Int) (hlc : l.length ≤ 1099511627776) (h1 : (Lit.int .i64 a1).wf = true) : ∃ r b, Evl (fun k => spec_RankOfSpoke.f k l a1) (r, b) ∧ Evl (fun k => impl_RankOfSpoke.f k l a1) (r, b) := by
  rcases wheel_cases l with ⟨P, hW, hi, hs, hsane, hl, hz, h1, h5⟩ | ⟨⟨x, y, hi⟩, hs⟩
  · by_cases c : 0 ≤ a1 ∧ a1 ≤ 1000000000
    · by_cases c1 : a1 < 1
      · refine ⟨0, false, ?_, ?_⟩
        · simp only [spec_RankOfSpoke.f]
          refine Evl.bind hs ?_
          simp only [if_neg hz, whFar_eq, decide_eq_true c, Option.bind_some, if_true, if_pos c1]
          exact spec_RS_no _ _ _
        · simp only [impl_RankOfSpoke.f]
          refine Evl.bind hi ?_
          simp only [if_true, isFar_eq, decide_eq_true c, Option.bind_some, if_pos c1]
          exact Evl.ret _
      · obtain ⟨n, rfl⟩ := Int.eq_ofNat_of_zero_le c.1
        by_cases c2 : left (rs l) (n : Int) = true
        · have hll := lb_length (rs l) P 1
          obtain ⟨g1, g2, g3, g4, g5, g6, g7, g8, g9, g10, g11⟩ := rank_parts (n := n) hW.pos h5 (by omega) (by omega) (lb (rs l) P 1).length (by omega)
          have hmem := rank_mem hW (show 1 ≤ n by omega) c2
          have hbl := below_le (((n - 1) % P + 1 : Nat) : Int) (lb (rs l) P 1)
          refine ⟨(((n - 1) / P * (lb (rs l) P 1).length : Nat) : Int) + below_ (((n - 1) % P + 1 : Nat) : Int) (lb (rs l) P 1), true, ?_, ?_⟩
          · simp only [spec_RankOfSpoke.f]
            refine Evl.bind hs ?_
            simp only [if_neg hz, whFar_eq, decide_eq_true c, Option.bind_some, if_true, if_neg c1]
            refine Evl.bind (siLeft_ev hsane hl (n : Int)) ?_
            simp only [c2, Bool.not_true]
            refine Evl.succ ?_
            simp only [spec_RankOfSpoke.j0, Bool.false_eq_true, if_false]
            refine Evl.bind (whSpokes_ev hsane hl P (by omega)) ?_
            simp only [if_neg hz, g1, g2, g4, g6]
            refine spec_RS_l0 (n : Int) (P : Int) 0 _ hz ?_ (lb (rs l) P 1) (by omega) _ 0 _ rfl (by omega) (by omega)
            rw [g1, g2, g4, g5, g7]
          · simp only [impl_RankOfSpoke.f]
            refine Evl.bind hi ?_
            simp only [if_true, isFar_eq, decide_eq_true c, Option.bind_some, if_neg c1, isLeft_eq hsane, c2, if_neg hz, g1, g2, g3, g4, g6, g8]
            refine Evl.bind (Index_ev _ (by omega) (lb_sorted _ _ _) _ hmem) ?_
            have : wrap64 ((((n - 1) / P * (lb (rs l) P 1).length : Nat) : Int) + (below_ (((n - 1) % P + 1 : Nat) : Int) (lb (rs l) P 1) : Int)) = (((n - 1) / P * (lb (rs l) P 1).length : Nat) : Int) + below_ (((n - 1) % P + 1 : Nat) : Int) (lb (rs l) P 1) := by
              clear g1 g2 g3 g4 g5 g6 g7 g8
              generalize (n - 1) / P * (lb (rs l) P 1).length = m at g9
              generalize below_ (((n - 1) % P + 1 : Nat) : Int) (lb (rs l) P 1) = b at hbl
              exact w64 (by omega) (by omega)
            rw [this]
            exact Evl.ret _
        · have c2' : left (rs l) (n : Int) = false := by cases h : left (rs l) (n : Int) with | true => exact absurd h c2 | false => rfl
          refine ⟨0, false, ?_, ?_⟩
          · simp only [spec_RankOfSpoke.f]
            refine Evl.bind hs ?_
            simp only [if_neg hz, whFar_eq, decide_eq_true c, Option.bind_some, if_true, if_neg c1]
            refine Evl.bind (siLeft_ev hsane hl (n : Int)) ?_
            simp only [c2', Bool.not_false]
            exact spec_RS_no _ _ _
          · simp only [impl_RankOfSpoke.f]
            refine Evl.bind hi ?_
            simp only [if_true, isFar_eq, decide_eq_true c, Option.bind_some, if_neg c1, isLeft_eq hsane, c2', Bool.false_eq_true, if_false]
            exact Evl.ret _
    · refine ⟨0, false, ?_, ?_⟩
      · simp only [spec_RankOfSpoke.f]
        refine Evl.bind hs ?_
        simp only [if_neg hz, whFar_eq, decide_eq_false c, Option.bind_some, Bool.false_eq_true, if_false]
        exact spec_RS_no _ _ _
      · simp only [impl_RankOfSpoke.f]
        refine Evl.bind hi ?_
        simp only [if_true, isFar_eq, decide_eq_false c, Option.bind_some, Bool.false_eq_true, if_false]
        exact Evl.ret _
  · refine ⟨0, false, ?_, ?_⟩
    · simp only [spec_RankOfSpoke.f]
      refine Evl.bind hs ?_
      simp only [if_true]
      exact spec_RS_no _ _ _
    · simp only [impl_RankOfSpoke.f]
      refine Evl.bind hi ?_
      simp only [Bool.false_eq_true, if_false]
      exact Evl.ret _


end Go.Proofs.Ytdaodlhcedjfoaa.L

/-! ## X34 -/
namespace Go.Proofs.Ytdaodlhcedjfoaa.L
open Go.RowKit Go.Proofs.YtdaodlhcedjfoaaW.PrintWords Go.Proofs.Ytdaodlhcedjfoaa.P Go.Proofs.Ytdaodlhcedjfoaa.M
set_option linter.unusedVariables false
set_option linter.unusedSimpArgs false

theorem Evl.uniq {α : Type} {g : Nat → Option α} {a b : α} (h : Evl g a) (h2 : Evl g b) : a = b := by
  obtain ⟨K, h⟩ := h
  obtain ⟨K2, h2⟩ := h2
  exact Option.some.inj ((h (max K K2) (Nat.le_max_left ..)).symm.trans (h2 (max K K2) (Nat.le_max_right ..)))
theorem Evl.both {α β : Type} {gi gs : Nat → Option (α × β)} (h : ∃ r b, Evl gs (r, b) ∧ Evl gi (r, b)) {v : α × β} (hv : Evl gi v) : Evl gs v := by
  obtain ⟨r, b, h1, h2⟩ := h
  rw [Evl.uniq hv h2]
  exact h1

/-- A wheel, as both tell it. -/
structure WD (l : List S45) (P : Nat) : Prop where
  W : Wheel (rs l) P
  i : Evl (fun k => impl_wheelOf.f k l) ((P : Int), lb (rs l) P 1, true)
  s : Evl (fun k => spec_whPeriod.f k l) (P : Int)
  sane : Sane l
  len : l.length ≤ 1099511627776
  z : ¬ (P : Int) = 0
  h1 : 1 ≤ P
  h5 : P ≤ 5000
theorem wd_cases (l : List S45) : (∃ P, WD l P) ∨ ((∃ x y, Evl (fun k => impl_wheelOf.f k l) (x, y, false)) ∧ Evl (fun k => spec_whPeriod.f k l) 0) := by
  rcases wheel_cases l with ⟨P, hW, hi, hs, hsane, hl, hz, h1, h5⟩ | h
  · exact .inl ⟨P, hW, hi, hs, hsane, hl, hz, h1, h5⟩
  · exact .inr h

/-! ### lists that rise -/
theorem below_get : ∀ (xs : List Int), xs.Pairwise (· < ·) → ∀ (i : Nat) (h : i < xs.length), below_ xs[i] xs = i
  | [], _, i, h => absurd h (Nat.not_lt_zero _)
  | y :: s, hp, 0, h => by
    rw [List.pairwise_cons] at hp
    unfold below_
    rw [List.length_eq_zero_iff, List.filter_eq_nil_iff]
    intro z hz
    rcases List.mem_cons.1 hz with rfl | hz
    · simp
    · have := hp.1 z hz
      simp
      omega
  | y :: s, hp, i + 1, h => by
    rw [List.pairwise_cons] at hp
    have hi : i < s.length := by rw [List.length_cons] at h; omega
    have ih := below_get s hp.2 i hi
    have hy := hp.1 s[i] (List.getElem_mem hi)
    show below_ s[i] (y :: s) = i + 1
    unfold below_ at ih ⊢
    rw [List.filter_cons_of_pos (by simpa using hy), List.length_cons, ih]
theorem idx_le : ∀ (xs : List Int) (b : Int), xs.Pairwise (· < ·) → (∀ x ∈ xs, b ≤ x) → ∀ (i : Nat) (h : i < xs.length), b + i ≤ xs[i]
  | [], _, _, _, i, h => absurd h (Nat.not_lt_zero _)
  | y :: s, b, hp, hb, 0, h => by
    have := hb y (List.mem_cons_self ..)
    show b + ((0 : Nat) : Int) ≤ y
    omega
  | y :: s, b, hp, hb, i + 1, h => by
    rw [List.pairwise_cons] at hp
    have hi : i < s.length := by rw [List.length_cons] at h; omega
    have hy := hb y (List.mem_cons_self ..)
    have ih := idx_le s (b + 1) hp.2 (fun x hx => by have := hp.1 x hx; omega) i hi
    show b + ((i + 1 : Nat) : Int) ≤ s[i]
    omega
theorem lb_at {q : List Ru} {P i : Nat} (h : i < (lb q P 1).length) : 1 ≤ (lb q P 1)[i] ∧ (lb q P 1)[i] ≤ P ∧ left q (lb q P 1)[i] = true := by
  have := (lb_mem q P 1 _).1 (List.getElem_mem h)
  exact ⟨this.1, by omega, this.2.2⟩

/-! ### ranks -/
/-- The spoke of a rank. -/
def sorV (q : List Ru) (P : Nat) (a : Int) : Int × Bool := if 0 ≤ a ∧ a ≤ 1000000000 then (((a.toNat / (lb q P 1).length * P : Nat) : Int) + rd (lb q P 1) ((a.toNat % (lb q P 1).length : Nat) : Int), true) else (0, false)
/-- The rank of a spoke. -/
def rsV (q : List Ru) (P : Nat) (a : Int) : Int × Bool := if (0 ≤ a ∧ a ≤ 1000000000) ∧ 1 ≤ a ∧ left q a = true then ((((a.toNat - 1) / P * (lb q P 1).length : Nat) : Int) + below_ (((a.toNat - 1) % P + 1 : Nat) : Int) (lb q P 1), true) else (0, false)
/-- Whether it is a spoke. -/
def isV (q : List Ru) (a : Int) : Bool × Bool := if 0 ≤ a ∧ a ≤ 1000000000 then (left q a, true) else (false, false)
/-- The spoke that is near. -/
def nrV (q : List Ru) (a : Int) : Int × Bool := if 0 ≤ a ∧ a ≤ 1000000000 then (near q a 5000 ((0 : Nat) : Int), true) else (0, false)

theorem sor_i {l : List S45} {P : Nat} (d : WD l P) (a : Int) : Evl (fun k => impl_SpokeOfRank.f k l a) (sorV (rs l) P a) := by
  unfold sorV
  by_cases c : 0 ≤ a ∧ a ≤ 1000000000
  · rw [if_pos c]
    obtain ⟨r, rfl⟩ := Int.eq_ofNat_of_zero_le c.1
    have hlen : 1 ≤ (lb (rs l) P 1).length := List.length_pos_iff.2 d.W.some
    have hlen5 := lb_length (rs l) P 1
    have ht : Int.tmod (r : Int) ((lb (rs l) P 1).length : Int) = ((r % (lb (rs l) P 1).length : Nat) : Int) := rfl
    have hlt : r % (lb (rs l) P 1).length < (lb (rs l) P 1).length := Nat.mod_lt _ (by omega)
    have hv := wheel_bounds (q := rs l) d.h5 _ (List.getElem_mem hlt)
    have hrd : rd (lb (rs l) P 1) ((r % (lb (rs l) P 1).length : Nat) : Int) = (lb (rs l) P 1)[r % (lb (rs l) P 1).length] := rd_nat hlt
    obtain ⟨g1, g2⟩ := rank_small (r := r) (c := (lb (rs l) P 1).length) (P := P) (by omega) hlen d.h5 hv
    have z1 : ¬ (((lb (rs l) P 1).length : Nat) : Int) = 0 := by omega
    have z2 : (0 : Int) ≤ ((r % (lb (rs l) P 1).length : Nat) : Int) := by omega
    have z3 : ((r % (lb (rs l) P 1).length : Nat) : Int) < (((lb (rs l) P 1).length : Nat) : Int) := by omega
    simp only [impl_SpokeOfRank.f]
    refine Evl.bind d.i ?_
    simp only [if_true, isFar_eq, decide_eq_true c, Option.bind_some, Bool.not_true]
    refine Evl.succ ?_
    simp only [impl_SpokeOfRank.j0, Bool.false_eq_true, if_false, if_neg z1, ht, if_pos z2, if_pos z3, hrd, g1]
    simp only [if_neg (show ¬ ((r / (lb (rs l) P 1).length * P : Nat) : Int) + (lb (rs l) P 1)[r % (lb (rs l) P 1).length] > 1000000000000000 by omega)]
    refine (Evl.ret _).cast ?_
    rw [Int.toNat_natCast, hrd]
  · rw [if_neg c]
    simp only [impl_SpokeOfRank.f]
    refine Evl.bind d.i ?_
    simp only [if_true, isFar_eq, decide_eq_false c, Option.bind_some, Bool.not_false]
    refine Evl.succ ?_
    simp only [impl_SpokeOfRank.j0, if_true]
    exact Evl.ret _
theorem is_i {l : List S45} {P : Nat} (d : WD l P) (a : Int) : Evl (fun k => impl_IsSpoke.f k l a) (isV (rs l) a) := by
  unfold isV
  simp only [impl_IsSpoke.f]
  refine Evl.bind d.i ?_
  by_cases c : 0 ≤ a ∧ a ≤ 1000000000
  · rw [if_pos c]
    simp only [if_true, isFar_eq, decide_eq_true c, Option.bind_some, isLeft_eq d.sane]
    exact Evl.ret _
  · rw [if_neg c]
    simp only [if_true, isFar_eq, decide_eq_false c, Option.bind_some, Bool.false_eq_true, if_false]
    exact Evl.ret _
theorem nr_i {l : List S45} {P : Nat} (d : WD l P) (a : Int) : Evl (fun k => impl_SpokeNear.f k l a) (nrV (rs l) a) := by
  unfold nrV
  simp only [impl_SpokeNear.f]
  refine Evl.bind d.i ?_
  by_cases c : 0 ≤ a ∧ a ≤ 1000000000
  · rw [if_pos c]
    obtain ⟨e, he, hleft⟩ := exists_left d.W a
    have := d.h5
    simp only [if_true, isFar_eq, decide_eq_true c, Option.bind_some, Bool.not_true]
    refine Evl.succ ?_
    simp only [impl_SpokeNear.j0, Bool.false_eq_true, if_false]
    exact impl_SpokeNear_l0 l d.sane d.len a c 5000 0 (by omega) ⟨e, by omega, by omega, hleft⟩
  · rw [if_neg c]
    simp only [if_true, isFar_eq, decide_eq_false c, Option.bind_some, Bool.not_false]
    exact impl_SN_no _ _
theorem rs_i {l : List S45} {P : Nat} (d : WD l P) (a : Int) : Evl (fun k => impl_RankOfSpoke.f k l a) (rsV (rs l) P a) := by
  unfold rsV
  simp only [impl_RankOfSpoke.f]
  refine Evl.bind d.i ?_
  by_cases c : 0 ≤ a ∧ a ≤ 1000000000
  · by_cases c1 : a < 1
    · rw [if_neg (fun h => absurd h.2.1 (by omega))]
      simp only [if_true, isFar_eq, decide_eq_true c, Option.bind_some, if_pos c1]
      exact Evl.ret _
    · obtain ⟨n, rfl⟩ := Int.eq_ofNat_of_zero_le c.1
      by_cases c2 : left (rs l) (n : Int) = true
      · rw [if_pos ⟨c, by omega, c2⟩]
        have h5 := d.h5
        have hll := lb_length (rs l) P 1
        obtain ⟨g1, g2, g3, g4, g5, g6, g7, g8, g9, g10, g11⟩ := rank_parts (n := n) d.W.pos h5 (by omega) (by omega) (lb (rs l) P 1).length (by omega)
        have hmem := rank_mem d.W (show 1 ≤ n by omega) c2
        have hbl := below_le (((n - 1) % P + 1 : Nat) : Int) (lb (rs l) P 1)
        simp only [if_true, isFar_eq, decide_eq_true c, Option.bind_some, if_neg c1, isLeft_eq d.sane, c2, if_neg d.z, g1, g2, g3, g4, g6, g8]
        refine Evl.bind (Index_ev _ (by omega) (lb_sorted _ _ _) _ hmem) ?_
        have : wrap64 ((((n - 1) / P * (lb (rs l) P 1).length : Nat) : Int) + (below_ (((n - 1) % P + 1 : Nat) : Int) (lb (rs l) P 1) : Int)) = (((n - 1) / P * (lb (rs l) P 1).length : Nat) : Int) + below_ (((n - 1) % P + 1 : Nat) : Int) (lb (rs l) P 1) := by
          clear g1 g2 g3 g4 g5 g6 g7 g8
          generalize (n - 1) / P * (lb (rs l) P 1).length = m at g9
          generalize below_ (((n - 1) % P + 1 : Nat) : Int) (lb (rs l) P 1) = b at hbl
          exact w64 (by omega) (by omega)
        rw [this]
        refine (Evl.ret _).cast ?_
        rw [Int.toNat_natCast]
      · have c2' : left (rs l) (n : Int) = false := by cases h : left (rs l) (n : Int) with | true => exact absurd h c2 | false => rfl
        rw [if_neg (fun h => c2 h.2.2)]
        simp only [if_true, isFar_eq, decide_eq_true c, Option.bind_some, if_neg c1, isLeft_eq d.sane, c2', Bool.false_eq_true, if_false]
        exact Evl.ret _
  · rw [if_neg (fun h => c h.1)]
    simp only [if_true, isFar_eq, decide_eq_false c, Option.bind_some, Bool.false_eq_true, if_false]
    exact Evl.ret _
theorem spokes_i {l : List S45} {P : Nat} (d : WD l P) : Evl (fun k => impl_SpokesOf.f k l) (lb (rs l) P 1, true) := by
  simp only [impl_SpokesOf.f]
  refine Evl.bind d.i ?_
  simp only [if_true]
  exact Evl.ret _
theorem steps_i {l : List S45} {P : Nat} (d : WD l P) : Evl (fun k => impl_StepsOf.f k l) (steps (rs l) P, true) := by
  simp only [impl_StepsOf.f]
  refine Evl.bind d.i ?_
  simp only [if_true]
  exact Evl.bind (wheel_steps_ev (rs l) P d.h5) (Evl.ret _)
theorem count_i {l : List S45} {P : Nat} (d : WD l P) : Evl (fun k => impl_CountSpokes.f k l) (((lb (rs l) P 1).length : Int), true) := by
  simp only [impl_CountSpokes.f]
  refine Evl.bind d.i ?_
  simp only [if_true]
  exact Evl.ret _
theorem period_i {l : List S45} {P : Nat} (d : WD l P) : Evl (fun k => impl_PeriodOfRules.f k l) ((P : Int), true) := by
  have h := periodOf_ev l
  rw [if_pos d.W.good, d.W.per] at h
  simp only [impl_PeriodOfRules.f]
  exact Evl.bind h (Evl.ret _)
theorem leftIn_i {l : List S45} {P : Nat} (d : WD l P) : Evl (fun k => impl_LeftInPeriod.f k l) (((lb (rs l) P 1).length : Int), true) := by
  have h := periodOf_ev l
  have h5 := d.h5
  rw [if_pos d.W.good, d.W.per] at h
  simp only [impl_LeftInPeriod.f]
  refine Evl.bind h ?_
  simp only [if_true]
  refine Evl.bind (leftBetween_ev d.sane 1 (P : Int) (by omega) (by omega)) ?_
  rw [show ((P : Int) + 1 - 1).toNat = P by omega]
  exact Evl.ret _

/-! ### there and back -/
theorem sor_rs {q : List Ru} {P : Nat} (W : Wheel q P) {a : Int} (ha : 0 ≤ a ∧ a ≤ 1000000000) (hx : (sorV q P a).1 ≤ 1000000000) : rsV q P (sorV q P a).1 = (a, true) := by
  obtain ⟨n, rfl⟩ := Int.eq_ofNat_of_zero_le ha.1
  have hlen : 1 ≤ (lb q P 1).length := List.length_pos_iff.2 W.some
  have hlt : n % (lb q P 1).length < (lb q P 1).length := Nat.mod_lt _ (by omega)
  obtain ⟨v1, v2, v3⟩ := lb_at hlt
  have hb := below_get _ (lb_sorted q P 1) _ hlt
  have hdm : (lb q P 1).length * (n / (lb q P 1).length) + n % (lb q P 1).length = n := Nat.div_add_mod _ _
  have e : (sorV q P (n : Int)).1 = ((n / (lb q P 1).length * P : Nat) : Int) + (lb q P 1)[n % (lb q P 1).length] := by
    unfold sorV
    rw [if_pos ha, Int.toNat_natCast, rd_nat hlt]
  rw [e] at hx ⊢
  generalize (lb q P 1)[n % (lb q P 1).length] = v at *
  generalize n / (lb q P 1).length = m at *
  generalize n % (lb q P 1).length = r at *
  obtain ⟨w, rfl⟩ := Int.eq_ofNat_of_zero_le (show 0 ≤ v by omega)
  have hP := W.pos
  have hl : left q (((m * P : Nat) : Int) + (w : Int)) = true := by
    rw [show ((m * P : Nat) : Int) + (w : Int) = (w : Int) + (P : Int) * (m : Int) by rw [Int.natCast_mul, Int.mul_comm, Int.add_comm], W.add]
    exact v3
  have t : (((m * P : Nat) : Int) + (w : Int)).toNat - 1 = (w - 1) + P * m := by rw [Nat.mul_comm P m]; omega
  unfold rsV
  rw [if_pos ⟨⟨by omega, hx⟩, by omega, hl⟩, t, Nat.add_mul_div_left _ _ (by omega : 0 < P), Nat.add_mul_mod_self_left, Nat.div_eq_of_lt (by omega : w - 1 < P), Nat.mod_eq_of_lt (by omega : w - 1 < P), show w - 1 + 1 = w by omega, hb, Nat.zero_add, Nat.mul_comm m]
  refine Prod.ext ?_ rfl
  show (((lb q P 1).length * m : Nat) : Int) + (r : Int) = (n : Int)
  rw [← hdm]
  rfl
theorem rs_sor {q : List Ru} {P : Nat} (W : Wheel q P) {a : Int} (ha : (0 ≤ a ∧ a ≤ 1000000000) ∧ 1 ≤ a ∧ left q a = true) : sorV q P (rsV q P a).1 = (a, true) := by
  have e : (rsV q P a).1 = (((a.toNat - 1) / P * (lb q P 1).length : Nat) : Int) + below_ (((a.toNat - 1) % P + 1 : Nat) : Int) (lb q P 1) := by
    unfold rsV
    rw [if_pos ha]
  rw [e]
  obtain ⟨n, rfl⟩ := Int.eq_ofNat_of_zero_le ha.1.1
  rw [Int.toNat_natCast]
  have hlen : 1 ≤ (lb q P 1).length := List.length_pos_iff.2 W.some
  have hlen5 := lb_length q P 1
  have hP := W.pos
  have hmem := rank_mem W (show 1 ≤ n by omega) ha.2.2
  have hdm : P * ((n - 1) / P) + (n - 1) % P = n - 1 := Nat.div_add_mod _ _
  obtain ⟨i, hi, he⟩ := List.getElem_of_mem hmem
  have hb := below_get _ (lb_sorted q P 1) i hi
  have hx := idx_le _ 1 (lb_sorted q P 1) (fun x hx => ((lb_mem q P 1 x).1 hx).1) i hi
  have hrd : rd (lb q P 1) (i : Int) = (((n - 1) % P + 1 : Nat) : Int) := by rw [rd_nat hi, he]
  rw [he] at hb hx
  rw [hb]
  have hle : (n - 1) / P * (lb q P 1).length ≤ (n - 1) / P * P := Nat.mul_le_mul_left _ hlen5
  rw [Nat.mul_comm ((n - 1) / P) P] at hle
  generalize (n - 1) / P = m at *
  generalize (n - 1) % P = r at *
  have t : (((m * (lb q P 1).length : Nat) : Int) + (i : Int)).toNat = i + (lb q P 1).length * m := by rw [Nat.mul_comm m]; omega
  unfold sorV
  rw [if_pos ⟨by omega, by omega⟩, t, Nat.add_mul_div_left _ _ (by omega : 0 < (lb q P 1).length), Nat.add_mul_mod_self_left, Nat.div_eq_of_lt hi, Nat.mod_eq_of_lt hi, Nat.zero_add, hrd, Nat.mul_comm m]
  refine Prod.ext ?_ rfl
  show ((P * m : Nat) : Int) + ((r + 1 : Nat) : Int) = (n : Int)
  omega
/-- What is near is left, and nothing nearer is. -/
theorem near_spec (q : List Ru) (n : Int) : ∀ (m d : Nat), (∃ e : Nat, d ≤ e ∧ e < d + m ∧ left q (n + e) = true) → ∃ e : Nat, d ≤ e ∧ e < d + m ∧ (d < e → left q (n - d) = false) ∧
    ((near q n m (d : Int) = n - e ∧ left q (n - e) = true) ∨ (near q n m (d : Int) = n + e ∧ left q (n + e) = true ∧ left q (n - e) = false)) := by
  intro m
  induction m with
  | zero => intro d ⟨e, h1, h2, _⟩; omega
  | succ m ih =>
    intro d ⟨e, h1, h2, h3⟩
    unfold near
    by_cases c1 : left q (n - (d : Int)) = true
    · rw [if_pos c1]
      exact ⟨d, by omega, by omega, fun h => absurd h (by omega), .inl ⟨rfl, c1⟩⟩
    · have c1' : left q (n - (d : Int)) = false := by cases h : left q (n - (d : Int)) with | true => exact absurd h c1 | false => rfl
      rw [if_neg c1]
      by_cases c2 : left q (n + (d : Int)) = true
      · rw [if_pos c2]
        exact ⟨d, by omega, by omega, fun h => absurd h (by omega), .inr ⟨rfl, c2, c1'⟩⟩
      · rw [if_neg c2]
        have hne : e ≠ d := fun x => c2 (x ▸ h3)
        obtain ⟨f, f1, f2, f3, f4⟩ := ih (d + 1) ⟨e, by omega, by omega, h3⟩
        exact ⟨f, by omega, by omega, fun _ => c1', f4⟩

/-! ### sums, steps -/
theorem gSame_l0 (a : List Int) (hl : a.length ≤ 1099511627776) : ∀ (s : List Int) (i : Nat), a.drop i = s → Evl (fun k => laws_gSame.l0 k a a (a.length : Int) (i : Int)) true := by
  intro s
  induction s with
  | nil =>
    intro i h
    have hi := drop_nil h
    refine Evl.succ ?_
    simp only [laws_gSame.l0, if_neg (show ¬ (i : Int) < (a.length : Int) by omega)]
    exact Evl.ret _
  | cons x s ih =>
    intro i h
    obtain ⟨hi, hx, hs⟩ := drop_cons h
    have hw : wrap64 ((i : Int) + 1) = ((i + 1 : Nat) : Int) := by rw [w64 (by omega) (by omega)]; rfl
    refine Evl.succ ?_
    simp only [laws_gSame.l0, if_pos (show (i : Int) < (a.length : Int) by omega), if_pos (show (0 : Int) ≤ (i : Int) by omega), if_true, hw]
    exact ih (i + 1) hs
theorem gSame_self (a : List Int) (hl : a.length ≤ 1099511627776) : Evl (fun k => laws_gSame.f k a a) true := by
  simp only [laws_gSame.f, if_true]
  exact gSame_l0 a hl a 0 rfl
def sumI : List Int → Int
  | [] => 0
  | x :: s => x + sumI s
theorem gSum_l0 (xs : List Int) (hx : ∀ x ∈ xs, 0 ≤ x ∧ x ≤ 1000000) (hl : xs.length ≤ 1000000) : ∀ (s : List Int) (i : Nat) (c : Int), xs.drop i = s → 0 ≤ c → c + 1000000 * s.length ≤ 1000000000000 → Evl (fun k => laws_gSum.l0 k c xs (xs.length : Int) (i : Int)) (c + sumI s) := by
  intro s
  induction s with
  | nil =>
    intro i c h _ _
    have hi := drop_nil h
    refine Evl.succ ?_
    simp only [laws_gSum.l0, if_neg (show ¬ (i : Int) < (xs.length : Int) by omega)]
    refine (Evl.ret _).cast ?_
    simp [sumI]
  | cons y s ih =>
    intro i c h h0 hb
    obtain ⟨hi, hy, hs⟩ := drop_cons h
    have byy := hx y (List.mem_of_getElem? hy)
    rw [List.length_cons] at hb
    have hw : wrap64 ((i : Int) + 1) = ((i + 1 : Nat) : Int) := by rw [w64 (by omega) (by omega)]; rfl
    have hw2 : wrap64 (c + y) = c + y := w64 (by omega) (by omega)
    refine Evl.succ ?_
    simp only [laws_gSum.l0, if_pos (show (i : Int) < (xs.length : Int) by omega), if_pos (show (0 : Int) ≤ (i : Int) by omega), rd_of hy, hw, hw2]
    refine (ih (i + 1) (c + y) hs (by omega) (by omega)).cast ?_
    show c + y + sumI s = c + (y + sumI s)
    omega
theorem stepsL_sum (first P : Int) : ∀ (t : List Int) (x : Int), sumI (stepsL first P (x :: t)) = first + P - x
  | [], x => by simp [stepsL, sumI]
  | y :: t, x => by
    have := stepsL_sum first P t y
    simp only [stepsL, sumI]
    rw [this]
    omega
theorem stepsL_range (first P : Int) (hf : 1 ≤ first) (hfP : first ≤ P) : ∀ (t : List Int) (x : Int), (x :: t).Pairwise (· < ·) → (∀ y ∈ x :: t, first ≤ y ∧ y ≤ P) → ∀ s ∈ stepsL first P (x :: t), 1 ≤ s ∧ s ≤ P
  | [], x => fun _ hx s hs => by
    have := hx x (List.mem_cons_self ..)
    simp only [stepsL, List.mem_singleton] at hs
    omega
  | y :: t, x => fun hp hx s hs => by
    rw [List.pairwise_cons] at hp
    have h1 := hp.1 y (List.mem_cons_self ..)
    have h2 := hx x (List.mem_cons_self ..)
    have h3 := hx y (List.mem_cons_of_mem _ (List.mem_cons_self ..))
    simp only [stepsL, List.mem_cons] at hs
    rcases hs with rfl | hs
    · omega
    · exact stepsL_range first P hf hfP t y hp.2 (fun z hz => hx z (List.mem_cons_of_mem _ hz)) s hs
theorem stepsL_rd (first P : Int) : ∀ (l : List Int) (i : Nat), i + 1 < l.length → rd (stepsL first P l) (i : Int) = rd l ((i + 1 : Nat) : Int) - rd l (i : Int)
  | [], i, h => absurd h (Nat.not_lt_zero _)
  | [x], i, h => absurd h (by simp)
  | x :: y :: t, 0, h => by
    rw [rd_of (xs := stepsL first P (x :: y :: t)) (i := 0) (x := y - x) rfl, rd_of (xs := x :: y :: t) (i := 0) (x := x) rfl, rd_of (xs := x :: y :: t) (i := 0 + 1) (x := y) rfl]
  | x :: y :: t, i + 1, h => by
    have hl : i + 1 < (y :: t).length := by simp only [List.length_cons] at h ⊢; omega
    have ih := stepsL_rd first P (y :: t) i hl
    have hsl : i < (stepsL first P (y :: t)).length := by rw [stepsL_length]; omega
    rw [rd_nat hsl, rd_nat hl, rd_nat (show i < (y :: t).length by omega)] at ih
    rw [rd_of (xs := stepsL first P (x :: y :: t)) (i := i + 1) (x := (stepsL first P (y :: t))[i]) (List.getElem?_eq_getElem hsl),
      rd_of (xs := x :: y :: t) (i := i + 1) (x := (y :: t)[i]) (List.getElem?_eq_getElem (show i < (y :: t).length by omega)),
      rd_of (xs := x :: y :: t) (i := i + 1 + 1) (x := (y :: t)[i + 1]) (List.getElem?_eq_getElem hl)]
    exact ih
theorem lb_cons {q : List Ru} {P : Nat} (W : Wheel q P) : ∃ x t, lb q P 1 = x :: t := by
  cases e : lb q P 1 with
  | nil => exact absurd e W.some
  | cons x t => exact ⟨x, t, rfl⟩
theorem steps_range {q : List Ru} {P : Nat} (W : Wheel q P) : ∀ s ∈ steps q P, 1 ≤ s ∧ s ≤ P := by
  obtain ⟨x, t, e⟩ := lb_cons W
  have hs := lb_sorted q P 1
  have hm := fun y => (lb_mem q P 1 y).1
  unfold steps
  rw [e] at hs hm ⊢
  have hx := hm x (List.mem_cons_self ..)
  refine stepsL_range x P hx.1 (by omega) t x hs (fun y hy => ⟨?_, by have := hm y hy; omega⟩)
  rcases List.mem_cons.1 hy with rfl | hy
  · exact Int.le_refl _
  · exact Int.le_of_lt ((List.pairwise_cons.1 hs).1 y hy)
theorem steps_sum {q : List Ru} {P : Nat} (W : Wheel q P) : sumI (steps q P) = P := by
  obtain ⟨x, t, e⟩ := lb_cons W
  unfold steps
  rw [e, stepsL_sum]
  show x + (P : Int) - x = P
  omega
theorem gSum_steps {q : List Ru} {P : Nat} (W : Wheel q P) : Evl (fun k => laws_gSum.f k (steps q P)) (P : Int) := by
  have h5 := W.most
  have hl := lb_length q P 1
  have hsl := steps_length q P
  simp only [laws_gSum.f]
  refine (gSum_l0 (steps q P) (fun x hx => by have := steps_range W x hx; omega) (by omega) (steps q P) 0 0 rfl (by omega) (by omega)).cast ?_
  rw [steps_sum W]
  omega
theorem steps_rd {q : List Ru} {P i : Nat} (h : i + 1 < (lb q P 1).length) : rd (steps q P) (i : Int) = rd (lb q P 1) ((i + 1 : Nat) : Int) - rd (lb q P 1) (i : Int) := stepsL_rd _ _ _ _ h

end Go.Proofs.Ytdaodlhcedjfoaa.L

/-! ## E12 -/
namespace Go.Proofs.Ytdaodlhcedjfoaa.L
open Go.RowKit Go.Proofs.YtdaodlhcedjfoaaW.PrintWords Go.Proofs.Ytdaodlhcedjfoaa.P
set_option linter.unusedVariables false
set_option linter.unusedSimpArgs false

def Rg (v : Int) : Prop := -9223372036854775808 ≤ v ∧ v ≤ 9223372036854775807
theorem Rg.wf {v : Int} (h : Rg v) : (Lit.int .i64 v).wf = true := by
  have := wrap64_wf v
  rwa [w64 h.1 h.2] at this
theorem Rg.wrap (n : Int) : Rg (wrap64 n) := by unfold Rg wrap64; omega
theorem u8_range {x : Int} (h : (Lit.int .u8 x).wf = true) : 0 ≤ x ∧ x ≤ 255 := by
  simp [Lit.wf, IntKind.min, IntKind.max, IntKind.signed, IntKind.bits] at h
  omega
theorem bits255 (s : Int) : 0 ≤ wrap64 (Go.bits .and .u64 (IntKind.u64.wrap s / 1099511627776) 255) ∧ wrap64 (Go.bits .and .u64 (IntKind.u64.wrap s / 1099511627776) 255) ≤ 255 := by
  have h0 : 0 ≤ IntKind.u64.wrap s ∧ IntKind.u64.wrap s < 18446744073709551616 := by rw [IntKind.wrap_u64]; omega
  generalize IntKind.u64.wrap s = z at *
  obtain ⟨n, hn⟩ := Int.eq_ofNat_of_zero_le (show 0 ≤ z / 1099511627776 by omega)
  have hb : Go.bits .and .u64 (n : Int) 255 = ((n &&& 255 : Nat) : Int) := Go.bits_and_u64_nat n 255 (by omega) (by omega)
  have hle : n &&& 255 ≤ 255 := Nat.and_le_right
  rw [hn, hb]
  generalize n &&& 255 = y at *
  rw [w64 (by omega) (by omega)]
  omega
theorem next_some (l : List Int) (hl : ∀ x ∈ l, 0 ≤ x ∧ x ≤ 255) (p s : Int) (h0 : 0 ≤ p) (h1 : p ≤ 1000000) : ∃ b s', spec_l1Cur_next.f l p s = some (b, p + 1, s') ∧ 0 ≤ b ∧ b ≤ 255 := by
  have hw : wrap64 (p + 1) = p + 1 := w64 (by omega) (by omega)
  simp only [spec_l1Cur_next.f, hw, if_pos h0]
  by_cases g : p < (l.length : Int)
  · have hr : 0 ≤ rd l p ∧ rd l p ≤ 255 := by
      obtain ⟨i, rfl⟩ := Int.eq_ofNat_of_zero_le h0
      rw [rd_nat (by omega)]
      exact hl _ (List.getElem_mem _)
    have hwr : wrap64 (rd l p) = rd l p := w64 (by omega) (by omega)
    simp only [if_pos g, if_pos (show p + 1 ≤ (l.length : Int) by omega), hwr]
    exact ⟨_, _, rfl, hr⟩
  · simp only [if_neg g, if_neg (show ¬ p + 1 ≤ (l.length : Int) by omega)]
    exact ⟨_, _, rfl, bits255 _⟩
theorem pick_some (l : List Int) (hl : ∀ x ∈ l, 0 ≤ x ∧ x ≤ 255) (p s n : Int) (h0 : 0 ≤ p) (h1 : p ≤ 100000) (hn : 1 ≤ n) (hn2 : n ≤ 60000) : ∃ r p' s', spec_l1Cur_pick.f l p s n = some (r, p', s') ∧ 0 ≤ r ∧ r < n ∧ p ≤ p' ∧ p' ≤ p + 2 := by
  simp only [spec_l1Cur_pick.f]
  by_cases g : n ≤ 1
  · simp only [if_pos g]
    exact ⟨_, _, _, rfl, by omega, by omega, by omega, by omega⟩
  · obtain ⟨b, s1, e1, b0, b1⟩ := next_some l hl p s h0 (by omega)
    obtain ⟨c, s2, e2, c0, c1⟩ := next_some l hl (p + 1) s1 (by omega) (by omega)
    have hz : ¬ n = 0 := by omega
    simp only [if_neg g, e1, Option.bind_some, if_neg hz]
    by_cases g2 : n > 200
    · have w1 : wrap64 (b * 256) = b * 256 := w64 (by omega) (by omega)
      have w2 : wrap64 (b * 256 + c) = b * 256 + c := w64 (by omega) (by omega)
      simp only [if_pos g2, e2, Option.bind_some, w1, w2]
      exact ⟨_, _, _, rfl, Int.tmod_nonneg _ (by omega), Int.tmod_lt_of_pos _ (by omega), by omega, by omega⟩
    · simp only [if_neg g2]
      exact ⟨_, _, _, rfl, Int.tmod_nonneg _ (by omega), Int.tmod_lt_of_pos _ (by omega), by omega, by omega⟩
theorem among_some (l : List Int) (hl : ∀ x ∈ l, 0 ≤ x ∧ x ≤ 255) (p s : Int) (xs : List Int) (h0 : 0 ≤ p) (h1 : p ≤ 100000) (hn : 1 ≤ xs.length) (hn2 : xs.length ≤ 60000) : ∃ v p' s', spec_l1Cur_among.f l p s xs = some (v, p', s') ∧ v ∈ xs ∧ p ≤ p' ∧ p' ≤ p + 2 := by
  obtain ⟨r, p', s', e, r0, r1, q0, q1⟩ := pick_some l hl p s (xs.length : Int) h0 h1 (by omega) (by omega)
  simp only [spec_l1Cur_among.f, e, Option.bind_some, if_pos r0, if_pos r1]
  refine ⟨_, _, _, rfl, ?_, q0, q1⟩
  obtain ⟨i, rfl⟩ := Int.eq_ofNat_of_zero_le r0
  rw [rd_nat (by omega)]
  exact List.getElem_mem _
theorem big_some (a b : List Int) : ∃ t, laws_big.f a b = some t := by
  simp only [laws_big.f]
  split
  · exact ⟨_, rfl⟩
  · exact ⟨_, rfl⟩

end Go.Proofs.Ytdaodlhcedjfoaa.L

/-! ## X3 -/
namespace Go.Proofs.Ytdaodlhcedjfoaa.L
open Go.RowKit Go.Proofs.YtdaodlhcedjfoaaW.PrintWords Go.Proofs.Ytdaodlhcedjfoaa.P Go.Proofs.Ytdaodlhcedjfoaa.M
set_option linter.unusedVariables false
set_option linter.unusedSimpArgs false

/-- The first twelve primes. -/
def p12 : List Int := [2, 3, 5, 7, 11, 13, 17, 19, 23, 29, 31, 37]
theorem pl_36 : pl 36 2 = p12 := by decide +kernel
theorem prFirst_l0 (c : Nat) (hc : c ≤ 100000) : ∀ (m : Nat) (n : Int) (acc : List Int), 0 ≤ n → n + m ≤ 100000 → acc.length ≤ c → c ≤ acc.length + (pl m n).length → Evl (fun k => spec_prFirst.l0 k (c : Int) acc n) (acc ++ (pl m n).take (c - acc.length)) := by
  intro m
  induction m with
  | zero =>
    intro n acc h0 hn ha hb
    simp only [pl, List.length_nil] at hb
    refine Evl.succ ?_
    simp only [spec_prFirst.l0, if_neg (show ¬ (acc.length : Int) < (c : Int) by omega)]
    refine (Evl.ret _).cast ?_
    simp [pl]
  | succ m ih =>
    intro n acc h0 hn ha hb
    have hw : wrap64 (n + 1) = n + 1 := w64 (by omega) (by omega)
    refine Evl.succ ?_
    by_cases e : acc.length < c
    · simp only [spec_prFirst.l0, if_pos (show (acc.length : Int) < (c : Int) by omega), if_pos (show acc.length < 17592186044416 by omega), hw]
      refine Evl.bind (spec_prIs_ev n (by omega)) ?_
      unfold pl at hb ⊢
      by_cases p : isPI n = true
      · rw [if_pos p] at hb ⊢
        rw [List.length_cons] at hb
        simp only [p, if_true]
        refine (ih (n + 1) (acc ++ [n]) (by omega) (by omega) (by rw [List.length_append, List.length_singleton]; omega) (by rw [List.length_append, List.length_singleton]; omega)).cast ?_
        rw [List.length_append, List.length_singleton, show c - acc.length = (c - (acc.length + 1)) + 1 by omega, List.take_succ_cons, List.append_assoc]
        rfl
      · rw [if_neg p] at hb ⊢
        simp only [if_neg p]
        exact ih (n + 1) acc (by omega) (by omega) ha hb
    · simp only [spec_prFirst.l0, if_neg (show ¬ (acc.length : Int) < (c : Int) by omega)]
      refine (Evl.ret _).cast ?_
      rw [show c - acc.length = 0 by omega, List.take_zero, List.append_nil]
theorem prFirst_ev (c : Nat) (hc : c ≤ 12) : Evl (fun k => spec_prFirst.f k (c : Int)) (p12.take c) := by
  simp only [spec_prFirst.f]
  refine (prFirst_l0 c (by omega) 36 2 [] (by omega) (by omega) (by simp) (by rw [pl_36]; show c ≤ 0 + 12; omega)).cast ?_
  rw [pl_36]
  rfl
theorem spec_prRules_l0 (xs : List Int) (hl : xs.length ≤ 1000) : ∀ (s : List Int) (i : Nat) (acc : List S45), xs.drop i = s → acc.length + s.length ≤ 1000 → Evl (fun k => spec_prRules.l0 k acc xs (xs.length : Int) (i : Int)) (acc ++ s.map fun p => (⟨p, 0⟩ : S45)) := by
  intro s
  induction s with
  | nil =>
    intro i acc hd ha
    have hi := drop_nil hd
    refine Evl.succ ?_
    simp only [spec_prRules.l0, if_neg (show ¬ (i : Int) < (xs.length : Int) by omega)]
    refine (Evl.ret _).cast ?_
    simp
  | cons y s ih =>
    intro i acc hd ha
    obtain ⟨hi, hy, hs⟩ := drop_cons hd
    rw [List.length_cons] at ha
    have hw : wrap64 ((i : Int) + 1) = ((i + 1 : Nat) : Int) := by rw [w64 (by omega) (by omega)]; rfl
    refine Evl.succ ?_
    simp only [spec_prRules.l0, if_pos (show (i : Int) < (xs.length : Int) by omega), if_pos (show (0 : Int) ≤ (i : Int) by omega), if_pos (show acc.length < 8796093022208 by omega), rd_of hy, hw]
    refine (ih (i + 1) _ hs (by rw [List.length_append, List.length_singleton]; omega)).cast ?_
    rw [List.append_assoc]
    rfl
theorem take12 (c : Nat) : (p12.take c).length ≤ 12 := by rw [List.length_take]; exact Nat.min_le_right _ _
theorem prRules_ev (c : Nat) (hc : c ≤ 12) : Evl (fun k => spec_prRules.f k (c : Int)) ((p12.take c).map fun p => (⟨p, 0⟩ : S45)) := by
  simp only [spec_prRules.f]
  refine Evl.bind (prFirst_ev c hc) ?_
  have := take12 c
  exact spec_prRules_l0 (p12.take c) (by omega) _ 0 [] rfl (by simp only [List.length_nil]; omega)

end Go.Proofs.Ytdaodlhcedjfoaa.L

/-! ## E15 -/
namespace Go.Proofs.Ytdaodlhcedjfoaa.L
open Go.RowKit Go.Proofs.YtdaodlhcedjfoaaW.PrintWords Go.Proofs.Ytdaodlhcedjfoaa.P Go.Proofs.Ytdaodlhcedjfoaa.M
set_option linter.unusedVariables false
set_option linter.unusedSimpArgs false

theorem dwheel_l1 (l : List Int) (p s : Int) : ∀ (m : Nat) (acc : List S45), 12 ≤ acc.length + m → acc.length ≤ 60 → ∃ r, Evl (fun k => spec_l1Cur_wheel.l1 k acc l p s) (r, p, s) ∧ r.length ≤ 100 := by
  intro m
  induction m with
  | zero =>
    intro acc h1 h2
    refine ⟨acc, ?_, by omega⟩
    refine Evl.succ ?_
    simp only [spec_l1Cur_wheel.l1, if_neg (show ¬ (acc.length : Int) < 12 by omega)]
    exact Evl.ret _
  | succ m ih =>
    intro acc h1 h2
    by_cases g : (acc.length : Int) < 12
    · obtain ⟨r, hr, hl⟩ := ih (acc ++ [(⟨3, 0⟩ : S45)]) (by rw [List.length_append, List.length_singleton]; omega) (by rw [List.length_append, List.length_singleton]; omega)
      refine ⟨r, ?_, hl⟩
      refine Evl.succ ?_
      simp only [spec_l1Cur_wheel.l1, if_pos g, if_pos (show acc.length < 8796093022208 by omega)]
      exact hr
    · refine ⟨acc, ?_, by omega⟩
      refine Evl.succ ?_
      simp only [spec_l1Cur_wheel.l1, if_neg g]
      exact Evl.ret _
theorem dwheel_l0 (l : List Int) (hl : ∀ x ∈ l, 0 ≤ x ∧ x ≤ 255) : ∀ (m : Nat) (acc : List S45) (p s : Int), 0 ≤ p → p + 4 * m ≤ 9000 → acc.length + m ≤ 50 → ∃ r p' s', Evl (fun k => spec_l1Cur_wheel.l0 k acc (m : Int) l p s) (r, p', s') ∧ r.length ≤ 100 ∧ p ≤ p' ∧ p' ≤ p + 4 * m + 8 := by
  intro m
  induction m with
  | zero =>
    intro acc p s h0 h1 h2
    obtain ⟨r, p1, s1, e, r0, r1, q0, q1⟩ := pick_some l hl p s 16 h0 (by omega) (by omega) (by omega)
    by_cases c0 : r = 0
    · obtain ⟨u, p2, s2, e2, hu, q2, q3⟩ := among_some l hl p1 s1 [1, 2, 59, 60, 61, 0] (by omega) (by omega) (by decide) (by decide)
      obtain ⟨v, p3, s3, e3, hv, q4, q5⟩ := among_some l hl p2 s2 [0, 1, (-1)] (by omega) (by omega) (by decide) (by decide)
      refine ⟨acc ++ [(⟨u, v⟩ : S45)], p3, s3, ?_, by rw [List.length_append, List.length_singleton]; omega, by omega, by omega⟩
      refine Evl.succ ?_
      simp only [spec_l1Cur_wheel.l0, if_neg (show ¬ ((0 : Nat) : Int) > 0 by omega), e, e2, e3, Option.bind_some, if_pos c0, if_pos (show acc.length < 8796093022208 by omega)]
      exact Evl.ret _
    · by_cases c1 : r = 1
      · refine ⟨acc ++ [(⟨2, 0⟩ : S45), (⟨2, 1⟩ : S45)], p1, s1, ?_, by rw [List.length_append]; simp; omega, by omega, by omega⟩
        refine Evl.succ ?_
        simp only [spec_l1Cur_wheel.l0, if_neg (show ¬ ((0 : Nat) : Int) > 0 by omega), e, Option.bind_some, if_neg c0, if_pos c1, if_pos (show acc.length + [(⟨2, 0⟩ : S45), (⟨2, 1⟩ : S45)].length < 8796093022208 by simp; omega)]
        exact Evl.ret _
      · by_cases c2 : r = 2
        · obtain ⟨t, ht, hlen⟩ := dwheel_l1 l p1 s1 12 acc (by omega) (by omega)
          refine ⟨t, p1, s1, ?_, hlen, by omega, by omega⟩
          refine Evl.succ ?_
          simp only [spec_l1Cur_wheel.l0, if_neg (show ¬ ((0 : Nat) : Int) > 0 by omega), e, Option.bind_some, if_neg c0, if_neg c1, if_pos c2]
          exact ht
        · refine ⟨acc, p1, s1, ?_, by omega, by omega, by omega⟩
          refine Evl.succ ?_
          simp only [spec_l1Cur_wheel.l0, if_neg (show ¬ ((0 : Nat) : Int) > 0 by omega), e, Option.bind_some, if_neg c0, if_neg c1, if_neg c2]
          exact Evl.ret _
  | succ m ih =>
    intro acc p s h0 h1 h2
    obtain ⟨u, p1, s1, e, u0, u1, q0, q1⟩ := pick_some l hl p s 9 h0 (by omega) (by omega) (by omega)
    have hw : wrap64 (2 + u) = 2 + u := w64 (by omega) (by omega)
    have hw2 : wrap64 (((m + 1 : Nat) : Int) - 1) = (m : Int) := by rw [w64 (by omega) (by omega)]; omega
    obtain ⟨v, p2, s2, e2, v0, v1, q2, q3⟩ := pick_some l hl p1 s1 (2 + u) (by omega) (by omega) (by omega) (by omega)
    obtain ⟨r, p3, s3, hr, hlen, q4, q5⟩ := ih (acc ++ [(⟨2 + u, v⟩ : S45)]) p2 s2 (by omega) (by omega) (by rw [List.length_append, List.length_singleton]; omega)
    refine ⟨r, p3, s3, ?_, hlen, by omega, by omega⟩
    refine Evl.succ ?_
    simp only [spec_l1Cur_wheel.l0, if_pos (show ((m + 1 : Nat) : Int) > 0 by omega), e, Option.bind_some, hw, e2, hw2, if_pos (show acc.length < 8796093022208 by omega)]
    exact hr
theorem dwheel_some (l : List Int) (hl : ∀ x ∈ l, 0 ≤ x ∧ x ≤ 255) (p s : Int) (h0 : 0 ≤ p) (h1 : p ≤ 1000) : ∃ r p' s', Evl (fun k => spec_l1Cur_wheel.f k l p s) (r, p', s') ∧ r.length ≤ 100 ∧ p ≤ p' ∧ p' ≤ p + 100 := by
  obtain ⟨r, p1, s1, e, r0, r1, q0, q1⟩ := pick_some l hl p s 5 h0 (by omega) (by omega) (by omega)
  simp only [spec_l1Cur_wheel.f, spec_l1Cur_one.f, e, Option.bind_some]
  by_cases g : (r == 0) = true
  · obtain ⟨v, p2, s2, e2, hv, q2, q3⟩ := among_some l hl p1 s1 [0, 1, 2, 3, 4, 5, 6] (by omega) (by omega) (by decide) (by decide)
    have hv2 : 0 ≤ v ∧ v ≤ 6 := by
      have : ∀ x ∈ ([0, 1, 2, 3, 4, 5, 6] : List Int), 0 ≤ x ∧ x ≤ 6 := by decide
      exact this v hv
    obtain ⟨c, rfl⟩ := Int.eq_ofNat_of_zero_le hv2.1
    refine ⟨(p12.take c).map fun p => (⟨p, 0⟩ : S45), p2, s2, ?_, ?_, by omega, by omega⟩
    · simp only [if_pos g, e2, Option.bind_some]
      exact Evl.bind (prRules_ev c (by omega)) (Evl.ret _)
    · have := take12 c
      rw [List.length_map]
      omega
  · obtain ⟨v, p2, s2, e2, v0, v1, q2, q3⟩ := pick_some l hl p1 s1 4 (by omega) (by omega) (by omega) (by omega)
    obtain ⟨c, rfl⟩ := Int.eq_ofNat_of_zero_le v0
    obtain ⟨t, p3, s3, ht, hlen, q4, q5⟩ := dwheel_l0 l hl c [] p2 s2 (by omega) (by omega) (by simp; omega)
    refine ⟨t, p3, s3, ?_, hlen, by omega, by omega⟩
    simp only [if_neg g, e2, Option.bind_some]
    exact ht
theorem dfar_some (l : List Int) (hl : ∀ x ∈ l, 0 ≤ x ∧ x ≤ 255) (p s : Int) (h0 : 0 ≤ p) (h1 : p ≤ 10000) : ∃ v p' s', spec_l1Cur_far.f l p s = some (v, p', s') ∧ Rg v := by
  obtain ⟨r, p1, s1, e, r0, r1, q0, q1⟩ := pick_some l hl p s 6 h0 (by omega) (by omega) (by omega)
  simp only [spec_l1Cur_far.f, spec_l1Cur_one.f, e, Option.bind_some]
  by_cases g : (r == 0) = true
  · obtain ⟨v, p2, s2, e2, hv, q2, q3⟩ := among_some l hl p1 s1 [0, 1000000000, 1000000001, (-1), 123456789, 4611686018427387904] (by omega) (by omega) (by decide) (by decide)
    simp only [if_pos g, e2, Option.bind_some]
    refine ⟨_, _, _, rfl, ?_⟩
    have : ∀ x ∈ ([0, 1000000000, 1000000001, (-1), 123456789, 4611686018427387904] : List Int), -1 ≤ x ∧ x ≤ 4611686018427387904 := by decide
    have := this v hv
    unfold Rg
    omega
  · obtain ⟨v, p2, s2, e2, v0, v1, q2, q3⟩ := pick_some l hl p1 s1 300 (by omega) (by omega) (by omega) (by omega)
    simp only [if_neg g, e2, Option.bind_some]
    refine ⟨_, _, _, rfl, ?_⟩
    unfold Rg
    omega
theorem drawSpokeOfRank_some (l : List Int) (hl : ∀ x ∈ l, 0 ≤ x ∧ x ≤ 255) : ∃ r n, Evl (fun k => spec_DrawSpokeOfRank.f k l) (r, n) ∧ r.length ≤ 1099511627776 ∧ Rg n := by
  obtain ⟨r, p, s, hr, hlen, q0, q1⟩ := dwheel_some l hl 0 0 (by omega) (by omega)
  obtain ⟨v, p2, s2, e2, hv⟩ := dfar_some l hl p s (by omega) (by omega)
  refine ⟨r, v, ?_, by omega, hv⟩
  simp only [spec_DrawSpokeOfRank.f, spec_DrawIsSpoke.f]
  refine Evl.bind (a := (r, v)) ?_ (Evl.ret _)
  refine Evl.bind hr ?_
  simp only [e2, Option.bind_some]
  exact Evl.ret _

end Go.Proofs.Ytdaodlhcedjfoaa.L

/-! ## X36 -/
namespace Go.Proofs.Ytdaodlhcedjfoaa.L
open Go.RowKit Go.Proofs.YtdaodlhcedjfoaaW.PrintWords Go.Proofs.Ytdaodlhcedjfoaa.P Go.Proofs.Ytdaodlhcedjfoaa.M
set_option linter.unusedVariables false
set_option linter.unusedSimpArgs false

theorem WTD_j7no (l : List S45) (n x e : Int) (b : Bool) : Evl (fun k => laws_FnWheelsTurn.j7 k l n b x e false) true := by
  refine Evl.succ ?_
  simp only [laws_FnWheelsTurn.j7, Bool.false_eq_true, if_false]
  exact Evl.ret _
theorem WTD_j6 {l : List S45} {P : Nat} (d : WD l P) (n : Int) (c : 0 ≤ n ∧ n ≤ 1000000000) (e : Nat) (he : e ≤ 5000) (x : Int) (h0 : 0 < e → left (rs l) n = false)
    (h : (x = n - e ∧ left (rs l) (n - e) = true) ∨ (x = n + e ∧ left (rs l) (n + e) = true ∧ left (rs l) (n - e) = false)) : Evl (fun k => laws_FnWheelsTurn.j6 k l n (left (rs l) n) x (e : Int)) true := by
  have w1 : wrap64 (n + (e : Int)) = n + (e : Int) := w64 (by omega) (by omega)
  have w2 : wrap64 (n - (e : Int)) = n - (e : Int) := w64 (by omega) (by omega)
  have hd : (left (rs l) n != ((e : Int) == 0)) = false := by
    by_cases h1 : e = 0
    · subst h1
      have : left (rs l) n = true := by
        rcases h with ⟨_, h⟩ | ⟨_, h, _⟩
        · rwa [show n - ((0 : Nat) : Int) = n by omega] at h
        · rwa [show n + ((0 : Nat) : Int) = n by omega] at h
      rw [this]
      rfl
    · rw [h0 (by omega), show ((e : Int) == 0) = false from beq_eq_false_iff_ne.2 (by omega)]
      rfl
  refine Evl.succ ?_
  simp only [laws_FnWheelsTurn.j6, hd, Bool.false_eq_true, if_false, w1, w2]
  by_cases g1 : n + (e : Int) ≤ 1000000000
  · by_cases g2 : n - (e : Int) ≥ 0
    · simp only [if_pos g1, if_pos g2]
      by_cases g3 : (e : Int) > 0
      · rw [decide_eq_true g3]
        refine Evl.succ ?_
        simp only [laws_FnWheelsTurn.j7, if_true, w1, w2]
        refine Evl.bind (is_i d _) ?_
        refine Evl.bind (is_i d _) ?_
        have e1 : isV (rs l) (n - (e : Int)) = (left (rs l) (n - (e : Int)), true) := by unfold isV; rw [if_pos ⟨by omega, by omega⟩]
        have e2 : isV (rs l) (n + (e : Int)) = (left (rs l) (n + (e : Int)), true) := by unfold isV; rw [if_pos ⟨by omega, by omega⟩]
        rw [e1, e2, h0 (by omega)]
        simp only [Bool.false_eq_true, if_false, if_true]
        rcases h with ⟨hx, hl⟩ | ⟨hx, hl, hl2⟩
        · rw [hl]
          simp only [if_true, if_neg (show ¬ x > n by omega)]
          exact Evl.ret _
        · rw [hl, hl2]
          simp only [if_true, Bool.false_eq_true, if_false, if_pos (show x > n by omega)]
          exact Evl.ret _
      · rw [decide_eq_false g3]
        exact WTD_j7no _ _ _ _ _
    · simp only [if_pos g1, if_neg g2]
      exact WTD_j7no _ _ _ _ _
  · simp only [if_neg g1]
    exact WTD_j7no _ _ _ _ _
theorem WTD_j5 {l : List S45} {P : Nat} (d : WD l P) (n : Int) : Evl (fun k => laws_FnWheelsTurn.j5 k l n (isV (rs l) n).1 (nrV (rs l) n).1 (nrV (rs l) n).2) true := by
  refine Evl.succ ?_
  simp only [laws_FnWheelsTurn.j5]
  by_cases c : 0 ≤ n ∧ n ≤ 1000000000
  · obtain ⟨e, he, hleft⟩ := exists_left d.W n
    have h5 := d.h5
    obtain ⟨f, f0, f1, f2, f3⟩ := near_spec (rs l) n 5000 0 ⟨e, by omega, by omega, hleft⟩
    have e1 : isV (rs l) n = (left (rs l) n, true) := by unfold isV; rw [if_pos c]
    have e2 : nrV (rs l) n = (near (rs l) n 5000 ((0 : Nat) : Int), true) := by unfold nrV; rw [if_pos c]
    rw [e1, e2]
    have f2' : 0 < f → left (rs l) n = false := fun h => by
      have := f2 h
      rwa [show n - ((0 : Nat) : Int) = n by omega] at this
    have key := WTD_j6 d n c f (by omega) (near (rs l) n 5000 ((0 : Nat) : Int)) f2' f3
    simp only [if_true]
    rcases f3 with ⟨hx, _⟩ | ⟨hx, _⟩
    · have w : wrap64 (near (rs l) n 5000 ((0 : Nat) : Int) - n) = -(f : Int) := by rw [hx, w64 (by omega) (by omega)]; omega
      have w' : wrap64 (-(-(f : Int))) = (f : Int) := by rw [w64 (by omega) (by omega)]; omega
      rw [w]
      by_cases g : -(f : Int) < 0
      · simp only [if_pos g, w']
        exact key
      · simp only [if_neg g]
        rw [show -(f : Int) = (f : Int) by omega]
        exact key
    · have w : wrap64 (near (rs l) n 5000 ((0 : Nat) : Int) - n) = (f : Int) := by rw [hx, w64 (by omega) (by omega)]; omega
      rw [w]
      simp only [if_neg (show ¬ (f : Int) < 0 by omega)]
      exact key
  · have e2 : nrV (rs l) n = (0, false) := by unfold nrV; rw [if_neg c]
    rw [e2]
    simp only [Bool.false_eq_true, if_false]
    exact Evl.ret _
theorem WTD_j4 {l : List S45} {P : Nat} (d : WD l P) (n : Int) : Evl (fun k => laws_FnWheelsTurn.j4 k l n (rsV (rs l) P n).1 (rsV (rs l) P n).2 (isV (rs l) n).1 (nrV (rs l) n).1 (nrV (rs l) n).2) true := by
  refine Evl.succ ?_
  simp only [laws_FnWheelsTurn.j4]
  by_cases g : (0 ≤ n ∧ n ≤ 1000000000) ∧ 1 ≤ n ∧ left (rs l) n = true
  · have e : (rsV (rs l) P n).2 = true := by unfold rsV; rw [if_pos g]
    rw [e]
    simp only [if_true]
    refine Evl.bind (sor_i d _) ?_
    rw [rs_sor d.W g]
    simp only [if_true]
    exact WTD_j5 d n
  · have e : (rsV (rs l) P n).2 = false := by unfold rsV; rw [if_neg g]
    rw [e]
    simp only [Bool.false_eq_true, if_false]
    exact WTD_j5 d n
theorem WTD_j3 {l : List S45} {P : Nat} (d : WD l P) (n : Int) (b : Bool) (hb : b = true → (0 ≤ n ∧ n ≤ 1000000000) ∧ (sorV (rs l) P n).1 ≤ 1000000000) : Evl (fun k => laws_FnWheelsTurn.j3 k l n (sorV (rs l) P n).1 (rsV (rs l) P n).1 (rsV (rs l) P n).2 (isV (rs l) n).1 (nrV (rs l) n).1 (nrV (rs l) n).2 b) true := by
  refine Evl.succ ?_
  simp only [laws_FnWheelsTurn.j3]
  cases b with
  | true =>
    obtain ⟨h1, h2⟩ := hb rfl
    simp only [if_true]
    refine Evl.bind (rs_i d _) ?_
    rw [sor_rs d.W h1 h2]
    simp only [if_true]
    exact WTD_j4 d n
  | false =>
    simp only [Bool.false_eq_true, if_false]
    exact WTD_j4 d n
theorem WTD_l0 {l : List S45} {P : Nat} (d : WD l P) (n : Int) : ∀ (s : List Int) (i : Nat), (lb (rs l) P 1).drop i = s →
    Evl (fun k => laws_FnWheelsTurn.l0 k l n (sorV (rs l) P n).1 (sorV (rs l) P n).2 (rsV (rs l) P n).1 (rsV (rs l) P n).2 (isV (rs l) n).1 (nrV (rs l) n).1 (nrV (rs l) n).2 (lb (rs l) P 1) (steps (rs l) P) (P : Int) (lb (rs l) P 1) ((lb (rs l) P 1).length : Int) (i : Int)) true := by
  have h5 := d.h5
  have hll := lb_length (rs l) P 1
  have hsl := steps_length (rs l) P
  intro s
  induction s with
  | nil =>
    intro i hd
    have hi := drop_nil hd
    refine Evl.succ ?_
    simp only [laws_FnWheelsTurn.l0, if_neg (show ¬ (i : Int) < ((lb (rs l) P 1).length : Int) by omega)]
    by_cases c : 0 ≤ n ∧ n ≤ 1000000000
    · have e : (sorV (rs l) P n).2 = true := by unfold sorV; rw [if_pos c]
      rw [e]
      simp only [if_true]
      exact WTD_j3 d n _ (fun h => ⟨c, of_decide_eq_true h⟩)
    · have e : (sorV (rs l) P n).2 = false := by unfold sorV; rw [if_neg c]
      rw [e]
      simp only [Bool.false_eq_true, if_false]
      exact WTD_j3 d n _ (fun h => by cases h)
  | cons y s ih =>
    intro i hd
    obtain ⟨hi, hy, hs⟩ := drop_cons hd
    have hm := (lb_mem (rs l) P 1 y).1 (List.mem_of_getElem? hy)
    have hw : wrap64 ((i : Int) + 1) = ((i + 1 : Nat) : Int) := by rw [w64 (by omega) (by omega)]; rfl
    have hw3 : wrap64 (3 * (P : Int)) = 3 * (P : Int) := w64 (by omega) (by omega)
    have hw4 : wrap64 (y + 3 * (P : Int)) = y + 3 * (P : Int) := w64 (by omega) (by omega)
    have e1 : isV (rs l) (y + 3 * (P : Int)) = (true, true) := by
      unfold isV
      rw [if_pos ⟨by omega, by omega⟩, show y + 3 * (P : Int) = y + (P : Int) * 3 by omega, d.W.add, hm.2.2]
    have hj : Evl (fun k => laws_FnWheelsTurn.j2 k l n (sorV (rs l) P n).1 (sorV (rs l) P n).2 (rsV (rs l) P n).1 (rsV (rs l) P n).2 (isV (rs l) n).1 (nrV (rs l) n).1 (nrV (rs l) n).2 (lb (rs l) P 1) (steps (rs l) P) (P : Int) y (lb (rs l) P 1) ((lb (rs l) P 1).length : Int) (i : Int) false) true := by
      refine Evl.succ ?_
      simp only [laws_FnWheelsTurn.j2, Bool.false_eq_true, if_false, hw3, hw4]
      refine Evl.bind (is_i d _) ?_
      rw [e1]
      simp only [if_true, hw]
      exact ih (i + 1) hs
    refine Evl.succ ?_
    simp only [laws_FnWheelsTurn.l0, if_pos (show (i : Int) < ((lb (rs l) P 1).length : Int) by omega), if_pos (show (0 : Int) ≤ (i : Int) by omega), rd_of hy, if_neg (show ¬ y < 1 by omega), if_neg (show ¬ y > (P : Int) by omega)]
    by_cases g : (i : Int) > 0
    · obtain ⟨m, rfl⟩ : ∃ m, i = m + 1 := ⟨i - 1, by omega⟩
      have hwm : wrap64 (((m + 1 : Nat) : Int) - 1) = (m : Int) := by rw [w64 (by omega) (by omega)]; omega
      have hst := steps_rd (q := rs l) (P := P) (i := m) (by omega)
      rw [rd_of hy] at hst
      have hb1 := wheel_bounds (q := rs l) d.h5 _ (List.getElem_mem (show m < (lb (rs l) P 1).length by omega))
      have hr := rd_nat (xs := lb (rs l) P 1) (i := m) (by omega)
      have hw5 : wrap64 (y - rd (lb (rs l) P 1) (m : Int)) = y - rd (lb (rs l) P 1) (m : Int) := by rw [hr]; exact w64 (by omega) (by omega)
      have hbn : (wrap64 (y - rd (lb (rs l) P 1) (m : Int)) != rd (steps (rs l) P) (m : Int)) = false := by rw [hw5, hst]; exact bne_self_eq_false _
      simp only [if_pos g, hwm, if_pos (show (0 : Int) ≤ (m : Int) by omega), if_pos (show (m : Int) < ((lb (rs l) P 1).length : Int) by omega), if_pos (show (m : Int) < ((steps (rs l) P).length : Int) by omega), hbn]
      exact hj
    · simp only [if_neg g]
      exact hj
theorem WTD_j0 {l : List S45} {P : Nat} (d : WD l P) (n : Int) : Evl (fun k => laws_FnWheelsTurn.j0 k l n (sorV (rs l) P n).1 (sorV (rs l) P n).2 (rsV (rs l) P n).1 (rsV (rs l) P n).2 (isV (rs l) n).1 (nrV (rs l) n).1 (nrV (rs l) n).2 (lb (rs l) P 1) true (steps (rs l) P) ((lb (rs l) P 1).length : Int) false) true := by
  have hlen : 1 ≤ (lb (rs l) P 1).length := List.length_pos_iff.2 d.W.some
  refine Evl.succ ?_
  simp only [laws_FnWheelsTurn.j0, Bool.false_eq_true, if_false, if_true]
  refine Evl.bind (period_i d) ?_
  refine Evl.bind (leftIn_i d) ?_
  simp only [if_true, steps_length]
  refine Evl.bind (gSum_steps d.W) ?_
  simp only [if_true, if_neg (show ¬ ((lb (rs l) P 1).length : Int) < 1 by omega)]
  exact WTD_l0 d n _ 0 rfl
theorem WTD_j0no (l : List S45) (n a : Int) (b : Bool) (r : Int) (rb : Bool) (ib : Bool) (x : Int) (xb : Bool) (sp st : List Int) (c : Int) : Evl (fun k => laws_FnWheelsTurn.j0 k l n a b r rb ib x xb sp false st c false) true := by
  refine Evl.succ ?_
  simp only [laws_FnWheelsTurn.j0, Bool.false_eq_true, if_false]
  exact Evl.ret _
/-- All that is asked of both, told with what they tell. -/
theorem WTD_all (code more : List Int) (hb : laws_big.f code more = some false) (l : List S45) (n : Int) (hd : Evl (fun k => spec_DrawSpokeOfRank.f k code) (l, n)) (sv : Int) (sb : Bool) (rv : Int) (rb : Bool) (ib iw : Bool) (nv : Int) (sp : List Int) (wb : Bool) (st : List Int) (cv : Int)
    (a1 : Evl (fun k => impl_SpokeOfRank.f k l n) (sv, sb)) (a2 : Evl (fun k => spec_SpokeOfRank.f k l n) (sv, sb)) (b1 : Evl (fun k => impl_RankOfSpoke.f k l n) (rv, rb)) (b2 : Evl (fun k => spec_RankOfSpoke.f k l n) (rv, rb))
    (c1 : Evl (fun k => impl_IsSpoke.f k l n) (ib, iw)) (c2 : Evl (fun k => spec_IsSpoke.f k l n) (ib, iw)) (d1 : Evl (fun k => impl_SpokeNear.f k l n) (nv, iw)) (d2 : Evl (fun k => spec_SpokeNear.f k l n) (nv, iw))
    (e1 : Evl (fun k => impl_SpokesOf.f k l) (sp, wb)) (e2 : Evl (fun k => spec_SpokesOf.f k l) (sp, wb)) (f1 : Evl (fun k => impl_StepsOf.f k l) (st, wb)) (f2 : Evl (fun k => spec_StepsOf.f k l) (st, wb))
    (g1 : Evl (fun k => impl_CountSpokes.f k l) (cv, wb)) (g2 : Evl (fun k => spec_CountSpokes.f k l) (cv, wb)) (hsp : sp.length ≤ 1099511627776) (hst : st.length ≤ 1099511627776)
    (hrb : rb = (iw && ib && decide (n > 0))) (hwb : iw = true → wb = true) (hj : Evl (fun k => laws_FnWheelsTurn.j0 k l n sv sb rv rb ib nv iw sp wb st cv false) true) : Evl (fun k => laws_FnWheelsTurn.f k code more) true := by
  simp only [laws_FnWheelsTurn.f, hb, Option.bind_some, Bool.false_eq_true, if_false]
  refine Evl.bind hd ?_
  refine Evl.bind a1 ?_
  refine Evl.bind a2 ?_
  refine Evl.bind b1 ?_
  refine Evl.bind b2 ?_
  refine Evl.bind c1 ?_
  refine Evl.bind c2 ?_
  refine Evl.bind d1 ?_
  refine Evl.bind d2 ?_
  refine Evl.bind e1 ?_
  refine Evl.bind e2 ?_
  refine Evl.bind f1 ?_
  refine Evl.bind f2 ?_
  refine Evl.bind g1 ?_
  refine Evl.bind g2 ?_
  simp only [bne_self_eq_false, Bool.false_eq_true, if_false, if_true]
  refine Evl.bind (gSame_self sp hsp) ?_
  simp only [if_true]
  refine Evl.bind (gSame_self st hst) ?_
  simp only [if_true]
  subst hrb
  cases iw with
  | false => simpa only [Bool.false_and, bne_self_eq_false, Bool.false_eq_true, if_false] using hj
  | true =>
    have hw := hwb rfl
    subst hw
    cases ib with
    | false => simpa only [Bool.true_and, Bool.false_and, bne_self_eq_false, Bool.false_eq_true, if_false, if_true] using hj
    | true => simpa only [Bool.true_and, bne_self_eq_false, Bool.false_eq_true, if_false, if_true] using hj
theorem WTD_of (code more : List Int) (hb : laws_big.f code more = some false) (l : List S45) (n : Int) (hd : Evl (fun k => spec_DrawSpokeOfRank.f k code) (l, n)) (hlc : l.length ≤ 1099511627776) (hn : (Lit.int .i64 n).wf = true) : Evl (fun k => laws_FnWheelsTurn.f k code more) true := by
  rcases wd_cases l with ⟨P, d⟩ | ⟨⟨x, y, hi⟩, hs⟩
  · have hsl := steps_length (rs l) P
    have hll := lb_length (rs l) P 1
    have h5 := d.h5
    refine WTD_all code more hb l n hd (sorV (rs l) P n).1 (sorV (rs l) P n).2 (rsV (rs l) P n).1 (rsV (rs l) P n).2 (isV (rs l) n).1 (isV (rs l) n).2 (nrV (rs l) n).1 (lb (rs l) P 1) true (steps (rs l) P) ((lb (rs l) P 1).length : Int)
      (sor_i d n) (Evl.both (FnExactSpokeOfRank_main l n hlc hn) (sor_i d n)) (rs_i d n) (Evl.both (FnExactRankOfSpoke_main l n hlc hn) (rs_i d n)) (is_i d n) (Evl.both (FnExactIsSpoke_main l n hlc hn) (is_i d n))
      ?_ ?_ (spokes_i d) ?_ (steps_i d) ?_ (count_i d) ?_ (by omega) (by omega) ?_ (fun _ => rfl) ?_
    · refine (nr_i d n).cast (Prod.ext rfl ?_)
      unfold nrV isV
      split <;> rfl
    · refine (Evl.both (FnExactSpokeNear_main l n hlc hn) (nr_i d n)).cast (Prod.ext rfl ?_)
      unfold nrV isV
      split <;> rfl
    · obtain ⟨r, b, h1, h2, _⟩ := FnExactSpokesOf_main l hlc
      exact Evl.both ⟨r, b, h1, h2⟩ (spokes_i d)
    · obtain ⟨r, b, h1, h2, _⟩ := FnExactStepsOf_main l hlc
      exact Evl.both ⟨r, b, h1, h2⟩ (steps_i d)
    · exact Evl.both (FnExactCountSpokes_main l hlc) (count_i d)
    · unfold rsV isV
      by_cases c : 0 ≤ n ∧ n ≤ 1000000000
      · rw [if_pos c]
        by_cases c2 : left (rs l) n = true
        · by_cases c3 : n > 0
          · rw [if_pos ⟨c, by omega, c2⟩, c2, decide_eq_true c3]; rfl
          · rw [if_neg (fun h => c3 (by omega)), decide_eq_false c3, Bool.and_false]
        · rw [if_neg (fun h => c2 h.2.2), show left (rs l) n = false by cases h : left (rs l) n with | true => exact absurd h c2 | false => rfl]; rfl
      · rw [if_neg c, if_neg (fun h => c h.1)]; rfl
    · have e : (nrV (rs l) n).2 = (isV (rs l) n).2 := by
        unfold nrV isV
        split <;> rfl
      have := WTD_j0 d n
      rw [e] at this
      exact this
  · have k1 : Evl (fun k => impl_SpokeOfRank.f k l n) (0, false) := by
      simp only [impl_SpokeOfRank.f]
      refine Evl.bind hi ?_
      simp only [Bool.false_eq_true, if_false]
      refine Evl.succ ?_
      simp only [impl_SpokeOfRank.j0, if_true]
      exact Evl.ret _
    have k2 : Evl (fun k => impl_RankOfSpoke.f k l n) (0, false) := by
      simp only [impl_RankOfSpoke.f]
      refine Evl.bind hi ?_
      simp only [Bool.false_eq_true, if_false]
      exact Evl.ret _
    have k3 : Evl (fun k => impl_IsSpoke.f k l n) (false, false) := by
      simp only [impl_IsSpoke.f]
      refine Evl.bind hi ?_
      simp only [Bool.false_eq_true, if_false]
      exact Evl.ret _
    have k4 : Evl (fun k => impl_SpokeNear.f k l n) (0, false) := by
      simp only [impl_SpokeNear.f]
      refine Evl.bind hi ?_
      simp only [Bool.false_eq_true, if_false]
      exact impl_SN_no _ _
    have k5 : Evl (fun k => impl_SpokesOf.f k l) ([], false) := by
      simp only [impl_SpokesOf.f]
      refine Evl.bind hi ?_
      simp only [Bool.false_eq_true, if_false]
      exact Evl.ret _
    have k6 : Evl (fun k => impl_StepsOf.f k l) ([], false) := by
      simp only [impl_StepsOf.f]
      refine Evl.bind hi ?_
      simp only [Bool.false_eq_true, if_false]
      exact Evl.ret _
    have k7 : Evl (fun k => impl_CountSpokes.f k l) (0, false) := by
      simp only [impl_CountSpokes.f]
      refine Evl.bind hi ?_
      simp only [Bool.false_eq_true, if_false]
      exact Evl.ret _
    refine WTD_all code more hb l n hd 0 false 0 false false false 0 [] false [] 0
      k1 (Evl.both (FnExactSpokeOfRank_main l n hlc hn) k1) k2 (Evl.both (FnExactRankOfSpoke_main l n hlc hn) k2) k3 (Evl.both (FnExactIsSpoke_main l n hlc hn) k3) k4 (Evl.both (FnExactSpokeNear_main l n hlc hn) k4)
      k5 ?_ k6 ?_ k7 (Evl.both (FnExactCountSpokes_main l hlc) k7) (by simp) (by simp) rfl (fun h => by cases h) (WTD_j0no _ _ _ _ _ _ _ _ _ _ _ _)
    · obtain ⟨r, b, h1, h2, _⟩ := FnExactSpokesOf_main l hlc
      exact Evl.both ⟨r, b, h1, h2⟩ k5
    · obtain ⟨r, b, h1, h2, _⟩ := FnExactStepsOf_main l hlc
      exact Evl.both ⟨r, b, h1, h2⟩ k6

theorem FnWheelsTurn_law (l0 l1 : List Int) (hm0 : l0.length ≤ maxLen) (hl0 : l0.length * 1 ≤ 140737488351232) (hw0 : ∀ x ∈ l0, (Lit.int .u8 x).wf = true) (hm1 : l1.length ≤ maxLen) (hl1 : l1.length * 1 ≤ 140737488351232) (hw1 : ∀ x ∈ l1, (Lit.int .u8 x).wf = true) : Evl (fun k => laws_FnWheelsTurn.f k l0 l1) true := by
  have b0 := fun x hx => u8_range (hw0 x hx)
  obtain ⟨t, ht⟩ := big_some l0 l1
  cases t with
  | true =>
    simp only [laws_FnWheelsTurn.f, ht, Option.bind_some, if_true]
    exact Evl.ret _
  | false =>
    obtain ⟨l, n, hd, hlen, hn⟩ := drawSpokeOfRank_some l0 b0
    exact WTD_of l0 l1 ht l n hd hlen hn.wf

end Go.Proofs.Ytdaodlhcedjfoaa.L
