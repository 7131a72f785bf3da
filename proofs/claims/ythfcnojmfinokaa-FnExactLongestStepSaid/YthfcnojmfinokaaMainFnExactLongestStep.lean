/- LongestStep of the program tells what the reference's tells, for all arguments: what both functions compute. No condition beyond 64 bits and the lengths that the statement's guards give. -/
import Derived.Test.YthfcnojmfinokaaPx0
import Derived.Test.YthfcnojmfinokaaPx1
import Derived.Test.YthfcnojmfinokaaPx2
import Derived.Test.YthfcnojmfinokaaPx4
import Derived.Test.YthfcnojmfinokaaPx5
import Derived.Test.YthfcnojmfinokaaPx6
import Derived.Test.YthfcnojmfinokaaPx7
import Derived.Test.YthfcnojmfinokaaPx9
import Derived.Test.YthfcnojmfinokaaPx10
import Derived.Test.YthfcnojmfinokaaPx3
import Derived.Test.YthfcnojmfinokaaPx8
import Derived.Test.YthfcnojmfinokaaPx12
import Derived.Test.YthfcnojmfinokaaPx30
import Derived.Test.YthfcnojmfinokaaPx32
import Derived.Test.YthfcnojmfinokaaPx41
import Derived.Test.YthfcnojmfinokaaPx28
import Derived.Test.YthfcnojmfinokaaPx39
import Derived.Test.YthfcnojmfinokaaPx40
/-! ## L0 -/
namespace Go.Proofs.Ythfcnojmfinokaa.L
open Go.RowKit Go.Proofs.YthfcnojmfinokaaW.PrintWords
set_option linter.unusedVariables false
set_option linter.unusedSimpArgs false

/-- With enough rounds g tells r. -/
def Evl {α : Type} (g : Nat → Option α) (r : α) : Prop := ∃ K, ∀ k, K ≤ k → g k = some r
theorem Evl.ret {α : Type} (r : α) : Evl (fun _ => some r) r := ⟨0, fun _ _ => rfl⟩
theorem Evl.bind {α β : Type} {g : Nat → Option α} {f : Nat → α → Option β} {a : α} {r : β} (h : Evl g a) (h2 : Evl (fun k => f k a) r) : Evl (fun k => (g k).bind (f k)) r := by
  obtain ⟨K, hK⟩ := h
  obtain ⟨K2, hK2⟩ := h2
  refine ⟨max K K2, fun k hk => ?_⟩
  show (g k).bind (f k) = some r
  rw [hK k (Nat.le_trans (Nat.le_max_left _ _) hk), Option.bind_some]
  exact hK2 k (Nat.le_trans (Nat.le_max_right _ _) hk)
theorem Evl.succ {α : Type} {g : Nat → Option α} {r : α} (h : Evl (fun k => g (k + 1)) r) : Evl g r := by
  obtain ⟨K, hK⟩ := h
  refine ⟨K + 1, fun k hk => ?_⟩
  obtain ⟨m, rfl⟩ : ∃ m, k = m + 1 := ⟨k - 1, by omega⟩
  exact hK m (by omega)
theorem Evl.get {α : Type} {g : Nat → Option α} {r : α} (h : Evl g r) : ∃ k, g k = some r := by
  obtain ⟨K, hK⟩ := h
  exact ⟨K, hK K (Nat.le_refl _)⟩
theorem Evl.cast {α : Type} {g : Nat → Option α} {r r' : α} (h : Evl g r) (e : r = r') : Evl g r' := e ▸ h

theorem w64 {x : Int} (h0 : -9223372036854775808 ≤ x) (h1 : x ≤ 9223372036854775807) : wrap64 x = x := by
  unfold wrap64
  omega
theorem drop_nil {α : Type} {xs : List α} {i : Nat} (h : xs.drop i = []) : xs.length ≤ i := by
  simpa using h
theorem drop_cons {α : Type} {xs s : List α} {x : α} {i : Nat} (h : xs.drop i = x :: s) : i < xs.length ∧ xs[i]? = some x ∧ xs.drop (i + 1) = s := by
  have hl : i < xs.length := by
    rcases Nat.lt_or_ge i xs.length with h1 | h1
    · exact h1
    · rw [List.drop_of_length_le h1] at h
      cases h
  rw [List.drop_eq_getElem_cons hl] at h
  injection h with h1 h2
  exact ⟨hl, by rw [List.getElem?_eq_getElem hl, h1], h2⟩
theorem rd_of {xs : List Int} {i : Nat} {x : Int} (h : xs[i]? = some x) : rd xs (i : Int) = x := by
  unfold rd
  rw [Int.toNat_natCast, List.getD_eq_getElem?_getD, h]
  rfl
theorem rd_nat {xs : List Int} {i : Nat} (h : i < xs.length) : rd xs (i : Int) = xs[i] := rd_of (List.getElem?_eq_getElem h)

end Go.Proofs.Ythfcnojmfinokaa.L

/-! ## E0 -/

namespace Go.Proofs.Ythfcnojmfinokaa.L
open Go.RowKit Go.Proofs.YthfcnojmfinokaaW.PrintWords Go.Proofs.Ythfcnojmfinokaa.P
set_option linter.unusedVariables false
set_option linter.unusedSimpArgs false

end Go.Proofs.Ythfcnojmfinokaa.L

/-! ## M1 -/
namespace Go.Proofs.Ythfcnojmfinokaa.M
set_option linter.unusedVariables false
set_option linter.unusedSimpArgs false

/-! ### factors -/
end Go.Proofs.Ythfcnojmfinokaa.M

/-! ## E1 -/

namespace Go.Proofs.Ythfcnojmfinokaa.L
open Go.RowKit Go.Proofs.YthfcnojmfinokaaW.PrintWords Go.Proofs.Ythfcnojmfinokaa.P Go.Proofs.Ythfcnojmfinokaa.M
set_option linter.unusedVariables false
set_option linter.unusedSimpArgs false

end Go.Proofs.Ythfcnojmfinokaa.L

/-! ## E2 -/

namespace Go.Proofs.Ythfcnojmfinokaa.L
open Go.RowKit Go.Proofs.YthfcnojmfinokaaW.PrintWords Go.Proofs.Ythfcnojmfinokaa.P Go.Proofs.Ythfcnojmfinokaa.M
set_option linter.unusedVariables false
set_option linter.unusedSimpArgs false

end Go.Proofs.Ythfcnojmfinokaa.L

/-! ## E3 -/

namespace Go.Proofs.Ythfcnojmfinokaa.L
open Go.RowKit Go.Proofs.YthfcnojmfinokaaW.PrintWords Go.Proofs.Ythfcnojmfinokaa.P Go.Proofs.Ythfcnojmfinokaa.M
set_option linter.unusedVariables false
set_option linter.unusedSimpArgs false

end Go.Proofs.Ythfcnojmfinokaa.L

/-! ## E4 -/
namespace Go.Proofs.Ythfcnojmfinokaa.L
open Go.RowKit Go.Proofs.YthfcnojmfinokaaW.PrintWords Go.Proofs.Ythfcnojmfinokaa.P Go.Proofs.Ythfcnojmfinokaa.M
set_option linter.unusedVariables false
set_option linter.unusedSimpArgs false

theorem l1In_eq (a lo hi : Int) : spec_l1In.f a lo hi = some (decide (lo ≤ a ∧ a ≤ hi)) := by
  unfold spec_l1In.f
  by_cases h : a ≥ lo
  · rw [if_pos h]
    by_cases h2 : a ≤ hi
    · rw [decide_eq_true h2, decide_eq_true ⟨h, h2⟩]
    · rw [decide_eq_false h2, decide_eq_false (fun c => h2 c.2)]
  · rw [if_neg h, decide_eq_false (fun c => h c.1)]

end Go.Proofs.Ythfcnojmfinokaa.L

/-! ## M2 -/
namespace Go.Proofs.Ythfcnojmfinokaa.M
set_option linter.unusedVariables false
set_option linter.unusedSimpArgs false

/-- A rule: every, rest. -/
abbrev Ru := Int × Int
def okR (r : Ru) : Bool := decide (2 ≤ r.1 ∧ r.1 ≤ 60 ∧ 0 ≤ r.2 ∧ r.2 < r.1)
def good (rs : List Ru) : Bool := decide (rs.length ≤ 12) && rs.all okR
def left (rs : List Ru) (n : Int) : Bool := rs.all fun r => decide (n % r.1 ≠ r.2)
theorem good_len {rs : List Ru} (h : good rs = true) : rs.length ≤ 12 := by
  unfold good at h
  rw [Bool.and_eq_true] at h
  exact of_decide_eq_true h.1
theorem good_ok {rs : List Ru} (h : good rs = true) {r : Ru} (hr : r ∈ rs) : 2 ≤ r.1 ∧ r.1 ≤ 60 ∧ 0 ≤ r.2 ∧ r.2 < r.1 := by
  unfold good at h
  rw [Bool.and_eq_true] at h
  exact of_decide_eq_true (List.all_eq_true.1 h.2 r hr)
/-- The numbers among m from n on that are left. -/
def lb (rs : List Ru) : Nat → Int → List Int
  | 0, _ => []
  | m + 1, n => if left rs n = true then n :: lb rs m (n + 1) else lb rs m (n + 1)
theorem lb_length (rs : List Ru) : ∀ (m : Nat) (n : Int), (lb rs m n).length ≤ m
  | 0, _ => Nat.le_refl _
  | m + 1, n => by
    unfold lb
    have := lb_length rs m (n + 1)
    split
    · rw [List.length_cons]; omega
    · omega
theorem lb_mem (rs : List Ru) : ∀ (m : Nat) (n x : Int), x ∈ lb rs m n ↔ n ≤ x ∧ x < n + m ∧ left rs x = true
  | 0, n, x => by
    unfold lb
    constructor
    · intro h; cases h
    · intro h; omega
  | m + 1, n, x => by
    unfold lb
    have ih := lb_mem rs m (n + 1) x
    by_cases h : left rs n = true
    · rw [if_pos h, List.mem_cons, ih]
      constructor
      · rintro (rfl | h1)
        · exact ⟨Int.le_refl _, by omega, h⟩
        · exact ⟨by omega, by omega, h1.2.2⟩
      · rintro ⟨h1, h2, h3⟩
        by_cases e : x = n
        · exact .inl e
        · exact .inr ⟨by omega, by omega, h3⟩
    · rw [if_neg h, ih]
      constructor
      · rintro ⟨h1, h2, h3⟩
        exact ⟨by omega, by omega, h3⟩
      · rintro ⟨h1, h2, h3⟩
        have e : x ≠ n := fun e => h (e ▸ h3)
        exact ⟨by omega, by omega, h3⟩
theorem lb_sorted (rs : List Ru) : ∀ (m : Nat) (n : Int), (lb rs m n).Pairwise (· < ·)
  | 0, _ => List.Pairwise.nil
  | m + 1, n => by
    unfold lb
    have ih := lb_sorted rs m (n + 1)
    split
    · refine List.Pairwise.cons (fun x hx => ?_) ih
      have := (lb_mem rs m (n + 1) x).1 hx
      omega
    · exact ih
/-- The period of rules, if it is not too great. -/
def per : Nat → List Ru → Option Nat
  | p, [] => some p
  | p, r :: rs => if 100000 < p / Nat.gcd p r.1.toNat * r.1.toNat then none else per (p / Nat.gcd p r.1.toNat * r.1.toNat) rs
theorem lcm_eq (p e : Nat) : p / Nat.gcd p e * e = Nat.lcm p e := by
  unfold Nat.lcm
  rw [Nat.div_mul_right_comm (Nat.gcd_dvd_left p e)]
theorem per_spec : ∀ (rs : List Ru) (p P : Nat), 1 ≤ p → p ≤ 100000 → (∀ r ∈ rs, 1 ≤ r.1) → per p rs = some P → 1 ≤ P ∧ P ≤ 100000 ∧ p ∣ P ∧ ∀ r ∈ rs, r.1.toNat ∣ P
  | [], p, P, h1, h2, _, h => by
    injection h with h
    subst h
    exact ⟨h1, h2, Nat.dvd_refl _, fun r hr => absurd hr (by simp)⟩
  | r :: rs, p, P, h1, h2, hr, h => by
    unfold per at h
    have he : 1 ≤ r.1.toNat := by have := hr r (by simp); omega
    by_cases hc : 100000 < p / Nat.gcd p r.1.toNat * r.1.toNat
    · rw [if_pos hc] at h
      cases h
    · rw [if_neg hc] at h
      rw [lcm_eq] at h hc
      have hp : 1 ≤ Nat.lcm p r.1.toNat := Nat.lcm_pos (by omega) (by omega)
      obtain ⟨g1, g2, g3, g4⟩ := per_spec rs _ P hp (by omega) (fun q hq => hr q (by simp [hq])) h
      refine ⟨g1, g2, Nat.dvd_trans (Nat.dvd_lcm_left _ _) g3, fun q hq => ?_⟩
      rcases List.mem_cons.1 hq with rfl | hq
      · exact Nat.dvd_trans (Nat.dvd_lcm_right _ _) g3
      · exact g4 q hq
theorem left_add {rs : List Ru} {P : Nat} (hd : ∀ r ∈ rs, r.1.toNat ∣ P) (hp : ∀ r ∈ rs, 1 ≤ r.1) (n k : Int) : left rs (n + P * k) = left rs n := by
  unfold left
  have : ∀ (q : List Ru), (∀ r ∈ q, r ∈ rs) → (q.all fun r => decide ((n + P * k) % r.1 ≠ r.2)) = q.all fun r => decide (n % r.1 ≠ r.2) := by
    intro q
    induction q with
    | nil => intro _; rfl
    | cons r q ih =>
      intro hq
      have hr := hq r (by simp)
      obtain ⟨c, hc⟩ := hd r hr
      have h1 := hp r hr
      have e : (P : Int) = r.1 * (c : Int) := by
        rw [hc, Int.natCast_mul, Int.toNat_of_nonneg (by omega)]
      have e2 : (n + P * k) % r.1 = n % r.1 := by
        rw [e, Int.mul_assoc, Int.add_mul_emod_self_left]
      rw [List.all_cons, List.all_cons, ih (fun r hr => hq r (by simp [hr])), e2]
  exact this rs (fun r hr => hr)

/-- A wheel: its period. -/
def whl (rs : List Ru) : Option Nat :=
  if good rs = true then match per 1 rs with
    | none => none
    | some P => if P ≤ 5000 ∧ lb rs P 1 ≠ [] then some P else none
  else none
structure Wheel (rs : List Ru) (P : Nat) : Prop where
  good : good rs = true
  per : per 1 rs = some P
  pos : 1 ≤ P
  most : P ≤ 5000
  dvd : ∀ r ∈ rs, r.1.toNat ∣ P
  some : lb rs P 1 ≠ []
theorem whl_spec {rs : List Ru} {P : Nat} (h : whl rs = some P) : Wheel rs P := by
  unfold whl at h
  by_cases hg : good rs = true
  · rw [if_pos hg] at h
    cases hp : per 1 rs with
    | none => rw [hp] at h; cases h
    | some Q =>
      rw [hp] at h
      dsimp only at h
      by_cases hc : Q ≤ 5000 ∧ lb rs Q 1 ≠ []
      · rw [if_pos hc] at h
        injection h with h
        subst h
        obtain ⟨g1, g2, g3, g4⟩ := per_spec rs 1 Q (by omega) (by omega) (fun r hr => by have := good_ok hg hr; omega) hp
        exact ⟨hg, hp, g1, hc.1, g4, hc.2⟩
      · rw [if_neg hc] at h
        cases h
  · rw [if_neg hg] at h
    cases h
theorem Wheel.one {rs : List Ru} {P : Nat} (h : Wheel rs P) : ∀ r ∈ rs, 1 ≤ r.1 := fun r hr => by have := good_ok h.good hr; omega
theorem Wheel.add {rs : List Ru} {P : Nat} (h : Wheel rs P) (n k : Int) : left rs (n + P * k) = left rs n := left_add h.dvd h.one n k
theorem Wheel.on {rs : List Ru} {P : Nat} (h : Wheel rs P) (n : Int) : left rs (n + P) = left rs n := by
  have := h.add n 1
  rw [Int.mul_one] at this
  exact this

end Go.Proofs.Ythfcnojmfinokaa.M

/-! ## E5 -/
namespace Go.Proofs.Ythfcnojmfinokaa.L
open Go.RowKit Go.Proofs.YthfcnojmfinokaaW.PrintWords Go.Proofs.Ythfcnojmfinokaa.P Go.Proofs.Ythfcnojmfinokaa.M
set_option linter.unusedVariables false
set_option linter.unusedSimpArgs false

/-- A rule as a pair. -/
def ru (x : S54) : Ru := (x.f0, x.f1)
def rs (l : List S54) : List Ru := l.map ru
theorem rdT_of {xs : List S54} {i : Nat} {x : S54} (h : xs[i]? = some x) : rd_T54 xs (i : Int) = x := by
  unfold rd_T54
  rw [Int.toNat_natCast, List.getD_eq_getElem?_getD, h]
  rfl
/-- All numbers of rules at least 1 and at most 60. -/
def Sane (l : List S54) : Prop := ∀ x ∈ l, 1 ≤ x.f0 ∧ x.f0 ≤ 60

theorem tmod_range {a b : Int} (hb : 1 ≤ b) : -b < Int.tmod a b ∧ Int.tmod a b < b := by
  rcases Int.le_total 0 a with h | h
  · rw [Int.tmod_eq_emod_of_nonneg h]
    exact ⟨by have := Int.emod_nonneg a (show b ≠ 0 by omega); omega, Int.emod_lt_of_pos a (by omega)⟩
  · obtain ⟨c, rfl⟩ : ∃ c, a = -c := ⟨-a, by omega⟩
    rw [Int.neg_tmod, Int.tmod_eq_emod_of_nonneg (show 0 ≤ c by omega)]
    have h1 := Int.emod_nonneg c (show b ≠ 0 by omega)
    have h2 := Int.emod_lt_of_pos c (show 0 < b by omega)
    exact ⟨by omega, by omega⟩
theorem rest_eq {a b : Int} (hb : 1 ≤ b) (hb2 : b ≤ 1000000) : Int.tmod (wrap64 (Int.tmod a b + b)) b = a % b := by
  have hr := tmod_range (a := a) hb
  rw [w64 (by omega) (by omega), Int.tmod_eq_emod_of_nonneg (by omega), Int.tmod_def]
  rw [show a - b * Int.tdiv a b + b = a + b * (1 - Int.tdiv a b) by rw [Int.mul_sub, Int.mul_one]; omega, Int.add_mul_emod_self_left]
theorem impl_mod_eq {a b : Int} (hb : 1 ≤ b) (hb2 : b ≤ 1000000) : impl_mod.f a b = some (a % b) := by
  simp only [impl_mod.f, if_neg (show ¬ b = 0 by omega)]
  rw [rest_eq hb hb2]
theorem spec_siRest_eq {a b : Int} (hb : 1 ≤ b) (hb2 : b ≤ 1000000) : spec_siRest.f a b = some (a % b) := by
  simp only [spec_siRest.f, if_neg (show ¬ b = 0 by omega)]
  rw [rest_eq hb hb2]

/-- The first rule that crosses a number out, told from index i on; -1: none. -/
def fiFrom : List Ru → Int → Int → Int
  | [], _, _ => -1
  | r :: q, n, i => if n % r.1 = r.2 then i else fiFrom q n (i + 1)
theorem fiFrom_neg : ∀ (q : List Ru) (n i : Int), 0 ≤ i → decide (fiFrom q n i < 0) = left q n
  | [], n, i, h => rfl
  | r :: q, n, i, h => by
    unfold fiFrom
    have ih := fiFrom_neg q n (i + 1) (by omega)
    unfold left at ih ⊢
    rw [List.all_cons]
    by_cases c : n % r.1 = r.2
    · rw [if_pos c, decide_eq_false (show ¬ i < 0 by omega), decide_eq_false (by simp [c]), Bool.false_and]
    · rw [if_neg c, ih, decide_eq_true (show n % r.1 ≠ r.2 from c), Bool.true_and]
theorem firstRule_go : ∀ (l : List S54) (n i : Int), Sane l → impl_firstRule.go l n i = some (fiFrom (rs l) n i)
  | [], n, i, _ => rfl
  | x :: l, n, i, h => by
    have hx := h x (by simp)
    have ih := firstRule_go l n (i + 1) (fun y hy => h y (by simp [hy]))
    simp only [impl_firstRule.go, impl_mod_eq (a := n) hx.1 (show x.f0 ≤ 1000000 by omega), Option.bind_some, ih]
    unfold rs
    rw [List.map_cons, fiFrom]
    unfold ru
    by_cases c : n % x.f0 = x.f1
    · rw [if_pos c, if_pos c]
    · rw [if_neg c, if_neg c]
theorem isLeft_eq {l : List S54} (h : Sane l) (n : Int) : impl_isLeft.f l n = some (left (rs l) n) := by
  simp only [impl_isLeft.f, impl_firstRule.f, firstRule_go l n 0 h, Option.bind_some]
  rw [fiFrom_neg _ _ _ (Int.le_refl 0)]
theorem siFirst_l0 (l : List S54) (h : Sane l) (hl : l.length ≤ 1099511627776) (n : Int) : ∀ (s : List S54) (i : Nat), l.drop i = s → Evl (fun k => spec_siFirst.l0 k n l (l.length : Int) (i : Int)) (fiFrom (rs s) n (i : Int)) := by
  intro s
  induction s with
  | nil =>
    intro i hd
    have hi := drop_nil hd
    refine Evl.succ ?_
    simp only [spec_siFirst.l0, if_neg (show ¬ (i : Int) < (l.length : Int) by omega)]
    exact Evl.ret _
  | cons x s ih =>
    intro i hd
    obtain ⟨hi, hx, hs⟩ := drop_cons hd
    have hsx := h x (List.mem_of_getElem? hx)
    have hw : wrap64 ((i : Int) + 1) = ((i + 1 : Nat) : Int) := by rw [w64 (by omega) (by omega)]; rfl
    refine Evl.succ ?_
    simp only [spec_siFirst.l0, if_pos (show (i : Int) < (l.length : Int) by omega), if_pos (show (0 : Int) ≤ (i : Int) by omega), rdT_of hx, spec_siRest_eq (a := n) hsx.1 (show x.f0 ≤ 1000000 by omega), Option.bind_some, hw]
    have e : fiFrom (rs (x :: s)) n (i : Int) = if n % x.f0 = x.f1 then (i : Int) else fiFrom (rs s) n ((i : Int) + 1) := rfl
    rw [e]
    by_cases c : n % x.f0 = x.f1
    · simp only [if_pos c]
      exact Evl.ret _
    · simp only [if_neg c]
      exact ih (i + 1) hs
theorem siLeft_ev {l : List S54} (h : Sane l) (hl : l.length ≤ 1099511627776) (n : Int) : Evl (fun k => spec_siLeft.f k l n) (left (rs l) n) := by
  simp only [spec_siLeft.f, spec_siFirst.f]
  refine Evl.bind (siFirst_l0 l h hl n l 0 rfl) ?_
  rw [← fiFrom_neg (rs l) n 0 (Int.le_refl 0)]
  exact Evl.ret _

/-! ### valid rules -/
theorem isRule_eq (a b : Int) : impl_isRule.f a b = some (okR (a, b)) := by
  unfold impl_isRule.f okR
  by_cases h1 : a ≥ 2
  · by_cases h2 : a ≤ 60
    · by_cases h3 : b ≥ 0
      · rw [if_pos h1, if_pos h2, if_pos h3]
        by_cases h4 : b < a
        · rw [decide_eq_true h4, decide_eq_true ⟨h1, h2, h3, h4⟩]
        · rw [decide_eq_false h4, decide_eq_false (fun c => h4 c.2.2.2)]
      · rw [if_pos h1, if_pos h2, if_neg h3, decide_eq_false (fun c => h3 c.2.2.1)]
    · rw [if_pos h1, if_neg h2, decide_eq_false (fun c => h2 c.2.1)]
  · rw [if_neg h1, decide_eq_false (fun c => h1 c.1)]
theorem siRule_eq (a b : Int) : spec_siRule.f a b = some (okR (a, b)) := by
  unfold spec_siRule.f okR
  rw [l1In_eq, Option.bind_some]
  by_cases h1 : 2 ≤ a ∧ a ≤ 60
  · rw [decide_eq_true h1, if_pos rfl, l1In_eq, Option.bind_some, w64 (by omega) (by omega)]
    by_cases h2 : 0 ≤ b ∧ b ≤ a - 1
    · rw [decide_eq_true h2, decide_eq_true (by omega)]
    · rw [decide_eq_false h2, decide_eq_false (by omega)]
  · rw [decide_eq_false h1, if_neg (by simp), decide_eq_false (fun c => h1 ⟨c.1, c.2.1⟩)]
theorem areRules_go : ∀ (l : List S54) (i : Int), 0 ≤ i → ∃ r, impl_areRules.go l i = some r ∧ (!(decide (0 ≤ r))) = (rs l).all okR
  | [], i, _ => ⟨-1, rfl, rfl⟩
  | x :: l, i, h => by
    have e : rs (x :: l) = ru x :: rs l := rfl
    simp only [impl_areRules.go, isRule_eq, Option.bind_some]
    rw [e, List.all_cons]
    cases c : okR (x.f0, x.f1) with
    | true =>
      simp only [if_true]
      obtain ⟨r, h1, h2⟩ := areRules_go l (i + 1) (by omega)
      refine ⟨r, h1, ?_⟩
      rw [h2, show okR (ru x) = true from c, Bool.true_and]
    | false =>
      simp only [Bool.false_eq_true, if_false]
      refine ⟨i, rfl, ?_⟩
      rw [show okR (ru x) = false from c, Bool.false_and, decide_eq_true h]
      rfl
theorem rs_length (l : List S54) : (rs l).length = l.length := by unfold rs; exact List.length_map ..
theorem areRules_eq (l : List S54) : impl_areRules.f l = some (good (rs l)) := by
  unfold impl_areRules.f good
  rw [rs_length]
  by_cases h : l.length ≤ 12
  · obtain ⟨r, h1, h2⟩ := areRules_go l 0 (Int.le_refl 0)
    rw [if_pos (show (l.length : Int) ≤ 12 by omega), h1, Option.bind_some, h2, decide_eq_true h, Bool.true_and]
  · rw [if_neg (show ¬ (l.length : Int) ≤ 12 by omega), decide_eq_false h, Bool.false_and]
theorem siGood_l0 (l : List S54) (hl : l.length ≤ 12) : ∀ (s : List S54) (i : Nat), l.drop i = s → Evl (fun k => spec_siGood.l0 k l (l.length : Int) (i : Int)) ((rs s).all okR) := by
  intro s
  induction s with
  | nil =>
    intro i hd
    have hi := drop_nil hd
    refine Evl.succ ?_
    simp only [spec_siGood.l0, if_neg (show ¬ (i : Int) < (l.length : Int) by omega)]
    exact Evl.ret _
  | cons x s ih =>
    intro i hd
    obtain ⟨hi, hx, hs⟩ := drop_cons hd
    have hw : wrap64 ((i : Int) + 1) = ((i + 1 : Nat) : Int) := by rw [w64 (by omega) (by omega)]; rfl
    have e : rs (x :: s) = ru x :: rs s := rfl
    refine Evl.succ ?_
    simp only [spec_siGood.l0, if_pos (show (i : Int) < (l.length : Int) by omega), if_pos (show (0 : Int) ≤ (i : Int) by omega), rdT_of hx, siRule_eq, Option.bind_some, hw]
    rw [e, List.all_cons]
    cases c : okR (x.f0, x.f1) with
    | true =>
      simp only [if_true]
      refine (ih (i + 1) hs).cast ?_
      rw [show okR (ru x) = true from c, Bool.true_and]
    | false =>
      simp only [Bool.false_eq_true, if_false]
      refine (Evl.ret _).cast ?_
      rw [show okR (ru x) = false from c, Bool.false_and]
theorem siGood_ev (l : List S54) : Evl (fun k => spec_siGood.f k l) (good (rs l)) := by
  unfold good
  rw [rs_length]
  by_cases h : l.length ≤ 12
  · simp only [spec_siGood.f, if_neg (show ¬ (l.length : Int) > 12 by omega)]
    rw [decide_eq_true h, Bool.true_and]
    exact siGood_l0 l h l 0 rfl
  · simp only [spec_siGood.f, if_pos (show (l.length : Int) > 12 by omega)]
    rw [decide_eq_false h, Bool.false_and]
    exact Evl.ret _
theorem sane_of_good {l : List S54} (h : good (rs l) = true) : Sane l := fun x hx => by
  have := good_ok h (r := ru x) (List.mem_map.2 ⟨x, hx, rfl⟩)
  exact ⟨by have := this.1; unfold ru at this; omega, this.2.1⟩
theorem len_of_good {l : List S54} (h : good (rs l) = true) : l.length ≤ 12 := by
  have := good_len h
  rwa [rs_length] at this

end Go.Proofs.Ythfcnojmfinokaa.L

/-! ## E7 -/
namespace Go.Proofs.Ythfcnojmfinokaa.L
open Go.RowKit Go.Proofs.YthfcnojmfinokaaW.PrintWords Go.Proofs.Ythfcnojmfinokaa.P Go.Proofs.Ythfcnojmfinokaa.M
set_option linter.unusedVariables false
set_option linter.unusedSimpArgs false

theorem eqRule_self (a b : Int) : laws_eqRule.f a b a b = some true := by
  simp only [laws_eqRule.f, if_true]
theorem eqRuleS_l0 (a : List S54) (hl : a.length ≤ 1099511627776) : ∀ (s : List S54) (i : Nat), a.drop i = s → Evl (fun k => laws_eqRuleS.l0 k a a (i : Int)) true := by
  intro s
  induction s with
  | nil =>
    intro i h
    have hi := drop_nil h
    refine Evl.succ ?_
    simp only [laws_eqRuleS.l0, if_neg (show ¬ (i : Int) < (a.length : Int) by omega)]
    exact Evl.ret _
  | cons x s ih =>
    intro i h
    obtain ⟨hi, hx, hs⟩ := drop_cons h
    have hw : wrap64 ((i : Int) + 1) = ((i + 1 : Nat) : Int) := by rw [w64 (by omega) (by omega)]; rfl
    refine Evl.succ ?_
    simp only [laws_eqRuleS.l0, if_pos (show (i : Int) < (a.length : Int) by omega), if_pos (show (0 : Int) ≤ (i : Int) by omega), eqRule_self, Option.bind_some, if_true, hw]
    exact ih (i + 1) hs
theorem eqRuleS_self (a : List S54) (hl : a.length ≤ 1099511627776) : Evl (fun k => laws_eqRuleS.f k a a) true := by
  simp only [laws_eqRuleS.f, if_true]
  exact eqRuleS_l0 a hl a 0 rfl
theorem szRuleS_eq (a : List S62) (hl : a.length ≤ 10000000000000) : laws_szRuleS.f a 1048576 = some (if a.length ≤ 1048576 then 1048576 - (a.length : Int) else -1) := by
  unfold laws_szRuleS.f
  have hw : wrap64 (1048576 - (a.length : Int)) = 1048576 - (a.length : Int) := w64 (by omega) (by omega)
  rw [hw]
  by_cases h : a.length ≤ 1048576
  · rw [if_neg (by omega), if_pos h]
  · rw [if_pos (by omega), if_neg h]
/-- The rules that the law's own rules are copied to. -/
def cp (a : List S62) : List S54 := a.map fun x => ⟨x.f0, x.f1⟩
theorem cp_length (a : List S62) : (cp a).length = a.length := by unfold cp; exact List.length_map ..
theorem toRuleS_l0 (a : List S62) (hl : a.length ≤ 1099511627776) : ∀ (s : List S62) (pre t : List S54) (i : Nat), pre.length = i → a.drop i = s → t.length = s.length → Evl (fun k => laws_toRuleS.l0 k a (pre ++ t) (i : Int)) (pre ++ cp s) := by
  intro s
  induction s with
  | nil =>
    intro pre t i hi hd ht
    obtain rfl : t = [] := List.eq_nil_of_length_eq_zero ht
    have h1 := drop_nil hd
    refine Evl.succ ?_
    simp only [laws_toRuleS.l0, if_neg (show ¬ (i : Int) < (a.length : Int) by omega)]
    exact Evl.ret _
  | cons x s ih =>
    intro pre t i hi hd ht
    obtain ⟨y, t, rfl⟩ : ∃ y t', t = y :: t' := by
      cases t with
      | nil => cases ht
      | cons y t => exact ⟨y, t, rfl⟩
    obtain ⟨h1, hx, hs⟩ := drop_cons hd
    have hrx : rd_T62 a (i : Int) = x := by
      unfold rd_T62
      rw [Int.toNat_natCast, List.getD_eq_getElem?_getD, hx]
      rfl
    have hw : wrap64 ((i : Int) + 1) = ((i + 1 : Nat) : Int) := by rw [w64 (by omega) (by omega)]; rfl
    have h2 : (i : Int) < ((pre ++ y :: t).length : Int) := by rw [List.length_append, List.length_cons]; omega
    have hset : ∀ z : S54, (pre ++ y :: t).set (i : Int).toNat z = (pre ++ [z]) ++ t := by
      intro z
      rw [Int.toNat_natCast, ← hi, List.set_append_right _ _ (Nat.le_refl _), Nat.sub_self, List.set_cons_zero, List.append_assoc]
      rfl
    refine Evl.succ ?_
    simp only [laws_toRuleS.l0, if_pos (show (i : Int) < (a.length : Int) by omega), if_pos (show (0 : Int) ≤ (i : Int) by omega), hrx, laws_toRule.f, Option.bind_some, if_pos h2, hw, hset]
    refine (ih (pre ++ [(⟨x.f0, x.f1⟩ : S54)]) t (i + 1) (by rw [List.length_append, hi]; rfl) hs ?_).cast ?_
    · rw [List.length_cons, List.length_cons] at ht
      omega
    · rw [List.append_assoc]
      rfl
theorem toRuleS_ev (a : List S62) (hl : a.length ≤ 1099511627776) : Evl (fun k => laws_toRuleS.f k a) (cp a) := by
  simp only [laws_toRuleS.f, if_pos (show (0 : Int) ≤ (a.length : Int) by omega), if_pos (show ((a.length : Int)).toNat ≤ 17592186044416 by omega)]
  exact toRuleS_l0 a hl a [] (List.replicate _ _) 0 rfl rfl (by rw [List.length_replicate]; exact Int.toNat_natCast _)

end Go.Proofs.Ythfcnojmfinokaa.L

/-! ## E6 -/
namespace Go.Proofs.Ythfcnojmfinokaa.L
open Go.RowKit Go.Proofs.YthfcnojmfinokaaW.PrintWords Go.Proofs.Ythfcnojmfinokaa.P Go.Proofs.Ythfcnojmfinokaa.M
set_option linter.unusedVariables false
set_option linter.unusedSimpArgs false

theorem leftBetween_l0 (l : List S54) (h : Sane l) (hi : Int) (hh : hi ≤ 2000000000) : ∀ (m : Nat) (n : Int) (acc : List Int), -2000000000 ≤ n → (m : Int) = hi + 1 - n → acc.length + m ≤ 10000000000 → Evl (fun k => impl_leftBetween.l0 k l hi acc n) (acc ++ lb (rs l) m n) := by
  intro m
  induction m with
  | zero =>
    intro n acc h0 hm hb
    refine Evl.succ ?_
    simp only [impl_leftBetween.l0, if_neg (show ¬ n ≤ hi by omega)]
    refine (Evl.ret _).cast ?_
    simp [lb]
  | succ m ih =>
    intro n acc h0 hm hb
    have hw : wrap64 (n + 1) = n + 1 := w64 (by omega) (by omega)
    refine Evl.succ ?_
    simp only [impl_leftBetween.l0, if_pos (show n ≤ hi by omega), isLeft_eq h, Option.bind_some, hw]
    unfold lb
    by_cases hp : left (rs l) n = true
    · simp only [if_pos hp, if_pos (show acc.length < 17592186044416 by omega)]
      refine (ih (n + 1) (acc ++ [n]) (by omega) (by omega) (by rw [List.length_append]; simp; omega)).cast ?_
      simp
    · simp only [if_neg hp]
      exact ih (n + 1) acc (by omega) (by omega) (by omega)
theorem leftBetween_ev {l : List S54} (h : Sane l) (lo hi : Int) (h0 : -2000000000 ≤ lo) (hh : hi ≤ 2000000000) : Evl (fun k => impl_leftBetween.f k l lo hi) (lb (rs l) (hi + 1 - lo).toNat lo) := by
  simp only [impl_leftBetween.f]
  rcases Int.lt_or_le hi lo with c | c
  · refine Evl.succ ?_
    simp only [impl_leftBetween.l0, if_neg (show ¬ lo ≤ hi by omega)]
    rw [show (hi + 1 - lo).toNat = 0 by omega]
    exact Evl.ret _
  · exact leftBetween_l0 l h hi hh (hi + 1 - lo).toNat lo [] h0 (by omega) (by simp; omega)
theorem whSpokes_l0 (l : List S54) (h : Sane l) (hl : l.length ≤ 1099511627776) (hi : Int) (hh : hi ≤ 2000000000) : ∀ (m : Nat) (n : Int) (acc : List Int), -2000000000 ≤ n → (m : Int) = hi + 1 - n → acc.length + m ≤ 10000000000 → Evl (fun k => spec_whSpokes.l0 k l hi acc n) (acc ++ lb (rs l) m n) := by
  intro m
  induction m with
  | zero =>
    intro n acc h0 hm hb
    refine Evl.succ ?_
    simp only [spec_whSpokes.l0, if_neg (show ¬ n ≤ hi by omega)]
    refine (Evl.ret _).cast ?_
    simp [lb]
  | succ m ih =>
    intro n acc h0 hm hb
    have hw : wrap64 (n + 1) = n + 1 := w64 (by omega) (by omega)
    refine Evl.succ ?_
    simp only [spec_whSpokes.l0, if_pos (show n ≤ hi by omega), hw]
    refine Evl.bind (siLeft_ev h hl n) ?_
    unfold lb
    by_cases hp : left (rs l) n = true
    · simp only [if_pos hp, if_pos (show acc.length < 17592186044416 by omega)]
      refine (ih (n + 1) (acc ++ [n]) (by omega) (by omega) (by rw [List.length_append]; simp; omega)).cast ?_
      simp
    · simp only [if_neg hp]
      exact ih (n + 1) acc (by omega) (by omega) (by omega)
theorem whSpokes_ev {l : List S54} (h : Sane l) (hl : l.length ≤ 1099511627776) (P : Nat) (hp : P ≤ 100000) : Evl (fun k => spec_whSpokes.f k l (P : Int)) (lb (rs l) P 1) := by
  simp only [spec_whSpokes.f]
  exact whSpokes_l0 l h hl (P : Int) (by omega) P 1 [] (by omega) (by omega) (by simp; omega)

/-! ### periods -/
theorem impl_gcd_l0 : ∀ (b a : Nat), Evl (fun k => impl_gcd.l0 k (a : Int) (b : Int)) ((Nat.gcd a b : Nat) : Int) := by
  intro b
  induction b using Nat.strongRecOn with
  | ind b ih =>
    intro a
    refine Evl.succ ?_
    rcases Nat.eq_zero_or_pos b with h | h
    · subst h
      simp only [impl_gcd.l0, if_neg (show ¬ ((0 : Nat) : Int) > 0 by omega)]
      rw [Nat.gcd_zero_right]
      exact Evl.ret _
    · have ht : Int.tmod (a : Int) (b : Int) = ((a % b : Nat) : Int) := rfl
      simp only [impl_gcd.l0, if_pos (show (b : Int) > 0 by omega), if_neg (show ¬ (b : Int) = 0 by omega), ht]
      refine (ih (a % b) (Nat.mod_lt _ h) b).cast ?_
      rw [Nat.gcd_comm, ← Nat.gcd_rec, Nat.gcd_comm]
theorem impl_gcd_ev (a b : Nat) : Evl (fun k => impl_gcd.f k (a : Int) (b : Int)) ((Nat.gcd a b : Nat) : Int) := by
  simp only [impl_gcd.f]
  exact impl_gcd_l0 b a
theorem spec_siCommon_l0 : ∀ (b a : Nat), Evl (fun k => spec_siCommon.l0 k (a : Int) (b : Int)) ((Nat.gcd a b : Nat) : Int) := by
  intro b
  induction b using Nat.strongRecOn with
  | ind b ih =>
    intro a
    refine Evl.succ ?_
    rcases Nat.eq_zero_or_pos b with h | h
    · subst h
      simp only [spec_siCommon.l0, if_neg (show ¬ ((0 : Nat) : Int) > 0 by omega)]
      rw [Nat.gcd_zero_right]
      exact Evl.ret _
    · have ht : Int.tmod (a : Int) (b : Int) = ((a % b : Nat) : Int) := rfl
      simp only [spec_siCommon.l0, if_pos (show (b : Int) > 0 by omega), if_neg (show ¬ (b : Int) = 0 by omega), ht]
      refine (ih (a % b) (Nat.mod_lt _ h) b).cast ?_
      rw [Nat.gcd_comm, ← Nat.gcd_rec, Nat.gcd_comm]
theorem spec_siCommon_ev (a b : Nat) : Evl (fun k => spec_siCommon.f k (a : Int) (b : Int)) ((Nat.gcd a b : Nat) : Int) := by
  simp only [spec_siCommon.f]
  exact spec_siCommon_l0 b a
theorem per_step {p e : Nat} (hp : 1 ≤ p) (hp2 : p ≤ 100000) (he : 1 ≤ e) (he2 : e ≤ 60) :
    1 ≤ Nat.gcd p e ∧ wrap64 (Int.tdiv (p : Int) ((Nat.gcd p e : Nat) : Int)) = ((p / Nat.gcd p e : Nat) : Int) ∧ wrap64 (((p / Nat.gcd p e : Nat) : Int) * (e : Int)) = ((p / Nat.gcd p e * e : Nat) : Int) := by
  have hg : 1 ≤ Nat.gcd p e := Nat.gcd_pos_of_pos_left _ (by omega)
  have hq : p / Nat.gcd p e ≤ p := Nat.div_le_self _ _
  have ht : Int.tdiv (p : Int) ((Nat.gcd p e : Nat) : Int) = ((p / Nat.gcd p e : Nat) : Int) := rfl
  generalize p / Nat.gcd p e = q at hq ht
  refine ⟨hg, by rw [ht]; exact w64 (by omega) (by omega), ?_⟩
  have hm : q * e ≤ 100000 * 60 := Nat.mul_le_mul (by omega) he2
  rw [← Int.natCast_mul]
  exact w64 (by omega) (by omega)
theorem lcmOf_l0 (l : List S54) (h : Sane l) (hl : l.length ≤ 1099511627776) : ∀ (s : List S54) (i p : Nat), l.drop i = s → 1 ≤ p → p ≤ 100000 →
    Evl (fun k => impl_lcmOf.l0 k (p : Int) l (l.length : Int) (i : Int)) (match per p (rs s) with | some P => ((P : Int), true) | none => (0, false)) := by
  intro s
  induction s with
  | nil =>
    intro i p hd h1 h2
    have hi := drop_nil hd
    refine Evl.succ ?_
    simp only [impl_lcmOf.l0, if_neg (show ¬ (i : Int) < (l.length : Int) by omega)]
    exact Evl.ret _
  | cons x s ih =>
    intro i p hd h1 h2
    obtain ⟨hi, hx, hs⟩ := drop_cons hd
    have hsx := h x (List.mem_of_getElem? hx)
    have hw : wrap64 ((i : Int) + 1) = ((i + 1 : Nat) : Int) := by rw [w64 (by omega) (by omega)]; rfl
    obtain ⟨e, he⟩ := Int.eq_ofNat_of_zero_le (show 0 ≤ x.f0 by omega)
    obtain ⟨g1, g2, g3⟩ := per_step h1 h2 (show 1 ≤ e by omega) (show e ≤ 60 by omega)
    have e1 : rs (x :: s) = ru x :: rs s := rfl
    have e2 : (ru x).1.toNat = e := by show x.f0.toNat = e; rw [he]; exact Int.toNat_natCast e
    refine Evl.succ ?_
    simp only [impl_lcmOf.l0, if_pos (show (i : Int) < (l.length : Int) by omega), if_pos (show (0 : Int) ≤ (i : Int) by omega), rdT_of hx, hw, he]
    refine Evl.bind (impl_gcd_ev p e) ?_
    rw [e1, per, e2]
    simp only [if_neg (show ¬ ((Nat.gcd p e : Nat) : Int) = 0 by omega), g2, g3]
    have hpos : 1 ≤ p / Nat.gcd p e * e := by rw [lcm_eq]; exact Nat.lcm_pos (by omega) (by omega)
    generalize p / Nat.gcd p e * e = q at hpos
    by_cases c : 100000 < q
    · simp only [if_pos c, if_pos (show (q : Int) > 100000 by omega)]
      exact Evl.ret _
    · simp only [if_neg c, if_neg (show ¬ (q : Int) > 100000 by omega)]
      exact ih (i + 1) q hs hpos (by omega)
theorem lcmOf_ev {l : List S54} (h : Sane l) (hl : l.length ≤ 1099511627776) : Evl (fun k => impl_lcmOf.f k l) (match per 1 (rs l) with | some P => ((P : Int), true) | none => (0, false)) := by
  simp only [impl_lcmOf.f]
  exact lcmOf_l0 l h hl l 0 1 rfl (by omega) (by omega)
theorem siPeriod_l0 (l : List S54) (h : Sane l) (hl : l.length ≤ 1099511627776) : ∀ (s : List S54) (i p : Nat), l.drop i = s → 1 ≤ p → p ≤ 100000 →
    Evl (fun k => spec_siPeriod.l0 k (p : Int) l (l.length : Int) (i : Int)) (match per p (rs s) with | some P => (P : Int) | none => 0) := by
  intro s
  induction s with
  | nil =>
    intro i p hd h1 h2
    have hi := drop_nil hd
    refine Evl.succ ?_
    simp only [spec_siPeriod.l0, if_neg (show ¬ (i : Int) < (l.length : Int) by omega)]
    exact Evl.ret _
  | cons x s ih =>
    intro i p hd h1 h2
    obtain ⟨hi, hx, hs⟩ := drop_cons hd
    have hsx := h x (List.mem_of_getElem? hx)
    have hw : wrap64 ((i : Int) + 1) = ((i + 1 : Nat) : Int) := by rw [w64 (by omega) (by omega)]; rfl
    obtain ⟨e, he⟩ := Int.eq_ofNat_of_zero_le (show 0 ≤ x.f0 by omega)
    obtain ⟨g1, g2, g3⟩ := per_step h1 h2 (show 1 ≤ e by omega) (show e ≤ 60 by omega)
    have e1 : rs (x :: s) = ru x :: rs s := rfl
    have e2 : (ru x).1.toNat = e := by show x.f0.toNat = e; rw [he]; exact Int.toNat_natCast e
    refine Evl.succ ?_
    simp only [spec_siPeriod.l0, if_pos (show (i : Int) < (l.length : Int) by omega), if_pos (show (0 : Int) ≤ (i : Int) by omega), rdT_of hx, hw, he]
    refine Evl.bind (spec_siCommon_ev p e) ?_
    rw [e1, per, e2]
    simp only [if_neg (show ¬ ((Nat.gcd p e : Nat) : Int) = 0 by omega), g2, g3]
    have hpos : 1 ≤ p / Nat.gcd p e * e := by rw [lcm_eq]; exact Nat.lcm_pos (by omega) (by omega)
    generalize p / Nat.gcd p e * e = q at hpos
    by_cases c : 100000 < q
    · simp only [if_pos c, if_pos (show (q : Int) > 100000 by omega)]
      exact Evl.ret _
    · simp only [if_neg c, if_neg (show ¬ (q : Int) > 100000 by omega)]
      exact ih (i + 1) q hs hpos (by omega)
theorem siPeriod_ev {l : List S54} (h : Sane l) (hl : l.length ≤ 1099511627776) : Evl (fun k => spec_siPeriod.f k l) (match per 1 (rs l) with | some P => (P : Int) | none => 0) := by
  simp only [spec_siPeriod.f]
  exact siPeriod_l0 l h hl l 0 1 rfl (by omega) (by omega)
theorem periodOf_ev (l : List S54) : Evl (fun k => impl_periodOf.f k l) (if good (rs l) = true then (match per 1 (rs l) with | some P => ((P : Int), true) | none => (0, false)) else (0, false)) := by
  simp only [impl_periodOf.f, areRules_eq, Option.bind_some]
  by_cases g : good (rs l) = true
  · have hl := len_of_good g
    simp only [if_pos g]
    refine Evl.bind (lcmOf_ev (sane_of_good g) (by omega)) ?_
    refine (Evl.ret _).cast ?_
    cases per 1 (rs l) <;> rfl
  · simp only [if_neg g]
    exact Evl.ret _
/-- A wheel as the program makes it: told apart by whl. -/
theorem wheelOf_ev (l : List S54) : (∃ P, whl (rs l) = some P ∧ Evl (fun k => impl_wheelOf.f k l) ((P : Int), lb (rs l) P 1, true)) ∨ (whl (rs l) = none ∧ ∃ x y, Evl (fun k => impl_wheelOf.f k l) (x, y, false)) := by
  have hp := periodOf_ev l
  unfold whl
  by_cases g : good (rs l) = true
  · rw [if_pos g] at hp ⊢
    cases c : per 1 (rs l) with
    | none =>
      rw [c] at hp
      refine .inr ⟨rfl, 0, [], ?_⟩
      simp only [impl_wheelOf.f]
      refine Evl.bind hp ?_
      simp only [Bool.false_eq_true, if_false]
      exact Evl.ret _
    | some P =>
      rw [c] at hp
      dsimp only
      by_cases c5 : P ≤ 5000
      · have hw : Evl (fun k => impl_wheelOf.f k l) ((P : Int), lb (rs l) P 1, decide (((lb (rs l) P 1).length : Int) > 0)) := by
          simp only [impl_wheelOf.f]
          refine Evl.bind hp ?_
          simp only [if_true, if_neg (show ¬ (P : Int) > 5000 by omega)]
          have hb := leftBetween_ev (sane_of_good g) 1 (P : Int) (by omega) (by omega)
          rw [show ((P : Int) + 1 - 1).toNat = P by omega] at hb
          exact Evl.bind hb (Evl.ret _)
        by_cases ce : lb (rs l) P 1 = []
        · rw [if_neg (fun x => x.2 ce)]
          refine .inr ⟨rfl, (P : Int), [], ?_⟩
          rw [ce] at hw
          exact hw
        · rw [if_pos ⟨c5, ce⟩]
          refine .inl ⟨P, rfl, ?_⟩
          have : decide (((lb (rs l) P 1).length : Int) > 0) = true := decide_eq_true (by have := List.length_pos_iff.2 ce; omega)
          rw [this] at hw
          exact hw
      · rw [if_neg (fun x => c5 x.1)]
        refine .inr ⟨rfl, 0, [], ?_⟩
        simp only [impl_wheelOf.f]
        refine Evl.bind hp ?_
        simp only [if_true, if_pos (show (P : Int) > 5000 by omega)]
        exact Evl.ret _
  · rw [if_neg g] at hp ⊢
    refine .inr ⟨rfl, 0, [], ?_⟩
    simp only [impl_wheelOf.f]
    refine Evl.bind hp ?_
    simp only [Bool.false_eq_true, if_false]
    exact Evl.ret _
theorem whPeriod_l0 (l : List S54) (h : Sane l) (hl : l.length ≤ 1099511627776) (P : Nat) (hp : P ≤ 5000) : ∀ (m n : Nat), m + n = P → Evl (fun k => spec_whPeriod.l0 k l (P : Int) (n : Int)) (if lb (rs l) m (n : Int) = [] then 0 else (P : Int)) := by
  intro m
  induction m with
  | zero =>
    intro n hn
    refine Evl.succ ?_
    simp only [spec_whPeriod.l0, if_neg (show ¬ (n : Int) < (P : Int) by omega)]
    exact Evl.ret _
  | succ m ih =>
    intro n hn
    have hw : wrap64 ((n : Int) + 1) = ((n + 1 : Nat) : Int) := by rw [w64 (by omega) (by omega)]; rfl
    refine Evl.succ ?_
    simp only [spec_whPeriod.l0, if_pos (show (n : Int) < (P : Int) by omega), hw]
    refine Evl.bind (siLeft_ev h hl (n : Int)) ?_
    unfold lb
    by_cases c : left (rs l) (n : Int) = true
    · simp only [if_pos c]
      refine (Evl.ret _).cast ?_
      rw [if_neg (by simp)]
    · simp only [if_neg c]
      exact ih (n + 1) (by omega)
/-- Whether one is left in 0 .. P - 1 is whether one is in 1 .. P. -/
theorem lb_shift {q : List Ru} {P : Nat} (h1 : 1 ≤ P) (hd : ∀ r ∈ q, r.1.toNat ∣ P) (hp : ∀ r ∈ q, 1 ≤ r.1) : lb q P 0 = [] ↔ lb q P 1 = [] := by
  have key : ∀ (n : Int), lb q P n = [] ↔ ∀ x, n ≤ x → x < n + P → left q x = false := by
    intro n
    constructor
    · intro h x hx hx2
      cases c : left q x with
      | false => rfl
      | true =>
        have := (lb_mem q P n x).2 ⟨hx, hx2, c⟩
        rw [h] at this
        cases this
    · intro h
      rcases e : lb q P n with _ | ⟨x, s⟩
      · rfl
      · have := (lb_mem q P n x).1 (by rw [e]; simp)
        rw [h x this.1 this.2.1] at this
        cases this.2.2
  have hsh : left q (0 + (P : Int)) = left q 0 := by
    have := left_add hd hp 0 1
    rwa [Int.mul_one] at this
  rw [Int.zero_add] at hsh
  rw [key, key]
  constructor
  · intro h x hx hx2
    by_cases c : x = (P : Int)
    · rw [c, hsh]; exact h 0 (by omega) (by omega)
    · exact h x (by omega) (by omega)
  · intro h x hx hx2
    by_cases c : x = 0
    · rw [c, ← hsh]; exact h P (by omega) (by omega)
    · exact h x (by omega) (by omega)
theorem whPeriod_ev (l : List S54) : Evl (fun k => spec_whPeriod.f k l) (match whl (rs l) with | some P => (P : Int) | none => 0) := by
  simp only [spec_whPeriod.f]
  refine Evl.bind (siGood_ev l) ?_
  unfold whl
  by_cases g : good (rs l) = true
  · have hl := len_of_good g
    simp only [if_pos g]
    refine Evl.bind (siPeriod_ev (sane_of_good g) (by omega)) ?_
    cases c : per 1 (rs l) with
    | none =>
      refine Evl.succ ?_
      simp only [if_neg (show ¬ (0 : Int) > 5000 by omega), spec_whPeriod.l0, if_neg (show ¬ (0 : Int) < 0 by omega)]
      exact Evl.ret _
    | some P =>
      dsimp only
      obtain ⟨g1, g2, _, g4⟩ := per_spec (rs l) 1 P (by omega) (by omega) (fun r hr => by have := good_ok g hr; omega) c
      by_cases c5 : P ≤ 5000
      · simp only [if_neg (show ¬ (P : Int) > 5000 by omega)]
        refine (whPeriod_l0 l (sane_of_good g) (by omega) P c5 P 0 rfl).cast ?_
        have hs : lb (rs l) P ((0 : Nat) : Int) = [] ↔ lb (rs l) P 1 = [] := lb_shift g1 g4 (fun r hr => by have := good_ok g hr; omega)
        by_cases ce : lb (rs l) P 1 = []
        · rw [if_pos (hs.2 ce), if_neg (fun x : P ≤ 5000 ∧ lb (rs l) P 1 ≠ [] => x.2 ce)]
        · rw [if_neg (fun x => ce (hs.1 x)), if_pos (show P ≤ 5000 ∧ lb (rs l) P 1 ≠ [] from ⟨c5, ce⟩)]
      · simp only [if_pos (show (P : Int) > 5000 by omega), if_neg (fun x : P ≤ 5000 ∧ lb (rs l) P 1 ≠ [] => c5 x.1)]
        exact Evl.ret _
  · simp only [if_neg g]
    exact Evl.ret _

end Go.Proofs.Ythfcnojmfinokaa.L

/-! ## E8 -/
namespace Go.Proofs.Ythfcnojmfinokaa.L
open Go.RowKit Go.Proofs.YthfcnojmfinokaaW.PrintWords Go.Proofs.Ythfcnojmfinokaa.P Go.Proofs.Ythfcnojmfinokaa.M
set_option linter.unusedVariables false
set_option linter.unusedSimpArgs false

/-- The differences from each to the next; behind the last one the first one of the next period. -/
def stepsL (first P : Int) : List Int → List Int
  | [] => []
  | [x] => [first + P - x]
  | x :: y :: t => (y - x) :: stepsL first P (y :: t)
theorem stepsL_length (first P : Int) : ∀ l : List Int, (stepsL first P l).length = l.length
  | [] => rfl
  | [x] => rfl
  | x :: y :: t => by rw [stepsL, List.length_cons, stepsL_length first P (y :: t)]; rfl
/-- The steps of a wheel. -/
def steps (q : List Ru) (P : Nat) : List Int := stepsL ((lb q P 1).headD 0) P (lb q P 1)
theorem steps_length (q : List Ru) (P : Nat) : (steps q P).length = (lb q P 1).length := stepsL_length _ _ _

theorem wheel_steps_l0 (xs : List Int) (P first : Int) (hx : ∀ x ∈ xs, 0 ≤ x ∧ x ≤ 1000000) (hP : 0 ≤ P ∧ P ≤ 1000000) (hf : rd xs 0 = first) (hl : xs.length ≤ 1000000) : ∀ (s : List Int) (i : Nat) (acc : List Int), xs.drop i = s → acc.length + s.length ≤ 1000000 →
    Evl (fun k => impl_wheel_steps.l0 k acc xs (xs.length : Int) (i : Int) P xs) (acc ++ stepsL first P s) := by
  intro s
  induction s with
  | nil =>
    intro i acc hd ha
    have hi := drop_nil hd
    refine Evl.succ ?_
    simp only [impl_wheel_steps.l0, if_neg (show ¬ (i : Int) < (xs.length : Int) by omega)]
    refine (Evl.ret _).cast ?_
    simp [stepsL]
  | cons x s ih =>
    intro i acc hd ha
    obtain ⟨hi, hxx, hs⟩ := drop_cons hd
    have bx := hx x (List.mem_of_getElem? hxx)
    rw [List.length_cons] at ha
    have hw : wrap64 ((i : Int) + 1) = ((i + 1 : Nat) : Int) := by rw [w64 (by omega) (by omega)]; rfl
    refine Evl.succ ?_
    simp only [impl_wheel_steps.l0, if_pos (show (i : Int) < (xs.length : Int) by omega), if_pos (show (0 : Int) ≤ (i : Int) by omega), hw, rd_of hxx]
    cases s with
    | nil =>
      have hn := drop_nil hs
      have bf : 0 ≤ first ∧ first ≤ 1000000 := by
        have h0 : 0 < xs.length := by omega
        have := hx xs[0] (List.getElem_mem h0)
        have e : rd xs 0 = xs[0] := rd_nat (i := 0) h0
        rw [← hf, e]; exact this
      have e1 : wrap64 (rd xs 0 + P) = first + P := by rw [hf]; exact w64 (by omega) (by omega)
      have e2 : wrap64 (first + P - x) = first + P - x := w64 (by omega) (by omega)
      simp only [if_neg (show ¬ ((i + 1 : Nat) : Int) < (xs.length : Int) by omega), if_pos (show (0 : Int) < (xs.length : Int) by omega), if_pos (show acc.length < 17592186044416 by omega), e1, e2]
      refine (ih (i + 1) _ hs (by rw [List.length_append, List.length_singleton]; simp; omega)).cast ?_
      simp [stepsL]
    | cons y t =>
      obtain ⟨hi2, hy, _⟩ := drop_cons hs
      have byy := hx y (List.mem_of_getElem? hy)
      have e2 : wrap64 (y - x) = y - x := w64 (by omega) (by omega)
      simp only [if_pos (show ((i + 1 : Nat) : Int) < (xs.length : Int) by omega), if_pos (show (0 : Int) ≤ ((i + 1 : Nat) : Int) by omega), if_pos (show acc.length < 17592186044416 by omega), rd_of hy, e2]
      refine (ih (i + 1) _ hs (by rw [List.length_append, List.length_singleton]; omega)).cast ?_
      simp [stepsL]
theorem wheel_bounds {q : List Ru} {P : Nat} (h : P ≤ 5000) : ∀ x ∈ lb q P 1, 0 ≤ x ∧ x ≤ 1000000 := fun x hx => by
  have := (lb_mem q P 1 x).1 hx
  omega
theorem rd_head (xs : List Int) : rd xs 0 = xs.headD 0 := by cases xs <;> rfl
theorem wheel_steps_ev (q : List Ru) (P : Nat) (h : P ≤ 5000) : Evl (fun k => impl_wheel_steps.f k (P : Int) (lb q P 1)) (steps q P) := by
  simp only [impl_wheel_steps.f]
  have hl := lb_length q P 1
  exact wheel_steps_l0 (lb q P 1) (P : Int) _ (wheel_bounds h) (by omega) (rd_head _) (by omega) _ 0 [] rfl (by simp; omega)
theorem whSteps_l0 (xs : List Int) (P first : Int) (hx : ∀ x ∈ xs, 0 ≤ x ∧ x ≤ 1000000) (hP : 0 ≤ P ∧ P ≤ 1000000) (hf : rd xs 0 = first) (hl : xs.length ≤ 1000000) : ∀ (s : List Int) (i : Nat) (acc : List Int), xs.drop i = s → acc.length + s.length ≤ 1000000 →
    Evl (fun k => spec_whSteps.l0 k P xs acc xs (xs.length : Int) (i : Int)) (acc ++ stepsL first P s) := by
  intro s
  induction s with
  | nil =>
    intro i acc hd ha
    have hi := drop_nil hd
    refine Evl.succ ?_
    simp only [spec_whSteps.l0, if_neg (show ¬ (i : Int) < (xs.length : Int) by omega)]
    refine (Evl.ret _).cast ?_
    simp [stepsL]
  | cons x s ih =>
    intro i acc hd ha
    obtain ⟨hi, hxx, hs⟩ := drop_cons hd
    have bx := hx x (List.mem_of_getElem? hxx)
    rw [List.length_cons] at ha
    have hw : wrap64 ((i : Int) + 1) = ((i + 1 : Nat) : Int) := by rw [w64 (by omega) (by omega)]; rfl
    have bf : 0 ≤ first ∧ first ≤ 1000000 := by
      have h0 : 0 < xs.length := by omega
      have := hx xs[0] (List.getElem_mem h0)
      have e : rd xs 0 = xs[0] := rd_nat (i := 0) h0
      rw [← hf, e]; exact this
    have e1 : wrap64 (rd xs 0 + P) = first + P := by rw [hf]; exact w64 (by omega) (by omega)
    refine Evl.succ ?_
    simp only [spec_whSteps.l0, if_pos (show (i : Int) < (xs.length : Int) by omega), if_pos (show (0 : Int) ≤ (i : Int) by omega), if_pos (show (0 : Int) < (xs.length : Int) by omega), hw, rd_of hxx, e1]
    cases s with
    | nil =>
      have hn := drop_nil hs
      have e2 : wrap64 (first + P - x) = first + P - x := w64 (by omega) (by omega)
      simp only [if_neg (show ¬ ((i + 1 : Nat) : Int) < (xs.length : Int) by omega), if_pos (show acc.length < 17592186044416 by omega), e2]
      refine (ih (i + 1) _ hs (by rw [List.length_append, List.length_singleton]; simp; omega)).cast ?_
      simp [stepsL]
    | cons y t =>
      obtain ⟨hi2, hy, _⟩ := drop_cons hs
      have byy := hx y (List.mem_of_getElem? hy)
      have e2 : wrap64 (y - x) = y - x := w64 (by omega) (by omega)
      simp only [if_pos (show ((i + 1 : Nat) : Int) < (xs.length : Int) by omega), if_pos (show (0 : Int) ≤ ((i + 1 : Nat) : Int) by omega), if_pos (show acc.length < 17592186044416 by omega), rd_of hy, e2]
      refine (ih (i + 1) _ hs (by rw [List.length_append, List.length_singleton]; omega)).cast ?_
      simp [stepsL]
theorem whSteps_ev (l : List S54) (h : Sane l) (hl : l.length ≤ 1099511627776) (P : Nat) (hp : P ≤ 5000) : Evl (fun k => spec_whSteps.f k l (P : Int)) (steps (rs l) P) := by
  simp only [spec_whSteps.f]
  refine Evl.bind (whSpokes_ev h hl P (by omega)) ?_
  have hll := lb_length (rs l) P 1
  exact whSteps_l0 (lb (rs l) P 1) (P : Int) _ (wheel_bounds hp) (by omega) (rd_head _) (by omega) _ 0 [] rfl (by simp; omega)

end Go.Proofs.Ythfcnojmfinokaa.L

/-! ## X5 -/
namespace Go.Proofs.Ythfcnojmfinokaa.L
open Go.RowKit Go.Proofs.YthfcnojmfinokaaW.PrintWords Go.Proofs.Ythfcnojmfinokaa.P Go.Proofs.Ythfcnojmfinokaa.M
set_option linter.unusedVariables false
set_option linter.unusedSimpArgs false

/-- A wheel, or none, as both tell it. -/
theorem wheel_cases (l : List S54) : (∃ P : Nat, Wheel (rs l) P ∧ Evl (fun k => impl_wheelOf.f k l) ((P : Int), lb (rs l) P 1, true) ∧ Evl (fun k => spec_whPeriod.f k l) (P : Int) ∧ Sane l ∧ l.length ≤ 1099511627776 ∧ ¬ (P : Int) = 0 ∧ 1 ≤ P ∧ P ≤ 5000) ∨
    ((∃ x y, Evl (fun k => impl_wheelOf.f k l) (x, y, false)) ∧ Evl (fun k => spec_whPeriod.f k l) 0) := by
  have hs := whPeriod_ev l
  rcases wheelOf_ev l with ⟨P, hw, hi⟩ | ⟨hw, hi⟩
  · have hW := whl_spec hw
    rw [hw] at hs
    have := len_of_good hW.good
    have h1 := hW.pos
    exact .inl ⟨P, hW, hi, hs, sane_of_good hW.good, by omega, by omega, h1, hW.most⟩
  · rw [hw] at hs
    exact .inr ⟨hi, hs⟩

/-! ### counting -/
end Go.Proofs.Ythfcnojmfinokaa.L

/-! ## X6 -/
namespace Go.Proofs.Ythfcnojmfinokaa.L
open Go.RowKit Go.Proofs.YthfcnojmfinokaaW.PrintWords Go.Proofs.Ythfcnojmfinokaa.P Go.Proofs.Ythfcnojmfinokaa.M
set_option linter.unusedVariables false
set_option linter.unusedSimpArgs false

end Go.Proofs.Ythfcnojmfinokaa.L

/-! ## X7 -/
namespace Go.Proofs.Ythfcnojmfinokaa.L
open Go.RowKit Go.Proofs.YthfcnojmfinokaaW.PrintWords Go.Proofs.Ythfcnojmfinokaa.P Go.Proofs.Ythfcnojmfinokaa.M
set_option linter.unusedVariables false
set_option linter.unusedSimpArgs false

end Go.Proofs.Ythfcnojmfinokaa.L

/-! ## X8 -/
namespace Go.Proofs.Ythfcnojmfinokaa.L
open Go.RowKit Go.Proofs.YthfcnojmfinokaaW.PrintWords Go.Proofs.YthfcnojmfinokaaW.PrintMore Go.Proofs.Ythfcnojmfinokaa.P Go.Proofs.Ythfcnojmfinokaa.M
set_option linter.unusedVariables false
set_option linter.unusedSimpArgs false

/-- The greatest, 0 if there is none greater. -/
def maxL : List Int → Int
  | [] => 0
  | y :: s => if maxL s > y then maxL s else y
/-- The first place of x. -/
def fstI (x : Int) : List Int → Nat
  | [] => 0
  | y :: s => if x = y then 0 else fstI x s + 1
theorem maxL_mem : ∀ (s : List Int), s ≠ [] → (∀ y ∈ s, 1 ≤ y) → maxL s ∈ s
  | [], h, _ => absurd rfl h
  | y :: s, _, h => by
    unfold maxL
    by_cases c : maxL s > y
    · rw [if_pos c]
      have hs : s ≠ [] := by
        rintro rfl
        have := h y (by simp)
        simp only [maxL] at c
        omega
      exact List.mem_cons_of_mem _ (maxL_mem s hs (fun z hz => h z (by simp [hz])))
    · rw [if_neg c]
      simp
theorem fstI_lt : ∀ (s : List Int) (x : Int), x ∈ s → fstI x s < s.length
  | [], x, h => by cases h
  | y :: s, x, h => by
    unfold fstI
    rw [List.length_cons]
    by_cases c : x = y
    · rw [if_pos c]; omega
    · rw [if_neg c]
      rcases List.mem_cons.1 h with h | h
      · exact absurd h c
      · have := fstI_lt s x h
        omega
theorem Index2_l0 (xs : List Int) (hl : xs.length ≤ 1000000) (x : Int) : ∀ (s : List Int) (i : Nat), xs.drop i = s → x ∈ s → Evl (fun k => slices_Index_int_int.l0 k xs x (xs.length : Int) (i : Int)) ((i : Int) + fstI x s) := by
  intro s
  induction s with
  | nil => intro i _ hx; cases hx
  | cons y s ih =>
    intro i hd hx
    obtain ⟨hi, hy, hs⟩ := drop_cons hd
    have hw : wrap64 ((i : Int) + 1) = ((i + 1 : Nat) : Int) := by rw [w64 (by omega) (by omega)]; rfl
    refine Evl.succ ?_
    simp only [slices_Index_int_int.l0, if_pos (show (i : Int) < (xs.length : Int) by omega), if_pos (show (0 : Int) ≤ (i : Int) by omega), rd_of hy, hw]
    unfold fstI
    by_cases c : x = y
    · simp only [if_pos c]
      refine (Evl.ret _).cast ?_
      omega
    · simp only [if_neg c]
      rcases List.mem_cons.1 hx with h | h
      · exact absurd h c
      · refine (ih (i + 1) hs h).cast ?_
        omega
theorem Max_l0 (xs : List Int) (hl : xs.length ≤ 1000000) : ∀ (s : List Int) (i : Nat) (m : Int), xs.drop i = s → 1 ≤ m → (∀ y ∈ s, 1 ≤ y) → Evl (fun k => slices_Max_int_int.l0 k xs m (i : Int)) (if maxL s > m then maxL s else m) := by
  intro s
  induction s with
  | nil =>
    intro i m hd hm _
    have hi := drop_nil hd
    refine Evl.succ ?_
    simp only [slices_Max_int_int.l0, if_neg (show ¬ (i : Int) < (xs.length : Int) by omega)]
    refine (Evl.ret _).cast ?_
    rw [if_neg (by simp only [maxL]; omega)]
  | cons y s ih =>
    intro i m hd hm hs1
    obtain ⟨hi, hy, hs⟩ := drop_cons hd
    have hy1 := hs1 y (by simp)
    have hw : wrap64 ((i : Int) + 1) = ((i + 1 : Nat) : Int) := by rw [w64 (by omega) (by omega)]; rfl
    refine Evl.succ ?_
    simp only [slices_Max_int_int.l0, if_pos (show (i : Int) < (xs.length : Int) by omega), if_pos (show (0 : Int) ≤ (i : Int) by omega), rd_of hy, hw]
    refine (ih (i + 1) (mx m y) hs (by unfold mx; split <;> omega) (fun z hz => hs1 z (by simp [hz]))).cast ?_
    simp only [maxL]
    unfold mx
    by_cases c1 : m < y <;> by_cases c2 : maxL s > y <;> by_cases c3 : maxL s > m <;> simp [c1, c2, c3] <;> omega
theorem Max_ev (s : List Int) (hl : s.length ≤ 1000000) (hne : s ≠ []) (h1 : ∀ y ∈ s, 1 ≤ y) : Evl (fun k => slices_Max_int_int.f k s) (maxL s) := by
  obtain ⟨y, t, rfl⟩ := List.exists_cons_of_ne_nil hne
  have e0 : rd (y :: t) 0 = y := rfl
  simp only [slices_Max_int_int.f, if_neg (show ¬ ((y :: t).length : Int) < 1 by rw [List.length_cons]; omega), if_pos (show (0 : Int) < ((y :: t).length : Int) by rw [List.length_cons]; omega), e0]
  exact Max_l0 (y :: t) hl t 1 y rfl (h1 y (by simp)) (fun z hz => h1 z (by simp [hz]))

/-- Steps are at least 1. -/
theorem stepsL_pos (first P : Int) : ∀ (l : List Int), l.Pairwise (· < ·) → (∀ x ∈ l, x < first + P) → ∀ y ∈ stepsL first P l, 1 ≤ y
  | [], _, _, y, hy => by cases hy
  | [x], _, h, y, hy => by
    simp only [stepsL, List.mem_singleton] at hy
    have := h x (by simp)
    omega
  | x :: z :: t, hp, h, y, hy => by
    rw [List.pairwise_cons] at hp
    simp only [stepsL, List.mem_cons] at hy
    rcases hy with hy | hy
    · have := hp.1 z (by simp)
      omega
    · exact stepsL_pos first P (z :: t) hp.2 (fun w hw => h w (by simp [hw])) y hy
theorem steps_pos {q : List Ru} {P : Nat} : ∀ y ∈ steps q P, 1 ≤ y := by
  refine stepsL_pos _ _ _ (lb_sorted _ _ _) (fun x hx => ?_)
  have h1 := (lb_mem q P 1 x).1 hx
  cases e : lb q P 1 with
  | nil => rw [e] at hx; cases hx
  | cons z t =>
    have := (lb_mem q P 1 z).1 (by rw [e]; simp)
    show x < z + (P : Int)
    omega
theorem steps_ne {q : List Ru} {P : Nat} (h : lb q P 1 ≠ []) : steps q P ≠ [] := by
  intro e
  have := steps_length q P
  rw [e] at this
  exact h (List.eq_nil_of_length_eq_zero this.symm)

theorem spec_LS_l0 (sp xs : List Int) (hsl : sp.length = xs.length) (hl : xs.length ≤ 1000000) : ∀ (s : List Int) (i : Nat) (m f : Int), xs.drop i = s → 0 ≤ m → (∀ y ∈ s, 1 ≤ y) →
    Evl (fun k => spec_LongestStep.l0 k sp m f xs (xs.length : Int) (i : Int)) (if maxL s > m then (maxL s, rd sp ((i : Int) + fstI (maxL s) s), true) else (m, f, true)) := by
  intro s
  induction s with
  | nil =>
    intro i m f hd hm _
    have hi := drop_nil hd
    refine Evl.succ ?_
    simp only [spec_LongestStep.l0, if_neg (show ¬ (i : Int) < (xs.length : Int) by omega)]
    refine (Evl.ret _).cast ?_
    rw [if_neg (by simp only [maxL]; omega)]
  | cons y s ih =>
    intro i m f hd hm hs1
    obtain ⟨hi, hy, hs⟩ := drop_cons hd
    have hy1 := hs1 y (by simp)
    have hs2 : ∀ z ∈ s, 1 ≤ z := fun z hz => hs1 z (by simp [hz])
    have hw : wrap64 ((i : Int) + 1) = ((i + 1 : Nat) : Int) := by rw [w64 (by omega) (by omega)]; rfl
    refine Evl.succ ?_
    simp only [spec_LongestStep.l0, if_pos (show (i : Int) < (xs.length : Int) by omega), if_pos (show (0 : Int) ≤ (i : Int) by omega), rd_of hy, hw, if_pos (show (i : Int) < (sp.length : Int) by omega)]
    have e1 : maxL (y :: s) = if maxL s > y then maxL s else y := rfl
    have e0 : maxL s > y → fstI (maxL s) (y :: s) = fstI (maxL s) s + 1 := fun c => by
      simp only [fstI]
      rw [if_neg (show ¬ maxL s = y by omega)]
    have e00 : fstI y (y :: s) = 0 := by simp [fstI]
    by_cases c1 : y > m
    · simp only [if_pos c1]
      refine (ih (i + 1) y (rd sp (i : Int)) hs (by omega) hs2).cast ?_
      by_cases c2 : maxL s > y
      · rw [if_pos c2] at e1
        simp only [e1, if_pos c2, if_pos (show maxL s > m by omega), e0 c2]
        rw [show (((i + 1 : Nat) : Int) + (fstI (maxL s) s : Int)) = (i : Int) + ((fstI (maxL s) s + 1 : Nat) : Int) by omega]
      · rw [if_neg c2] at e1
        simp only [e1, if_neg c2, if_pos c1, e00]
        rw [show ((i : Int) + ((0 : Nat) : Int)) = (i : Int) by omega]
    · simp only [if_neg c1]
      refine (ih (i + 1) m f hs hm hs2).cast ?_
      by_cases c2 : maxL s > y
      · rw [if_pos c2] at e1
        by_cases c3 : maxL s > m
        · simp only [e1, if_pos c3, e0 c2]
          rw [show (((i + 1 : Nat) : Int) + (fstI (maxL s) s : Int)) = (i : Int) + ((fstI (maxL s) s + 1 : Nat) : Int) by omega]
        · simp only [e1, if_neg c3]
      · rw [if_neg c2] at e1
        simp only [e1, if_neg c1, if_neg (show ¬ maxL s > m by omega)]
theorem FnExactLongestStep_main (l : List S54) (hlc : l.length ≤ 1099511627776) : ∃ r q b, Evl (fun k => spec_LongestStep.f k l) (r, q, b) ∧ Evl (fun k => impl_LongestStep.f k l) (r, q, b) := by
  rcases wheel_cases l with ⟨P, hW, hi, hs, hsane, hl, hz, h1, h5⟩ | ⟨⟨x, y, hi⟩, hs⟩
  · have hll := lb_length (rs l) P 1
    have hsl := steps_length (rs l) P
    have hne := steps_ne hW.some
    have hpos := steps_pos (q := rs l) (P := P)
    have hmem := maxL_mem _ hne hpos
    have hm1 := hpos _ hmem
    have hlt := fstI_lt _ _ hmem
    refine ⟨maxL (steps (rs l) P), rd (lb (rs l) P 1) ((0 : Int) + fstI (maxL (steps (rs l) P)) (steps (rs l) P)), true, ?_, ?_⟩
    · simp only [spec_LongestStep.f]
      refine Evl.bind hs ?_
      simp only [if_neg hz]
      refine Evl.bind (whSpokes_ev hsane hl P (by omega)) ?_
      refine Evl.bind (whSteps_ev l hsane hl P h5) ?_
      refine (spec_LS_l0 (lb (rs l) P 1) (steps (rs l) P) hsl.symm (by omega) (steps (rs l) P) 0 0 0 rfl (by omega) hpos).cast ?_
      rw [if_pos (show maxL (steps (rs l) P) > 0 by omega)]
      rfl
    · simp only [impl_LongestStep.f]
      refine Evl.bind hi ?_
      simp only [if_true]
      refine Evl.bind (wheel_steps_ev (rs l) P h5) ?_
      refine Evl.bind (Max_ev _ (by omega) hne hpos) ?_
      have hix : Evl (fun k => slices_Index_int_int.f k (steps (rs l) P) (maxL (steps (rs l) P))) ((0 : Int) + fstI (maxL (steps (rs l) P)) (steps (rs l) P)) := by
        simp only [slices_Index_int_int.f]
        exact Index2_l0 _ (by omega) _ _ 0 rfl hmem
      refine Evl.bind hix ?_
      simp only [if_pos (show (0 : Int) ≤ (0 : Int) + (fstI (maxL (steps (rs l) P)) (steps (rs l) P) : Int) by omega), if_pos (show (0 : Int) + (fstI (maxL (steps (rs l) P)) (steps (rs l) P) : Int) < ((lb (rs l) P 1).length : Int) by omega)]
      exact Evl.ret _
  · refine ⟨0, 0, false, ?_, ?_⟩
    · simp only [spec_LongestStep.f]
      refine Evl.bind hs ?_
      simp only [if_true]
      exact Evl.ret _
    · simp only [impl_LongestStep.f]
      refine Evl.bind hi ?_
      simp only [Bool.false_eq_true, if_false]
      exact Evl.ret _


end Go.Proofs.Ythfcnojmfinokaa.L
