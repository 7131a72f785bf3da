/- StepSizes of the program tells what the reference's tells, for all arguments: what both functions compute. No condition beyond 64 bits and the lengths that the statement's guards give. -/
import Derived.Test.YtlngnnkkaepeeaaPx0
import Derived.Test.YtlngnnkkaepeeaaPx13
import Derived.Test.YtlngnnkkaepeeaaPx16
import Derived.Test.YtlngnnkkaepeeaaPx17
import Derived.Test.YtlngnnkkaepeeaaPx1
import Derived.Test.YtlngnnkkaepeeaaPx2
import Derived.Test.YtlngnnkkaepeeaaPx3
import Derived.Test.YtlngnnkkaepeeaaPx8
import Derived.Test.YtlngnnkkaepeeaaPx9
import Derived.Test.YtlngnnkkaepeeaaPx7
import Derived.Test.YtlngnnkkaepeeaaPx14
import Derived.Test.YtlngnnkkaepeeaaPx15
import Derived.Test.YtlngnnkkaepeeaaPx4
import Derived.Test.YtlngnnkkaepeeaaPx10
import Derived.Test.YtlngnnkkaepeeaaPx11
import Derived.Test.YtlngnnkkaepeeaaPx5
import Derived.Test.YtlngnnkkaepeeaaPx12
import Derived.Lib.SlicesCompact
import Derived.Lib.RowBridge
import Derived.Test.YtlngnnkkaepeeaaPx6
/-! ## L0 -/
namespace Go.Proofs.Ytlngnnkkaepeeaa.L
open Go.RowKit Go.Proofs.YtlngnnkkaepeeaaW.PrintWords
set_option linter.unusedVariables false
set_option linter.unusedSimpArgs false

/-- With enough rounds g tells r. -/
def Evl {α : Type} (g : Nat → Option α) (r : α) : Prop := ∃ K, ∀ k, K ≤ k → g k = some r
theorem Evl.ret {α : Type} (r : α) : Evl (fun _ => some r) r := ⟨0, fun _ _ => rfl⟩
theorem Evl.bind {α β : Type} {g : Nat → Option α} {f : Nat → α → Option β} {a : α} {r : β} (h : Evl g a) (h2 : Evl (fun k => f k a) r) : Evl (fun k => (g k).bind (f k)) r := by
  obtain ⟨K, hK⟩ := h
  obtain ⟨K2, hK2⟩ := h2
  refine ⟨max K K2, fun k hk => ?_⟩
  show (g k).bind (f k) = some r
  rw [hK k (Nat.le_trans (Nat.le_max_left _ _) hk), Option.bind_some]
  exact hK2 k (Nat.le_trans (Nat.le_max_right _ _) hk)
theorem Evl.succ {α : Type} {g : Nat → Option α} {r : α} (h : Evl (fun k => g (k + 1)) r) : Evl g r := by
  obtain ⟨K, hK⟩ := h
  refine ⟨K + 1, fun k hk => ?_⟩
  obtain ⟨m, rfl⟩ : ∃ m, k = m + 1 := ⟨k - 1, by omega⟩
  exact hK m (by omega)
theorem Evl.get {α : Type} {g : Nat → Option α} {r : α} (h : Evl g r) : ∃ k, g k = some r := by
  obtain ⟨K, hK⟩ := h
  exact ⟨K, hK K (Nat.le_refl _)⟩
theorem Evl.cast {α : Type} {g : Nat → Option α} {r r' : α} (h : Evl g r) (e : r = r') : Evl g r' := e ▸ h

theorem w64 {x : Int} (h0 : -9223372036854775808 ≤ x) (h1 : x ≤ 9223372036854775807) : wrap64 x = x := by
  unfold wrap64
  omega
theorem drop_nil {α : Type} {xs : List α} {i : Nat} (h : xs.drop i = []) : xs.length ≤ i := by
  simpa using h
theorem drop_cons {α : Type} {xs s : List α} {x : α} {i : Nat} (h : xs.drop i = x :: s) : i < xs.length ∧ xs[i]? = some x ∧ xs.drop (i + 1) = s := by
  have hl : i < xs.length := by
    rcases Nat.lt_or_ge i xs.length with h1 | h1
    · exact h1
    · rw [List.drop_of_length_le h1] at h
      cases h
  rw [List.drop_eq_getElem_cons hl] at h
  injection h with h1 h2
  exact ⟨hl, by rw [List.getElem?_eq_getElem hl, h1], h2⟩
theorem rd_of {xs : List Int} {i : Nat} {x : Int} (h : xs[i]? = some x) : rd xs (i : Int) = x := by
  unfold rd
  rw [Int.toNat_natCast, List.getD_eq_getElem?_getD, h]
  rfl
theorem rd_nat {xs : List Int} {i : Nat} (h : i < xs.length) : rd xs (i : Int) = xs[i] := rd_of (List.getElem?_eq_getElem h)

end Go.Proofs.Ytlngnnkkaepeeaa.L

/-! ## E0 -/
namespace Go.Proofs.Ytlngnnkkaepeeaa.L
open Go.RowKit Go.Proofs.YtlngnnkkaepeeaaW.PrintWords Go.Proofs.Ytlngnnkkaepeeaa.P
set_option linter.unusedVariables false
set_option linter.unusedSimpArgs false

/-- n numbers from v on. -/
def iot : Int → Nat → List Int
  | _, 0 => []
  | v, n + 1 => v :: iot (v + 1) n
theorem iot_length : ∀ (n : Nat) (v : Int), (iot v n).length = n
  | 0, _ => rfl
  | n + 1, v => by rw [iot, List.length_cons, iot_length n]

theorem eqIntS_l0 (a : List Int) (hl : a.length ≤ 1099511627776) : ∀ (s : List Int) (i : Nat), a.drop i = s → Evl (fun k => laws_eqIntS.l0 k a a (i : Int)) true := by
  intro s
  induction s with
  | nil =>
    intro i h
    have hi := drop_nil h
    refine Evl.succ ?_
    have h1 : ¬ (i : Int) < (a.length : Int) := by omega
    simp only [laws_eqIntS.l0, if_neg h1]
    exact Evl.ret _
  | cons x s ih =>
    intro i h
    obtain ⟨hi, hx, hs⟩ := drop_cons h
    have hw : wrap64 ((i : Int) + 1) = ((i + 1 : Nat) : Int) := by rw [w64 (by omega) (by omega)]; rfl
    refine Evl.succ ?_
    have h1 : (i : Int) < (a.length : Int) := by omega
    have h2 : (0 : Int) ≤ (i : Int) := by omega
    simp only [laws_eqIntS.l0, if_pos h1, if_pos h2, if_true, hw]
    exact ih (i + 1) hs
theorem eqIntS_self (a : List Int) (hl : a.length ≤ 1099511627776) : Evl (fun k => laws_eqIntS.f k a a) true := by
  simp only [laws_eqIntS.f, if_true]
  exact eqIntS_l0 a hl a 0 rfl

theorem markIntS_l0 : ∀ (s pre : List Int) (v : Int) (i : Nat), pre.length = i → pre.length + s.length ≤ 1099511627776 → 0 ≤ v → v + s.length ≤ 1099511627800 → Evl (fun k => laws_markIntS.l0 k (pre ++ s) v (i : Int)) (v + s.length, pre ++ iot v s.length) := by
  intro s
  induction s with
  | nil =>
    intro pre v i hi _ _ _
    refine Evl.succ ?_
    have h1 : ¬ (i : Int) < ((pre ++ []).length : Int) := by rw [List.append_nil]; omega
    simp only [laws_markIntS.l0, if_neg h1]
    refine (Evl.ret _).cast ?_
    simp [iot]
  | cons x s ih =>
    intro pre v i hi hb hv hvb
    rw [List.length_cons] at hb hvb
    have hw : wrap64 ((i : Int) + 1) = ((i + 1 : Nat) : Int) := by rw [w64 (by omega) (by omega)]; rfl
    have hw2 : wrap64 (v + 1) = v + 1 := w64 (by omega) (by omega)
    refine Evl.succ ?_
    have h1 : (i : Int) < ((pre ++ x :: s).length : Int) := by rw [List.length_append, List.length_cons]; omega
    have h2 : (0 : Int) ≤ (i : Int) := by omega
    have hset : (pre ++ x :: s).set (i : Int).toNat v = (pre ++ [v]) ++ s := by
      rw [Int.toNat_natCast, ← hi, List.set_append_right _ _ (Nat.le_refl _), Nat.sub_self, List.set_cons_zero, List.append_assoc]
      rfl
    simp only [laws_markIntS.l0, if_pos h1, if_pos h2, hw, hw2, hset]
    have := ih (pre ++ [v]) (v + 1) (i + 1) (by rw [List.length_append, hi]; rfl) (by rw [List.length_append, List.length_singleton]; omega) (by omega) (by omega)
    refine this.cast ?_
    rw [List.length_cons, iot, List.append_assoc]
    refine Prod.ext ?_ rfl
    show v + 1 + (s.length : Int) = v + ((s.length + 1 : Nat) : Int)
    omega
theorem markIntS_ev (a : List Int) (hl : a.length ≤ 1099511627776) : Evl (fun k => laws_markIntS.f k a 1) (1 + a.length, iot 1 a.length) := by
  simp only [laws_markIntS.f]
  exact markIntS_l0 a [] 1 0 rfl (by simpa using hl) (by omega) (by omega)

theorem heldIntS_l0 (a : List Int) (hl : a.length ≤ 1099511627776) : ∀ (n : Nat) (v : Int) (i : Nat), a.drop i = iot v n → 0 ≤ v → v + n ≤ 1099511627800 → Evl (fun k => laws_heldIntS.l0 k a v (i : Int)) (v + n) := by
  intro n
  induction n with
  | zero =>
    intro v i h _ _
    have hi := drop_nil h
    refine Evl.succ ?_
    have h1 : ¬ (i : Int) < (a.length : Int) := by omega
    simp only [laws_heldIntS.l0, if_neg h1]
    refine (Evl.ret _).cast ?_
    omega
  | succ n ih =>
    intro v i h hv hb
    obtain ⟨hi, hx, hs⟩ := drop_cons h
    have hw : wrap64 ((i : Int) + 1) = ((i + 1 : Nat) : Int) := by rw [w64 (by omega) (by omega)]; rfl
    have hw2 : wrap64 (v + 1) = v + 1 := w64 (by omega) (by omega)
    have hr : rd a (i : Int) = v := rd_of hx
    refine Evl.succ ?_
    have h1 : (i : Int) < (a.length : Int) := by omega
    have h2 : (0 : Int) ≤ (i : Int) := by omega
    simp only [laws_heldIntS.l0, if_pos h1, if_pos h2, hr, if_true, hw, hw2]
    refine (ih (v + 1) (i + 1) hs (by omega) (by omega)).cast ?_
    omega
theorem heldIntS_ev (n : Nat) (hl : n ≤ 1099511627776) : Evl (fun k => laws_heldIntS.f k (iot 1 n) 1) (1 + n) := by
  simp only [laws_heldIntS.f]
  exact heldIntS_l0 (iot 1 n) (by rw [iot_length]; exact hl) n 1 0 rfl (by omega) (by omega)

end Go.Proofs.Ytlngnnkkaepeeaa.L

/-! ## M1 -/
namespace Go.Proofs.Ytlngnnkkaepeeaa.M
set_option linter.unusedVariables false
set_option linter.unusedSimpArgs false

def lfAux : Nat → Nat → Nat → Nat
  | 0, _, n => n
  | f + 1, d, n => if n % d = 0 then d else lfAux f (d + 1) n
/-- The least divisor of at least 2. -/
def lf (n : Nat) : Nat := lfAux n 2 n
def isP (n : Nat) : Bool := decide (2 ≤ n) && decide (lf n = n)

structure Least (n r : Nat) : Prop where
  two : 2 ≤ r
  le : r ≤ n
  div : n % r = 0
  least : ∀ d, 2 ≤ d → d < r → n % d ≠ 0

theorem Least.uniq {n r s : Nat} (h : Least n r) (h' : Least n s) : r = s := by
  rcases Nat.lt_trichotomy r s with h1 | h1 | h1
  · exact absurd h.div (h'.least r h.two h1)
  · exact h1
  · exact absurd h'.div (h.least s h'.two h1)
/-! ### factors -/
end Go.Proofs.Ytlngnnkkaepeeaa.M

/-! ## E1 -/

namespace Go.Proofs.Ytlngnnkkaepeeaa.L
open Go.RowKit Go.Proofs.YtlngnnkkaepeeaaW.PrintWords Go.Proofs.Ytlngnnkkaepeeaa.P Go.Proofs.Ytlngnnkkaepeeaa.M
set_option linter.unusedVariables false
set_option linter.unusedSimpArgs false

end Go.Proofs.Ytlngnnkkaepeeaa.L

/-! ## E2 -/

namespace Go.Proofs.Ytlngnnkkaepeeaa.L
open Go.RowKit Go.Proofs.YtlngnnkkaepeeaaW.PrintWords Go.Proofs.Ytlngnnkkaepeeaa.P Go.Proofs.Ytlngnnkkaepeeaa.M
set_option linter.unusedVariables false
set_option linter.unusedSimpArgs false

end Go.Proofs.Ytlngnnkkaepeeaa.L

/-! ## E3 -/

namespace Go.Proofs.Ytlngnnkkaepeeaa.L
open Go.RowKit Go.Proofs.YtlngnnkkaepeeaaW.PrintWords Go.Proofs.Ytlngnnkkaepeeaa.P Go.Proofs.Ytlngnnkkaepeeaa.M
set_option linter.unusedVariables false
set_option linter.unusedSimpArgs false

end Go.Proofs.Ytlngnnkkaepeeaa.L

/-! ## E4 -/
namespace Go.Proofs.Ytlngnnkkaepeeaa.L
open Go.RowKit Go.Proofs.YtlngnnkkaepeeaaW.PrintWords Go.Proofs.Ytlngnnkkaepeeaa.P Go.Proofs.Ytlngnnkkaepeeaa.M
set_option linter.unusedVariables false
set_option linter.unusedSimpArgs false

theorem l1In_eq (a lo hi : Int) : spec_l1In.f a lo hi = some (decide (lo ≤ a ∧ a ≤ hi)) := by
  unfold spec_l1In.f
  by_cases h : a ≥ lo
  · rw [if_pos h]
    by_cases h2 : a ≤ hi
    · rw [decide_eq_true h2, decide_eq_true ⟨h, h2⟩]
    · rw [decide_eq_false h2, decide_eq_false (fun c => h2 c.2)]
  · rw [if_neg h, decide_eq_false (fun c => h c.1)]

end Go.Proofs.Ytlngnnkkaepeeaa.L

/-! ## M2 -/
namespace Go.Proofs.Ytlngnnkkaepeeaa.M
set_option linter.unusedVariables false
set_option linter.unusedSimpArgs false

/-- A rule: every, rest. -/
abbrev Ru := Int × Int
def okR (r : Ru) : Bool := decide (2 ≤ r.1 ∧ r.1 ≤ 60 ∧ 0 ≤ r.2 ∧ r.2 < r.1)
def good (rs : List Ru) : Bool := decide (rs.length ≤ 12) && rs.all okR
def left (rs : List Ru) (n : Int) : Bool := rs.all fun r => decide (n % r.1 ≠ r.2)
theorem good_len {rs : List Ru} (h : good rs = true) : rs.length ≤ 12 := by
  unfold good at h
  rw [Bool.and_eq_true] at h
  exact of_decide_eq_true h.1
theorem good_ok {rs : List Ru} (h : good rs = true) {r : Ru} (hr : r ∈ rs) : 2 ≤ r.1 ∧ r.1 ≤ 60 ∧ 0 ≤ r.2 ∧ r.2 < r.1 := by
  unfold good at h
  rw [Bool.and_eq_true] at h
  exact of_decide_eq_true (List.all_eq_true.1 h.2 r hr)
/-- The numbers among m from n on that are left. -/
def lb (rs : List Ru) : Nat → Int → List Int
  | 0, _ => []
  | m + 1, n => if left rs n = true then n :: lb rs m (n + 1) else lb rs m (n + 1)
theorem lb_length (rs : List Ru) : ∀ (m : Nat) (n : Int), (lb rs m n).length ≤ m
  | 0, _ => Nat.le_refl _
  | m + 1, n => by
    unfold lb
    have := lb_length rs m (n + 1)
    split
    · rw [List.length_cons]; omega
    · omega
theorem lb_mem (rs : List Ru) : ∀ (m : Nat) (n x : Int), x ∈ lb rs m n ↔ n ≤ x ∧ x < n + m ∧ left rs x = true
  | 0, n, x => by
    unfold lb
    constructor
    · intro h; cases h
    · intro h; omega
  | m + 1, n, x => by
    unfold lb
    have ih := lb_mem rs m (n + 1) x
    by_cases h : left rs n = true
    · rw [if_pos h, List.mem_cons, ih]
      constructor
      · rintro (rfl | h1)
        · exact ⟨Int.le_refl _, by omega, h⟩
        · exact ⟨by omega, by omega, h1.2.2⟩
      · rintro ⟨h1, h2, h3⟩
        by_cases e : x = n
        · exact .inl e
        · exact .inr ⟨by omega, by omega, h3⟩
    · rw [if_neg h, ih]
      constructor
      · rintro ⟨h1, h2, h3⟩
        exact ⟨by omega, by omega, h3⟩
      · rintro ⟨h1, h2, h3⟩
        have e : x ≠ n := fun e => h (e ▸ h3)
        exact ⟨by omega, by omega, h3⟩
/-- The period of rules, if it is not too great. -/
def per : Nat → List Ru → Option Nat
  | p, [] => some p
  | p, r :: rs => if 100000 < p / Nat.gcd p r.1.toNat * r.1.toNat then none else per (p / Nat.gcd p r.1.toNat * r.1.toNat) rs
theorem lcm_eq (p e : Nat) : p / Nat.gcd p e * e = Nat.lcm p e := by
  unfold Nat.lcm
  rw [Nat.div_mul_right_comm (Nat.gcd_dvd_left p e)]
theorem per_spec : ∀ (rs : List Ru) (p P : Nat), 1 ≤ p → p ≤ 100000 → (∀ r ∈ rs, 1 ≤ r.1) → per p rs = some P → 1 ≤ P ∧ P ≤ 100000 ∧ p ∣ P ∧ ∀ r ∈ rs, r.1.toNat ∣ P
  | [], p, P, h1, h2, _, h => by
    injection h with h
    subst h
    exact ⟨h1, h2, Nat.dvd_refl _, fun r hr => absurd hr (by simp)⟩
  | r :: rs, p, P, h1, h2, hr, h => by
    unfold per at h
    have he : 1 ≤ r.1.toNat := by have := hr r (by simp); omega
    by_cases hc : 100000 < p / Nat.gcd p r.1.toNat * r.1.toNat
    · rw [if_pos hc] at h
      cases h
    · rw [if_neg hc] at h
      rw [lcm_eq] at h hc
      have hp : 1 ≤ Nat.lcm p r.1.toNat := Nat.lcm_pos (by omega) (by omega)
      obtain ⟨g1, g2, g3, g4⟩ := per_spec rs _ P hp (by omega) (fun q hq => hr q (by simp [hq])) h
      refine ⟨g1, g2, Nat.dvd_trans (Nat.dvd_lcm_left _ _) g3, fun q hq => ?_⟩
      rcases List.mem_cons.1 hq with rfl | hq
      · exact Nat.dvd_trans (Nat.dvd_lcm_right _ _) g3
      · exact g4 q hq
theorem left_add {rs : List Ru} {P : Nat} (hd : ∀ r ∈ rs, r.1.toNat ∣ P) (hp : ∀ r ∈ rs, 1 ≤ r.1) (n k : Int) : left rs (n + P * k) = left rs n := by
  unfold left
  have : ∀ (q : List Ru), (∀ r ∈ q, r ∈ rs) → (q.all fun r => decide ((n + P * k) % r.1 ≠ r.2)) = q.all fun r => decide (n % r.1 ≠ r.2) := by
    intro q
    induction q with
    | nil => intro _; rfl
    | cons r q ih =>
      intro hq
      have hr := hq r (by simp)
      obtain ⟨c, hc⟩ := hd r hr
      have h1 := hp r hr
      have e : (P : Int) = r.1 * (c : Int) := by
        rw [hc, Int.natCast_mul, Int.toNat_of_nonneg (by omega)]
      have e2 : (n + P * k) % r.1 = n % r.1 := by
        rw [e, Int.mul_assoc, Int.add_mul_emod_self_left]
      rw [List.all_cons, List.all_cons, ih (fun r hr => hq r (by simp [hr])), e2]
  exact this rs (fun r hr => hr)

/-- A wheel: its period. -/
def whl (rs : List Ru) : Option Nat :=
  if good rs = true then match per 1 rs with
    | none => none
    | some P => if P ≤ 5000 ∧ lb rs P 1 ≠ [] then some P else none
  else none
structure Wheel (rs : List Ru) (P : Nat) : Prop where
  good : good rs = true
  per : per 1 rs = some P
  pos : 1 ≤ P
  most : P ≤ 5000
  dvd : ∀ r ∈ rs, r.1.toNat ∣ P
  some : lb rs P 1 ≠ []
theorem whl_spec {rs : List Ru} {P : Nat} (h : whl rs = some P) : Wheel rs P := by
  unfold whl at h
  by_cases hg : good rs = true
  · rw [if_pos hg] at h
    cases hp : per 1 rs with
    | none => rw [hp] at h; cases h
    | some Q =>
      rw [hp] at h
      dsimp only at h
      by_cases hc : Q ≤ 5000 ∧ lb rs Q 1 ≠ []
      · rw [if_pos hc] at h
        injection h with h
        subst h
        obtain ⟨g1, g2, g3, g4⟩ := per_spec rs 1 Q (by omega) (by omega) (fun r hr => by have := good_ok hg hr; omega) hp
        exact ⟨hg, hp, g1, hc.1, g4, hc.2⟩
      · rw [if_neg hc] at h
        cases h
  · rw [if_neg hg] at h
    cases h
theorem Wheel.one {rs : List Ru} {P : Nat} (h : Wheel rs P) : ∀ r ∈ rs, 1 ≤ r.1 := fun r hr => by have := good_ok h.good hr; omega
theorem Wheel.add {rs : List Ru} {P : Nat} (h : Wheel rs P) (n k : Int) : left rs (n + P * k) = left rs n := left_add h.dvd h.one n k
theorem Wheel.on {rs : List Ru} {P : Nat} (h : Wheel rs P) (n : Int) : left rs (n + P) = left rs n := by
  have := h.add n 1
  rw [Int.mul_one] at this
  exact this

end Go.Proofs.Ytlngnnkkaepeeaa.M

/-! ## E5 -/
namespace Go.Proofs.Ytlngnnkkaepeeaa.L
open Go.RowKit Go.Proofs.YtlngnnkkaepeeaaW.PrintWords Go.Proofs.Ytlngnnkkaepeeaa.P Go.Proofs.Ytlngnnkkaepeeaa.M
set_option linter.unusedVariables false
set_option linter.unusedSimpArgs false

/-- A rule as a pair. -/
def ru (x : S60) : Ru := (x.f0, x.f1)
def rs (l : List S60) : List Ru := l.map ru
theorem rdT_of {xs : List S60} {i : Nat} {x : S60} (h : xs[i]? = some x) : rd_T60 xs (i : Int) = x := by
  unfold rd_T60
  rw [Int.toNat_natCast, List.getD_eq_getElem?_getD, h]
  rfl
/-- All numbers of rules at least 1 and at most 60. -/
def Sane (l : List S60) : Prop := ∀ x ∈ l, 1 ≤ x.f0 ∧ x.f0 ≤ 60

theorem tmod_range {a b : Int} (hb : 1 ≤ b) : -b < Int.tmod a b ∧ Int.tmod a b < b := by
  rcases Int.le_total 0 a with h | h
  · rw [Int.tmod_eq_emod_of_nonneg h]
    exact ⟨by have := Int.emod_nonneg a (show b ≠ 0 by omega); omega, Int.emod_lt_of_pos a (by omega)⟩
  · obtain ⟨c, rfl⟩ : ∃ c, a = -c := ⟨-a, by omega⟩
    rw [Int.neg_tmod, Int.tmod_eq_emod_of_nonneg (show 0 ≤ c by omega)]
    have h1 := Int.emod_nonneg c (show b ≠ 0 by omega)
    have h2 := Int.emod_lt_of_pos c (show 0 < b by omega)
    exact ⟨by omega, by omega⟩
theorem rest_eq {a b : Int} (hb : 1 ≤ b) (hb2 : b ≤ 1000000) : Int.tmod (wrap64 (Int.tmod a b + b)) b = a % b := by
  have hr := tmod_range (a := a) hb
  rw [w64 (by omega) (by omega), Int.tmod_eq_emod_of_nonneg (by omega), Int.tmod_def]
  rw [show a - b * Int.tdiv a b + b = a + b * (1 - Int.tdiv a b) by rw [Int.mul_sub, Int.mul_one]; omega, Int.add_mul_emod_self_left]
theorem impl_mod_eq {a b : Int} (hb : 1 ≤ b) (hb2 : b ≤ 1000000) : impl_mod.f a b = some (a % b) := by
  simp only [impl_mod.f, if_neg (show ¬ b = 0 by omega)]
  rw [rest_eq hb hb2]
theorem spec_siRest_eq {a b : Int} (hb : 1 ≤ b) (hb2 : b ≤ 1000000) : spec_siRest.f a b = some (a % b) := by
  simp only [spec_siRest.f, if_neg (show ¬ b = 0 by omega)]
  rw [rest_eq hb hb2]

/-- The first rule that crosses a number out, told from index i on; -1: none. -/
def fiFrom : List Ru → Int → Int → Int
  | [], _, _ => -1
  | r :: q, n, i => if n % r.1 = r.2 then i else fiFrom q n (i + 1)
theorem fiFrom_neg : ∀ (q : List Ru) (n i : Int), 0 ≤ i → decide (fiFrom q n i < 0) = left q n
  | [], n, i, h => rfl
  | r :: q, n, i, h => by
    unfold fiFrom
    have ih := fiFrom_neg q n (i + 1) (by omega)
    unfold left at ih ⊢
    rw [List.all_cons]
    by_cases c : n % r.1 = r.2
    · rw [if_pos c, decide_eq_false (show ¬ i < 0 by omega), decide_eq_false (by simp [c]), Bool.false_and]
    · rw [if_neg c, ih, decide_eq_true (show n % r.1 ≠ r.2 from c), Bool.true_and]
theorem firstRule_go : ∀ (l : List S60) (n i : Int), Sane l → impl_firstRule.go l n i = some (fiFrom (rs l) n i)
  | [], n, i, _ => rfl
  | x :: l, n, i, h => by
    have hx := h x (by simp)
    have ih := firstRule_go l n (i + 1) (fun y hy => h y (by simp [hy]))
    simp only [impl_firstRule.go, impl_mod_eq (a := n) hx.1 (show x.f0 ≤ 1000000 by omega), Option.bind_some, ih]
    unfold rs
    rw [List.map_cons, fiFrom]
    unfold ru
    by_cases c : n % x.f0 = x.f1
    · rw [if_pos c, if_pos c]
    · rw [if_neg c, if_neg c]
theorem isLeft_eq {l : List S60} (h : Sane l) (n : Int) : impl_isLeft.f l n = some (left (rs l) n) := by
  simp only [impl_isLeft.f, impl_firstRule.f, firstRule_go l n 0 h, Option.bind_some]
  rw [fiFrom_neg _ _ _ (Int.le_refl 0)]
theorem siFirst_l0 (l : List S60) (h : Sane l) (hl : l.length ≤ 1099511627776) (n : Int) : ∀ (s : List S60) (i : Nat), l.drop i = s → Evl (fun k => spec_siFirst.l0 k n l (l.length : Int) (i : Int)) (fiFrom (rs s) n (i : Int)) := by
  intro s
  induction s with
  | nil =>
    intro i hd
    have hi := drop_nil hd
    refine Evl.succ ?_
    simp only [spec_siFirst.l0, if_neg (show ¬ (i : Int) < (l.length : Int) by omega)]
    exact Evl.ret _
  | cons x s ih =>
    intro i hd
    obtain ⟨hi, hx, hs⟩ := drop_cons hd
    have hsx := h x (List.mem_of_getElem? hx)
    have hw : wrap64 ((i : Int) + 1) = ((i + 1 : Nat) : Int) := by rw [w64 (by omega) (by omega)]; rfl
    refine Evl.succ ?_
    simp only [spec_siFirst.l0, if_pos (show (i : Int) < (l.length : Int) by omega), if_pos (show (0 : Int) ≤ (i : Int) by omega), rdT_of hx, spec_siRest_eq (a := n) hsx.1 (show x.f0 ≤ 1000000 by omega), Option.bind_some, hw]
    have e : fiFrom (rs (x :: s)) n (i : Int) = if n % x.f0 = x.f1 then (i : Int) else fiFrom (rs s) n ((i : Int) + 1) := rfl
    rw [e]
    by_cases c : n % x.f0 = x.f1
    · simp only [if_pos c]
      exact Evl.ret _
    · simp only [if_neg c]
      exact ih (i + 1) hs
theorem siLeft_ev {l : List S60} (h : Sane l) (hl : l.length ≤ 1099511627776) (n : Int) : Evl (fun k => spec_siLeft.f k l n) (left (rs l) n) := by
  simp only [spec_siLeft.f, spec_siFirst.f]
  refine Evl.bind (siFirst_l0 l h hl n l 0 rfl) ?_
  rw [← fiFrom_neg (rs l) n 0 (Int.le_refl 0)]
  exact Evl.ret _

/-! ### valid rules -/
theorem isRule_eq (a b : Int) : impl_isRule.f a b = some (okR (a, b)) := by
  unfold impl_isRule.f okR
  by_cases h1 : a ≥ 2
  · by_cases h2 : a ≤ 60
    · by_cases h3 : b ≥ 0
      · rw [if_pos h1, if_pos h2, if_pos h3]
        by_cases h4 : b < a
        · rw [decide_eq_true h4, decide_eq_true ⟨h1, h2, h3, h4⟩]
        · rw [decide_eq_false h4, decide_eq_false (fun c => h4 c.2.2.2)]
      · rw [if_pos h1, if_pos h2, if_neg h3, decide_eq_false (fun c => h3 c.2.2.1)]
    · rw [if_pos h1, if_neg h2, decide_eq_false (fun c => h2 c.2.1)]
  · rw [if_neg h1, decide_eq_false (fun c => h1 c.1)]
theorem siRule_eq (a b : Int) : spec_siRule.f a b = some (okR (a, b)) := by
  unfold spec_siRule.f okR
  rw [l1In_eq, Option.bind_some]
  by_cases h1 : 2 ≤ a ∧ a ≤ 60
  · rw [decide_eq_true h1, if_pos rfl, l1In_eq, Option.bind_some, w64 (by omega) (by omega)]
    by_cases h2 : 0 ≤ b ∧ b ≤ a - 1
    · rw [decide_eq_true h2, decide_eq_true (by omega)]
    · rw [decide_eq_false h2, decide_eq_false (by omega)]
  · rw [decide_eq_false h1, if_neg (by simp), decide_eq_false (fun c => h1 ⟨c.1, c.2.1⟩)]
theorem areRules_go : ∀ (l : List S60) (i : Int), 0 ≤ i → ∃ r, impl_areRules.go l i = some r ∧ (!(decide (0 ≤ r))) = (rs l).all okR
  | [], i, _ => ⟨-1, rfl, rfl⟩
  | x :: l, i, h => by
    have e : rs (x :: l) = ru x :: rs l := rfl
    simp only [impl_areRules.go, isRule_eq, Option.bind_some]
    rw [e, List.all_cons]
    cases c : okR (x.f0, x.f1) with
    | true =>
      simp only [if_true]
      obtain ⟨r, h1, h2⟩ := areRules_go l (i + 1) (by omega)
      refine ⟨r, h1, ?_⟩
      rw [h2, show okR (ru x) = true from c, Bool.true_and]
    | false =>
      simp only [Bool.false_eq_true, if_false]
      refine ⟨i, rfl, ?_⟩
      rw [show okR (ru x) = false from c, Bool.false_and, decide_eq_true h]
      rfl
theorem rs_length (l : List S60) : (rs l).length = l.length := by unfold rs; exact List.length_map ..
theorem areRules_eq (l : List S60) : impl_areRules.f l = some (good (rs l)) := by
  unfold impl_areRules.f good
  rw [rs_length]
  by_cases h : l.length ≤ 12
  · obtain ⟨r, h1, h2⟩ := areRules_go l 0 (Int.le_refl 0)
    rw [if_pos (show (l.length : Int) ≤ 12 by omega), h1, Option.bind_some, h2, decide_eq_true h, Bool.true_and]
  · rw [if_neg (show ¬ (l.length : Int) ≤ 12 by omega), decide_eq_false h, Bool.false_and]
theorem siGood_l0 (l : List S60) (hl : l.length ≤ 12) : ∀ (s : List S60) (i : Nat), l.drop i = s → Evl (fun k => spec_siGood.l0 k l (l.length : Int) (i : Int)) ((rs s).all okR) := by
  intro s
  induction s with
  | nil =>
    intro i hd
    have hi := drop_nil hd
    refine Evl.succ ?_
    simp only [spec_siGood.l0, if_neg (show ¬ (i : Int) < (l.length : Int) by omega)]
    exact Evl.ret _
  | cons x s ih =>
    intro i hd
    obtain ⟨hi, hx, hs⟩ := drop_cons hd
    have hw : wrap64 ((i : Int) + 1) = ((i + 1 : Nat) : Int) := by rw [w64 (by omega) (by omega)]; rfl
    have e : rs (x :: s) = ru x :: rs s := rfl
    refine Evl.succ ?_
    simp only [spec_siGood.l0, if_pos (show (i : Int) < (l.length : Int) by omega), if_pos (show (0 : Int) ≤ (i : Int) by omega), rdT_of hx, siRule_eq, Option.bind_some, hw]
    rw [e, List.all_cons]
    cases c : okR (x.f0, x.f1) with
    | true =>
      simp only [if_true]
      refine (ih (i + 1) hs).cast ?_
      rw [show okR (ru x) = true from c, Bool.true_and]
    | false =>
      simp only [Bool.false_eq_true, if_false]
      refine (Evl.ret _).cast ?_
      rw [show okR (ru x) = false from c, Bool.false_and]
theorem siGood_ev (l : List S60) : Evl (fun k => spec_siGood.f k l) (good (rs l)) := by
  unfold good
  rw [rs_length]
  by_cases h : l.length ≤ 12
  · simp only [spec_siGood.f, if_neg (show ¬ (l.length : Int) > 12 by omega)]
    rw [decide_eq_true h, Bool.true_and]
    exact siGood_l0 l h l 0 rfl
  · simp only [spec_siGood.f, if_pos (show (l.length : Int) > 12 by omega)]
    rw [decide_eq_false h, Bool.false_and]
    exact Evl.ret _
theorem sane_of_good {l : List S60} (h : good (rs l) = true) : Sane l := fun x hx => by
  have := good_ok h (r := ru x) (List.mem_map.2 ⟨x, hx, rfl⟩)
  exact ⟨by have := this.1; unfold ru at this; omega, this.2.1⟩
theorem len_of_good {l : List S60} (h : good (rs l) = true) : l.length ≤ 12 := by
  have := good_len h
  rwa [rs_length] at this

end Go.Proofs.Ytlngnnkkaepeeaa.L

/-! ## E7 -/
namespace Go.Proofs.Ytlngnnkkaepeeaa.L
open Go.RowKit Go.Proofs.YtlngnnkkaepeeaaW.PrintWords Go.Proofs.Ytlngnnkkaepeeaa.P Go.Proofs.Ytlngnnkkaepeeaa.M
set_option linter.unusedVariables false
set_option linter.unusedSimpArgs false

theorem eqRule_self (a b : Int) : laws_eqRule.f a b a b = some true := by
  simp only [laws_eqRule.f, if_true]
theorem eqRuleS_l0 (a : List S60) (hl : a.length ≤ 1099511627776) : ∀ (s : List S60) (i : Nat), a.drop i = s → Evl (fun k => laws_eqRuleS.l0 k a a (i : Int)) true := by
  intro s
  induction s with
  | nil =>
    intro i h
    have hi := drop_nil h
    refine Evl.succ ?_
    simp only [laws_eqRuleS.l0, if_neg (show ¬ (i : Int) < (a.length : Int) by omega)]
    exact Evl.ret _
  | cons x s ih =>
    intro i h
    obtain ⟨hi, hx, hs⟩ := drop_cons h
    have hw : wrap64 ((i : Int) + 1) = ((i + 1 : Nat) : Int) := by rw [w64 (by omega) (by omega)]; rfl
    refine Evl.succ ?_
    simp only [laws_eqRuleS.l0, if_pos (show (i : Int) < (a.length : Int) by omega), if_pos (show (0 : Int) ≤ (i : Int) by omega), eqRule_self, Option.bind_some, if_true, hw]
    exact ih (i + 1) hs
theorem eqRuleS_self (a : List S60) (hl : a.length ≤ 1099511627776) : Evl (fun k => laws_eqRuleS.f k a a) true := by
  simp only [laws_eqRuleS.f, if_true]
  exact eqRuleS_l0 a hl a 0 rfl
/-- n rules that hold the numbers from v on. -/
def iotR : Int → Nat → List S60
  | _, 0 => []
  | v, n + 1 => ⟨v, v + 1⟩ :: iotR (v + 2) n
theorem markRuleS_l0 : ∀ (s pre : List S60) (v : Int) (i : Nat), pre.length = i → pre.length + s.length ≤ 1099511627776 → 0 ≤ v → v + 2 * s.length ≤ 4398046511104 → Evl (fun k => laws_markRuleS.l0 k (pre ++ s) v (i : Int)) (v + 2 * s.length, pre ++ iotR v s.length) := by
  intro s
  induction s with
  | nil =>
    intro pre v i hi _ _ _
    refine Evl.succ ?_
    have h1 : ¬ (i : Int) < ((pre ++ ([] : List S60)).length : Int) := by rw [List.append_nil]; omega
    simp only [laws_markRuleS.l0, if_neg h1]
    refine (Evl.ret _).cast ?_
    simp [iotR]
  | cons x s ih =>
    intro pre v i hi hb hv hvb
    rw [List.length_cons] at hb hvb
    have hw : wrap64 ((i : Int) + 1) = ((i + 1 : Nat) : Int) := by rw [w64 (by omega) (by omega)]; rfl
    have hw2 : wrap64 (v + 1) = v + 1 := w64 (by omega) (by omega)
    have hw3 : wrap64 (v + 1 + 1) = v + 2 := by rw [w64 (by omega) (by omega)]; omega
    refine Evl.succ ?_
    have h1 : (i : Int) < ((pre ++ x :: s).length : Int) := by rw [List.length_append, List.length_cons]; omega
    have h2 : (0 : Int) ≤ (i : Int) := by omega
    have hset : ∀ (y z : S60), (pre ++ y :: s).set (i : Int).toNat z = pre ++ z :: s := by
      intro y z
      rw [Int.toNat_natCast, ← hi, List.set_append_right _ _ (Nat.le_refl _), Nat.sub_self, List.set_cons_zero]
    have hrd : ∀ y : S60, rd_T60 (pre ++ y :: s) (i : Int) = y := fun y => rdT_of (by rw [List.getElem?_append_right (by omega), hi, Nat.sub_self]; rfl)
    simp only [laws_markRuleS.l0, if_pos h1, if_pos h2, hset, hrd, Option.bind_some, hw, hw2, hw3]
    rw [show pre ++ (⟨v, v + 1⟩ : S60) :: s = (pre ++ [(⟨v, v + 1⟩ : S60)]) ++ s by simp]
    have := ih (pre ++ [(⟨v, v + 1⟩ : S60)]) (v + 2) (i + 1) (by rw [List.length_append, hi]; rfl) (by rw [List.length_append, List.length_singleton]; omega) (by omega) (by omega)
    refine this.cast ?_
    rw [List.length_cons, iotR, List.append_assoc]
    refine Prod.ext ?_ rfl
    show v + 2 + 2 * (s.length : Int) = v + 2 * ((s.length + 1 : Nat) : Int)
    omega
theorem markRuleS_ev (a : List S60) (hl : a.length ≤ 1099511627776) : Evl (fun k => laws_markRuleS.f k a 1) (1 + 2 * a.length, iotR 1 a.length) := by
  simp only [laws_markRuleS.f]
  exact markRuleS_l0 a [] 1 0 rfl (by simpa using hl) (by omega) (by omega)
theorem szRuleS_eq (a : List S62) (hl : a.length ≤ 10000000000000) : laws_szRuleS.f a 1048576 = some (if a.length ≤ 1048576 then 1048576 - (a.length : Int) else -1) := by
  unfold laws_szRuleS.f
  have hw : wrap64 (1048576 - (a.length : Int)) = 1048576 - (a.length : Int) := w64 (by omega) (by omega)
  rw [hw]
  by_cases h : a.length ≤ 1048576
  · rw [if_neg (by omega), if_pos h]
  · rw [if_pos (by omega), if_neg h]
/-- The rules that the law's own rules are copied to. -/
def cp (a : List S62) : List S60 := a.map fun x => ⟨x.f0, x.f1⟩
theorem cp_length (a : List S62) : (cp a).length = a.length := by unfold cp; exact List.length_map ..
theorem toRuleS_l0 (a : List S62) (hl : a.length ≤ 1099511627776) : ∀ (s : List S62) (pre t : List S60) (i : Nat), pre.length = i → a.drop i = s → t.length = s.length → Evl (fun k => laws_toRuleS.l0 k a (pre ++ t) (i : Int)) (pre ++ cp s) := by
  intro s
  induction s with
  | nil =>
    intro pre t i hi hd ht
    obtain rfl : t = [] := List.eq_nil_of_length_eq_zero ht
    have h1 := drop_nil hd
    refine Evl.succ ?_
    simp only [laws_toRuleS.l0, if_neg (show ¬ (i : Int) < (a.length : Int) by omega)]
    exact Evl.ret _
  | cons x s ih =>
    intro pre t i hi hd ht
    obtain ⟨y, t, rfl⟩ : ∃ y t', t = y :: t' := by
      cases t with
      | nil => cases ht
      | cons y t => exact ⟨y, t, rfl⟩
    obtain ⟨h1, hx, hs⟩ := drop_cons hd
    have hrx : rd_T62 a (i : Int) = x := by
      unfold rd_T62
      rw [Int.toNat_natCast, List.getD_eq_getElem?_getD, hx]
      rfl
    have hw : wrap64 ((i : Int) + 1) = ((i + 1 : Nat) : Int) := by rw [w64 (by omega) (by omega)]; rfl
    have h2 : (i : Int) < ((pre ++ y :: t).length : Int) := by rw [List.length_append, List.length_cons]; omega
    have hset : ∀ z : S60, (pre ++ y :: t).set (i : Int).toNat z = (pre ++ [z]) ++ t := by
      intro z
      rw [Int.toNat_natCast, ← hi, List.set_append_right _ _ (Nat.le_refl _), Nat.sub_self, List.set_cons_zero, List.append_assoc]
      rfl
    refine Evl.succ ?_
    simp only [laws_toRuleS.l0, if_pos (show (i : Int) < (a.length : Int) by omega), if_pos (show (0 : Int) ≤ (i : Int) by omega), hrx, laws_toRule.f, Option.bind_some, if_pos h2, hw, hset]
    refine (ih (pre ++ [(⟨x.f0, x.f1⟩ : S60)]) t (i + 1) (by rw [List.length_append, hi]; rfl) hs ?_).cast ?_
    · rw [List.length_cons, List.length_cons] at ht
      omega
    · rw [List.append_assoc]
      rfl
theorem toRuleS_ev (a : List S62) (hl : a.length ≤ 1099511627776) : Evl (fun k => laws_toRuleS.f k a) (cp a) := by
  simp only [laws_toRuleS.f, if_pos (show (0 : Int) ≤ (a.length : Int) by omega), if_pos (show ((a.length : Int)).toNat ≤ 17592186044416 by omega)]
  exact toRuleS_l0 a hl a [] (List.replicate _ _) 0 rfl rfl (by rw [List.length_replicate]; exact Int.toNat_natCast _)

end Go.Proofs.Ytlngnnkkaepeeaa.L

/-! ## E6 -/
namespace Go.Proofs.Ytlngnnkkaepeeaa.L
open Go.RowKit Go.Proofs.YtlngnnkkaepeeaaW.PrintWords Go.Proofs.Ytlngnnkkaepeeaa.P Go.Proofs.Ytlngnnkkaepeeaa.M
set_option linter.unusedVariables false
set_option linter.unusedSimpArgs false

theorem leftBetween_l0 (l : List S60) (h : Sane l) (hi : Int) (hh : hi ≤ 2000000000) : ∀ (m : Nat) (n : Int) (acc : List Int), -2000000000 ≤ n → (m : Int) = hi + 1 - n → acc.length + m ≤ 10000000000 → Evl (fun k => impl_leftBetween.l0 k l hi acc n) (acc ++ lb (rs l) m n) := by
  intro m
  induction m with
  | zero =>
    intro n acc h0 hm hb
    refine Evl.succ ?_
    simp only [impl_leftBetween.l0, if_neg (show ¬ n ≤ hi by omega)]
    refine (Evl.ret _).cast ?_
    simp [lb]
  | succ m ih =>
    intro n acc h0 hm hb
    have hw : wrap64 (n + 1) = n + 1 := w64 (by omega) (by omega)
    refine Evl.succ ?_
    simp only [impl_leftBetween.l0, if_pos (show n ≤ hi by omega), isLeft_eq h, Option.bind_some, hw]
    unfold lb
    by_cases hp : left (rs l) n = true
    · simp only [if_pos hp, if_pos (show acc.length < 17592186044416 by omega)]
      refine (ih (n + 1) (acc ++ [n]) (by omega) (by omega) (by rw [List.length_append]; simp; omega)).cast ?_
      simp
    · simp only [if_neg hp]
      exact ih (n + 1) acc (by omega) (by omega) (by omega)
theorem leftBetween_ev {l : List S60} (h : Sane l) (lo hi : Int) (h0 : -2000000000 ≤ lo) (hh : hi ≤ 2000000000) : Evl (fun k => impl_leftBetween.f k l lo hi) (lb (rs l) (hi + 1 - lo).toNat lo) := by
  simp only [impl_leftBetween.f]
  rcases Int.lt_or_le hi lo with c | c
  · refine Evl.succ ?_
    simp only [impl_leftBetween.l0, if_neg (show ¬ lo ≤ hi by omega)]
    rw [show (hi + 1 - lo).toNat = 0 by omega]
    exact Evl.ret _
  · exact leftBetween_l0 l h hi hh (hi + 1 - lo).toNat lo [] h0 (by omega) (by simp; omega)
theorem whSpokes_l0 (l : List S60) (h : Sane l) (hl : l.length ≤ 1099511627776) (hi : Int) (hh : hi ≤ 2000000000) : ∀ (m : Nat) (n : Int) (acc : List Int), -2000000000 ≤ n → (m : Int) = hi + 1 - n → acc.length + m ≤ 10000000000 → Evl (fun k => spec_whSpokes.l0 k l hi acc n) (acc ++ lb (rs l) m n) := by
  intro m
  induction m with
  | zero =>
    intro n acc h0 hm hb
    refine Evl.succ ?_
    simp only [spec_whSpokes.l0, if_neg (show ¬ n ≤ hi by omega)]
    refine (Evl.ret _).cast ?_
    simp [lb]
  | succ m ih =>
    intro n acc h0 hm hb
    have hw : wrap64 (n + 1) = n + 1 := w64 (by omega) (by omega)
    refine Evl.succ ?_
    simp only [spec_whSpokes.l0, if_pos (show n ≤ hi by omega), hw]
    refine Evl.bind (siLeft_ev h hl n) ?_
    unfold lb
    by_cases hp : left (rs l) n = true
    · simp only [if_pos hp, if_pos (show acc.length < 17592186044416 by omega)]
      refine (ih (n + 1) (acc ++ [n]) (by omega) (by omega) (by rw [List.length_append]; simp; omega)).cast ?_
      simp
    · simp only [if_neg hp]
      exact ih (n + 1) acc (by omega) (by omega) (by omega)
theorem whSpokes_ev {l : List S60} (h : Sane l) (hl : l.length ≤ 1099511627776) (P : Nat) (hp : P ≤ 100000) : Evl (fun k => spec_whSpokes.f k l (P : Int)) (lb (rs l) P 1) := by
  simp only [spec_whSpokes.f]
  exact whSpokes_l0 l h hl (P : Int) (by omega) P 1 [] (by omega) (by omega) (by simp; omega)

/-! ### periods -/
theorem impl_gcd_l0 : ∀ (b a : Nat), Evl (fun k => impl_gcd.l0 k (a : Int) (b : Int)) ((Nat.gcd a b : Nat) : Int) := by
  intro b
  induction b using Nat.strongRecOn with
  | ind b ih =>
    intro a
    refine Evl.succ ?_
    rcases Nat.eq_zero_or_pos b with h | h
    · subst h
      simp only [impl_gcd.l0, if_neg (show ¬ ((0 : Nat) : Int) > 0 by omega)]
      rw [Nat.gcd_zero_right]
      exact Evl.ret _
    · have ht : Int.tmod (a : Int) (b : Int) = ((a % b : Nat) : Int) := rfl
      simp only [impl_gcd.l0, if_pos (show (b : Int) > 0 by omega), if_neg (show ¬ (b : Int) = 0 by omega), ht]
      refine (ih (a % b) (Nat.mod_lt _ h) b).cast ?_
      rw [Nat.gcd_comm, ← Nat.gcd_rec, Nat.gcd_comm]
theorem impl_gcd_ev (a b : Nat) : Evl (fun k => impl_gcd.f k (a : Int) (b : Int)) ((Nat.gcd a b : Nat) : Int) := by
  simp only [impl_gcd.f]
  exact impl_gcd_l0 b a
theorem spec_siCommon_l0 : ∀ (b a : Nat), Evl (fun k => spec_siCommon.l0 k (a : Int) (b : Int)) ((Nat.gcd a b : Nat) : Int) := by
  intro b
  induction b using Nat.strongRecOn with
  | ind b ih =>
    intro a
    refine Evl.succ ?_
    rcases Nat.eq_zero_or_pos b with h | h
    · subst h
      simp only [spec_siCommon.l0, if_neg (show ¬ ((0 : Nat) : Int) > 0 by omega)]
      rw [Nat.gcd_zero_right]
      exact Evl.ret _
    · have ht : Int.tmod (a : Int) (b : Int) = ((a % b : Nat) : Int) := rfl
      simp only [spec_siCommon.l0, if_pos (show (b : Int) > 0 by omega), if_neg (show ¬ (b : Int) = 0 by omega), ht]
      refine (ih (a % b) (Nat.mod_lt _ h) b).cast ?_
      rw [Nat.gcd_comm, ← Nat.gcd_rec, Nat.gcd_comm]
theorem spec_siCommon_ev (a b : Nat) : Evl (fun k => spec_siCommon.f k (a : Int) (b : Int)) ((Nat.gcd a b : Nat) : Int) := by
  simp only [spec_siCommon.f]
  exact spec_siCommon_l0 b a
theorem per_step {p e : Nat} (hp : 1 ≤ p) (hp2 : p ≤ 100000) (he : 1 ≤ e) (he2 : e ≤ 60) :
    1 ≤ Nat.gcd p e ∧ wrap64 (Int.tdiv (p : Int) ((Nat.gcd p e : Nat) : Int)) = ((p / Nat.gcd p e : Nat) : Int) ∧ wrap64 (((p / Nat.gcd p e : Nat) : Int) * (e : Int)) = ((p / Nat.gcd p e * e : Nat) : Int) := by
  have hg : 1 ≤ Nat.gcd p e := Nat.gcd_pos_of_pos_left _ (by omega)
  have hq : p / Nat.gcd p e ≤ p := Nat.div_le_self _ _
  have ht : Int.tdiv (p : Int) ((Nat.gcd p e : Nat) : Int) = ((p / Nat.gcd p e : Nat) : Int) := rfl
  generalize p / Nat.gcd p e = q at hq ht
  refine ⟨hg, by rw [ht]; exact w64 (by omega) (by omega), ?_⟩
  have hm : q * e ≤ 100000 * 60 := Nat.mul_le_mul (by omega) he2
  rw [← Int.natCast_mul]
  exact w64 (by omega) (by omega)
theorem lcmOf_l0 (l : List S60) (h : Sane l) (hl : l.length ≤ 1099511627776) : ∀ (s : List S60) (i p : Nat), l.drop i = s → 1 ≤ p → p ≤ 100000 →
    Evl (fun k => impl_lcmOf.l0 k (p : Int) l (l.length : Int) (i : Int)) (match per p (rs s) with | some P => ((P : Int), true) | none => (0, false)) := by
  intro s
  induction s with
  | nil =>
    intro i p hd h1 h2
    have hi := drop_nil hd
    refine Evl.succ ?_
    simp only [impl_lcmOf.l0, if_neg (show ¬ (i : Int) < (l.length : Int) by omega)]
    exact Evl.ret _
  | cons x s ih =>
    intro i p hd h1 h2
    obtain ⟨hi, hx, hs⟩ := drop_cons hd
    have hsx := h x (List.mem_of_getElem? hx)
    have hw : wrap64 ((i : Int) + 1) = ((i + 1 : Nat) : Int) := by rw [w64 (by omega) (by omega)]; rfl
    obtain ⟨e, he⟩ := Int.eq_ofNat_of_zero_le (show 0 ≤ x.f0 by omega)
    obtain ⟨g1, g2, g3⟩ := per_step h1 h2 (show 1 ≤ e by omega) (show e ≤ 60 by omega)
    have e1 : rs (x :: s) = ru x :: rs s := rfl
    have e2 : (ru x).1.toNat = e := by show x.f0.toNat = e; rw [he]; exact Int.toNat_natCast e
    refine Evl.succ ?_
    simp only [impl_lcmOf.l0, if_pos (show (i : Int) < (l.length : Int) by omega), if_pos (show (0 : Int) ≤ (i : Int) by omega), rdT_of hx, hw, he]
    refine Evl.bind (impl_gcd_ev p e) ?_
    rw [e1, per, e2]
    simp only [if_neg (show ¬ ((Nat.gcd p e : Nat) : Int) = 0 by omega), g2, g3]
    have hpos : 1 ≤ p / Nat.gcd p e * e := by rw [lcm_eq]; exact Nat.lcm_pos (by omega) (by omega)
    generalize p / Nat.gcd p e * e = q at hpos
    by_cases c : 100000 < q
    · simp only [if_pos c, if_pos (show (q : Int) > 100000 by omega)]
      exact Evl.ret _
    · simp only [if_neg c, if_neg (show ¬ (q : Int) > 100000 by omega)]
      exact ih (i + 1) q hs hpos (by omega)
theorem lcmOf_ev {l : List S60} (h : Sane l) (hl : l.length ≤ 1099511627776) : Evl (fun k => impl_lcmOf.f k l) (match per 1 (rs l) with | some P => ((P : Int), true) | none => (0, false)) := by
  simp only [impl_lcmOf.f]
  exact lcmOf_l0 l h hl l 0 1 rfl (by omega) (by omega)
theorem siPeriod_l0 (l : List S60) (h : Sane l) (hl : l.length ≤ 1099511627776) : ∀ (s : List S60) (i p : Nat), l.drop i = s → 1 ≤ p → p ≤ 100000 →
    Evl (fun k => spec_siPeriod.l0 k (p : Int) l (l.length : Int) (i : Int)) (match per p (rs s) with | some P => (P : Int) | none => 0) := by
  intro s
  induction s with
  | nil =>
    intro i p hd h1 h2
    have hi := drop_nil hd
    refine Evl.succ ?_
    simp only [spec_siPeriod.l0, if_neg (show ¬ (i : Int) < (l.length : Int) by omega)]
    exact Evl.ret _
  | cons x s ih =>
    intro i p hd h1 h2
    obtain ⟨hi, hx, hs⟩ := drop_cons hd
    have hsx := h x (List.mem_of_getElem? hx)
    have hw : wrap64 ((i : Int) + 1) = ((i + 1 : Nat) : Int) := by rw [w64 (by omega) (by omega)]; rfl
    obtain ⟨e, he⟩ := Int.eq_ofNat_of_zero_le (show 0 ≤ x.f0 by omega)
    obtain ⟨g1, g2, g3⟩ := per_step h1 h2 (show 1 ≤ e by omega) (show e ≤ 60 by omega)
    have e1 : rs (x :: s) = ru x :: rs s := rfl
    have e2 : (ru x).1.toNat = e := by show x.f0.toNat = e; rw [he]; exact Int.toNat_natCast e
    refine Evl.succ ?_
    simp only [spec_siPeriod.l0, if_pos (show (i : Int) < (l.length : Int) by omega), if_pos (show (0 : Int) ≤ (i : Int) by omega), rdT_of hx, hw, he]
    refine Evl.bind (spec_siCommon_ev p e) ?_
    rw [e1, per, e2]
    simp only [if_neg (show ¬ ((Nat.gcd p e : Nat) : Int) = 0 by omega), g2, g3]
    have hpos : 1 ≤ p / Nat.gcd p e * e := by rw [lcm_eq]; exact Nat.lcm_pos (by omega) (by omega)
    generalize p / Nat.gcd p e * e = q at hpos
    by_cases c : 100000 < q
    · simp only [if_pos c, if_pos (show (q : Int) > 100000 by omega)]
      exact Evl.ret _
    · simp only [if_neg c, if_neg (show ¬ (q : Int) > 100000 by omega)]
      exact ih (i + 1) q hs hpos (by omega)
theorem siPeriod_ev {l : List S60} (h : Sane l) (hl : l.length ≤ 1099511627776) : Evl (fun k => spec_siPeriod.f k l) (match per 1 (rs l) with | some P => (P : Int) | none => 0) := by
  simp only [spec_siPeriod.f]
  exact siPeriod_l0 l h hl l 0 1 rfl (by omega) (by omega)
theorem periodOf_ev (l : List S60) : Evl (fun k => impl_periodOf.f k l) (if good (rs l) = true then (match per 1 (rs l) with | some P => ((P : Int), true) | none => (0, false)) else (0, false)) := by
  simp only [impl_periodOf.f, areRules_eq, Option.bind_some]
  by_cases g : good (rs l) = true
  · have hl := len_of_good g
    simp only [if_pos g]
    refine Evl.bind (lcmOf_ev (sane_of_good g) (by omega)) ?_
    refine (Evl.ret _).cast ?_
    cases per 1 (rs l) <;> rfl
  · simp only [if_neg g]
    exact Evl.ret _
/-- A wheel as the program makes it: told apart by whl. -/
theorem wheelOf_ev (l : List S60) : (∃ P, whl (rs l) = some P ∧ Evl (fun k => impl_wheelOf.f k l) ((P : Int), lb (rs l) P 1, true)) ∨ (whl (rs l) = none ∧ ∃ x y, Evl (fun k => impl_wheelOf.f k l) (x, y, false)) := by
  have hp := periodOf_ev l
  unfold whl
  by_cases g : good (rs l) = true
  · rw [if_pos g] at hp ⊢
    cases c : per 1 (rs l) with
    | none =>
      rw [c] at hp
      refine .inr ⟨rfl, 0, [], ?_⟩
      simp only [impl_wheelOf.f]
      refine Evl.bind hp ?_
      simp only [Bool.false_eq_true, if_false]
      exact Evl.ret _
    | some P =>
      rw [c] at hp
      dsimp only
      by_cases c5 : P ≤ 5000
      · have hw : Evl (fun k => impl_wheelOf.f k l) ((P : Int), lb (rs l) P 1, decide (((lb (rs l) P 1).length : Int) > 0)) := by
          simp only [impl_wheelOf.f]
          refine Evl.bind hp ?_
          simp only [if_true, if_neg (show ¬ (P : Int) > 5000 by omega)]
          have hb := leftBetween_ev (sane_of_good g) 1 (P : Int) (by omega) (by omega)
          rw [show ((P : Int) + 1 - 1).toNat = P by omega] at hb
          exact Evl.bind hb (Evl.ret _)
        by_cases ce : lb (rs l) P 1 = []
        · rw [if_neg (fun x => x.2 ce)]
          refine .inr ⟨rfl, (P : Int), [], ?_⟩
          rw [ce] at hw
          exact hw
        · rw [if_pos ⟨c5, ce⟩]
          refine .inl ⟨P, rfl, ?_⟩
          have : decide (((lb (rs l) P 1).length : Int) > 0) = true := decide_eq_true (by have := List.length_pos_iff.2 ce; omega)
          rw [this] at hw
          exact hw
      · rw [if_neg (fun x => c5 x.1)]
        refine .inr ⟨rfl, 0, [], ?_⟩
        simp only [impl_wheelOf.f]
        refine Evl.bind hp ?_
        simp only [if_true, if_pos (show (P : Int) > 5000 by omega)]
        exact Evl.ret _
  · rw [if_neg g] at hp ⊢
    refine .inr ⟨rfl, 0, [], ?_⟩
    simp only [impl_wheelOf.f]
    refine Evl.bind hp ?_
    simp only [Bool.false_eq_true, if_false]
    exact Evl.ret _
theorem whPeriod_l0 (l : List S60) (h : Sane l) (hl : l.length ≤ 1099511627776) (P : Nat) (hp : P ≤ 5000) : ∀ (m n : Nat), m + n = P → Evl (fun k => spec_whPeriod.l0 k l (P : Int) (n : Int)) (if lb (rs l) m (n : Int) = [] then 0 else (P : Int)) := by
  intro m
  induction m with
  | zero =>
    intro n hn
    refine Evl.succ ?_
    simp only [spec_whPeriod.l0, if_neg (show ¬ (n : Int) < (P : Int) by omega)]
    exact Evl.ret _
  | succ m ih =>
    intro n hn
    have hw : wrap64 ((n : Int) + 1) = ((n + 1 : Nat) : Int) := by rw [w64 (by omega) (by omega)]; rfl
    refine Evl.succ ?_
    simp only [spec_whPeriod.l0, if_pos (show (n : Int) < (P : Int) by omega), hw]
    refine Evl.bind (siLeft_ev h hl (n : Int)) ?_
    unfold lb
    by_cases c : left (rs l) (n : Int) = true
    · simp only [if_pos c]
      refine (Evl.ret _).cast ?_
      rw [if_neg (by simp)]
    · simp only [if_neg c]
      exact ih (n + 1) (by omega)
/-- Whether one is left in 0 .. P - 1 is whether one is in 1 .. P. -/
theorem lb_shift {q : List Ru} {P : Nat} (h1 : 1 ≤ P) (hd : ∀ r ∈ q, r.1.toNat ∣ P) (hp : ∀ r ∈ q, 1 ≤ r.1) : lb q P 0 = [] ↔ lb q P 1 = [] := by
  have key : ∀ (n : Int), lb q P n = [] ↔ ∀ x, n ≤ x → x < n + P → left q x = false := by
    intro n
    constructor
    · intro h x hx hx2
      cases c : left q x with
      | false => rfl
      | true =>
        have := (lb_mem q P n x).2 ⟨hx, hx2, c⟩
        rw [h] at this
        cases this
    · intro h
      rcases e : lb q P n with _ | ⟨x, s⟩
      · rfl
      · have := (lb_mem q P n x).1 (by rw [e]; simp)
        rw [h x this.1 this.2.1] at this
        cases this.2.2
  have hsh : left q (0 + (P : Int)) = left q 0 := by
    have := left_add hd hp 0 1
    rwa [Int.mul_one] at this
  rw [Int.zero_add] at hsh
  rw [key, key]
  constructor
  · intro h x hx hx2
    by_cases c : x = (P : Int)
    · rw [c, hsh]; exact h 0 (by omega) (by omega)
    · exact h x (by omega) (by omega)
  · intro h x hx hx2
    by_cases c : x = 0
    · rw [c, ← hsh]; exact h P (by omega) (by omega)
    · exact h x (by omega) (by omega)
theorem whPeriod_ev (l : List S60) : Evl (fun k => spec_whPeriod.f k l) (match whl (rs l) with | some P => (P : Int) | none => 0) := by
  simp only [spec_whPeriod.f]
  refine Evl.bind (siGood_ev l) ?_
  unfold whl
  by_cases g : good (rs l) = true
  · have hl := len_of_good g
    simp only [if_pos g]
    refine Evl.bind (siPeriod_ev (sane_of_good g) (by omega)) ?_
    cases c : per 1 (rs l) with
    | none =>
      refine Evl.succ ?_
      simp only [if_neg (show ¬ (0 : Int) > 5000 by omega), spec_whPeriod.l0, if_neg (show ¬ (0 : Int) < 0 by omega)]
      exact Evl.ret _
    | some P =>
      dsimp only
      obtain ⟨g1, g2, _, g4⟩ := per_spec (rs l) 1 P (by omega) (by omega) (fun r hr => by have := good_ok g hr; omega) c
      by_cases c5 : P ≤ 5000
      · simp only [if_neg (show ¬ (P : Int) > 5000 by omega)]
        refine (whPeriod_l0 l (sane_of_good g) (by omega) P c5 P 0 rfl).cast ?_
        have hs : lb (rs l) P ((0 : Nat) : Int) = [] ↔ lb (rs l) P 1 = [] := lb_shift g1 g4 (fun r hr => by have := good_ok g hr; omega)
        by_cases ce : lb (rs l) P 1 = []
        · rw [if_pos (hs.2 ce), if_neg (fun x : P ≤ 5000 ∧ lb (rs l) P 1 ≠ [] => x.2 ce)]
        · rw [if_neg (fun x => ce (hs.1 x)), if_pos (show P ≤ 5000 ∧ lb (rs l) P 1 ≠ [] from ⟨c5, ce⟩)]
      · simp only [if_pos (show (P : Int) > 5000 by omega), if_neg (fun x : P ≤ 5000 ∧ lb (rs l) P 1 ≠ [] => c5 x.1)]
        exact Evl.ret _
  · simp only [if_neg g]
    exact Evl.ret _

end Go.Proofs.Ytlngnnkkaepeeaa.L

/-! ## E8 -/
namespace Go.Proofs.Ytlngnnkkaepeeaa.L
open Go.RowKit Go.Proofs.YtlngnnkkaepeeaaW.PrintWords Go.Proofs.Ytlngnnkkaepeeaa.P Go.Proofs.Ytlngnnkkaepeeaa.M
set_option linter.unusedVariables false
set_option linter.unusedSimpArgs false

/-- The differences from each to the next; behind the last one the first one of the next period. -/
def stepsL (first P : Int) : List Int → List Int
  | [] => []
  | [x] => [first + P - x]
  | x :: y :: t => (y - x) :: stepsL first P (y :: t)
theorem stepsL_length (first P : Int) : ∀ l : List Int, (stepsL first P l).length = l.length
  | [] => rfl
  | [x] => rfl
  | x :: y :: t => by rw [stepsL, List.length_cons, stepsL_length first P (y :: t)]; rfl
/-- The steps of a wheel. -/
def steps (q : List Ru) (P : Nat) : List Int := stepsL ((lb q P 1).headD 0) P (lb q P 1)
theorem steps_length (q : List Ru) (P : Nat) : (steps q P).length = (lb q P 1).length := stepsL_length _ _ _

theorem wheel_steps_l0 (xs : List Int) (P first : Int) (hx : ∀ x ∈ xs, 0 ≤ x ∧ x ≤ 1000000) (hP : 0 ≤ P ∧ P ≤ 1000000) (hf : rd xs 0 = first) (hl : xs.length ≤ 1000000) : ∀ (s : List Int) (i : Nat) (acc : List Int), xs.drop i = s → acc.length + s.length ≤ 1000000 →
    Evl (fun k => impl_wheel_steps.l0 k acc xs (xs.length : Int) (i : Int) P xs) (acc ++ stepsL first P s) := by
  intro s
  induction s with
  | nil =>
    intro i acc hd ha
    have hi := drop_nil hd
    refine Evl.succ ?_
    simp only [impl_wheel_steps.l0, if_neg (show ¬ (i : Int) < (xs.length : Int) by omega)]
    refine (Evl.ret _).cast ?_
    simp [stepsL]
  | cons x s ih =>
    intro i acc hd ha
    obtain ⟨hi, hxx, hs⟩ := drop_cons hd
    have bx := hx x (List.mem_of_getElem? hxx)
    rw [List.length_cons] at ha
    have hw : wrap64 ((i : Int) + 1) = ((i + 1 : Nat) : Int) := by rw [w64 (by omega) (by omega)]; rfl
    refine Evl.succ ?_
    simp only [impl_wheel_steps.l0, if_pos (show (i : Int) < (xs.length : Int) by omega), if_pos (show (0 : Int) ≤ (i : Int) by omega), hw, rd_of hxx]
    cases s with
    | nil =>
      have hn := drop_nil hs
      have bf : 0 ≤ first ∧ first ≤ 1000000 := by
        have h0 : 0 < xs.length := by omega
        have := hx xs[0] (List.getElem_mem h0)
        have e : rd xs 0 = xs[0] := rd_nat (i := 0) h0
        rw [← hf, e]; exact this
      have e1 : wrap64 (rd xs 0 + P) = first + P := by rw [hf]; exact w64 (by omega) (by omega)
      have e2 : wrap64 (first + P - x) = first + P - x := w64 (by omega) (by omega)
      simp only [if_neg (show ¬ ((i + 1 : Nat) : Int) < (xs.length : Int) by omega), if_pos (show (0 : Int) < (xs.length : Int) by omega), if_pos (show acc.length < 17592186044416 by omega), e1, e2]
      refine (ih (i + 1) _ hs (by rw [List.length_append, List.length_singleton]; simp; omega)).cast ?_
      simp [stepsL]
    | cons y t =>
      obtain ⟨hi2, hy, _⟩ := drop_cons hs
      have byy := hx y (List.mem_of_getElem? hy)
      have e2 : wrap64 (y - x) = y - x := w64 (by omega) (by omega)
      simp only [if_pos (show ((i + 1 : Nat) : Int) < (xs.length : Int) by omega), if_pos (show (0 : Int) ≤ ((i + 1 : Nat) : Int) by omega), if_pos (show acc.length < 17592186044416 by omega), rd_of hy, e2]
      refine (ih (i + 1) _ hs (by rw [List.length_append, List.length_singleton]; omega)).cast ?_
      simp [stepsL]
theorem wheel_bounds {q : List Ru} {P : Nat} (h : P ≤ 5000) : ∀ x ∈ lb q P 1, 0 ≤ x ∧ x ≤ 1000000 := fun x hx => by
  have := (lb_mem q P 1 x).1 hx
  omega
theorem rd_head (xs : List Int) : rd xs 0 = xs.headD 0 := by cases xs <;> rfl
theorem wheel_steps_ev (q : List Ru) (P : Nat) (h : P ≤ 5000) : Evl (fun k => impl_wheel_steps.f k (P : Int) (lb q P 1)) (steps q P) := by
  simp only [impl_wheel_steps.f]
  have hl := lb_length q P 1
  exact wheel_steps_l0 (lb q P 1) (P : Int) _ (wheel_bounds h) (by omega) (rd_head _) (by omega) _ 0 [] rfl (by simp; omega)
theorem whSteps_l0 (xs : List Int) (P first : Int) (hx : ∀ x ∈ xs, 0 ≤ x ∧ x ≤ 1000000) (hP : 0 ≤ P ∧ P ≤ 1000000) (hf : rd xs 0 = first) (hl : xs.length ≤ 1000000) : ∀ (s : List Int) (i : Nat) (acc : List Int), xs.drop i = s → acc.length + s.length ≤ 1000000 →
    Evl (fun k => spec_whSteps.l0 k P xs acc xs (xs.length : Int) (i : Int)) (acc ++ stepsL first P s) := by
  intro s
  induction s with
  | nil =>
    intro i acc hd ha
    have hi := drop_nil hd
    refine Evl.succ ?_
    simp only [spec_whSteps.l0, if_neg (show ¬ (i : Int) < (xs.length : Int) by omega)]
    refine (Evl.ret _).cast ?_
    simp [stepsL]
  | cons x s ih =>
    intro i acc hd ha
    obtain ⟨hi, hxx, hs⟩ := drop_cons hd
    have bx := hx x (List.mem_of_getElem? hxx)
    rw [List.length_cons] at ha
    have hw : wrap64 ((i : Int) + 1) = ((i + 1 : Nat) : Int) := by rw [w64 (by omega) (by omega)]; rfl
    have bf : 0 ≤ first ∧ first ≤ 1000000 := by
      have h0 : 0 < xs.length := by omega
      have := hx xs[0] (List.getElem_mem h0)
      have e : rd xs 0 = xs[0] := rd_nat (i := 0) h0
      rw [← hf, e]; exact this
    have e1 : wrap64 (rd xs 0 + P) = first + P := by rw [hf]; exact w64 (by omega) (by omega)
    refine Evl.succ ?_
    simp only [spec_whSteps.l0, if_pos (show (i : Int) < (xs.length : Int) by omega), if_pos (show (0 : Int) ≤ (i : Int) by omega), if_pos (show (0 : Int) < (xs.length : Int) by omega), hw, rd_of hxx, e1]
    cases s with
    | nil =>
      have hn := drop_nil hs
      have e2 : wrap64 (first + P - x) = first + P - x := w64 (by omega) (by omega)
      simp only [if_neg (show ¬ ((i + 1 : Nat) : Int) < (xs.length : Int) by omega), if_pos (show acc.length < 17592186044416 by omega), e2]
      refine (ih (i + 1) _ hs (by rw [List.length_append, List.length_singleton]; simp; omega)).cast ?_
      simp [stepsL]
    | cons y t =>
      obtain ⟨hi2, hy, _⟩ := drop_cons hs
      have byy := hx y (List.mem_of_getElem? hy)
      have e2 : wrap64 (y - x) = y - x := w64 (by omega) (by omega)
      simp only [if_pos (show ((i + 1 : Nat) : Int) < (xs.length : Int) by omega), if_pos (show (0 : Int) ≤ ((i + 1 : Nat) : Int) by omega), if_pos (show acc.length < 17592186044416 by omega), rd_of hy, e2]
      refine (ih (i + 1) _ hs (by rw [List.length_append, List.length_singleton]; omega)).cast ?_
      simp [stepsL]
theorem whSteps_ev (l : List S60) (h : Sane l) (hl : l.length ≤ 1099511627776) (P : Nat) (hp : P ≤ 5000) : Evl (fun k => spec_whSteps.f k l (P : Int)) (steps (rs l) P) := by
  simp only [spec_whSteps.f]
  refine Evl.bind (whSpokes_ev h hl P (by omega)) ?_
  have hll := lb_length (rs l) P 1
  exact whSteps_l0 (lb (rs l) P 1) (P : Int) _ (wheel_bounds hp) (by omega) (rd_head _) (by omega) _ 0 [] rfl (by simp; omega)

end Go.Proofs.Ytlngnnkkaepeeaa.L

/-! ## M4 -/
namespace Go.Proofs.Ytlngnnkkaepeeaa.M
set_option linter.unusedVariables false
set_option linter.unusedSimpArgs false

/-- m has the remainders asked for. -/
def Sol (l : List (Nat × Nat)) (m : Nat) : Prop := ∀ q ∈ l, m % q.1 = q.2
structure Crt (l : List (Nat × Nat)) (n P : Nat) : Prop where
  lt : n < P
  dv : ∀ q ∈ l, q.1 ∣ P
  sol : Sol l n
  uniq : ∀ m, Sol l m → ∃ j, m = n + j * P
  co : ∀ p, isP p = true → (∀ q ∈ l, q.1 ≠ p) → P % p ≠ 0
theorem Crt.least {l : List (Nat × Nat)} {n P : Nat} (h : Crt l n P) : ∀ m, Sol l m → n ≤ m := fun m hm => by
  obtain ⟨j, rfl⟩ := h.uniq m hm
  exact Nat.le_add_right _ _

end Go.Proofs.Ytlngnnkkaepeeaa.M

/-! ## E9 -/
namespace Go.Proofs.Ytlngnnkkaepeeaa.L
open Go.RowKit Go.Proofs.YtlngnnkkaepeeaaW.PrintWords Go.Proofs.Ytlngnnkkaepeeaa.P Go.Proofs.Ytlngnnkkaepeeaa.M
set_option linter.unusedVariables false
set_option linter.unusedSimpArgs false

def has : List Int → Int → Bool
  | [], _ => false
  | y :: s, x => if y = x then true else has s x
theorem has_iff : ∀ {s : List Int} {x : Int}, has s x = true ↔ x ∈ s
  | [], x => by simp [has]
  | y :: s, x => by
    unfold has
    by_cases e : y = x
    · simp [e]
    · rw [if_neg e, has_iff, List.mem_cons]
      exact ⟨.inr, fun h => h.resolve_left fun c => e c.symm⟩
theorem l1Has_l0 (l : List Int) (hl : l.length ≤ 1099511627776) (x : Int) : ∀ (s : List Int) (i : Nat), l.drop i = s → Evl (fun k => spec_l1Has.l0 k x l (l.length : Int) (i : Int)) (has s x) := by
  intro s
  induction s with
  | nil =>
    intro i h
    have hi := drop_nil h
    refine Evl.succ ?_
    simp only [spec_l1Has.l0, if_neg (show ¬ (i : Int) < (l.length : Int) by omega)]
    exact Evl.ret _
  | cons y s ih =>
    intro i h
    obtain ⟨hi, hx, hs⟩ := drop_cons h
    have hw : wrap64 ((i : Int) + 1) = ((i + 1 : Nat) : Int) := by rw [w64 (by omega) (by omega)]; rfl
    refine Evl.succ ?_
    simp only [spec_l1Has.l0, if_pos (show (i : Int) < (l.length : Int) by omega), if_pos (show (0 : Int) ≤ (i : Int) by omega), rd_of hx, hw]
    unfold has
    by_cases e : y = x
    · simp only [if_pos e]
      exact Evl.ret _
    · simp only [if_neg e]
      exact ih (i + 1) hs
theorem l1Has_ev (l : List Int) (hl : l.length ≤ 1099511627776) (x : Int) : Evl (fun k => spec_l1Has.f k l x) (has l x) := by
  simp only [spec_l1Has.f]
  exact l1Has_l0 l hl x l 0 rfl
end Go.Proofs.Ytlngnnkkaepeeaa.L

/-! ## M5 -/
namespace Go.Proofs.Ytlngnnkkaepeeaa.M
open Go
set_option linter.unusedVariables false
set_option linter.unusedSimpArgs false

/-- Lists that rise and have the same members are the same. -/
theorem sorted_ext : ∀ (a b : List Int), a.Pairwise (· < ·) → b.Pairwise (· < ·) → (∀ x, x ∈ a ↔ x ∈ b) → a = b
  | [], [], _, _, _ => rfl
  | [], y :: b, _, _, h => absurd ((h y).2 (List.mem_cons_self ..)) (by simp)
  | x :: a, [], _, _, h => absurd ((h x).1 (List.mem_cons_self ..)) (by simp)
  | x :: a, y :: b, ha, hb, h => by
    obtain ⟨ha1, ha2⟩ := List.pairwise_cons.1 ha
    obtain ⟨hb1, hb2⟩ := List.pairwise_cons.1 hb
    have e : x = y := by
      rcases List.mem_cons.1 ((h x).1 (List.mem_cons_self ..)) with h1 | h1
      · exact h1
      · rcases List.mem_cons.1 ((h y).2 (List.mem_cons_self ..)) with h2 | h2
        · exact h2.symm
        · have := hb1 x h1
          have := ha1 y h2
          omega
    subst e
    refine congrArg (x :: ·) (sorted_ext a b ha2 hb2 fun z => ?_)
    constructor
    · intro hz
      rcases List.mem_cons.1 ((h z).1 (List.mem_cons_of_mem _ hz)) with h1 | h1
      · have := ha1 z hz
        omega
      · exact h1
    · intro hz
      rcases List.mem_cons.1 ((h z).2 (List.mem_cons_of_mem _ hz)) with h1 | h1
      · have := hb1 z hz
        omega
      · exact h1
theorem compactUpTo_spec (d : Array Int) (hd : ∀ i j, i ≤ j → j < d.size → d[i]! ≤ d[j]!) : ∀ m, m ≤ d.size → (Lib.compactUpTo d m).Pairwise (· < ·) ∧ ∀ x, x ∈ Lib.compactUpTo d m ↔ ∃ j, j < m ∧ d[j]! = x
  | 0, _ => ⟨List.Pairwise.nil, fun x => ⟨fun h => absurd h (by simp [Lib.compactUpTo]), fun ⟨j, hj, _⟩ => absurd hj (Nat.not_lt_zero _)⟩⟩
  | m + 1, hm => by
    obtain ⟨h1, h2⟩ := compactUpTo_spec d hd m (by omega)
    rw [Lib.compactUpTo_succ]
    by_cases hk : Lib.keeps d m = true
    · rw [if_pos hk]
      constructor
      · refine List.pairwise_append.2 ⟨h1, List.pairwise_singleton _ _, fun x hx y hy => ?_⟩
        rw [List.mem_singleton.1 hy]
        obtain ⟨j, hj, rfl⟩ := (h2 x).1 hx
        have hle := hd j (m - 1) (by omega) (by omega)
        have hle2 := hd (m - 1) m (by omega) (by omega)
        have : m = 0 ∨ d[m]! ≠ d[m - 1]! := of_decide_eq_true hk
        rcases this with h | h
        · omega
        · omega
      · intro x
        rw [List.mem_append, h2, List.mem_singleton]
        constructor
        · rintro (⟨j, hj, e⟩ | e)
          · exact ⟨j, by omega, e⟩
          · exact ⟨m, by omega, e.symm⟩
        · rintro ⟨j, hj, e⟩
          rcases Nat.lt_or_ge j m with h | h
          · exact .inl ⟨j, h, e⟩
          · obtain rfl : j = m := by omega
            exact .inr e.symm
    · rw [if_neg hk, List.append_nil]
      refine ⟨h1, fun x => (h2 x).trans ?_⟩
      have hk2 : ¬ (m = 0 ∨ d[m]! ≠ d[m - 1]!) := fun c => hk (decide_eq_true c)
      constructor
      · rintro ⟨j, hj, e⟩
        exact ⟨j, by omega, e⟩
      · rintro ⟨j, hj, e⟩
        rcases Nat.lt_or_ge j m with h | h
        · exact ⟨j, h, e⟩
        · obtain rfl : j = m := by omega
          refine ⟨j - 1, by omega, ?_⟩
          rw [← e]
          exact (Classical.not_not.1 fun c => hk2 (.inr c)).symm
/-- The members of a list, rising, each once. -/
def srt (l : List Int) : List Int := Lib.compact (l.mergeSort fun x y => decide (x ≤ y))
theorem srt_spec (l : List Int) : (srt l).Pairwise (· < ·) ∧ ∀ x, x ∈ srt l ↔ x ∈ l := by
  have hs : (l.mergeSort fun x y => decide (x ≤ y)).Pairwise fun x y => decide (x ≤ y) := List.pairwise_mergeSort (by intro a b c h1 h2; simp at *; omega) (by intro a b; simp; omega) l
  have hm : ∀ x, x ∈ (l.mergeSort fun x y => decide (x ≤ y)) ↔ x ∈ l := fun x => List.mem_mergeSort
  unfold srt
  generalize (l.mergeSort fun x y => decide (x ≤ y)) = s at hs hm
  have hd : ∀ i j, i ≤ j → j < s.toArray.size → s.toArray[i]! ≤ s.toArray[j]! := by
    intro i j hij hj
    rw [List.size_toArray] at hj
    rw [getElem!_pos s.toArray i (by rw [List.size_toArray]; omega), getElem!_pos s.toArray j (by rw [List.size_toArray]; omega), List.getElem_toArray, List.getElem_toArray]
    rcases Nat.lt_or_ge i j with h | h
    · have := List.pairwise_iff_getElem.1 hs i j (by omega) hj h
      exact of_decide_eq_true this
    · obtain rfl : i = j := by omega
      exact Int.le_refl _
  obtain ⟨h1, h2⟩ := compactUpTo_spec s.toArray hd s.length (by simp)
  refine ⟨h1, fun x => ?_⟩
  unfold Lib.compact
  rw [h2, ← hm]
  constructor
  · rintro ⟨j, hj, e⟩
    rw [getElem!_pos s.toArray j (by rw [List.size_toArray]; omega), List.getElem_toArray] at e
    exact e ▸ List.getElem_mem _
  · intro h
    obtain ⟨j, hj, e⟩ := List.getElem_of_mem h
    refine ⟨j, hj, ?_⟩
    rw [getElem!_pos s.toArray j (by rw [List.size_toArray]; omega), List.getElem_toArray]
    exact e
theorem srt_mem {l : List Int} {x : Int} : x ∈ srt l ↔ x ∈ l := (srt_spec l).2 x
theorem srt_sorted (l : List Int) : (srt l).Pairwise (· < ·) := (srt_spec l).1
theorem srt_length (l : List Int) : (srt l).length ≤ l.length := by
  unfold srt
  refine Nat.le_trans (Lib.compact_length_le _) ?_
  rw [List.length_mergeSort]
  exact Nat.le_refl _
theorem srt_eq {l s : List Int} (h : s.Pairwise (· < ·)) (hm : ∀ x, x ∈ s ↔ x ∈ l) : srt l = s := sorted_ext _ _ (srt_sorted l) h fun x => srt_mem.trans (hm x).symm

end Go.Proofs.Ytlngnnkkaepeeaa.M

/-! ## X2 -/

namespace Go.Proofs.Ytlngnnkkaepeeaa.L
open Go.RowKit Go.Proofs.YtlngnnkkaepeeaaW.PrintWords Go.Proofs.Ytlngnnkkaepeeaa.P Go.Proofs.Ytlngnnkkaepeeaa.M
set_option linter.unusedVariables false
set_option linter.unusedSimpArgs false

end Go.Proofs.Ytlngnnkkaepeeaa.L

/-! ## E11 -/
namespace Go.Proofs.Ytlngnnkkaepeeaa.L
open Go.RowKit Go.Proofs.YtlngnnkkaepeeaaW.PrintWords Go.Proofs.Ytlngnnkkaepeeaa.P Go.Proofs.Ytlngnnkkaepeeaa.M
set_option linter.unusedVariables false
set_option linter.unusedSimpArgs false

theorem SortCompact (l : List Int) (h : l ≠ []) (hl : l.length < 1000000000000) : ∃ s, slices_Sort_int_int.f l = some s ∧ slices_Compact_int_int.f s = some (srt l) := by
  have h0 : ¬ l.length = 0 := fun c => h (List.eq_nil_of_length_eq_zero c)
  refine ⟨l.mergeSort fun x y => decide (x ≤ y), ?_, ?_⟩
  · unfold slices_Sort_int_int.f
    rw [if_neg h0, if_pos (by omega)]
  · unfold slices_Compact_int_int.f
    rw [if_neg (by rw [List.length_mergeSort]; exact h0)]
    rfl
end Go.Proofs.Ytlngnnkkaepeeaa.L

/-! ## X5 -/

namespace Go.Proofs.Ytlngnnkkaepeeaa.L
open Go.RowKit Go.Proofs.YtlngnnkkaepeeaaW.PrintWords Go.Proofs.Ytlngnnkkaepeeaa.P Go.Proofs.Ytlngnnkkaepeeaa.M
set_option linter.unusedVariables false
set_option linter.unusedSimpArgs false

/-- A wheel, or none, as both tell it. -/
theorem wheel_cases (l : List S60) : (∃ P : Nat, Wheel (rs l) P ∧ Evl (fun k => impl_wheelOf.f k l) ((P : Int), lb (rs l) P 1, true) ∧ Evl (fun k => spec_whPeriod.f k l) (P : Int) ∧ Sane l ∧ l.length ≤ 1099511627776 ∧ ¬ (P : Int) = 0 ∧ 1 ≤ P ∧ P ≤ 5000) ∨
    ((∃ x y, Evl (fun k => impl_wheelOf.f k l) (x, y, false)) ∧ Evl (fun k => spec_whPeriod.f k l) 0) := by
  have hs := whPeriod_ev l
  rcases wheelOf_ev l with ⟨P, hw, hi⟩ | ⟨hw, hi⟩
  · have hW := whl_spec hw
    rw [hw] at hs
    have := len_of_good hW.good
    have h1 := hW.pos
    exact .inl ⟨P, hW, hi, hs, sane_of_good hW.good, by omega, by omega, h1, hW.most⟩
  · rw [hw] at hs
    exact .inr ⟨hi, hs⟩



/-! ### counting -/
end Go.Proofs.Ytlngnnkkaepeeaa.L

/-! ## X4 -/
namespace Go.Proofs.Ytlngnnkkaepeeaa.L
open Go.RowKit Go.Proofs.YtlngnnkkaepeeaaW.PrintWords Go.Proofs.Ytlngnnkkaepeeaa.P Go.Proofs.Ytlngnnkkaepeeaa.M
set_option linter.unusedVariables false
set_option linter.unusedSimpArgs false

/-- A number put into a rising list. -/
def put : List Int → Int → List Int
  | [], x => [x]
  | y :: s, x => if y < x then y :: put s x else if y = x then y :: s else x :: y :: s
theorem put_mem : ∀ (l : List Int) (x z : Int), z ∈ put l x ↔ z = x ∨ z ∈ l
  | [], x, z => by simp [put]
  | y :: s, x, z => by
    unfold put
    by_cases c : y < x
    · rw [if_pos c, List.mem_cons, put_mem s x z, List.mem_cons]
      constructor
      · rintro (h | h | h)
        · exact .inr (.inl h)
        · exact .inl h
        · exact .inr (.inr h)
      · rintro (h | h | h)
        · exact .inr (.inl h)
        · exact .inl h
        · exact .inr (.inr h)
    · rw [if_neg c]
      by_cases e : y = x
      · rw [if_pos e]
        constructor
        · exact .inr
        · rintro (h | h)
          · rw [h, ← e]; exact List.mem_cons_self ..
          · exact h
      · rw [if_neg e, List.mem_cons]
theorem put_sorted : ∀ (l : List Int) (x : Int), l.Pairwise (· < ·) → (put l x).Pairwise (· < ·)
  | [], x, _ => List.pairwise_singleton _ _
  | y :: s, x, h => by
    obtain ⟨h1, h2⟩ := List.pairwise_cons.1 h
    unfold put
    by_cases c : y < x
    · rw [if_pos c]
      refine List.Pairwise.cons (fun z hz => ?_) (put_sorted s x h2)
      rcases (put_mem s x z).1 hz with rfl | hz
      · exact c
      · exact h1 z hz
    · rw [if_neg c]
      by_cases e : y = x
      · rw [if_pos e]; exact h
      · rw [if_neg e]
        refine List.Pairwise.cons (fun z hz => ?_) h
        rcases List.mem_cons.1 hz with rfl | hz
        · omega
        · have := h1 z hz
          omega
theorem put_length : ∀ (l : List Int) (x : Int), (put l x).length ≤ l.length + 1
  | [], x => Nat.le_refl _
  | y :: s, x => by
    unfold put
    have := put_length s x
    split
    · rw [List.length_cons, List.length_cons]; omega
    · split
      · omega
      · simp only [List.length_cons]
        omega
theorem l1Put_l0 (l : List Int) (hl : l.length ≤ 1000000) (x : Int) : ∀ (s pre : List Int), l = pre ++ s → Evl (fun k => spec_l1Put.l0 k l x ((pre.length : Nat) : Int)) (pre ++ put s x) := by
  intro s
  induction s with
  | nil =>
    intro pre e
    rw [List.append_nil] at e
    subst e
    refine Evl.succ ?_
    have hz : ([] : List Int).length + (l.take ((l.length : Nat) : Int).toNat).length < 17592186044416 := by rw [List.length_take]; simp; omega
    simp only [spec_l1Put.l0, if_neg (show ¬ ((l.length : Nat) : Int) < (l.length : Int) by omega), Option.bind_some, if_pos (show (0 : Int) ≤ ((l.length : Nat) : Int) by omega), if_pos (show ((l.length : Nat) : Int) ≤ (l.length : Int) by omega), Int.toNat_natCast, List.take_length, List.drop_length, List.nil_append, List.length_nil, List.length_append, List.length_singleton, if_pos (show 0 + l.length < 17592186044416 by omega), if_pos (show l.length < 17592186044416 by omega), if_pos (show 0 + l.length + 1 + 0 < 17592186044416 by omega), List.append_nil]
    exact Evl.ret _
  | cons y s ih =>
    intro pre e
    have hle : l.length = pre.length + (s.length + 1) := by rw [e, List.length_append, List.length_cons]
    have hy : l[pre.length]? = some y := by rw [e, List.getElem?_append_right (Nat.le_refl _), Nat.sub_self]; rfl
    have hw : wrap64 (((pre.length : Nat) : Int) + 1) = (((pre ++ [y]).length : Nat) : Int) := by rw [w64 (by omega) (by omega), List.length_append, List.length_singleton]; omega
    refine Evl.succ ?_
    simp only [spec_l1Put.l0, if_pos (show ((pre.length : Nat) : Int) < (l.length : Int) by omega), if_pos (show (0 : Int) ≤ ((pre.length : Nat) : Int) by omega), rd_of hy]
    unfold put
    by_cases c : y < x
    · simp only [if_pos c, hw]
      refine (ih (pre ++ [y]) (by rw [e, List.append_assoc]; rfl)).cast ?_
      rw [List.append_assoc]
      rfl
    · simp only [if_neg c]
      by_cases e1 : y = x
      · simp only [if_pos e1]
        rw [← e]
        exact Evl.ret _
      · have htk : l.take pre.length = pre := by rw [e]; exact List.take_left' rfl
        have hdr : l.drop pre.length = y :: s := by rw [e]; exact List.drop_left' rfl
        simp only [if_neg e1, Option.bind_some, if_pos (show ((pre.length : Nat) : Int) ≤ (l.length : Int) by omega), Int.toNat_natCast, htk, hdr, List.nil_append, List.length_nil, List.length_append, List.length_singleton, List.length_cons, if_pos (show 0 + pre.length < 17592186044416 by omega), if_pos (show pre.length < 17592186044416 by omega), if_pos (show 0 + pre.length + (0 + 1) + (s.length + 1) < 17592186044416 by omega), List.append_assoc]
        exact Evl.ret _
theorem l1Put_ev (l : List Int) (hl : l.length ≤ 1000000) (x : Int) : Evl (fun k => spec_l1Put.f k l x) (put l x) := by
  simp only [spec_l1Put.f]
  exact l1Put_l0 l hl x l [] rfl
theorem put_has {l : List Int} {x : Int} (hs : l.Pairwise (· < ·)) (h : has l x = true) : put l x = l :=
  sorted_ext _ _ (put_sorted l x hs) hs fun z => (put_mem l x z).trans ⟨fun c => c.elim (fun e => e ▸ has_iff.1 h) id, .inr⟩
/-- The members of a list put one by one. -/
def puts : List Int → List Int → List Int
  | acc, [] => acc
  | acc, x :: s => puts (put acc x) s
theorem puts_spec : ∀ (s acc : List Int), acc.Pairwise (· < ·) → (puts acc s).Pairwise (· < ·) ∧ ∀ z, z ∈ puts acc s ↔ z ∈ acc ∨ z ∈ s
  | [], acc, h => ⟨h, fun z => by simp [puts]⟩
  | x :: s, acc, h => by
    obtain ⟨g1, g2⟩ := puts_spec s (put acc x) (put_sorted acc x h)
    refine ⟨g1, fun z => (g2 z).trans ?_⟩
    rw [put_mem, List.mem_cons]
    constructor
    · rintro ((h | h) | h)
      · exact .inr (.inl h)
      · exact .inl h
      · exact .inr (.inr h)
    · rintro (h | h | h)
      · exact .inl (.inr h)
      · exact .inl (.inl h)
      · exact .inr h
theorem spec_StepSizes_l0 (xs : List Int) (hx : xs.length ≤ 100000) : ∀ (s acc : List Int) (i : Nat), xs.drop i = s → acc.Pairwise (· < ·) → acc.length + s.length ≤ 100000 → Evl (fun k => spec_StepSizes.l0 k acc xs (xs.length : Int) (i : Int)) (puts acc s, true) := by
  intro s
  induction s with
  | nil =>
    intro acc i h _ _
    have hi := drop_nil h
    refine Evl.succ ?_
    simp only [spec_StepSizes.l0, if_neg (show ¬ (i : Int) < (xs.length : Int) by omega)]
    exact Evl.ret _
  | cons y s ih =>
    intro acc i h hs hl
    obtain ⟨hi, hy, hd⟩ := drop_cons h
    rw [List.length_cons] at hl
    have hw : wrap64 ((i : Int) + 1) = ((i + 1 : Nat) : Int) := by rw [w64 (by omega) (by omega)]; rfl
    have hpl := put_length acc y
    refine Evl.succ ?_
    simp only [spec_StepSizes.l0, if_pos (show (i : Int) < (xs.length : Int) by omega), if_pos (show (0 : Int) ≤ (i : Int) by omega), rd_of hy, hw]
    refine Evl.bind (l1Has_ev acc (by omega) y) ?_
    unfold puts
    by_cases c : has acc y = true
    · simp only [if_pos c]
      rw [put_has hs c]
      exact ih acc (i + 1) hd hs (by omega)
    · simp only [if_neg c]
      refine Evl.bind (l1Put_ev acc (by omega) y) ?_
      exact ih (put acc y) (i + 1) hd (put_sorted acc y hs) (by omega)
theorem FnExactStepSizes_main (l : List S60) (hl : l.length ≤ 1099511627776) :
    ∃ r b, Evl (fun k => spec_StepSizes.f k l) (r, b) ∧ Evl (fun k => impl_StepSizes.f k l) (r, b) ∧ r.length ≤ 1099511627776 := by
  rcases wheel_cases l with ⟨P, hW, hi, hs, hsane, hl2, hz, h1, h5⟩ | ⟨⟨x, y, hi⟩, hs⟩
  · have hlen : (steps (rs l) P).length ≤ 5000 := by have := lb_length (rs l) P 1; rw [steps_length]; omega
    have hne : steps (rs l) P ≠ [] := fun e => hW.some (List.eq_nil_of_length_eq_zero (by rw [← steps_length, e]; rfl))
    have e : puts [] (steps (rs l) P) = srt (steps (rs l) P) := by
      obtain ⟨g1, g2⟩ := puts_spec (steps (rs l) P) [] List.Pairwise.nil
      exact (srt_eq g1 fun z => (g2 z).trans (by simp)).symm
    refine ⟨srt (steps (rs l) P), true, ?_, ?_, by have := srt_length (steps (rs l) P); omega⟩
    · simp only [spec_StepSizes.f]
      refine Evl.bind hs ?_
      simp only [if_neg hz]
      refine Evl.bind (whSteps_ev l hsane hl2 P h5) ?_
      rw [← e]
      exact spec_StepSizes_l0 _ (by omega) _ [] 0 rfl List.Pairwise.nil (by simp; omega)
    · obtain ⟨s, q1, q2⟩ := SortCompact _ hne (by omega)
      simp only [impl_StepSizes.f]
      refine Evl.bind hi ?_
      simp only [if_true]
      refine Evl.bind (wheel_steps_ev (rs l) P h5) ?_
      simp only [q1, q2, Option.bind_some]
      exact Evl.ret _
  · refine ⟨[], false, ?_, ?_, by simp⟩
    · simp only [spec_StepSizes.f]
      refine Evl.bind hs ?_
      simp only [if_true]
      exact Evl.ret _
    · simp only [impl_StepSizes.f]
      refine Evl.bind hi ?_
      simp only [Bool.false_eq_true, if_false]
      exact Evl.ret _

end Go.Proofs.Ytlngnnkkaepeeaa.L
