/- NumberWithRests of the program tells what the reference's tells, for all arguments: what both functions compute. No condition beyond 64 bits and the lengths that the statement's guards give. -/
import Derived.Test.YtgoldeagghadhaaPx0
import Derived.Test.YtgoldeagghadhaaPx11
import Derived.Test.YtgoldeagghadhaaPx14
import Derived.Test.YtgoldeagghadhaaPx1
import Derived.Test.YtgoldeagghadhaaPx8
import Derived.Test.YtgoldeagghadhaaPx9
import Derived.Test.YtgoldeagghadhaaPx12
import Derived.Test.YtgoldeagghadhaaPx13
import Derived.Test.YtgoldeagghadhaaPx31
import Derived.Test.YtgoldeagghadhaaPx32
import Derived.Test.YtgoldeagghadhaaPx33
/-! ## L0 -/
namespace Go.Proofs.Ytgoldeagghadhaa.L
open Go.RowKit Go.Proofs.YtgoldeagghadhaaW.PrintWords
set_option linter.unusedVariables false
set_option linter.unusedSimpArgs false

/-- With enough rounds g tells r. -/
def Evl {α : Type} (g : Nat → Option α) (r : α) : Prop := ∃ K, ∀ k, K ≤ k → g k = some r
theorem Evl.ret {α : Type} (r : α) : Evl (fun _ => some r) r := ⟨0, fun _ _ => rfl⟩
theorem Evl.bind {α β : Type} {g : Nat → Option α} {f : Nat → α → Option β} {a : α} {r : β} (h : Evl g a) (h2 : Evl (fun k => f k a) r) : Evl (fun k => (g k).bind (f k)) r := by
  obtain ⟨K, hK⟩ := h
  obtain ⟨K2, hK2⟩ := h2
  refine ⟨max K K2, fun k hk => ?_⟩
  show (g k).bind (f k) = some r
  rw [hK k (Nat.le_trans (Nat.le_max_left _ _) hk), Option.bind_some]
  exact hK2 k (Nat.le_trans (Nat.le_max_right _ _) hk)
theorem Evl.succ {α : Type} {g : Nat → Option α} {r : α} (h : Evl (fun k => g (k + 1)) r) : Evl g r := by
  obtain ⟨K, hK⟩ := h
  refine ⟨K + 1, fun k hk => ?_⟩
  obtain ⟨m, rfl⟩ : ∃ m, k = m + 1 := ⟨k - 1, by omega⟩
  exact hK m (by omega)
theorem Evl.congr {α : Type} {g g' : Nat → Option α} {r : α} (h : ∀ k, g k = g' k) (h2 : Evl g' r) : Evl g r := by
  obtain ⟨K, hK⟩ := h2
  exact ⟨K, fun k hk => (h k).trans (hK k hk)⟩
theorem Evl.get {α : Type} {g : Nat → Option α} {r : α} (h : Evl g r) : ∃ k, g k = some r := by
  obtain ⟨K, hK⟩ := h
  exact ⟨K, hK K (Nat.le_refl _)⟩
theorem Evl.cast {α : Type} {g : Nat → Option α} {r r' : α} (h : Evl g r) (e : r = r') : Evl g r' := e ▸ h

theorem w64 {x : Int} (h0 : -9223372036854775808 ≤ x) (h1 : x ≤ 9223372036854775807) : wrap64 x = x := by
  unfold wrap64
  omega
theorem drop_nil {α : Type} {xs : List α} {i : Nat} (h : xs.drop i = []) : xs.length ≤ i := by
  simpa using h
theorem drop_cons {α : Type} {xs s : List α} {x : α} {i : Nat} (h : xs.drop i = x :: s) : i < xs.length ∧ xs[i]? = some x ∧ xs.drop (i + 1) = s := by
  have hl : i < xs.length := by
    rcases Nat.lt_or_ge i xs.length with h1 | h1
    · exact h1
    · rw [List.drop_of_length_le h1] at h
      cases h
  rw [List.drop_eq_getElem_cons hl] at h
  injection h with h1 h2
  exact ⟨hl, by rw [List.getElem?_eq_getElem hl, h1], h2⟩
theorem rd_of {xs : List Int} {i : Nat} {x : Int} (h : xs[i]? = some x) : rd xs (i : Int) = x := by
  unfold rd
  rw [Int.toNat_natCast, List.getD_eq_getElem?_getD, h]
  rfl
end Go.Proofs.Ytgoldeagghadhaa.L

/-! ## E0 -/
namespace Go.Proofs.Ytgoldeagghadhaa.L
open Go.RowKit Go.Proofs.YtgoldeagghadhaaW.PrintWords Go.Proofs.Ytgoldeagghadhaa.P
set_option linter.unusedVariables false
set_option linter.unusedSimpArgs false

theorem eqIntS_l0 (a : List Int) (hl : a.length ≤ 1099511627776) : ∀ (s : List Int) (i : Nat), a.drop i = s → Evl (fun k => laws_eqIntS.l0 k a a (i : Int)) true := by
  intro s
  induction s with
  | nil =>
    intro i h
    have hi := drop_nil h
    refine Evl.succ ?_
    have h1 : ¬ (i : Int) < (a.length : Int) := by omega
    simp only [laws_eqIntS.l0, if_neg h1]
    exact Evl.ret _
  | cons x s ih =>
    intro i h
    obtain ⟨hi, hx, hs⟩ := drop_cons h
    have hw : wrap64 ((i : Int) + 1) = ((i + 1 : Nat) : Int) := by rw [w64 (by omega) (by omega)]; rfl
    refine Evl.succ ?_
    have h1 : (i : Int) < (a.length : Int) := by omega
    have h2 : (0 : Int) ≤ (i : Int) := by omega
    simp only [laws_eqIntS.l0, if_pos h1, if_pos h2, if_true, hw]
    exact ih (i + 1) hs
theorem eqIntS_self (a : List Int) (hl : a.length ≤ 1099511627776) : Evl (fun k => laws_eqIntS.f k a a) true := by
  simp only [laws_eqIntS.f, if_true]
  exact eqIntS_l0 a hl a 0 rfl

theorem toIntS_l0 (a : List Int) (hl : a.length ≤ 1099511627776) : ∀ (s pre t : List Int) (i : Nat), pre.length = i → a = pre ++ s → t.length = s.length → Evl (fun k => laws_toIntS.l0 k a (pre ++ t) (i : Int)) a := by
  intro s
  induction s with
  | nil =>
    intro pre t i hi ha ht
    obtain rfl : t = [] := List.eq_nil_of_length_eq_zero ht
    refine Evl.succ ?_
    have h1 : ¬ (i : Int) < (a.length : Int) := by rw [ha, List.append_nil]; omega
    simp only [laws_toIntS.l0, if_neg h1]
    rw [← ha]
    exact Evl.ret _
  | cons x s ih =>
    intro pre t i hi ha ht
    obtain ⟨y, t, rfl⟩ : ∃ y t', t = y :: t' := by
      cases t with
      | nil => cases ht
      | cons y t => exact ⟨y, t, rfl⟩
    have hal : a.length = i + (s.length + 1) := by rw [ha, List.length_append, hi, List.length_cons]
    have h1 : (i : Int) < (a.length : Int) := by omega
    have h0 : (0 : Int) ≤ (i : Int) := by omega
    have h2 : (i : Int) < ((pre ++ y :: t).length : Int) := by rw [List.length_append, List.length_cons]; omega
    have hx : rd a (i : Int) = x := rd_of (by rw [ha, List.getElem?_append_right (by omega), hi, Nat.sub_self]; rfl)
    have hw : wrap64 ((i : Int) + 1) = ((i + 1 : Nat) : Int) := by rw [w64 (by omega) (by omega)]; rfl
    have hset : (pre ++ y :: t).set (i : Int).toNat x = (pre ++ [x]) ++ t := by
      rw [Int.toNat_natCast, ← hi, List.set_append_right _ _ (Nat.le_refl _), Nat.sub_self, List.set_cons_zero, List.append_assoc]
      rfl
    refine Evl.succ ?_
    simp only [laws_toIntS.l0, if_pos h1, if_pos h0, if_pos h2, hx, hw, hset]
    refine ih (pre ++ [x]) t (i + 1) (by rw [List.length_append, hi]; rfl) (by rw [ha, List.append_assoc]; rfl) ?_
    rw [List.length_cons, List.length_cons] at ht
    omega
theorem toIntS_ev (a : List Int) (hl : a.length ≤ 1099511627776) : Evl (fun k => laws_toIntS.f k a) a := by
  have h0 : (0 : Int) ≤ (a.length : Int) := by omega
  have h1 : ((a.length : Int)).toNat ≤ 35184372088832 := by omega
  simp only [laws_toIntS.f, if_pos h0, if_pos h1]
  exact toIntS_l0 a hl a [] (List.replicate _ 0) 0 rfl rfl (by rw [List.length_replicate]; exact Int.toNat_natCast _)

end Go.Proofs.Ytgoldeagghadhaa.L

/-! ## M1 -/
namespace Go.Proofs.Ytgoldeagghadhaa.M
set_option linter.unusedVariables false
set_option linter.unusedSimpArgs false

def lfAux : Nat → Nat → Nat → Nat
  | 0, _, n => n
  | f + 1, d, n => if n % d = 0 then d else lfAux f (d + 1) n
/-- The least divisor of at least 2. -/
def lf (n : Nat) : Nat := lfAux n 2 n
def isP (n : Nat) : Bool := decide (2 ≤ n) && decide (lf n = n)

structure Least (n r : Nat) : Prop where
  two : 2 ≤ r
  le : r ≤ n
  div : n % r = 0
  least : ∀ d, 2 ≤ d → d < r → n % d ≠ 0

theorem lfAux_least : ∀ (f d n : Nat), 2 ≤ d → d ≤ n → n < d + f → (∀ e, 2 ≤ e → e < d → n % e ≠ 0) → Least n (lfAux f d n)
  | 0, d, n, _, h1, h2, _ => by omega
  | f + 1, d, n, h0, h1, h2, h3 => by
    unfold lfAux
    by_cases h : n % d = 0
    · rw [if_pos h]
      exact ⟨h0, h1, h, h3⟩
    · rw [if_neg h]
      have hne : d ≠ n := fun e => h (by rw [e]; exact Nat.mod_self n)
      refine lfAux_least f (d + 1) n (by omega) (by omega) (by omega) (fun e he hl => ?_)
      by_cases hed : e = d
      · rw [hed]; exact h
      · exact h3 e he (by omega)
theorem lf_least {n : Nat} (h : 2 ≤ n) : Least n (lf n) := lfAux_least n 2 n (by omega) h (by omega) (fun e h1 h2 => by omega)
theorem Least.uniq {n r s : Nat} (h : Least n r) (h' : Least n s) : r = s := by
  rcases Nat.lt_trichotomy r s with h1 | h1 | h1
  · exact absurd h.div (h'.least r h.two h1)
  · exact h1
  · exact absurd h'.div (h.least s h'.two h1)
theorem isP_iff {n : Nat} : isP n = true ↔ 2 ≤ n ∧ lf n = n := by
  simp [isP]
theorem isP_two {n : Nat} (h : isP n = true) : 2 ≤ n := (isP_iff.1 h).1
theorem isP_least {n : Nat} (h : isP n = true) : Least n n := by
  obtain ⟨h2, he⟩ := isP_iff.1 h
  have := lf_least h2
  rwa [he] at this
theorem isP_no {n d : Nat} (h : isP n = true) (h2 : 2 ≤ d) (hl : d < n) : n % d ≠ 0 := (isP_least h).least d h2 hl
/-- Of a divisor of a prime there are two. -/
theorem isP_dvd {p d : Nat} (h : isP p = true) (hd : d ∣ p) : d = 1 ∨ d = p := by
  have hp := isP_two h
  have hm := Nat.mod_eq_zero_of_dvd hd
  rcases Nat.lt_or_ge d 2 with h1 | h1
  · have : d = 0 ∨ d = 1 := by omega
    rcases this with rfl | rfl
    · rw [Nat.mod_zero] at hm; omega
    · exact .inl rfl
  · rcases Nat.lt_or_ge d p with h3 | h3
    · exact absurd hm (isP_no h h1 h3)
    · exact .inr (Nat.le_antisymm (Nat.le_of_dvd (by omega) hd) h3)
theorem isP_euclid {p a b : Nat} (h : isP p = true) (hd : p ∣ a * b) : p ∣ a ∨ p ∣ b := by
  rcases isP_dvd h (Nat.gcd_dvd_left p a) with hg | hg
  · exact .inr (Nat.Coprime.dvd_of_dvd_mul_left hg hd)
  · exact .inl (hg ▸ Nat.gcd_dvd_right p a)
/-! ### factors -/
end Go.Proofs.Ytgoldeagghadhaa.M

/-! ## E1 -/
namespace Go.Proofs.Ytgoldeagghadhaa.L
open Go.RowKit Go.Proofs.YtgoldeagghadhaaW.PrintWords Go.Proofs.Ytgoldeagghadhaa.P Go.Proofs.Ytgoldeagghadhaa.M
set_option linter.unusedVariables false
set_option linter.unusedSimpArgs false

end Go.Proofs.Ytgoldeagghadhaa.L

/-! ## E2 -/

namespace Go.Proofs.Ytgoldeagghadhaa.L
open Go.RowKit Go.Proofs.YtgoldeagghadhaaW.PrintWords Go.Proofs.Ytgoldeagghadhaa.P Go.Proofs.Ytgoldeagghadhaa.M
set_option linter.unusedVariables false
set_option linter.unusedSimpArgs false

end Go.Proofs.Ytgoldeagghadhaa.L

/-! ## E3 -/

namespace Go.Proofs.Ytgoldeagghadhaa.L
open Go.RowKit Go.Proofs.YtgoldeagghadhaaW.PrintWords Go.Proofs.Ytgoldeagghadhaa.P Go.Proofs.Ytgoldeagghadhaa.M
set_option linter.unusedVariables false
set_option linter.unusedSimpArgs false

end Go.Proofs.Ytgoldeagghadhaa.L

/-! ## E4 -/
namespace Go.Proofs.Ytgoldeagghadhaa.L
open Go.RowKit Go.Proofs.YtgoldeagghadhaaW.PrintWords Go.Proofs.Ytgoldeagghadhaa.P Go.Proofs.Ytgoldeagghadhaa.M
set_option linter.unusedVariables false
set_option linter.unusedSimpArgs false

theorem l1In_eq (a lo hi : Int) : spec_l1In.f a lo hi = some (decide (lo ≤ a ∧ a ≤ hi)) := by
  unfold spec_l1In.f
  by_cases h : a ≥ lo
  · rw [if_pos h]
    by_cases h2 : a ≤ hi
    · rw [decide_eq_true h2, decide_eq_true ⟨h, h2⟩]
    · rw [decide_eq_false h2, decide_eq_false (fun c => h2 c.2)]
  · rw [if_neg h, decide_eq_false (fun c => h c.1)]

end Go.Proofs.Ytgoldeagghadhaa.L

/-! ## M4 -/
namespace Go.Proofs.Ytgoldeagghadhaa.M
set_option linter.unusedVariables false
set_option linter.unusedSimpArgs false

/-- The first six primes. -/
def six : List Nat := [2, 3, 5, 7, 11, 13]
theorem six_isP : ∀ p ∈ six, isP p = true := by decide +kernel
theorem six_solve_all : (six.all fun p => (List.range p).all fun a => decide (a = 0) || (List.range p).all fun n => (List.range p).all fun r => (List.range p).any fun t => decide ((n + t * a) % p = r)) = true := by decide +kernel
theorem six_solve {p P n r : Nat} (hp : p ∈ six) (hP : P % p ≠ 0) (hr : r < p) : ∃ t, t < p ∧ (n + t * P) % p = r := by
  have h := List.all_eq_true.1 six_solve_all p hp
  have hp2 := isP_two (six_isP p hp)
  have h1 := List.all_eq_true.1 h (P % p) (List.mem_range.2 (Nat.mod_lt _ (by omega)))
  rw [decide_eq_false hP, Bool.false_or] at h1
  have h2 := List.all_eq_true.1 (List.all_eq_true.1 h1 (n % p) (List.mem_range.2 (Nat.mod_lt _ (by omega)))) r (List.mem_range.2 hr)
  obtain ⟨t, ht, h3⟩ := List.any_eq_true.1 h2
  refine ⟨t, List.mem_range.1 ht, ?_⟩
  have h4 := of_decide_eq_true h3
  rw [← h4]
  simp [Nat.add_mod, Nat.mul_mod]

/-- m has the remainders asked for. -/
def Sol (l : List (Nat × Nat)) (m : Nat) : Prop := ∀ q ∈ l, m % q.1 = q.2
structure Crt (l : List (Nat × Nat)) (n P : Nat) : Prop where
  lt : n < P
  dv : ∀ q ∈ l, q.1 ∣ P
  sol : Sol l n
  uniq : ∀ m, Sol l m → ∃ j, m = n + j * P
  co : ∀ p, isP p = true → (∀ q ∈ l, q.1 ≠ p) → P % p ≠ 0
theorem crt_nil : Crt [] 0 1 :=
  ⟨by omega, fun q hq => absurd hq (by simp), fun q hq => absurd hq (by simp), fun m _ => ⟨m, by omega⟩, fun p hp _ => by have := isP_two hp; rw [Nat.mod_eq_of_lt (by omega)]; omega⟩
theorem find_least (f : Nat → Bool) : ∀ (t : Nat), f t = true → ∃ s, s ≤ t ∧ f s = true ∧ ∀ j, j < s → f j = false
  | 0, h => ⟨0, Nat.le_refl _, h, fun j hj => absurd hj (Nat.not_lt_zero _)⟩
  | t + 1, h => by
    cases h0 : f 0 with
    | true => exact ⟨0, by omega, h0, fun j hj => absurd hj (Nat.not_lt_zero _)⟩
    | false =>
      obtain ⟨s, h1, h2, h3⟩ := find_least (fun k => f (k + 1)) t h
      refine ⟨s + 1, by omega, h2, fun j hj => ?_⟩
      cases j with
      | zero => exact h0
      | succ j => exact h3 j (by omega)
theorem crt_step {l : List (Nat × Nat)} {n P p r : Nat} (h : Crt l n P) (hp : p ∈ six) (hl : ∀ q ∈ l, q.1 ≠ p) (hr : r < p) :
    ∃ t, t < p ∧ (n + t * P) % p = r ∧ (∀ j, j < t → (n + j * P) % p ≠ r) ∧ Crt (l ++ [(p, r)]) (n + t * P) (P * p) := by
  have hpp := six_isP p hp
  have hp2 := isP_two hpp
  have hPp := h.co p hpp hl
  obtain ⟨t0, ht0, he0⟩ := six_solve (n := n) hp hPp hr
  obtain ⟨t, ht, he, hno⟩ := find_least (fun k => decide ((n + k * P) % p = r)) t0 (decide_eq_true he0)
  have he := of_decide_eq_true he
  have hlt := h.lt
  refine ⟨t, by omega, he, fun j hj => of_decide_eq_false (hno j hj), ⟨?_, ?_, ?_, ?_, ?_⟩⟩
  · have h1 : (t + 1) * P ≤ p * P := Nat.mul_le_mul_right _ (by omega)
    rw [Nat.add_mul, Nat.one_mul] at h1
    rw [Nat.mul_comm P p]
    omega
  · intro q hq
    rcases List.mem_append.1 hq with h1 | h1
    · exact Nat.dvd_trans (h.dv q h1) (Nat.dvd_mul_right _ _)
    · obtain rfl := List.mem_singleton.1 h1
      exact Nat.dvd_mul_left _ _
  · intro q hq
    rcases List.mem_append.1 hq with h1 | h1
    · have h2 := h.sol q h1
      obtain ⟨c, hc⟩ := h.dv q h1
      have e : n + t * P = n + q.1 * (t * c) := by rw [hc, Nat.mul_left_comm]
      rw [e, Nat.add_mul_mod_self_left]
      exact h2
    · obtain rfl := List.mem_singleton.1 h1
      exact he
  · intro m hm
    obtain ⟨j, hj⟩ := h.uniq m fun q hq => hm q (List.mem_append.2 (.inl hq))
    have hmp : m % p = r := hm (p, r) (List.mem_append.2 (.inr (List.mem_singleton.2 rfl)))
    have htj : t ≤ j := by
      rcases Nat.lt_or_ge j t with c | c
      · exact absurd (hj ▸ hmp) (of_decide_eq_false (hno j c))
      · exact c
    have hd : p ∣ (j - t) * P := by
      have h1 : (m - (n + t * P)) % p = 0 := Nat.sub_mod_eq_zero_of_mod_eq (hmp.trans he.symm)
      have e : m - (n + t * P) = (j - t) * P := by rw [Nat.sub_mul, hj]; omega
      rw [e] at h1
      exact Nat.dvd_of_mod_eq_zero h1
    rcases isP_euclid hpp hd with h1 | h1
    · obtain ⟨k, hk⟩ := h1
      refine ⟨k, ?_⟩
      have : j = t + p * k := by omega
      rw [hj, this, Nat.add_mul, Nat.add_assoc, Nat.mul_comm P p, ← Nat.mul_assoc, Nat.mul_comm k p]
    · exact absurd (Nat.mod_eq_zero_of_dvd h1) hPp
  · intro q hq hne c
    rcases isP_euclid hq (Nat.dvd_of_mod_eq_zero c) with h1 | h1
    · exact h.co q hq (fun r hr => hne r (List.mem_append.2 (.inl hr))) (Nat.mod_eq_zero_of_dvd h1)
    · rcases isP_dvd hpp h1 with h2 | h2
      · have := isP_two hq; omega
      · exact hne (p, r) (List.mem_append.2 (.inr (List.mem_singleton.2 rfl))) h2.symm
theorem Crt.least {l : List (Nat × Nat)} {n P : Nat} (h : Crt l n P) : ∀ m, Sol l m → n ≤ m := fun m hm => by
  obtain ⟨j, rfl⟩ := h.uniq m hm
  exact Nat.le_add_right _ _

/-- Of different members of a list there are no more than it has. -/
theorem nodup_len {α : Type} [DecidableEq α] : ∀ (l s : List α), l.Nodup → (∀ x ∈ l, x ∈ s) → l.length ≤ s.length
  | [], s, _, _ => Nat.zero_le _
  | x :: l, s, h, hs => by
    obtain ⟨h1, h2⟩ := List.nodup_cons.1 h
    have hx := hs x (List.mem_cons_self ..)
    have := nodup_len l (s.erase x) h2 fun y hy => (List.mem_erase_of_ne (fun (e : y = x) => h1 (e ▸ hy))).2 (hs y (List.mem_cons_of_mem _ hy))
    rw [List.length_erase_of_mem hx] at this
    have hp := List.length_pos_of_mem hx
    rw [List.length_cons]
    omega

end Go.Proofs.Ytgoldeagghadhaa.M

/-! ## E9 -/
namespace Go.Proofs.Ytgoldeagghadhaa.L
open Go.RowKit Go.Proofs.YtgoldeagghadhaaW.PrintWords Go.Proofs.Ytgoldeagghadhaa.P Go.Proofs.Ytgoldeagghadhaa.M
set_option linter.unusedVariables false
set_option linter.unusedSimpArgs false

/-- The first six primes. -/
def p6 : List Int := [2, 3, 5, 7, 11, 13]
def has : List Int → Int → Bool
  | [], _ => false
  | y :: s, x => if y = x then true else has s x
theorem has_iff : ∀ {s : List Int} {x : Int}, has s x = true ↔ x ∈ s
  | [], x => by simp [has]
  | y :: s, x => by
    unfold has
    by_cases e : y = x
    · simp [e]
    · rw [if_neg e, has_iff, List.mem_cons]
      exact ⟨.inr, fun h => h.resolve_left fun c => e c.symm⟩
theorem l1Has_l0 (l : List Int) (hl : l.length ≤ 1099511627776) (x : Int) : ∀ (s : List Int) (i : Nat), l.drop i = s → Evl (fun k => spec_l1Has.l0 k x l (l.length : Int) (i : Int)) (has s x) := by
  intro s
  induction s with
  | nil =>
    intro i h
    have hi := drop_nil h
    refine Evl.succ ?_
    simp only [spec_l1Has.l0, if_neg (show ¬ (i : Int) < (l.length : Int) by omega)]
    exact Evl.ret _
  | cons y s ih =>
    intro i h
    obtain ⟨hi, hx, hs⟩ := drop_cons h
    have hw : wrap64 ((i : Int) + 1) = ((i + 1 : Nat) : Int) := by rw [w64 (by omega) (by omega)]; rfl
    refine Evl.succ ?_
    simp only [spec_l1Has.l0, if_pos (show (i : Int) < (l.length : Int) by omega), if_pos (show (0 : Int) ≤ (i : Int) by omega), rd_of hx, hw]
    unfold has
    by_cases e : y = x
    · simp only [if_pos e]
      exact Evl.ret _
    · simp only [if_neg e]
      exact ih (i + 1) hs
theorem l1Has_ev (l : List Int) (hl : l.length ≤ 1099511627776) (x : Int) : Evl (fun k => spec_l1Has.f k l x) (has l x) := by
  simp only [spec_l1Has.f]
  exact l1Has_l0 l hl x l 0 rfl
theorem Index_l0 (l : List Int) (hl : l.length ≤ 1099511627776) (x : Int) : ∀ (s : List Int) (i : Nat), l.drop i = s → ∃ t : Int, decide (t ≥ 0) = has s x ∧ Evl (fun k => slices_Index_int_int.l0 k l x (l.length : Int) (i : Int)) t := by
  intro s
  induction s with
  | nil =>
    intro i h
    have hi := drop_nil h
    refine ⟨-1, rfl, Evl.succ ?_⟩
    simp only [slices_Index_int_int.l0, if_neg (show ¬ (i : Int) < (l.length : Int) by omega)]
    exact Evl.ret _
  | cons y s ih =>
    intro i h
    obtain ⟨hi, hx, hs⟩ := drop_cons h
    have hw : wrap64 ((i : Int) + 1) = ((i + 1 : Nat) : Int) := by rw [w64 (by omega) (by omega)]; rfl
    by_cases e : y = x
    · refine ⟨(i : Int), ?_, Evl.succ ?_⟩
      · unfold has
        rw [if_pos e, decide_eq_true (by omega)]
      · simp only [slices_Index_int_int.l0, if_pos (show (i : Int) < (l.length : Int) by omega), if_pos (show (0 : Int) ≤ (i : Int) by omega), rd_of hx, hw, if_pos e.symm]
        exact Evl.ret _
    · obtain ⟨t, ht, he⟩ := ih (i + 1) hs
      refine ⟨t, ?_, Evl.succ ?_⟩
      · unfold has
        rw [if_neg e, ht]
      · simp only [slices_Index_int_int.l0, if_pos (show (i : Int) < (l.length : Int) by omega), if_pos (show (0 : Int) ≤ (i : Int) by omega), rd_of hx, hw, if_neg (fun c : x = y => e c.symm)]
        exact he
theorem Contains_ev (l : List Int) (hl : l.length ≤ 1099511627776) (x : Int) : Evl (fun k => slices_Contains_int_int.f k l x) (has l x) := by
  simp only [slices_Contains_int_int.f, slices_Index_int_int.f]
  obtain ⟨t, ht, he⟩ := Index_l0 l hl x l 0 rfl
  refine Evl.bind he ?_
  rw [ht]
  exact Evl.ret _
theorem isOneOfSix_ev (x : Int) : Evl (fun k => impl_isOneOfSix.f k x) (has p6 x) := by
  simp only [impl_isOneOfSix.f, impl_firstSix.f, Option.bind_some]
  exact Evl.bind (Contains_ev p6 (by decide) x) (Evl.ret _)
theorem rePrime_eq {i : Nat} (h : i < 6) : spec_rePrime.f (i : Int) = some (rd p6 (i : Int)) := by
  unfold spec_rePrime.f
  rw [if_pos (by omega), if_pos (by omega)]
  rfl
theorem reIs_l0 (x : Int) : ∀ (s : List Int) (i : Nat), p6.drop i = s → i ≤ 6 → Evl (fun k => spec_reIs.l0 k x (i : Int)) (has s x) := by
  intro s
  induction s with
  | nil =>
    intro i h h6
    have hi := drop_nil h
    have : p6.length = 6 := rfl
    refine Evl.succ ?_
    simp only [spec_reIs.l0, if_neg (show ¬ (i : Int) < 6 by omega)]
    exact Evl.ret _
  | cons y s ih =>
    intro i h h6
    obtain ⟨hi, hx, hs⟩ := drop_cons h
    have : p6.length = 6 := rfl
    have hw : wrap64 ((i : Int) + 1) = ((i + 1 : Nat) : Int) := by rw [w64 (by omega) (by omega)]; rfl
    refine Evl.succ ?_
    simp only [spec_reIs.l0, if_pos (show (i : Int) < 6 by omega), rePrime_eq (show i < 6 by omega), Option.bind_some, rd_of hx, hw]
    unfold has
    by_cases e : y = x
    · simp only [if_pos e]
      exact Evl.ret _
    · simp only [if_neg e]
      exact ih (i + 1) hs (by omega)
theorem reIs_ev (x : Int) : Evl (fun k => spec_reIs.f k x) (has p6 x) := by
  simp only [spec_reIs.f]
  exact reIs_l0 x p6 0 rfl (by omega)
/-- Different ones of the first six primes, and none of some. -/
def dif : List Int → List Int → Bool
  | _, [] => true
  | pre, x :: s => if has p6 x = true then (if has pre x = true then false else dif (pre ++ [x]) s) else false
theorem dif_spec : ∀ (s pre : List Int), dif pre s = true → s.Nodup ∧ (∀ x ∈ s, x ∈ p6 ∧ x ∉ pre)
  | [], pre, _ => ⟨List.nodup_nil, fun x hx => absurd hx (by simp)⟩
  | x :: s, pre, h => by
    unfold dif at h
    by_cases h1 : has p6 x = true
    · rw [if_pos h1] at h
      by_cases h2 : has pre x = true
      · rw [if_pos h2] at h; cases h
      · rw [if_neg h2] at h
        obtain ⟨g1, g2⟩ := dif_spec s (pre ++ [x]) h
        refine ⟨List.nodup_cons.2 ⟨fun c => (g2 x c).2 (by simp), g1⟩, fun y hy => ?_⟩
        rcases List.mem_cons.1 hy with rfl | hy
        · exact ⟨has_iff.1 h1, fun c => h2 (has_iff.2 c)⟩
        · exact ⟨(g2 y hy).1, fun c => (g2 y hy).2 (List.mem_append.2 (.inl c))⟩
    · rw [if_neg h1] at h; cases h
theorem dif_len {l : List Int} (h : dif [] l = true) : l.length ≤ 6 := nodup_len l p6 (dif_spec l [] h).1 fun x hx => ((dif_spec l [] h).2 x hx).1
theorem p6_pos {x : Int} (h : x ∈ p6) : 2 ≤ x ∧ x ≤ 13 := by
  unfold p6 at h
  simp at h
  omega
theorem take_snoc {l : List Int} {i : Nat} {x : Int} (h : l[i]? = some x) : l.take (i + 1) = l.take i ++ [x] := by
  rw [List.take_add_one, h]
  rfl
theorem spec_rePrimes_l0 (l : List Int) (hl : l.length ≤ 1099511627776) : ∀ (s : List Int) (i : Nat), l.drop i = s → Evl (fun k => spec_rePrimes.l0 k l l (l.length : Int) (i : Int)) (dif (l.take i) s) := by
  intro s
  induction s with
  | nil =>
    intro i h
    have hi := drop_nil h
    refine Evl.succ ?_
    simp only [spec_rePrimes.l0, if_neg (show ¬ (i : Int) < (l.length : Int) by omega)]
    exact Evl.ret _
  | cons y s ih =>
    intro i h
    obtain ⟨hi, hx, hs⟩ := drop_cons h
    have hw : wrap64 ((i : Int) + 1) = ((i + 1 : Nat) : Int) := by rw [w64 (by omega) (by omega)]; rfl
    refine Evl.succ ?_
    simp only [spec_rePrimes.l0, if_pos (show (i : Int) < (l.length : Int) by omega), if_pos (show (0 : Int) ≤ (i : Int) by omega), if_pos (show (i : Int) ≤ (l.length : Int) by omega), rd_of hx, hw, Int.toNat_natCast]
    refine Evl.bind (reIs_ev y) ?_
    unfold dif
    by_cases e : has p6 y = true
    · simp only [e, if_true]
      refine Evl.bind (l1Has_ev (l.take i) (by rw [List.length_take]; omega) y) ?_
      by_cases c : has (l.take i) y = true
      · simp only [c, if_true]
        exact Evl.ret _
      · simp only [if_neg c]
        rw [← take_snoc hx]
        exact ih (i + 1) hs
    · simp only [if_neg e]
      exact Evl.ret _
theorem impl_areDifferent_l0 (l : List Int) (hl : l.length ≤ 1099511627776) : ∀ (s : List Int) (i : Nat), l.drop i = s → Evl (fun k => impl_areDifferent.l0 k l l (l.length : Int) (i : Int)) (dif (l.take i) s) := by
  intro s
  induction s with
  | nil =>
    intro i h
    have hi := drop_nil h
    refine Evl.succ ?_
    simp only [impl_areDifferent.l0, if_neg (show ¬ (i : Int) < (l.length : Int) by omega)]
    exact Evl.ret _
  | cons y s ih =>
    intro i h
    obtain ⟨hi, hx, hs⟩ := drop_cons h
    have hw : wrap64 ((i : Int) + 1) = ((i + 1 : Nat) : Int) := by rw [w64 (by omega) (by omega)]; rfl
    refine Evl.succ ?_
    simp only [impl_areDifferent.l0, if_pos (show (i : Int) < (l.length : Int) by omega), if_pos (show (0 : Int) ≤ (i : Int) by omega), if_pos (show (i : Int) ≤ (l.length : Int) by omega), rd_of hx, hw, Int.toNat_natCast]
    refine Evl.bind (isOneOfSix_ev y) ?_
    unfold dif
    by_cases e : has p6 y = true
    · simp only [e, if_true]
      refine Evl.bind (Contains_ev (l.take i) (by rw [List.length_take]; omega) y) ?_
      by_cases c : has (l.take i) y = true
      · simp only [c, if_true]
        exact Evl.ret _
      · simp only [if_neg c]
        rw [← take_snoc hx]
        exact ih (i + 1) hs
    · simp only [if_neg e]
      exact Evl.ret _
theorem rePrimes_ev (l : List Int) (hl : l.length ≤ 1099511627776) : Evl (fun k => spec_rePrimes.f k l) (dif [] l) := by
  simp only [spec_rePrimes.f]
  by_cases c : (l.length : Int) > 6
  · simp only [if_pos c]
    refine (Evl.ret _).cast ?_
    cases h : dif [] l with
    | false => rfl
    | true => have := dif_len h; omega
  · simp only [if_neg c]
    exact spec_rePrimes_l0 l hl l 0 rfl
theorem areDifferent_ev (l : List Int) (hl : l.length ≤ 1099511627776) : Evl (fun k => impl_areDifferent.f k l) (dif [] l) := by
  simp only [impl_areDifferent.f]
  exact impl_areDifferent_l0 l hl l 0 rfl
theorem restsBy_l0 (n : Int) (l : List Int) (hl : l.length ≤ 1000) (hp : ∀ x ∈ l, x ≠ 0) : ∀ (s : List Int) (i : Nat) (acc : List Int), l.drop i = s → acc.length + s.length ≤ 100000 → Evl (fun k => impl_restsBy.l0 k n acc l (l.length : Int) (i : Int)) (acc ++ s.map fun p => Int.tmod n p) := by
  intro s
  induction s with
  | nil =>
    intro i acc h _
    have hi := drop_nil h
    refine Evl.succ ?_
    simp only [impl_restsBy.l0, if_neg (show ¬ (i : Int) < (l.length : Int) by omega)]
    refine (Evl.ret _).cast ?_
    simp
  | cons y s ih =>
    intro i acc h ha
    obtain ⟨hi, hx, hs⟩ := drop_cons h
    rw [List.length_cons] at ha
    have hw : wrap64 ((i : Int) + 1) = ((i + 1 : Nat) : Int) := by rw [w64 (by omega) (by omega)]; rfl
    refine Evl.succ ?_
    simp only [impl_restsBy.l0, if_pos (show (i : Int) < (l.length : Int) by omega), if_pos (show (0 : Int) ≤ (i : Int) by omega), rd_of hx, if_neg (hp y (List.mem_of_getElem? hx)), if_pos (show acc.length < 17592186044416 by omega), hw]
    refine (ih (i + 1) _ hs (by rw [List.length_append, List.length_singleton]; omega)).cast ?_
    simp
theorem restsBy_ev (n : Int) (l : List Int) (hl : l.length ≤ 1000) (hp : ∀ x ∈ l, x ≠ 0) : Evl (fun k => impl_restsBy.f k l n) (l.map fun p => Int.tmod n p) := by
  simp only [impl_restsBy.f]
  exact restsBy_l0 n l hl hp l 0 [] rfl (by simp; omega)

end Go.Proofs.Ytgoldeagghadhaa.L

/-! ## X9 -/
namespace Go.Proofs.Ytgoldeagghadhaa.L
open Go.RowKit Go.Proofs.YtgoldeagghadhaaW.PrintWords Go.Proofs.Ytgoldeagghadhaa.P Go.Proofs.Ytgoldeagghadhaa.M
set_option linter.unusedVariables false
set_option linter.unusedSimpArgs false

theorem Equal_l0 (a b : List Int) (hab : a.length = b.length) (hl : a.length ≤ 1099511627776) : ∀ (s t : List Int) (i : Nat), a.drop i = s → b.drop i = t → Evl (fun k => slices_Equal_int_int.l0 k a b (a.length : Int) (i : Int)) (decide (s = t)) := by
  intro s
  induction s with
  | nil =>
    intro t i h h2
    have hi := drop_nil h
    have ht : t = [] := by rw [← h2]; exact List.drop_of_length_le (by omega)
    refine Evl.succ ?_
    simp only [slices_Equal_int_int.l0, if_neg (show ¬ (i : Int) < (a.length : Int) by omega)]
    refine (Evl.ret _).cast ?_
    rw [ht]
    rfl
  | cons y s ih =>
    intro t i h h2
    obtain ⟨hi, hx, hs⟩ := drop_cons h
    obtain ⟨z, t', rfl⟩ : ∃ z t', t = z :: t' := by
      cases t with
      | nil => have := drop_nil h2; omega
      | cons z t' => exact ⟨z, t', rfl⟩
    obtain ⟨hi2, hx2, hs2⟩ := drop_cons h2
    have hw : wrap64 ((i : Int) + 1) = ((i + 1 : Nat) : Int) := by rw [w64 (by omega) (by omega)]; rfl
    refine Evl.succ ?_
    simp only [slices_Equal_int_int.l0, if_pos (show (i : Int) < (a.length : Int) by omega), if_pos (show (i : Int) < (b.length : Int) by omega), if_pos (show (0 : Int) ≤ (i : Int) by omega), rd_of hx, rd_of hx2, hw]
    by_cases e : y = z
    · simp only [if_pos e]
      refine (ih t' (i + 1) hs hs2).cast ?_
      simp [e]
    · simp only [if_neg e]
      refine (Evl.ret _).cast ?_
      simp [e]
theorem Equal_ev (a b : List Int) (hl : a.length ≤ 1099511627776) : Evl (fun k => slices_Equal_int_int.f k a b) (decide (a = b)) := by
  simp only [slices_Equal_int_int.f]
  by_cases c : a.length = b.length
  · simp only [if_pos (show (a.length : Int) = (b.length : Int) by omega)]
    exact Equal_l0 a b c hl a b 0 rfl rfl
  · simp only [if_neg (show ¬ (a.length : Int) = (b.length : Int) by omega)]
    refine (Evl.ret _).cast ?_
    rw [decide_eq_false fun e => c (by rw [e])]

/-- Each remainder in its range. -/
def rOk : List Int → List Int → Bool
  | p :: ps, r :: rs => if 0 ≤ r ∧ r < p then rOk ps rs else false
  | _, _ => true
theorem spec_NWR_l0 (ps rs : List Int) (hlen : rs.length = ps.length) (hl : ps.length ≤ 6) (hp : ∀ x ∈ ps, 2 ≤ x ∧ x ≤ 13) {R : Int × Bool} :
    ∀ (s t : List Int) (i : Nat), ps.drop i = s → rs.drop i = t → (rOk s t = true → Evl (fun k => spec_NumberWithRests.l1 k rs 0 1 ps (ps.length : Int) 0) R) → Evl (fun k => spec_NumberWithRests.l0 k ps rs rs (rs.length : Int) (i : Int)) (if rOk s t = true then R else (0, false)) := by
  intro s
  induction s with
  | nil =>
    intro t i h h2 hR
    have hi := drop_nil h
    refine Evl.succ ?_
    simp only [spec_NumberWithRests.l0, if_neg (show ¬ (i : Int) < (rs.length : Int) by omega)]
    have ht : rOk [] t = true := by cases t <;> rfl
    rw [if_pos ht]
    exact hR ht
  | cons p s ih =>
    intro t i h h2 hR
    obtain ⟨hi, hx, hs⟩ := drop_cons h
    obtain ⟨r, t', rfl⟩ : ∃ z t', t = z :: t' := by
      cases t with
      | nil => have := drop_nil h2; omega
      | cons z t' => exact ⟨z, t', rfl⟩
    obtain ⟨hi2, hx2, hs2⟩ := drop_cons h2
    have hw : wrap64 ((i : Int) + 1) = ((i + 1 : Nat) : Int) := by rw [w64 (by omega) (by omega)]; rfl
    have hpp := hp p (List.mem_of_getElem? hx)
    have hw2 : wrap64 (p - 1) = p - 1 := w64 (by omega) (by omega)
    refine Evl.succ ?_
    simp only [spec_NumberWithRests.l0, if_pos (show (i : Int) < (rs.length : Int) by omega), if_pos (show (i : Int) < (ps.length : Int) by omega), if_pos (show (0 : Int) ≤ (i : Int) by omega), rd_of hx, rd_of hx2, hw, hw2, l1In_eq, Option.bind_some]
    unfold rOk at hR ⊢
    by_cases c : 0 ≤ r ∧ r < p
    · rw [if_pos c] at hR
      rw [decide_eq_true (show 0 ≤ r ∧ r ≤ p - 1 by omega), if_pos c]
      simp only [if_true]
      exact ih t' (i + 1) hs hs2 hR
    · rw [decide_eq_false (show ¬ (0 ≤ r ∧ r ≤ p - 1) by omega), if_neg c]
      simp only [Bool.false_eq_true, if_false]
      exact Evl.ret _
theorem impl_NWR_l0 (ps rs : List Int) (hlen : rs.length = ps.length) (hl : ps.length ≤ 6) {R : Int × Bool} :
    ∀ (s t : List Int) (i : Nat), ps.drop i = s → rs.drop i = t → (rOk s t = true → Evl (fun k => impl_NumberWithRests.l1 k ps rs 0) R) → Evl (fun k => impl_NumberWithRests.l0 k ps rs ps (ps.length : Int) (i : Int)) (if rOk s t = true then R else (0, false)) := by
  intro s
  induction s with
  | nil =>
    intro t i h h2 hR
    have hi := drop_nil h
    refine Evl.succ ?_
    simp only [impl_NumberWithRests.l0, if_neg (show ¬ (i : Int) < (ps.length : Int) by omega)]
    have ht : rOk [] t = true := by cases t <;> rfl
    rw [if_pos ht]
    exact hR ht
  | cons p s ih =>
    intro t i h h2 hR
    obtain ⟨hi, hx, hs⟩ := drop_cons h
    obtain ⟨r, t', rfl⟩ : ∃ z t', t = z :: t' := by
      cases t with
      | nil => have := drop_nil h2; omega
      | cons z t' => exact ⟨z, t', rfl⟩
    obtain ⟨hi2, hx2, hs2⟩ := drop_cons h2
    have hw : wrap64 ((i : Int) + 1) = ((i + 1 : Nat) : Int) := by rw [w64 (by omega) (by omega)]; rfl
    refine Evl.succ ?_
    simp only [impl_NumberWithRests.l0, if_pos (show (i : Int) < (rs.length : Int) by omega), if_pos (show (i : Int) < (ps.length : Int) by omega), if_pos (show (0 : Int) ≤ (i : Int) by omega), rd_of hx, rd_of hx2, hw]
    unfold rOk at hR ⊢
    by_cases c : 0 ≤ r ∧ r < p
    · rw [if_pos c] at hR
      rw [if_pos c]
      simp only [if_neg (show ¬ r < 0 by omega), if_neg (show ¬ r ≥ p by omega)]
      exact ih t' (i + 1) hs hs2 hR
    · rw [if_neg c]
      by_cases c1 : r < 0
      · simp only [if_pos c1, Bool.false_eq_true, if_false]
        exact Evl.ret _
      · simp only [if_neg c1, if_pos (show r ≥ p by omega), Bool.false_eq_true, if_false]
        exact Evl.ret _
theorem pairs_of : ∀ (ps rs : List Int), ps.length = rs.length → (∀ x ∈ ps, x ∈ p6) → rOk ps rs = true → ∃ qs : List (Nat × Nat), ps = qs.map (fun q => (q.1 : Int)) ∧ rs = qs.map (fun q => (q.2 : Int)) ∧ ∀ q ∈ qs, q.1 ∈ six ∧ q.2 < q.1
  | [], [], _, _, _ => ⟨[], rfl, rfl, fun q hq => absurd hq (by simp)⟩
  | [], r :: rs, h, _, _ => by simp at h
  | p :: ps, [], h, _, _ => by simp at h
  | p :: ps, r :: rs, h, h6, hr => by
    unfold rOk at hr
    by_cases c : 0 ≤ r ∧ r < p
    · rw [if_pos c] at hr
      obtain ⟨qs, e1, e2, e3⟩ := pairs_of ps rs (by simpa using h) (fun x hx => h6 x (List.mem_cons_of_mem _ hx)) hr
      refine ⟨(p.toNat, r.toNat) :: qs, ?_, ?_, fun q hq => ?_⟩
      · rw [List.map_cons, ← e1]
        congr 1
        show p = (p.toNat : Int)
        omega
      · rw [List.map_cons, ← e2]
        congr 1
        show r = (r.toNat : Int)
        omega
      · rcases List.mem_cons.1 hq with rfl | hq
        · refine ⟨?_, by simp only; omega⟩
          have := h6 p (List.mem_cons_self ..)
          unfold p6 at this
          simp only [List.mem_cons, List.not_mem_nil, or_false] at this
          rcases this with rfl | rfl | rfl | rfl | rfl | rfl <;> simp [six]
        · exact e3 q hq
    · rw [if_neg c] at hr; cases hr
theorem six_le {p : Nat} (h : p ∈ six) : 2 ≤ p ∧ p ≤ 13 := by
  unfold six at h
  simp at h
  omega
theorem NWR_l2 (qs : List (Nat × Nat)) (rs ps : List Int) (i : Nat) (p r P : Nat) (hp : p ∈ six) (hi : rs[i]? = some (r : Int)) (hP : 1 ≤ P) (hPb : P * p ≤ 1000000000) {R : Int × Bool} :
    ∀ (d m : Nat), (∀ j, j < d → (m + j * P) % p ≠ r) → (m + d * P) % p = r → m + d * P ≤ 1000000000 →
      Evl (fun k => spec_NumberWithRests.l1 k rs ((m + d * P : Nat) : Int) ((P * p : Nat) : Int) ps (ps.length : Int) ((i + 1 : Nat) : Int)) R → i < 1000 →
      Evl (fun k => spec_NumberWithRests.l2 k rs (m : Int) (P : Int) (i : Int) (p : Int) ps (ps.length : Int) (i : Int)) R := by
  intro d
  have hp2 := six_le hp
  have hil : i < rs.length := (List.getElem?_eq_some_iff.1 hi).1
  induction d with
  | zero =>
    intro m _ h hb hR hi1
    rw [Nat.zero_mul, Nat.add_zero] at h hR
    have hw : wrap64 ((i : Int) + 1) = ((i + 1 : Nat) : Int) := by rw [w64 (by omega) (by omega)]; rfl
    have hw2 : wrap64 ((P : Int) * (p : Int)) = ((P * p : Nat) : Int) := by rw [← Int.natCast_mul]; exact w64 (by omega) (by omega)
    have ht : Int.tmod (m : Int) (p : Int) = ((m % p : Nat) : Int) := rfl
    refine Evl.succ ?_
    simp only [spec_NumberWithRests.l2, if_neg (show ¬ (p : Int) = 0 by omega), if_pos (show (0 : Int) ≤ (i : Int) by omega), if_pos (show (i : Int) < (rs.length : Int) by omega), rd_of hi, ht, h, if_true, hw, hw2]
    exact hR
  | succ d ih =>
    intro m hno h hb hR hi1
    have h0 := hno 0 (by omega)
    rw [Nat.zero_mul, Nat.add_zero] at h0
    have e : ∀ j, m + P + j * P = m + (j + 1) * P := fun j => by rw [Nat.add_mul, Nat.one_mul]; omega
    have hmb : m + P ≤ m + (d + 1) * P := by rw [Nat.add_mul, Nat.one_mul]; omega
    have hw : wrap64 ((m : Int) + (P : Int)) = ((m + P : Nat) : Int) := by rw [← Int.natCast_add]; exact w64 (by omega) (by omega)
    have ht : Int.tmod (m : Int) (p : Int) = ((m % p : Nat) : Int) := rfl
    refine Evl.succ ?_
    simp only [spec_NumberWithRests.l2, if_neg (show ¬ (p : Int) = 0 by omega), if_pos (show (0 : Int) ≤ (i : Int) by omega), if_pos (show (i : Int) < (rs.length : Int) by omega), rd_of hi, ht, if_neg (show ¬ ((m % p : Nat) : Int) = (r : Int) from fun c => h0 (Int.ofNat_inj.1 c)), hw]
    refine ih (m + P) (fun j hj => ?_) ?_ ?_ ?_ hi1
    · rw [e]; exact hno (j + 1) (by omega)
    · rw [e]; exact h
    · rw [e]; exact hb
    · rw [e]; exact hR
theorem NWR_l1 (qs : List (Nat × Nat)) (hq : ∀ q ∈ qs, q.1 ∈ six ∧ q.2 < q.1) (hd : qs.Pairwise fun a b => a.1 ≠ b.1) (hl : qs.length ≤ 6) :
    ∀ (s pre : List (Nat × Nat)) (n P : Nat), qs = pre ++ s → Crt pre n P → 1 ≤ P → P ≤ 13 ^ pre.length →
      ∃ N Q, Crt qs N Q ∧ Q ≤ 13 ^ 6 ∧ Evl (fun k => spec_NumberWithRests.l1 k (qs.map fun q => (q.2 : Int)) (n : Int) (P : Int) (qs.map fun q => (q.1 : Int)) ((qs.map fun q => (q.1 : Int)).length : Int) ((pre.length : Nat) : Int)) ((N : Int), true) := by
  intro s
  induction s with
  | nil =>
    intro pre n P e hc h1 hP
    rw [List.append_nil] at e
    subst e
    refine ⟨n, P, hc, Nat.le_trans hP (Nat.pow_le_pow_right (by omega) hl), Evl.succ ?_⟩
    simp only [spec_NumberWithRests.l1, if_neg (show ¬ ((qs.length : Nat) : Int) < ((qs.map fun q => (q.1 : Int)).length : Int) by rw [List.length_map]; omega)]
    exact Evl.ret _
  | cons a s ih =>
    intro pre n P e hc h1 hP
    obtain ⟨p, r⟩ := a
    have hmem : (p, r) ∈ qs := by rw [e]; simp
    obtain ⟨h6, hr⟩ := hq _ hmem
    have hp2 := six_le h6
    have hlen : qs.length = pre.length + (s.length + 1) := by rw [e, List.length_append, List.length_cons]
    have hne : ∀ q ∈ pre, q.1 ≠ p := fun q hqm => by
      rw [e] at hd
      exact (List.pairwise_append.1 hd).2.2 q hqm (p, r) (List.mem_cons_self ..)
    obtain ⟨t, ht, he, hno, hcrt⟩ := crt_step hc h6 hne hr
    have hPp : P * p ≤ 13 ^ (pre.length + 1) := by rw [Nat.pow_succ]; exact Nat.mul_le_mul hP hp2.2
    have h13 : 13 ^ (pre.length + 1) ≤ 13 ^ 6 := Nat.pow_le_pow_right (by omega) (by omega)
    have hPp1 : 1 ≤ P * p := Nat.mul_le_mul h1 (show 1 ≤ p by omega)
    obtain ⟨N, Q, g1, g2, g3⟩ := ih (pre ++ [(p, r)]) (n + t * P) (P * p) (by rw [e, List.append_assoc]; rfl) hcrt hPp1 (by rw [List.length_append]; exact hPp)
    refine ⟨N, Q, g1, g2, Evl.succ ?_⟩
    have hget : (qs.map fun q => (q.1 : Int))[pre.length]? = some (p : Int) := by rw [List.getElem?_map, e, List.getElem?_append_right (Nat.le_refl _), Nat.sub_self]; rfl
    have hget2 : (qs.map fun q => (q.2 : Int))[pre.length]? = some (r : Int) := by rw [List.getElem?_map, e, List.getElem?_append_right (Nat.le_refl _), Nat.sub_self]; rfl
    simp only [spec_NumberWithRests.l1, if_pos (show ((pre.length : Nat) : Int) < ((qs.map fun q => (q.1 : Int)).length : Int) by rw [List.length_map]; omega), if_pos (show (0 : Int) ≤ ((pre.length : Nat) : Int) by omega), rd_of hget]
    have hlt := hcrt.lt
    refine NWR_l2 qs _ _ pre.length p r P h6 hget2 h1 ?_ t n hno he ?_ ?_ (by omega)
    · exact Nat.le_trans hPp (Nat.le_trans h13 (by decide))
    · exact Nat.le_trans (Nat.le_of_lt hlt) (Nat.le_trans hPp (Nat.le_trans h13 (by decide)))
    · rw [List.length_append] at g3
      exact g3
theorem impl_NWR_l1 (qs : List (Nat × Nat)) (hq : ∀ q ∈ qs, q.1 ∈ six ∧ q.2 < q.1) (hl : qs.length ≤ 6) :
    ∀ (d m : Nat), (∀ j, j < d → ¬ Sol qs (m + j)) → Sol qs (m + d) → m + d ≤ 1000000000 → Evl (fun k => impl_NumberWithRests.l1 k (qs.map fun q => (q.1 : Int)) (qs.map fun q => (q.2 : Int)) (m : Int)) (((m + d : Nat) : Int), true) := by
  have key : ∀ m : Nat, ((qs.map fun q => (q.1 : Int)).map fun p => Int.tmod (m : Int) p) = (qs.map fun q => (q.2 : Int)) ↔ Sol qs m := fun m => by
    rw [List.map_map, List.map_inj_left]
    constructor
    · intro h q hqm
      have := h q hqm
      have ht : Int.tmod (m : Int) (q.1 : Int) = ((m % q.1 : Nat) : Int) := rfl
      simp only [Function.comp, ht] at this
      exact Int.ofNat_inj.1 this
    · intro h q hqm
      have ht : Int.tmod (m : Int) (q.1 : Int) = ((m % q.1 : Nat) : Int) := rfl
      simp only [Function.comp, ht, h q hqm]
  have hR : ∀ m : Nat, Evl (fun k => impl_restsBy.f k (qs.map fun q => (q.1 : Int)) (m : Int)) ((qs.map fun q => (q.1 : Int)).map fun p => Int.tmod (m : Int) p) := fun m => restsBy_ev (m : Int) _ (by rw [List.length_map]; omega) fun x hx => by
    obtain ⟨q, hqm, rfl⟩ := List.mem_map.1 hx
    have := six_le (hq q hqm).1
    omega
  intro d
  induction d with
  | zero =>
    intro m _ h hb
    rw [Nat.add_zero] at h
    refine Evl.succ ?_
    simp only [impl_NumberWithRests.l1]
    refine Evl.bind (hR m) ?_
    refine Evl.bind (Equal_ev _ _ (by rw [List.length_map, List.length_map]; omega)) ?_
    simp only [decide_eq_true ((key m).2 h), if_true]
    exact Evl.ret _
  | succ d ih =>
    intro m hno h hb
    have h0 := hno 0 (by omega)
    rw [Nat.add_zero] at h0
    have hw : wrap64 ((m : Int) + 1) = ((m + 1 : Nat) : Int) := by rw [w64 (by omega) (by omega)]; rfl
    refine Evl.succ ?_
    simp only [impl_NumberWithRests.l1, hw]
    refine Evl.bind (hR m) ?_
    refine Evl.bind (Equal_ev _ _ (by rw [List.length_map, List.length_map]; omega)) ?_
    simp only [decide_eq_false (fun c => h0 ((key m).1 c)), Bool.false_eq_true, if_false]
    refine (ih (m + 1) (fun j hj => ?_) ?_ (by omega)).cast ?_
    · rw [show m + 1 + j = m + (j + 1) by omega]; exact hno (j + 1) (by omega)
    · rw [show m + 1 + d = m + (d + 1) by omega]; exact h
    · rw [show m + 1 + d = m + (d + 1) by omega]
theorem FnExactNumberWithRests_main (l0 l1 : List Int) (hm0 : l0.length ≤ maxLen) (hb0 : l0.length * 8 ≤ 140737488351232) (hw0 : ∀ x ∈ l0, (Lit.int .i64 x).wf = true) (hm1 : l1.length ≤ maxLen) (hb1 : l1.length * 8 ≤ 140737488351232) (hw1 : ∀ x ∈ l1, (Lit.int .i64 x).wf = true) (hl : l0.length ≤ 1099511627776) (hl1 : l1.length ≤ 1099511627776) :
    ∃ r b, Evl (fun k => spec_NumberWithRests.f k l0 l1) (r, b) ∧ Evl (fun k => impl_NumberWithRests.f k l0 l1) (r, b) := by
  have no : ∀ b : Bool, b = true → (Evl (fun k => spec_NumberWithRests.j0 k l0 l1 b) (0, false) ∧ Evl (fun k => impl_NumberWithRests.j0 k l0 l1 b) (0, false)) := fun b hb => by
    subst hb
    constructor
    · refine Evl.succ ?_
      simp only [spec_NumberWithRests.j0, if_true]
      exact Evl.ret _
    · refine Evl.succ ?_
      simp only [impl_NumberWithRests.j0, if_true]
      exact Evl.ret _
  cases hd : dif [] l0 with
  | false =>
    refine ⟨0, false, ?_, ?_⟩
    · simp only [spec_NumberWithRests.f]
      refine Evl.bind (rePrimes_ev l0 hl) ?_
      simp only [hd, Bool.false_eq_true, if_false]
      exact (no true rfl).1
    · simp only [impl_NumberWithRests.f]
      refine Evl.bind (areDifferent_ev l0 hl) ?_
      simp only [hd, Bool.false_eq_true, if_false]
      exact (no true rfl).2
  | true =>
    have h6 := dif_len hd
    obtain ⟨hnd, hall⟩ := dif_spec l0 [] hd
    by_cases hlen : l1.length = l0.length
    · have hbne : ((l1.length : Int) != (l0.length : Int)) = false := by rw [hlen]; exact bne_self_eq_false _
      cases hro : rOk l0 l1 with
      | false =>
        refine ⟨0, false, ?_, ?_⟩
        · simp only [spec_NumberWithRests.f]
          refine Evl.bind (rePrimes_ev l0 hl) ?_
          simp only [hd, if_true, hbne]
          refine Evl.succ ?_
          simp only [spec_NumberWithRests.j0, Bool.false_eq_true, if_false]
          have := spec_NWR_l0 l0 l1 hlen h6 (fun x hx => p6_pos (hall x hx).1) (R := (0, false)) l0 l1 0 rfl rfl (fun h => by rw [hro] at h; cases h)
          rw [if_neg (by rw [hro]; simp)] at this
          exact this
        · simp only [impl_NumberWithRests.f]
          refine Evl.bind (areDifferent_ev l0 hl) ?_
          simp only [hd, if_true, hbne]
          refine Evl.succ ?_
          simp only [impl_NumberWithRests.j0, Bool.false_eq_true, if_false]
          have := impl_NWR_l0 l0 l1 hlen h6 (R := (0, false)) l0 l1 0 rfl rfl (fun h => by rw [hro] at h; cases h)
          rw [if_neg (by rw [hro]; simp)] at this
          exact this
      | true =>
        obtain ⟨qs, e1, e2, hq⟩ := pairs_of l0 l1 hlen.symm (fun x hx => (hall x hx).1) hro
        have hql : qs.length ≤ 6 := by rw [e1, List.length_map] at h6; exact h6
        have hpw : qs.Pairwise fun a b => a.1 ≠ b.1 := by
          rw [e1] at hnd
          refine (List.pairwise_map.1 hnd).imp fun h c => h (by rw [c])
        obtain ⟨N, Q, hc, hQ, hev⟩ := NWR_l1 qs hq hpw hql qs [] 0 1 rfl crt_nil (by omega) (by simp)
        have hN : N ≤ 1000000000 := Nat.le_trans (Nat.le_of_lt hc.lt) (Nat.le_trans hQ (by decide))
        have hiv := impl_NWR_l1 qs hq hql N 0 (fun j hj c => by have := hc.least _ c; omega) (by rw [Nat.zero_add]; exact hc.sol) (by omega)
        rw [Nat.zero_add] at hiv
        refine ⟨(N : Int), true, ?_, ?_⟩
        · simp only [spec_NumberWithRests.f]
          refine Evl.bind (rePrimes_ev l0 hl) ?_
          simp only [hd, if_true, hbne]
          refine Evl.succ ?_
          simp only [spec_NumberWithRests.j0, Bool.false_eq_true, if_false]
          have := spec_NWR_l0 l0 l1 hlen h6 (fun x hx => p6_pos (hall x hx).1) (R := ((N : Int), true)) l0 l1 0 rfl rfl (fun _ => by rw [e1, e2]; exact hev)
          rw [if_pos hro] at this
          exact this
        · simp only [impl_NumberWithRests.f]
          refine Evl.bind (areDifferent_ev l0 hl) ?_
          simp only [hd, if_true, hbne]
          refine Evl.succ ?_
          simp only [impl_NumberWithRests.j0, Bool.false_eq_true, if_false]
          have := impl_NWR_l0 l0 l1 hlen h6 (R := ((N : Int), true)) l0 l1 0 rfl rfl (fun _ => by rw [e1, e2]; exact hiv)
          rw [if_pos hro] at this
          exact this
    · have hbne : ((l1.length : Int) != (l0.length : Int)) = true := bne_iff_ne.2 (by omega)
      refine ⟨0, false, ?_, ?_⟩
      · simp only [spec_NumberWithRests.f]
        refine Evl.bind (rePrimes_ev l0 hl) ?_
        simp only [hd, if_true]
        exact (no _ hbne).1
      · simp only [impl_NumberWithRests.f]
        refine Evl.bind (areDifferent_ev l0 hl) ?_
        simp only [hd, if_true]
        exact (no _ hbne).2

end Go.Proofs.Ytgoldeagghadhaa.L
