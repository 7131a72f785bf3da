/- PrimePlaces of the program tells what the reference's tells, for all arguments: what both functions compute. No condition beyond 64 bits and the lengths that the statement's guards give. -/
import Derived.Test.YtgoldeagghadhaaPx0
import Derived.Test.YtgoldeagghadhaaPx11
import Derived.Test.YtgoldeagghadhaaPx14
import Derived.Test.YtgoldeagghadhaaPx15
import Derived.Test.YtgoldeagghadhaaPx1
import Derived.Test.YtgoldeagghadhaaPx2
import Derived.Test.YtgoldeagghadhaaPx3
import Derived.Test.YtgoldeagghadhaaPx21
import Derived.Test.YtgoldeagghadhaaPx37
import Derived.Test.YtgoldeagghadhaaPx40
import Derived.Test.YtgoldeagghadhaaPx38
import Derived.Test.YtgoldeagghadhaaPx39
import Derived.Test.YtgoldeagghadhaaPx41
/-! ## L0 -/
namespace Go.Proofs.Ytgoldeagghadhaa.L
open Go.RowKit Go.Proofs.YtgoldeagghadhaaW.PrintWords
set_option linter.unusedVariables false
set_option linter.unusedSimpArgs false

/-- With enough rounds g tells r. -/
def Evl {α : Type} (g : Nat → Option α) (r : α) : Prop := ∃ K, ∀ k, K ≤ k → g k = some r
theorem Evl.ret {α : Type} (r : α) : Evl (fun _ => some r) r := ⟨0, fun _ _ => rfl⟩
theorem Evl.bind {α β : Type} {g : Nat → Option α} {f : Nat → α → Option β} {a : α} {r : β} (h : Evl g a) (h2 : Evl (fun k => f k a) r) : Evl (fun k => (g k).bind (f k)) r := by
  obtain ⟨K, hK⟩ := h
  obtain ⟨K2, hK2⟩ := h2
  refine ⟨max K K2, fun k hk => ?_⟩
  show (g k).bind (f k) = some r
  rw [hK k (Nat.le_trans (Nat.le_max_left _ _) hk), Option.bind_some]
  exact hK2 k (Nat.le_trans (Nat.le_max_right _ _) hk)
theorem Evl.succ {α : Type} {g : Nat → Option α} {r : α} (h : Evl (fun k => g (k + 1)) r) : Evl g r := by
  obtain ⟨K, hK⟩ := h
  refine ⟨K + 1, fun k hk => ?_⟩
  obtain ⟨m, rfl⟩ : ∃ m, k = m + 1 := ⟨k - 1, by omega⟩
  exact hK m (by omega)
theorem Evl.get {α : Type} {g : Nat → Option α} {r : α} (h : Evl g r) : ∃ k, g k = some r := by
  obtain ⟨K, hK⟩ := h
  exact ⟨K, hK K (Nat.le_refl _)⟩
theorem Evl.cast {α : Type} {g : Nat → Option α} {r r' : α} (h : Evl g r) (e : r = r') : Evl g r' := e ▸ h

theorem w64 {x : Int} (h0 : -9223372036854775808 ≤ x) (h1 : x ≤ 9223372036854775807) : wrap64 x = x := by
  unfold wrap64
  omega
theorem drop_nil {α : Type} {xs : List α} {i : Nat} (h : xs.drop i = []) : xs.length ≤ i := by
  simpa using h
theorem drop_cons {α : Type} {xs s : List α} {x : α} {i : Nat} (h : xs.drop i = x :: s) : i < xs.length ∧ xs[i]? = some x ∧ xs.drop (i + 1) = s := by
  have hl : i < xs.length := by
    rcases Nat.lt_or_ge i xs.length with h1 | h1
    · exact h1
    · rw [List.drop_of_length_le h1] at h
      cases h
  rw [List.drop_eq_getElem_cons hl] at h
  injection h with h1 h2
  exact ⟨hl, by rw [List.getElem?_eq_getElem hl, h1], h2⟩
theorem rd_of {xs : List Int} {i : Nat} {x : Int} (h : xs[i]? = some x) : rd xs (i : Int) = x := by
  unfold rd
  rw [Int.toNat_natCast, List.getD_eq_getElem?_getD, h]
  rfl
end Go.Proofs.Ytgoldeagghadhaa.L

/-! ## E0 -/
namespace Go.Proofs.Ytgoldeagghadhaa.L
open Go.RowKit Go.Proofs.YtgoldeagghadhaaW.PrintWords Go.Proofs.Ytgoldeagghadhaa.P
set_option linter.unusedVariables false
set_option linter.unusedSimpArgs false

/-- n numbers from v on. -/
def iot : Int → Nat → List Int
  | _, 0 => []
  | v, n + 1 => v :: iot (v + 1) n
theorem iot_length : ∀ (n : Nat) (v : Int), (iot v n).length = n
  | 0, _ => rfl
  | n + 1, v => by rw [iot, List.length_cons, iot_length n]

theorem eqIntS_l0 (a : List Int) (hl : a.length ≤ 1099511627776) : ∀ (s : List Int) (i : Nat), a.drop i = s → Evl (fun k => laws_eqIntS.l0 k a a (i : Int)) true := by
  intro s
  induction s with
  | nil =>
    intro i h
    have hi := drop_nil h
    refine Evl.succ ?_
    have h1 : ¬ (i : Int) < (a.length : Int) := by omega
    simp only [laws_eqIntS.l0, if_neg h1]
    exact Evl.ret _
  | cons x s ih =>
    intro i h
    obtain ⟨hi, hx, hs⟩ := drop_cons h
    have hw : wrap64 ((i : Int) + 1) = ((i + 1 : Nat) : Int) := by rw [w64 (by omega) (by omega)]; rfl
    refine Evl.succ ?_
    have h1 : (i : Int) < (a.length : Int) := by omega
    have h2 : (0 : Int) ≤ (i : Int) := by omega
    simp only [laws_eqIntS.l0, if_pos h1, if_pos h2, if_true, hw]
    exact ih (i + 1) hs
theorem eqIntS_self (a : List Int) (hl : a.length ≤ 1099511627776) : Evl (fun k => laws_eqIntS.f k a a) true := by
  simp only [laws_eqIntS.f, if_true]
  exact eqIntS_l0 a hl a 0 rfl

theorem markIntS_l0 : ∀ (s pre : List Int) (v : Int) (i : Nat), pre.length = i → pre.length + s.length ≤ 1099511627776 → 0 ≤ v → v + s.length ≤ 1099511627800 → Evl (fun k => laws_markIntS.l0 k (pre ++ s) v (i : Int)) (v + s.length, pre ++ iot v s.length) := by
  intro s
  induction s with
  | nil =>
    intro pre v i hi _ _ _
    refine Evl.succ ?_
    have h1 : ¬ (i : Int) < ((pre ++ []).length : Int) := by rw [List.append_nil]; omega
    simp only [laws_markIntS.l0, if_neg h1]
    refine (Evl.ret _).cast ?_
    simp [iot]
  | cons x s ih =>
    intro pre v i hi hb hv hvb
    rw [List.length_cons] at hb hvb
    have hw : wrap64 ((i : Int) + 1) = ((i + 1 : Nat) : Int) := by rw [w64 (by omega) (by omega)]; rfl
    have hw2 : wrap64 (v + 1) = v + 1 := w64 (by omega) (by omega)
    refine Evl.succ ?_
    have h1 : (i : Int) < ((pre ++ x :: s).length : Int) := by rw [List.length_append, List.length_cons]; omega
    have h2 : (0 : Int) ≤ (i : Int) := by omega
    have hset : (pre ++ x :: s).set (i : Int).toNat v = (pre ++ [v]) ++ s := by
      rw [Int.toNat_natCast, ← hi, List.set_append_right _ _ (Nat.le_refl _), Nat.sub_self, List.set_cons_zero, List.append_assoc]
      rfl
    simp only [laws_markIntS.l0, if_pos h1, if_pos h2, hw, hw2, hset]
    have := ih (pre ++ [v]) (v + 1) (i + 1) (by rw [List.length_append, hi]; rfl) (by rw [List.length_append, List.length_singleton]; omega) (by omega) (by omega)
    refine this.cast ?_
    rw [List.length_cons, iot, List.append_assoc]
    refine Prod.ext ?_ rfl
    show v + 1 + (s.length : Int) = v + ((s.length + 1 : Nat) : Int)
    omega
theorem markIntS_ev (a : List Int) (hl : a.length ≤ 1099511627776) : Evl (fun k => laws_markIntS.f k a 1) (1 + a.length, iot 1 a.length) := by
  simp only [laws_markIntS.f]
  exact markIntS_l0 a [] 1 0 rfl (by simpa using hl) (by omega) (by omega)

theorem heldIntS_l0 (a : List Int) (hl : a.length ≤ 1099511627776) : ∀ (n : Nat) (v : Int) (i : Nat), a.drop i = iot v n → 0 ≤ v → v + n ≤ 1099511627800 → Evl (fun k => laws_heldIntS.l0 k a v (i : Int)) (v + n) := by
  intro n
  induction n with
  | zero =>
    intro v i h _ _
    have hi := drop_nil h
    refine Evl.succ ?_
    have h1 : ¬ (i : Int) < (a.length : Int) := by omega
    simp only [laws_heldIntS.l0, if_neg h1]
    refine (Evl.ret _).cast ?_
    omega
  | succ n ih =>
    intro v i h hv hb
    obtain ⟨hi, hx, hs⟩ := drop_cons h
    have hw : wrap64 ((i : Int) + 1) = ((i + 1 : Nat) : Int) := by rw [w64 (by omega) (by omega)]; rfl
    have hw2 : wrap64 (v + 1) = v + 1 := w64 (by omega) (by omega)
    have hr : rd a (i : Int) = v := rd_of hx
    refine Evl.succ ?_
    have h1 : (i : Int) < (a.length : Int) := by omega
    have h2 : (0 : Int) ≤ (i : Int) := by omega
    simp only [laws_heldIntS.l0, if_pos h1, if_pos h2, hr, if_true, hw, hw2]
    refine (ih (v + 1) (i + 1) hs (by omega) (by omega)).cast ?_
    omega
theorem heldIntS_ev (n : Nat) (hl : n ≤ 1099511627776) : Evl (fun k => laws_heldIntS.f k (iot 1 n) 1) (1 + n) := by
  simp only [laws_heldIntS.f]
  exact heldIntS_l0 (iot 1 n) (by rw [iot_length]; exact hl) n 1 0 rfl (by omega) (by omega)
theorem toIntS_l0 (a : List Int) (hl : a.length ≤ 1099511627776) : ∀ (s pre t : List Int) (i : Nat), pre.length = i → a = pre ++ s → t.length = s.length → Evl (fun k => laws_toIntS.l0 k a (pre ++ t) (i : Int)) a := by
  intro s
  induction s with
  | nil =>
    intro pre t i hi ha ht
    obtain rfl : t = [] := List.eq_nil_of_length_eq_zero ht
    refine Evl.succ ?_
    have h1 : ¬ (i : Int) < (a.length : Int) := by rw [ha, List.append_nil]; omega
    simp only [laws_toIntS.l0, if_neg h1]
    rw [← ha]
    exact Evl.ret _
  | cons x s ih =>
    intro pre t i hi ha ht
    obtain ⟨y, t, rfl⟩ : ∃ y t', t = y :: t' := by
      cases t with
      | nil => cases ht
      | cons y t => exact ⟨y, t, rfl⟩
    have hal : a.length = i + (s.length + 1) := by rw [ha, List.length_append, hi, List.length_cons]
    have h1 : (i : Int) < (a.length : Int) := by omega
    have h0 : (0 : Int) ≤ (i : Int) := by omega
    have h2 : (i : Int) < ((pre ++ y :: t).length : Int) := by rw [List.length_append, List.length_cons]; omega
    have hx : rd a (i : Int) = x := rd_of (by rw [ha, List.getElem?_append_right (by omega), hi, Nat.sub_self]; rfl)
    have hw : wrap64 ((i : Int) + 1) = ((i + 1 : Nat) : Int) := by rw [w64 (by omega) (by omega)]; rfl
    have hset : (pre ++ y :: t).set (i : Int).toNat x = (pre ++ [x]) ++ t := by
      rw [Int.toNat_natCast, ← hi, List.set_append_right _ _ (Nat.le_refl _), Nat.sub_self, List.set_cons_zero, List.append_assoc]
      rfl
    refine Evl.succ ?_
    simp only [laws_toIntS.l0, if_pos h1, if_pos h0, if_pos h2, hx, hw, hset]
    refine ih (pre ++ [x]) t (i + 1) (by rw [List.length_append, hi]; rfl) (by rw [ha, List.append_assoc]; rfl) ?_
    rw [List.length_cons, List.length_cons] at ht
    omega
theorem toIntS_ev (a : List Int) (hl : a.length ≤ 1099511627776) : Evl (fun k => laws_toIntS.f k a) a := by
  have h0 : (0 : Int) ≤ (a.length : Int) := by omega
  have h1 : ((a.length : Int)).toNat ≤ 35184372088832 := by omega
  simp only [laws_toIntS.f, if_pos h0, if_pos h1]
  exact toIntS_l0 a hl a [] (List.replicate _ 0) 0 rfl rfl (by rw [List.length_replicate]; exact Int.toNat_natCast _)

end Go.Proofs.Ytgoldeagghadhaa.L

/-! ## M1 -/
namespace Go.Proofs.Ytgoldeagghadhaa.M
set_option linter.unusedVariables false
set_option linter.unusedSimpArgs false

def lfAux : Nat → Nat → Nat → Nat
  | 0, _, n => n
  | f + 1, d, n => if n % d = 0 then d else lfAux f (d + 1) n
/-- The least divisor of at least 2. -/
def lf (n : Nat) : Nat := lfAux n 2 n
def isP (n : Nat) : Bool := decide (2 ≤ n) && decide (lf n = n)

structure Least (n r : Nat) : Prop where
  two : 2 ≤ r
  le : r ≤ n
  div : n % r = 0
  least : ∀ d, 2 ≤ d → d < r → n % d ≠ 0

theorem lfAux_least : ∀ (f d n : Nat), 2 ≤ d → d ≤ n → n < d + f → (∀ e, 2 ≤ e → e < d → n % e ≠ 0) → Least n (lfAux f d n)
  | 0, d, n, _, h1, h2, _ => by omega
  | f + 1, d, n, h0, h1, h2, h3 => by
    unfold lfAux
    by_cases h : n % d = 0
    · rw [if_pos h]
      exact ⟨h0, h1, h, h3⟩
    · rw [if_neg h]
      have hne : d ≠ n := fun e => h (by rw [e]; exact Nat.mod_self n)
      refine lfAux_least f (d + 1) n (by omega) (by omega) (by omega) (fun e he hl => ?_)
      by_cases hed : e = d
      · rw [hed]; exact h
      · exact h3 e he (by omega)
theorem lf_least {n : Nat} (h : 2 ≤ n) : Least n (lf n) := lfAux_least n 2 n (by omega) h (by omega) (fun e h1 h2 => by omega)
theorem Least.uniq {n r s : Nat} (h : Least n r) (h' : Least n s) : r = s := by
  rcases Nat.lt_trichotomy r s with h1 | h1 | h1
  · exact absurd h.div (h'.least r h.two h1)
  · exact h1
  · exact absurd h'.div (h.least s h'.two h1)
theorem lf_eq {n r : Nat} (hn : 2 ≤ n) (h : Least n r) : lf n = r := (lf_least hn).uniq h

theorem split_mod {n r : Nat} (h : n % r = 0) : n = r * (n / r) := by
  have := Nat.div_add_mod n r
  rw [h] at this
  omega

/-- No divisor up to the root: the number itself. -/
theorem lf_root {n d : Nat} (hn : 2 ≤ n) (hd : ∀ e, 2 ≤ e → e < d → n % e ≠ 0) (hr : n < d * d) : lf n = n := by
  have h := lf_least hn
  rcases Nat.lt_or_ge (lf n) n with hl | hl
  · exfalso
    have hq := split_mod h.div
    generalize hqe : n / lf n = q at hq
    have hq2 : 2 ≤ q := by
      rcases Nat.lt_or_ge q 2 with h1 | h1
      · have : q = 0 ∨ q = 1 := by omega
        rcases this with rfl | rfl
        · omega
        · omega
      · exact h1
    have hqm : n % q = 0 := by
      have e : n % q = (lf n * q) % q := by rw [← hq]
      rw [e]; exact Nat.mul_mod_left _ _
    have hlq : lf n ≤ q := by
      rcases Nat.lt_or_ge q (lf n) with h1 | h1
      · exact absurd hqm (h.least q hq2 h1)
      · exact h1
    have hdl : d ≤ lf n := by
      rcases Nat.lt_or_ge (lf n) d with h1 | h1
      · exact absurd h.div (hd _ h.two h1)
      · exact h1
    have : d * d ≤ lf n * q := Nat.mul_le_mul hdl (Nat.le_trans hdl hlq)
    omega
  · have := h.le
    omega

theorem isP_iff {n : Nat} : isP n = true ↔ 2 ≤ n ∧ lf n = n := by
  simp [isP]
/-! ### factors -/
end Go.Proofs.Ytgoldeagghadhaa.M

/-! ## E1 -/
namespace Go.Proofs.Ytgoldeagghadhaa.L
open Go.RowKit Go.Proofs.YtgoldeagghadhaaW.PrintWords Go.Proofs.Ytgoldeagghadhaa.P Go.Proofs.Ytgoldeagghadhaa.M
set_option linter.unusedVariables false
set_option linter.unusedSimpArgs false

/-- The same of whatever whole number. -/
def isPI (a : Int) : Bool := isP a.toNat
theorem isPI_nat (n : Nat) : isPI (n : Int) = isP n := by unfold isPI; rw [Int.toNat_natCast]
theorem isPI_neg {a : Int} (h : a < 2) : isPI a = false := by
  unfold isPI isP
  rw [decide_eq_false (by omega)]
  rfl

theorem impl_leastFactor_l0 (n : Nat) (hn : 2 ≤ n) (hb : n ≤ 2000000000) : ∀ (m d : Nat), m + d = 50000 → 2 ≤ d → (∀ e, 2 ≤ e → e < d → n % e ≠ 0) → Evl (fun k => impl_leastFactor.l0 k (n : Int) (d : Int)) (lf n : Int) := by
  intro m
  induction m with
  | zero =>
    intro d hd h2 hno
    obtain rfl : d = 50000 := by omega
    refine Evl.succ ?_
    have h1 : ¬ wrap64 (((50000 : Nat) : Int) * ((50000 : Nat) : Int)) ≤ (n : Int) := by rw [w64 (by omega) (by omega)]; omega
    simp only [impl_leastFactor.l0, if_neg h1]
    rw [lf_root hn hno (by omega)]
    exact Evl.ret _
  | succ m ih =>
    intro d hd h2 hno
    have hdd : d * d ≤ 50000 * 50000 := Nat.mul_le_mul (by omega) (by omega)
    have hw : wrap64 ((d : Int) * (d : Int)) = ((d * d : Nat) : Int) := by rw [← Int.natCast_mul]; exact w64 (by omega) (by omega)
    have hw1 : wrap64 ((d : Int) + 1) = ((d + 1 : Nat) : Int) := by rw [w64 (by omega) (by omega)]; rfl
    refine Evl.succ ?_
    by_cases hr : d * d ≤ n
    · have h1 : ((d * d : Nat) : Int) ≤ (n : Int) := Int.ofNat_le.2 hr
      have h3 : ¬ (d : Int) = 0 := by omega
      have ht : Int.tmod (n : Int) (d : Int) = ((n % d : Nat) : Int) := rfl
      by_cases hm : n % d = 0
      · have h4 : ((n % d : Nat) : Int) = 0 := by rw [hm]; rfl
        simp only [impl_leastFactor.l0, hw, if_pos h1, if_neg h3, ht, if_pos h4]
        rw [lf_eq hn ⟨h2, Nat.le_trans (Nat.le_mul_self d) hr, hm, hno⟩]
        exact Evl.ret _
      · have h4 : ¬ ((n % d : Nat) : Int) = 0 := by omega
        simp only [impl_leastFactor.l0, hw, if_pos h1, if_neg h3, ht, if_neg h4, hw1]
        refine ih (d + 1) (by omega) (by omega) (fun e he hl => ?_)
        by_cases hed : e = d
        · rw [hed]; exact hm
        · exact hno e he (by omega)
    · have h1 : ¬ ((d * d : Nat) : Int) ≤ (n : Int) := fun h => hr (Int.ofNat_le.1 h)
      simp only [impl_leastFactor.l0, hw, if_neg h1]
      rw [lf_root hn hno (by omega)]
      exact Evl.ret _
theorem impl_leastFactor_ev (n : Nat) (hn : 2 ≤ n) (hb : n ≤ 2000000000) : Evl (fun k => impl_leastFactor.f k (n : Int)) (lf n : Int) := by
  simp only [impl_leastFactor.f]
  exact impl_leastFactor_l0 n hn hb 49998 2 rfl (by omega) (fun e h1 h2 => by omega)

theorem impl_isPrime_ev (a : Int) (hb : a ≤ 2000000000) : Evl (fun k => impl_isPrime.f k a) (isPI a) := by
  by_cases h : a ≥ 2
  · obtain ⟨n, rfl⟩ := Int.eq_ofNat_of_zero_le (show 0 ≤ a by omega)
    simp only [impl_isPrime.f, if_pos h]
    refine Evl.bind (impl_leastFactor_ev n (by omega) (by omega)) ?_
    refine (Evl.ret _).cast ?_
    rw [isPI_nat]
    unfold isP
    rw [decide_eq_true (show 2 ≤ n by omega), Bool.true_and]
    by_cases e : lf n = n
    · rw [decide_eq_true e, e]
      exact beq_self_eq_true _
    · rw [decide_eq_false e]
      exact beq_eq_false_iff_ne.2 (by omega)
  · simp only [impl_isPrime.f, if_neg h]
    rw [isPI_neg (by omega)]
    exact Evl.ret _

end Go.Proofs.Ytgoldeagghadhaa.L

/-! ## E2 -/
namespace Go.Proofs.Ytgoldeagghadhaa.L
open Go.RowKit Go.Proofs.YtgoldeagghadhaaW.PrintWords Go.Proofs.Ytgoldeagghadhaa.P Go.Proofs.Ytgoldeagghadhaa.M
set_option linter.unusedVariables false
set_option linter.unusedSimpArgs false

end Go.Proofs.Ytgoldeagghadhaa.L

/-! ## E3 -/

namespace Go.Proofs.Ytgoldeagghadhaa.L
open Go.RowKit Go.Proofs.YtgoldeagghadhaaW.PrintWords Go.Proofs.Ytgoldeagghadhaa.P Go.Proofs.Ytgoldeagghadhaa.M
set_option linter.unusedVariables false
set_option linter.unusedSimpArgs false

end Go.Proofs.Ytgoldeagghadhaa.L

/-! ## E4 -/
namespace Go.Proofs.Ytgoldeagghadhaa.L
open Go.RowKit Go.Proofs.YtgoldeagghadhaaW.PrintWords Go.Proofs.Ytgoldeagghadhaa.P Go.Proofs.Ytgoldeagghadhaa.M
set_option linter.unusedVariables false
set_option linter.unusedSimpArgs false

theorem l1In_eq (a lo hi : Int) : spec_l1In.f a lo hi = some (decide (lo ≤ a ∧ a ≤ hi)) := by
  unfold spec_l1In.f
  by_cases h : a ≥ lo
  · rw [if_pos h]
    by_cases h2 : a ≤ hi
    · rw [decide_eq_true h2, decide_eq_true ⟨h, h2⟩]
    · rw [decide_eq_false h2, decide_eq_false (fun c => h2 c.2)]
  · rw [if_neg h, decide_eq_false (fun c => h c.1)]
theorem isMost_eq (a : Int) : impl_isMost.f a = some (decide (0 ≤ a ∧ a ≤ 600)) := by
  unfold impl_isMost.f
  by_cases h : a ≥ 0
  · rw [if_pos h]
    by_cases h2 : a ≤ 600
    · rw [decide_eq_true h2, decide_eq_true ⟨h, h2⟩]
    · rw [decide_eq_false h2, decide_eq_false (fun c => h2 c.2)]
  · rw [if_neg h, decide_eq_false (fun c => h c.1)]

end Go.Proofs.Ytgoldeagghadhaa.L

/-! ## X2 -/
namespace Go.Proofs.Ytgoldeagghadhaa.L
open Go.RowKit Go.Proofs.YtgoldeagghadhaaW.PrintWords Go.Proofs.Ytgoldeagghadhaa.P Go.Proofs.Ytgoldeagghadhaa.M
set_option linter.unusedVariables false
set_option linter.unusedSimpArgs false

/-- From the second offset on: rising, at most 60. -/
def chk : Int → List Int → Bool
  | _, [] => true
  | p, x :: s => decide (p < x) && (decide (x ≤ 60) && chk x s)
def pat : List Int → Bool
  | [] => false
  | x :: s => decide (s.length ≤ 7) && (decide (x = 0) && chk x s)
theorem pat_len {l : List Int} (h : pat l = true) : 1 ≤ l.length ∧ l.length ≤ 8 := by
  cases l with
  | nil => cases h
  | cons x s =>
    simp only [pat, Bool.and_eq_true, decide_eq_true_eq] at h
    rw [List.length_cons]
    omega

theorem isPattern_l0 (l : List Int) (hl : l.length ≤ 1099511627776) : ∀ (s : List Int) (i : Nat) (p : Int), 1 ≤ i → l[i - 1]? = some p → l.drop i = s →
    Evl (fun k => impl_isPattern.l0 k l l (l.length : Int) (i : Int)) (chk p s && decide (l.length ≤ 8)) := by
  intro s
  induction s with
  | nil =>
    intro i p h1 hp h
    have hi := drop_nil h
    refine Evl.succ ?_
    have c1 : ¬ (i : Int) < (l.length : Int) := by omega
    have c2 : (l.length : Int) ≥ 1 := by
      have := (List.getElem?_eq_some_iff.1 hp).1
      omega
    simp only [impl_isPattern.l0, if_neg c1, if_pos c2]
    refine (Evl.ret _).cast ?_
    simp only [chk, Bool.true_and]
    by_cases c : l.length ≤ 8
    · rw [decide_eq_true c, decide_eq_true (by omega)]
    · rw [decide_eq_false c, decide_eq_false (by omega)]
  | cons x s ih =>
    intro i p h1 hp h
    obtain ⟨hi, hx, hs⟩ := drop_cons h
    have c1 : (i : Int) < (l.length : Int) := by omega
    have c2 : (0 : Int) ≤ (i : Int) := by omega
    have c3 : ¬ (i : Int) = 0 := by omega
    have c4 : (i : Int) > 0 := by omega
    have hw0 : wrap64 ((i : Int) - 1) = ((i - 1 : Nat) : Int) := by rw [w64 (by omega) (by omega)]; omega
    have c5 : (0 : Int) ≤ ((i - 1 : Nat) : Int) := by omega
    have c6 : ((i - 1 : Nat) : Int) < (l.length : Int) := by omega
    have hrp : rd l ((i - 1 : Nat) : Int) = p := rd_of hp
    have hrx : rd l (i : Int) = x := rd_of hx
    have hw : wrap64 ((i : Int) + 1) = ((i + 1 : Nat) : Int) := by rw [w64 (by omega) (by omega)]; rfl
    refine Evl.succ ?_
    simp only [impl_isPattern.l0, if_pos c1, if_pos c2, if_neg c3, if_pos c4, hw0, if_pos c5, if_pos c6, hrp, hrx, hw]
    by_cases c7 : p ≥ x
    · simp only [if_pos c7]
      refine (Evl.ret _).cast ?_
      simp only [chk]
      rw [decide_eq_false (by omega)]
      rfl
    · simp only [if_neg c7]
      by_cases c8 : x > 60
      · simp only [if_pos c8]
        refine (Evl.ret _).cast ?_
        simp only [chk]
        rw [decide_eq_true (show p < x by omega), decide_eq_false (show ¬ x ≤ 60 by omega)]
        rfl
      · simp only [if_neg c8]
        refine (ih (i + 1) x (by omega) (by rw [Nat.add_sub_cancel]; exact hx) hs).cast ?_
        simp only [chk]
        rw [decide_eq_true (show p < x by omega), decide_eq_true (show x ≤ 60 by omega), Bool.true_and, Bool.true_and]
theorem isPattern_ev (l : List Int) (hl : l.length ≤ 1099511627776) : Evl (fun k => impl_isPattern.f k l) (pat l) := by
  simp only [impl_isPattern.f]
  cases l with
  | nil =>
    refine Evl.succ ?_
    have c1 : ¬ (0 : Int) < (([] : List Int).length : Int) := by simp
    have c2 : ¬ (([] : List Int).length : Int) ≥ 1 := by simp
    simp only [impl_isPattern.l0, if_neg c1, if_neg c2]
    exact Evl.ret _
  | cons x s =>
    have c1 : (0 : Int) < ((x :: s).length : Int) := by rw [List.length_cons]; omega
    have hrx : rd (x :: s) 0 = x := rfl
    have hw : wrap64 (0 + 1) = ((1 : Nat) : Int) := by rw [w64 (by omega) (by omega)]; rfl
    refine Evl.succ ?_
    simp only [impl_isPattern.l0, if_pos c1, if_pos (show (0 : Int) ≤ 0 by omega), if_true, hrx, if_neg (show ¬ (0 : Int) > 0 by omega), hw]
    by_cases c2 : x = 0
    · have c3 : ¬ x > 60 := by omega
      simp only [if_pos c2, if_neg c3]
      refine (isPattern_l0 (x :: s) hl s 1 x (by omega) rfl rfl).cast ?_
      simp only [pat, List.length_cons]
      rw [decide_eq_true c2, Bool.true_and, Bool.and_comm]
      by_cases c : s.length ≤ 7
      · rw [decide_eq_true c, decide_eq_true (by omega)]
      · rw [decide_eq_false c, decide_eq_false (by omega)]
    · simp only [if_neg c2]
      refine (Evl.ret _).cast ?_
      simp only [pat]
      rw [decide_eq_false c2, Bool.false_and, Bool.and_false]

/-- The reference's way: the bound is asked of the last one alone. -/
def sp : Int → List Int → Bool
  | p, [] => decide (p ≤ 60)
  | p, x :: s => if x ≤ p then false else sp x s
theorem sp_chk : ∀ (s : List Int) (p : Int), sp p s = (decide (p ≤ 60) && chk p s)
  | [], p => by simp [sp, chk]
  | x :: s, p => by
    unfold sp chk
    rw [sp_chk s x]
    by_cases c : x ≤ p
    · rw [if_pos c, decide_eq_false (show ¬ p < x by omega), Bool.false_and, Bool.and_false]
    · rw [if_neg c, decide_eq_true (show p < x by omega), Bool.true_and]
      by_cases c2 : x ≤ 60
      · simp [c2, show p ≤ 60 by omega]
      · rw [decide_eq_false c2, Bool.false_and, Bool.and_false]
theorem reGood_l0 (l : List Int) (hl : l.length ≤ 1099511627776) : ∀ (s : List Int) (i : Nat) (p : Int), 1 ≤ i → l[i - 1]? = some p → l.drop i = s →
    Evl (fun k => spec_reGood.l0 k l (i : Int)) (sp p s) := by
  intro s
  induction s with
  | nil =>
    intro i p h1 hp h
    have hi := drop_nil h
    have hlt := (List.getElem?_eq_some_iff.1 hp).1
    have hw : wrap64 ((l.length : Int) - 1) = ((i - 1 : Nat) : Int) := by rw [w64 (by omega) (by omega)]; omega
    have hrp : rd l ((i - 1 : Nat) : Int) = p := rd_of hp
    refine Evl.succ ?_
    simp only [spec_reGood.l0, if_neg (show ¬ (i : Int) < (l.length : Int) by omega), hw, if_pos (show (0 : Int) ≤ ((i - 1 : Nat) : Int) by omega), if_pos (show ((i - 1 : Nat) : Int) < (l.length : Int) by omega), hrp]
    exact Evl.ret _
  | cons x s ih =>
    intro i p h1 hp h
    obtain ⟨hi, hx, hs⟩ := drop_cons h
    have hw0 : wrap64 ((i : Int) - 1) = ((i - 1 : Nat) : Int) := by rw [w64 (by omega) (by omega)]; omega
    have hrp : rd l ((i - 1 : Nat) : Int) = p := rd_of hp
    have hrx : rd l (i : Int) = x := rd_of hx
    have hw : wrap64 ((i : Int) + 1) = ((i + 1 : Nat) : Int) := by rw [w64 (by omega) (by omega)]; rfl
    refine Evl.succ ?_
    simp only [spec_reGood.l0, if_pos (show (i : Int) < (l.length : Int) by omega), if_pos (show (0 : Int) ≤ (i : Int) by omega), hw0, if_pos (show (0 : Int) ≤ ((i - 1 : Nat) : Int) by omega), if_pos (show ((i - 1 : Nat) : Int) < (l.length : Int) by omega), hrp, hrx, hw]
    unfold sp
    by_cases c : x ≤ p
    · simp only [if_pos c]
      exact Evl.ret _
    · simp only [if_neg c]
      exact ih (i + 1) x (by omega) (by rw [Nat.add_sub_cancel]; exact hx) hs
theorem reGood_no (l : List Int) : Evl (fun k => spec_reGood.j0 k l true) false := by
  refine Evl.succ ?_
  simp only [spec_reGood.j0, if_true]
  exact Evl.ret _
theorem reGood_ev (l : List Int) (hl : l.length ≤ 1099511627776) : Evl (fun k => spec_reGood.f k l) (pat l) := by
  simp only [spec_reGood.f, l1In_eq, Option.bind_some]
  cases l with
  | nil =>
    rw [show decide (1 ≤ ((([] : List Int).length : Nat) : Int) ∧ ((([] : List Int).length : Nat) : Int) ≤ 8) = false from rfl]
    simp only [Bool.false_eq_true, if_false]
    exact reGood_no []
  | cons x s =>
    by_cases c : s.length ≤ 7
    · simp only [decide_eq_true (show 1 ≤ (((x :: s).length : Nat) : Int) ∧ (((x :: s).length : Nat) : Int) ≤ 8 by rw [List.length_cons]; omega), if_true, if_pos (show (0 : Int) < (((x :: s).length : Nat) : Int) by rw [List.length_cons]; omega)]
      have hrx : rd (x :: s) 0 = x := rfl
      rw [hrx]
      by_cases c2 : x = 0
      · subst c2
        refine Evl.succ ?_
        simp only [spec_reGood.j0, bne_self_eq_false, Bool.false_eq_true, if_false]
        refine (reGood_l0 (0 :: s) hl s 1 0 (by omega) rfl rfl).cast ?_
        rw [sp_chk]
        simp only [pat]
        rw [decide_eq_true c]
        rfl
      · rw [bne_iff_ne.2 c2]
        refine (reGood_no _).cast ?_
        simp only [pat]
        rw [decide_eq_false c2, Bool.false_and, Bool.and_false]
    · simp only [decide_eq_false (show ¬ (1 ≤ (((x :: s).length : Nat) : Int) ∧ (((x :: s).length : Nat) : Int) ≤ 8) by rw [List.length_cons]; omega), Bool.false_eq_true, if_false]
      refine (reGood_no _).cast ?_
      simp only [pat]
      rw [decide_eq_false c, Bool.false_and]


end Go.Proofs.Ytgoldeagghadhaa.L

/-! ## X15 -/
namespace Go.Proofs.Ytgoldeagghadhaa.L
open Go.RowKit Go.Proofs.YtgoldeagghadhaaW.PrintWords Go.Proofs.Ytgoldeagghadhaa.P Go.Proofs.Ytgoldeagghadhaa.M
set_option linter.unusedVariables false
set_option linter.unusedSimpArgs false

theorem pp_chk : ∀ (s : List Int) (p : Int), chk p s = true → ∀ x ∈ s, p < x ∧ x ≤ 60
  | [], p, _, x, hx => absurd hx (by simp)
  | y :: s, p, h, x, hx => by
    simp only [chk, Bool.and_eq_true, decide_eq_true_eq] at h
    rcases List.mem_cons.1 hx with rfl | hx
    · exact ⟨h.1, h.2.1⟩
    · have := pp_chk s y h.2.2 x hx
      omega
theorem pp_range {l : List Int} (h : pat l = true) : ∀ x ∈ l, 0 ≤ x ∧ x ≤ 60 := by
  cases l with
  | nil => cases h
  | cons y s =>
    simp only [pat, Bool.and_eq_true, decide_eq_true_eq] at h
    intro x hx
    rcases List.mem_cons.1 hx with rfl | hx
    · omega
    · have := pp_chk s y h.2.2 x hx
      omega
theorem reIsPrime_l0 (n : Nat) (hn : 2 ≤ n) (hb : n ≤ 2000000000) : ∀ (m d : Nat), m + d = 50000 → 2 ≤ d → (∀ e, 2 ≤ e → e < d → n % e ≠ 0) → Evl (fun k => spec_reIsPrime.l0 k (n : Int) (d : Int)) (isP n) := by
  intro m
  induction m with
  | zero =>
    intro d hd h2 hno
    obtain rfl : d = 50000 := by omega
    refine Evl.succ ?_
    have h1 : ¬ wrap64 (((50000 : Nat) : Int) * ((50000 : Nat) : Int)) ≤ (n : Int) := by rw [w64 (by omega) (by omega)]; omega
    simp only [spec_reIsPrime.l0, if_neg h1]
    refine (Evl.ret _).cast ?_
    exact (isP_iff.2 ⟨hn, lf_root hn hno (by omega)⟩).symm
  | succ m ih =>
    intro d hd h2 hno
    have hdd : d * d ≤ 50000 * 50000 := Nat.mul_le_mul (by omega) (by omega)
    have hw : wrap64 ((d : Int) * (d : Int)) = ((d * d : Nat) : Int) := by rw [← Int.natCast_mul]; exact w64 (by omega) (by omega)
    have hw1 : wrap64 ((d : Int) + 1) = ((d + 1 : Nat) : Int) := by rw [w64 (by omega) (by omega)]; rfl
    refine Evl.succ ?_
    by_cases hr : d * d ≤ n
    · have h1 : ((d * d : Nat) : Int) ≤ (n : Int) := Int.ofNat_le.2 hr
      have h3 : ¬ (d : Int) = 0 := by omega
      have ht : Int.tmod (n : Int) (d : Int) = ((n % d : Nat) : Int) := rfl
      by_cases hm : n % d = 0
      · have h4 : ((n % d : Nat) : Int) = 0 := by rw [hm]; rfl
        simp only [spec_reIsPrime.l0, hw, if_pos h1, if_neg h3, ht, if_pos h4]
        refine (Evl.ret _).cast ?_
        have hl : lf n = d := lf_eq hn ⟨h2, Nat.le_trans (Nat.le_mul_self d) hr, hm, hno⟩
        have hlt : d < d * d := by
          have := Nat.mul_le_mul_left d h2
          omega
        refine (Bool.eq_false_iff.2 fun c => ?_).symm
        have := (isP_iff.1 c).2
        omega
      · have h4 : ¬ ((n % d : Nat) : Int) = 0 := by omega
        simp only [spec_reIsPrime.l0, hw, if_pos h1, if_neg h3, ht, if_neg h4, hw1]
        refine ih (d + 1) (by omega) (by omega) (fun e he hl => ?_)
        by_cases hed : e = d
        · rw [hed]; exact hm
        · exact hno e he (by omega)
    · have h1 : ¬ ((d * d : Nat) : Int) ≤ (n : Int) := fun h => hr (Int.ofNat_le.1 h)
      simp only [spec_reIsPrime.l0, hw, if_neg h1]
      refine (Evl.ret _).cast ?_
      exact (isP_iff.2 ⟨hn, lf_root hn hno (by omega)⟩).symm
theorem reIsPrime_ev (a : Int) (hb : a ≤ 2000000000) : Evl (fun k => spec_reIsPrime.f k a) (isPI a) := by
  by_cases h : a < 2
  · simp only [spec_reIsPrime.f, if_pos h]
    rw [isPI_neg h]
    exact Evl.ret _
  · obtain ⟨n, rfl⟩ := Int.eq_ofNat_of_zero_le (show 0 ≤ a by omega)
    simp only [spec_reIsPrime.f, if_neg h]
    rw [isPI_nat]
    exact reIsPrime_l0 n (by omega) (by omega) 49998 2 rfl (by omega) (fun e h1 h2 => by omega)
/-- Whether a number and each offset together are primes. -/
def allB (l : List Int) (n : Int) : Bool := l.all fun o => isPI (n + o)
theorem spec_PrimePlaces_l1 (l : List Int) (hl : l.length ≤ 1000) (h0 : ∀ x ∈ l, 0 ≤ x ∧ x ≤ 60) (most : Int) (acc : List Int) (ha : acc.length ≤ 100000) (n : Int) (hn : 0 ≤ n ∧ n ≤ 1000) {R : List Int × Bool} :
    ∀ (s : List Int) (i : Nat) (b : Bool), l.drop i = s → Evl (fun k => spec_PrimePlaces.l0 k l most (if (b && allB s n) = true then acc ++ [n] else acc) (wrap64 (n + 1))) R → Evl (fun k => spec_PrimePlaces.l1 k l most acc n b l (l.length : Int) (i : Int)) R := by
  intro s
  induction s with
  | nil =>
    intro i b h hR
    have hi := drop_nil h
    refine Evl.succ ?_
    cases b with
    | false =>
      simp only [spec_PrimePlaces.l1, if_neg (show ¬ (i : Int) < (l.length : Int) by omega), Bool.false_eq_true, if_false]
      exact hR
    | true =>
      simp only [spec_PrimePlaces.l1, if_neg (show ¬ (i : Int) < (l.length : Int) by omega), if_true, if_pos (show acc.length < 17592186044416 by omega)]
      exact hR
  | cons y s ih =>
    intro i b h hR
    obtain ⟨hi, hx, hs⟩ := drop_cons h
    have hy := h0 y (List.mem_of_getElem? hx)
    have hw : wrap64 ((i : Int) + 1) = ((i + 1 : Nat) : Int) := by rw [w64 (by omega) (by omega)]; rfl
    have hw2 : wrap64 (n + y) = n + y := w64 (by omega) (by omega)
    refine Evl.succ ?_
    cases b with
    | false =>
      simp only [spec_PrimePlaces.l1, if_pos (show (i : Int) < (l.length : Int) by omega), if_pos (show (0 : Int) ≤ (i : Int) by omega), Bool.false_eq_true, if_false, hw]
      refine ih (i + 1) false hs ?_
      rw [Bool.false_and] at hR ⊢
      exact hR
    | true =>
      simp only [spec_PrimePlaces.l1, if_pos (show (i : Int) < (l.length : Int) by omega), if_pos (show (0 : Int) ≤ (i : Int) by omega), if_true, rd_of hx, hw, hw2]
      refine Evl.bind (reIsPrime_ev (n + y) (by omega)) ?_
      refine ih (i + 1) _ hs ?_
      have e : allB (y :: s) n = (isPI (n + y) && allB s n) := by unfold allB; rw [List.all_cons]
      rw [Bool.true_and, e] at hR
      exact hR
theorem spec_PrimePlaces_l0 (l : List Int) (hl : l.length ≤ 1000) (h0 : ∀ x ∈ l, 0 ≤ x ∧ x ≤ 60) (most : Nat) (hm : most ≤ 600) : ∀ (m n : Nat) (acc : List Int), n + m = most + 1 → acc.length ≤ n → Evl (fun k => spec_PrimePlaces.l0 k l (most : Int) acc (n : Int)) (acc ++ (iot (n : Int) m).filter (allB l), true) := by
  intro m
  induction m with
  | zero =>
    intro n acc h _
    refine Evl.succ ?_
    simp only [spec_PrimePlaces.l0, if_neg (show ¬ (n : Int) ≤ (most : Int) by omega)]
    refine (Evl.ret _).cast ?_
    simp [iot]
  | succ m ih =>
    intro n acc h ha
    have hw : wrap64 ((n : Int) + 1) = ((n + 1 : Nat) : Int) := by rw [w64 (by omega) (by omega)]; rfl
    have hnx : (n : Int) + 1 = ((n + 1 : Nat) : Int) := rfl
    refine Evl.succ ?_
    simp only [spec_PrimePlaces.l0, if_pos (show (n : Int) ≤ (most : Int) by omega)]
    refine spec_PrimePlaces_l1 l hl h0 (most : Int) acc (by omega) (n : Int) (by omega) l 0 true rfl ?_
    rw [hw, Bool.true_and, iot, List.filter_cons, hnx]
    by_cases c : allB l (n : Int) = true
    · rw [if_pos c, if_pos c]
      refine (ih (n + 1) (acc ++ [(n : Int)]) (by omega) (by rw [List.length_append, List.length_singleton]; omega)).cast ?_
      rw [List.append_assoc]
      rfl
    · rw [if_neg c, if_neg c]
      exact ih (n + 1) acc (by omega) (by omega)
theorem upTo_l0 (high : Nat) (hh : high ≤ 1000000) : ∀ (m n : Nat) (acc : List Int), n + m = high + 1 → acc.length ≤ n → Evl (fun k => impl_upTo.l0 k (high : Int) 1 acc (n : Int)) (acc ++ iot (n : Int) m) := by
  intro m
  induction m with
  | zero =>
    intro n acc h _
    refine Evl.succ ?_
    simp only [impl_upTo.l0, if_neg (show ¬ (n : Int) ≤ (high : Int) by omega)]
    refine (Evl.ret _).cast ?_
    simp [iot]
  | succ m ih =>
    intro n acc h ha
    have hw : wrap64 ((n : Int) + 1) = ((n + 1 : Nat) : Int) := by rw [w64 (by omega) (by omega)]; rfl
    refine Evl.succ ?_
    simp only [impl_upTo.l0, if_pos (show (n : Int) ≤ (high : Int) by omega), if_pos (show acc.length < 17592186044416 by omega), hw]
    refine (ih (n + 1) _ (by omega) (by rw [List.length_append, List.length_singleton]; omega)).cast ?_
    rw [List.append_assoc, iot]
    rfl
theorem upTo_ev (high : Nat) (hh : high ≤ 1000000) : Evl (fun k => impl_upTo.f k 1 (high : Int) 1) (iot 1 high) := by
  simp only [impl_upTo.f]
  exact upTo_l0 high hh high 1 [] (by omega) (by simp)
theorem iot_mem : ∀ (m : Nat) (v x : Int), x ∈ iot v m → v ≤ x ∧ x < v + m
  | 0, v, x, h => absurd h (by simp [iot])
  | m + 1, v, x, h => by
    rw [iot] at h
    rcases List.mem_cons.1 h with rfl | h
    · omega
    · have := iot_mem m (v + 1) x h
      omega
theorem allP_ev (n : Int) (hn : 0 ≤ n ∧ n ≤ 1000) : ∀ (l : List Int), (∀ x ∈ l, 0 ≤ x ∧ x ≤ 60) → Evl (fun k => impl_PrimePlaces.allP k n l) (allB l n)
  | [], _ => Evl.ret _
  | o :: s, h => by
    have ho := h o (List.mem_cons_self ..)
    have hw : wrap64 (n + o) = n + o := w64 (by omega) (by omega)
    simp only [impl_PrimePlaces.allP, hw]
    refine Evl.bind (impl_isPrime_ev (n + o) (by omega)) ?_
    refine Evl.bind (allP_ev n hn s fun y hy => h y (List.mem_cons_of_mem _ hy)) ?_
    exact Evl.ret _
theorem flt_ev (l0 : List Int) (h0 : ∀ x ∈ l0, 0 ≤ x ∧ x ≤ 60) : ∀ (l : List Int), (∀ x ∈ l, 0 ≤ x ∧ x ≤ 1000) → Evl (fun k => impl_PrimePlaces.flt k l0 l) (l.filter (allB l0))
  | [], _ => Evl.ret _
  | x :: s, h => by
    simp only [impl_PrimePlaces.flt]
    refine Evl.bind (allP_ev x (h x (List.mem_cons_self ..)) l0 h0) ?_
    refine Evl.bind (flt_ev l0 h0 s fun y hy => h y (List.mem_cons_of_mem _ hy)) ?_
    rw [List.filter_cons]
    exact Evl.ret _
theorem FnExactPrimePlaces_main (l0 : List Int) (a1 : Int) (hm : l0.length ≤ maxLen) (hb : l0.length * 8 ≤ 140737488351232) (hw : ∀ x ∈ l0, (Lit.int .i64 x).wf = true) (h1 : (Lit.int .i64 a1).wf = true) (hl : l0.length ≤ 1099511627776) :
    ∃ r b, Evl (fun k => spec_PrimePlaces.f k l0 a1) (r, b) ∧ Evl (fun k => impl_PrimePlaces.f k l0 a1) (r, b) ∧ r.length ≤ 1099511627776 := by
  have no : Evl (fun k => spec_PrimePlaces.j0 k l0 a1 true) ([], false) := by
    refine Evl.succ ?_
    simp only [spec_PrimePlaces.j0, if_true]
    exact Evl.ret _
  cases hp : pat l0 with
  | false =>
    refine ⟨[], false, ?_, ?_, by simp⟩
    · simp only [spec_PrimePlaces.f]
      refine Evl.bind (reGood_ev l0 hl) ?_
      simp only [hp, Bool.false_eq_true, if_false]
      exact no
    · simp only [impl_PrimePlaces.f]
      refine Evl.bind (isPattern_ev l0 hl) ?_
      simp only [hp, Bool.false_eq_true, if_false, impl_PrimePlaces.j0, if_true]
      exact Evl.ret _
  | true =>
    have hl8 : l0.length ≤ 1000 := by have := pat_len hp; omega
    by_cases c : 0 ≤ a1 ∧ a1 ≤ 600
    · obtain ⟨n, rfl⟩ := Int.eq_ofNat_of_zero_le c.1
      refine ⟨(iot 1 n).filter (allB l0), true, ?_, ?_, by have h2 := List.length_filter_le (allB l0) (iot 1 n); rw [iot_length] at h2; omega⟩
      · simp only [spec_PrimePlaces.f]
        refine Evl.bind (reGood_ev l0 hl) ?_
        simp only [hp, if_true, l1In_eq, decide_eq_true c, Option.bind_some, Bool.not_true]
        refine Evl.succ ?_
        simp only [spec_PrimePlaces.j0, Bool.false_eq_true, if_false]
        exact spec_PrimePlaces_l0 l0 hl8 (pp_range hp) n (by omega) n 1 [] (by omega) (by simp)
      · simp only [impl_PrimePlaces.f]
        refine Evl.bind (isPattern_ev l0 hl) ?_
        simp only [hp, if_true, isMost_eq, decide_eq_true c, Option.bind_some, Bool.not_true, impl_PrimePlaces.j0, Bool.false_eq_true, if_false]
        refine Evl.bind (upTo_ev n (by omega)) ?_
        refine Evl.bind (flt_ev l0 (pp_range hp) _ fun x hx => by have := iot_mem _ _ _ hx; omega) ?_
        exact Evl.ret _
    · refine ⟨[], false, ?_, ?_, by simp⟩
      · simp only [spec_PrimePlaces.f]
        refine Evl.bind (reGood_ev l0 hl) ?_
        simp only [hp, if_true, l1In_eq, decide_eq_false c, Option.bind_some, Bool.not_false]
        exact no
      · simp only [impl_PrimePlaces.f]
        refine Evl.bind (isPattern_ev l0 hl) ?_
        simp only [hp, if_true, isMost_eq, decide_eq_false c, Option.bind_some, Bool.not_false, impl_PrimePlaces.j0]
        exact Evl.ret _

end Go.Proofs.Ytgoldeagghadhaa.L
