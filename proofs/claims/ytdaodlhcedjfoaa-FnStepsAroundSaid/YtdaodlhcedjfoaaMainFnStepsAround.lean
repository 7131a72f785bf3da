/- the law of longest steps, sizes and counts of steps, wheels rolled by primes, symmetric ones and runs of steps, for all that is drawn: what both functions compute. No condition beyond 64 bits and the lengths that the statement's guards give. -/
import Derived.Test.YtdaodlhcedjfoaaPx0
import Derived.Test.YtdaodlhcedjfoaaPx3
import Derived.Test.YtdaodlhcedjfoaaPx8
import Derived.Test.YtdaodlhcedjfoaaPx5
import Derived.Test.YtdaodlhcedjfoaaPx1
import Derived.Test.YtdaodlhcedjfoaaPx4
import Derived.Test.YtdaodlhcedjfoaaPx2
import Derived.Test.YtdaodlhcedjfoaaPx6
import Derived.Test.YtdaodlhcedjfoaaPx7
import Derived.Test.YtdaodlhcedjfoaaPx9
import Derived.Test.YtdaodlhcedjfoaaPx10
import Derived.Test.YtdaodlhcedjfoaaPx11
import Derived.Test.YtdaodlhcedjfoaaPx12
import Derived.Test.YtdaodlhcedjfoaaPx13
import Derived.Lib.SlicesCompact
import Derived.Lib.RowBridge
import Derived.Laws.Bits64b
import Derived.Test.YtdaodlhcedjfoaaPx14
/-! ## L0 -/
namespace Go.Proofs.Ytdaodlhcedjfoaa.L
open Go.RowKit Go.Proofs.YtdaodlhcedjfoaaW.PrintWords
set_option linter.unusedVariables false
set_option linter.unusedSimpArgs false

/-- With enough rounds g tells r. -/
def Evl {α : Type} (g : Nat → Option α) (r : α) : Prop := ∃ K, ∀ k, K ≤ k → g k = some r
theorem Evl.ret {α : Type} (r : α) : Evl (fun _ => some r) r := ⟨0, fun _ _ => rfl⟩
theorem Evl.bind {α β : Type} {g : Nat → Option α} {f : Nat → α → Option β} {a : α} {r : β} (h : Evl g a) (h2 : Evl (fun k => f k a) r) : Evl (fun k => (g k).bind (f k)) r := by
 obtain ⟨K, hK⟩ := h
 obtain ⟨K2, hK2⟩ := h2
 refine ⟨max K K2, fun k hk => ?_⟩
 show (g k).bind (f k) = some r
 rw [hK k (Nat.le_trans (Nat.le_max_left _ _) hk), Option.bind_some]
 exact hK2 k (Nat.le_trans (Nat.le_max_right _ _) hk)
theorem Evl.succ {α : Type} {g : Nat → Option α} {r : α} (h : Evl (fun k => g (k + 1)) r) : Evl g r := by
 obtain ⟨K, hK⟩ := h
 refine ⟨K + 1, fun k hk => ?_⟩
 obtain ⟨m, rfl⟩ : ∃ m, k = m + 1 := ⟨k - 1, by omega⟩
 exact hK m (by omega)
theorem Evl.get {α : Type} {g : Nat → Option α} {r : α} (h : Evl g r) : ∃ k, g k = some r := by
 obtain ⟨K, hK⟩ := h
 exact ⟨K, hK K (Nat.le_refl _)⟩
theorem Evl.cast {α : Type} {g : Nat → Option α} {r r' : α} (h : Evl g r) (e : r = r') : Evl g r' := e ▸ h

theorem w64 {x : Int} (h0 : -9223372036854775808 ≤ x) (h1 : x ≤ 9223372036854775807) : wrap64 x = x := by
 unfold wrap64
 omega
theorem drop_nil {α : Type} {xs : List α} {i : Nat} (h : xs.drop i = []) : xs.length ≤ i := by
 simpa using h
theorem drop_cons {α : Type} {xs s : List α} {x : α} {i : Nat} (h : xs.drop i = x :: s) : i < xs.length ∧ xs[i]? = some x ∧ xs.drop (i + 1) = s := by
 have hl : i < xs.length := by
  rcases Nat.lt_or_ge i xs.length with h1 | h1
  ·exact h1
  ·rw [List.drop_of_length_le h1] at h
   cases h
 rw [List.drop_eq_getElem_cons hl] at h
 injection h with h1 h2
 exact ⟨hl, by rw [List.getElem?_eq_getElem hl, h1], h2⟩
theorem rd_of {xs : List Int} {i : Nat} {x : Int} (h : xs[i]? = some x) : rd xs (i : Int) = x := by
 unfold rd
 rw [Int.toNat_natCast, List.getD_eq_getElem?_getD, h]
 rfl
theorem rd_nat {xs : List Int} {i : Nat} (h : i < xs.length) : rd xs (i : Int) = xs[i] := rd_of (List.getElem?_eq_getElem h)

end Go.Proofs.Ytdaodlhcedjfoaa.L

/-! ## E0 -/

namespace Go.Proofs.Ytdaodlhcedjfoaa.L
open Go.RowKit Go.Proofs.YtdaodlhcedjfoaaW.PrintWords Go.Proofs.Ytdaodlhcedjfoaa.P
set_option linter.unusedVariables false
set_option linter.unusedSimpArgs false

end Go.Proofs.Ytdaodlhcedjfoaa.L

/-! ## M1 -/
namespace Go.Proofs.Ytdaodlhcedjfoaa.M
set_option linter.unusedVariables false
set_option linter.unusedSimpArgs false

def lfAux : Nat → Nat → Nat → Nat
 | 0, _, n => n
 | f + 1, d, n => if n % d = 0 then d else lfAux f (d + 1) n
/-- The least divisor of at least 2. -/
def lf (n : Nat) : Nat := lfAux n 2 n
def isP (n : Nat) : Bool := decide (2 ≤ n) && decide (lf n = n)

structure Least (n r : Nat) : Prop where
 two : 2 ≤ r
 le : r ≤ n
 div : n % r = 0
 least : ∀ d, 2 ≤ d → d < r → n % d ≠ 0

theorem lfAux_least : ∀ (f d n : Nat), 2 ≤ d → d ≤ n → n < d + f → (∀ e, 2 ≤ e → e < d → n % e ≠ 0) → Least n (lfAux f d n)
 | 0, d, n, _, h1, h2, _ => by omega
 | f + 1, d, n, h0, h1, h2, h3 => by
  unfold lfAux
  by_cases h : n % d = 0
  ·rw [if_pos h]
   exact ⟨h0, h1, h, h3⟩
  ·rw [if_neg h]
   have hne : d ≠ n := fun e => h (by rw [e]; exact Nat.mod_self n)
   refine lfAux_least f (d + 1) n (by omega) (by omega) (by omega) (fun e he hl => ?_)
   by_cases hed : e = d
   ·rw [hed]; exact h
   ·exact h3 e he (by omega)
theorem lf_least {n : Nat} (h : 2 ≤ n) : Least n (lf n) := lfAux_least n 2 n (by omega) h (by omega) (fun e h1 h2 => by omega)
theorem Least.uniq {n r s : Nat} (h : Least n r) (h' : Least n s) : r = s := by
 rcases Nat.lt_trichotomy r s with h1 | h1 | h1
 ·exact absurd h.div (h'.least r h.two h1)
 ·exact h1
 ·exact absurd h'.div (h.least s h'.two h1)
theorem lf_eq {n r : Nat} (hn : 2 ≤ n) (h : Least n r) : lf n = r := (lf_least hn).uniq h

theorem split_mod {n r : Nat} (h : n % r = 0) : n = r * (n / r) := by
 have := Nat.div_add_mod n r
 rw [h] at this
 omega

/-- No divisor up to the root: the number itself. -/
theorem lf_root {n d : Nat} (hn : 2 ≤ n) (hd : ∀ e, 2 ≤ e → e < d → n % e ≠ 0) (hr : n < d * d) : lf n = n := by
 have h := lf_least hn
 rcases Nat.lt_or_ge (lf n) n with hl | hl
 ·exfalso
  have hq := split_mod h.div
  generalize hqe : n / lf n = q at hq
  have hq2 : 2 ≤ q := by
   rcases Nat.lt_or_ge q 2 with h1 | h1
   ·have : q = 0 ∨ q = 1 := by omega
    rcases this with rfl | rfl
    ·omega
    ·omega
   ·exact h1
  have hqm : n % q = 0 := by
   have e : n % q = (lf n * q) % q := by rw [← hq]
   rw [e]; exact Nat.mul_mod_left _ _
  have hlq : lf n ≤ q := by
   rcases Nat.lt_or_ge q (lf n) with h1 | h1
   ·exact absurd hqm (h.least q hq2 h1)
   ·exact h1
  have hdl : d ≤ lf n := by
   rcases Nat.lt_or_ge (lf n) d with h1 | h1
   ·exact absurd h.div (hd _ h.two h1)
   ·exact h1
  have : d * d ≤ lf n * q := Nat.mul_le_mul hdl (Nat.le_trans hdl hlq)
  omega
 ·have := h.le
  omega

theorem isP_iff {n : Nat} : isP n = true ↔ 2 ≤ n ∧ lf n = n := by
 simp [isP]
theorem isP_two {n : Nat} (h : isP n = true) : 2 ≤ n := (isP_iff.1 h).1
theorem isP_least {n : Nat} (h : isP n = true) : Least n n := by
 obtain ⟨h2, he⟩ := isP_iff.1 h
 have := lf_least h2
 rwa [he] at this
theorem isP_no {n d : Nat} (h : isP n = true) (h2 : 2 ≤ d) (hl : d < n) : n % d ≠ 0 := (isP_least h).least d h2 hl
/-- Of a divisor of a prime there are two. -/
theorem isP_dvd {p d : Nat} (h : isP p = true) (hd : d ∣ p) : d = 1 ∨ d = p := by
 have hp := isP_two h
 have hm := Nat.mod_eq_zero_of_dvd hd
 rcases Nat.lt_or_ge d 2 with h1 | h1
 ·have : d = 0 ∨ d = 1 := by omega
  rcases this with rfl | rfl
  ·rw [Nat.mod_zero] at hm; omega
  ·exact .inl rfl
 ·rcases Nat.lt_or_ge d p with h3 | h3
  ·exact absurd hm (isP_no h h1 h3)
  ·exact .inr (Nat.le_antisymm (Nat.le_of_dvd (by omega) hd) h3)
/-! ### factors -/
end Go.Proofs.Ytdaodlhcedjfoaa.M

/-! ## E1 -/
namespace Go.Proofs.Ytdaodlhcedjfoaa.L
open Go.RowKit Go.Proofs.YtdaodlhcedjfoaaW.PrintWords Go.Proofs.Ytdaodlhcedjfoaa.P Go.Proofs.Ytdaodlhcedjfoaa.M
set_option linter.unusedVariables false
set_option linter.unusedSimpArgs false

/-- The same of whatever whole number. -/
def isPI (a : Int) : Bool := isP a.toNat
theorem isPI_nat (n : Nat) : isPI (n : Int) = isP n := by unfold isPI; rw [Int.toNat_natCast]
theorem isPI_neg {a : Int} (h : a < 2) : isPI a = false := by
 unfold isPI isP
 rw [decide_eq_false (by omega)]
 rfl

theorem spec_prLeast_l0 (n : Nat) (hn : 2 ≤ n) (hb : n ≤ 2000000000) : ∀ (m d : Nat), m + d = 50000 → 2 ≤ d → (∀ e, 2 ≤ e → e < d → n % e ≠ 0) → Evl (fun k => spec_prLeast.l0 k (n : Int) (d : Int)) (lf n : Int) := by
 intro m
 induction m with
 | zero =>
  intro d hd h2 hno
  obtain rfl : d = 50000 := by omega
  refine Evl.succ ?_
  have h1 : ¬ wrap64 (((50000 : Nat) : Int) * ((50000 : Nat) : Int)) ≤ (n : Int) := by rw [w64 (by omega) (by omega)]; omega
  simp only [spec_prLeast.l0, if_neg h1]
  rw [lf_root hn hno (by omega)]
  exact Evl.ret _
 | succ m ih =>
  intro d hd h2 hno
  have hdd : d * d ≤ 50000 * 50000 := Nat.mul_le_mul (by omega) (by omega)
  have hw : wrap64 ((d : Int) * (d : Int)) = ((d * d : Nat) : Int) := by rw [← Int.natCast_mul]; exact w64 (by omega) (by omega)
  have hw1 : wrap64 ((d : Int) + 1) = ((d + 1 : Nat) : Int) := by rw [w64 (by omega) (by omega)]; rfl
  refine Evl.succ ?_
  by_cases hr : d * d ≤ n
  ·have h1 : ((d * d : Nat) : Int) ≤ (n : Int) := Int.ofNat_le.2 hr
   have h3 : ¬ (d : Int) = 0 := by omega
   have ht : Int.tmod (n : Int) (d : Int) = ((n % d : Nat) : Int) := rfl
   by_cases hm : n % d = 0
   ·have h4 : ((n % d : Nat) : Int) = 0 := by rw [hm]; rfl
    simp only [spec_prLeast.l0, hw, if_pos h1, if_neg h3, ht, if_pos h4]
    rw [lf_eq hn ⟨h2, Nat.le_trans (Nat.le_mul_self d) hr, hm, hno⟩]
    exact Evl.ret _
   ·have h4 : ¬ ((n % d : Nat) : Int) = 0 := by omega
    simp only [spec_prLeast.l0, hw, if_pos h1, if_neg h3, ht, if_neg h4, hw1]
    refine ih (d + 1) (by omega) (by omega) (fun e he hl => ?_)
    by_cases hed : e = d
    ·rw [hed]; exact hm
    ·exact hno e he (by omega)
  ·have h1 : ¬ ((d * d : Nat) : Int) ≤ (n : Int) := fun h => hr (Int.ofNat_le.1 h)
   simp only [spec_prLeast.l0, hw, if_neg h1]
   rw [lf_root hn hno (by omega)]
   exact Evl.ret _
theorem spec_prLeast_ev (n : Nat) (hn : 2 ≤ n) (hb : n ≤ 2000000000) : Evl (fun k => spec_prLeast.f k (n : Int)) (lf n : Int) := by
 simp only [spec_prLeast.f]
 exact spec_prLeast_l0 n hn hb 49998 2 rfl (by omega) (fun e h1 h2 => by omega)
theorem spec_prIs_ev (a : Int) (hb : a ≤ 2000000000) : Evl (fun k => spec_prIs.f k a) (isPI a) := by
 by_cases h : a ≥ 2
 ·obtain ⟨n, rfl⟩ := Int.eq_ofNat_of_zero_le (show 0 ≤ a by omega)
  simp only [spec_prIs.f, if_pos h]
  refine Evl.bind (spec_prLeast_ev n (by omega) (by omega)) ?_
  refine (Evl.ret _).cast ?_
  rw [isPI_nat]
  unfold isP
  rw [decide_eq_true (show 2 ≤ n by omega), Bool.true_and]
  by_cases e : lf n = n
  ·rw [decide_eq_true e, e]
   exact beq_self_eq_true _
  ·rw [decide_eq_false e]
   exact beq_eq_false_iff_ne.2 (by omega)
 ·simp only [spec_prIs.f, if_neg h]
  rw [isPI_neg (by omega)]
  exact Evl.ret _

theorem impl_leastFactor_l0 (n : Nat) (hn : 2 ≤ n) (hb : n ≤ 2000000000) : ∀ (m d : Nat), m + d = 50000 → 2 ≤ d → (∀ e, 2 ≤ e → e < d → n % e ≠ 0) → Evl (fun k => impl_leastFactor.l0 k (n : Int) (d : Int)) (lf n : Int) := by
 intro m
 induction m with
 | zero =>
  intro d hd h2 hno
  obtain rfl : d = 50000 := by omega
  refine Evl.succ ?_
  have h1 : ¬ wrap64 (((50000 : Nat) : Int) * ((50000 : Nat) : Int)) ≤ (n : Int) := by rw [w64 (by omega) (by omega)]; omega
  simp only [impl_leastFactor.l0, if_neg h1]
  rw [lf_root hn hno (by omega)]
  exact Evl.ret _
 | succ m ih =>
  intro d hd h2 hno
  have hdd : d * d ≤ 50000 * 50000 := Nat.mul_le_mul (by omega) (by omega)
  have hw : wrap64 ((d : Int) * (d : Int)) = ((d * d : Nat) : Int) := by rw [← Int.natCast_mul]; exact w64 (by omega) (by omega)
  have hw1 : wrap64 ((d : Int) + 1) = ((d + 1 : Nat) : Int) := by rw [w64 (by omega) (by omega)]; rfl
  refine Evl.succ ?_
  by_cases hr : d * d ≤ n
  ·have h1 : ((d * d : Nat) : Int) ≤ (n : Int) := Int.ofNat_le.2 hr
   have h3 : ¬ (d : Int) = 0 := by omega
   have ht : Int.tmod (n : Int) (d : Int) = ((n % d : Nat) : Int) := rfl
   by_cases hm : n % d = 0
   ·have h4 : ((n % d : Nat) : Int) = 0 := by rw [hm]; rfl
    simp only [impl_leastFactor.l0, hw, if_pos h1, if_neg h3, ht, if_pos h4]
    rw [lf_eq hn ⟨h2, Nat.le_trans (Nat.le_mul_self d) hr, hm, hno⟩]
    exact Evl.ret _
   ·have h4 : ¬ ((n % d : Nat) : Int) = 0 := by omega
    simp only [impl_leastFactor.l0, hw, if_pos h1, if_neg h3, ht, if_neg h4, hw1]
    refine ih (d + 1) (by omega) (by omega) (fun e he hl => ?_)
    by_cases hed : e = d
    ·rw [hed]; exact hm
    ·exact hno e he (by omega)
  ·have h1 : ¬ ((d * d : Nat) : Int) ≤ (n : Int) := fun h => hr (Int.ofNat_le.1 h)
   simp only [impl_leastFactor.l0, hw, if_neg h1]
   rw [lf_root hn hno (by omega)]
   exact Evl.ret _
theorem impl_leastFactor_ev (n : Nat) (hn : 2 ≤ n) (hb : n ≤ 2000000000) : Evl (fun k => impl_leastFactor.f k (n : Int)) (lf n : Int) := by
 simp only [impl_leastFactor.f]
 exact impl_leastFactor_l0 n hn hb 49998 2 rfl (by omega) (fun e h1 h2 => by omega)
theorem impl_isPrime_ev (a : Int) (hb : a ≤ 2000000000) : Evl (fun k => impl_isPrime.f k a) (isPI a) := by
 by_cases h : a ≥ 2
 ·obtain ⟨n, rfl⟩ := Int.eq_ofNat_of_zero_le (show 0 ≤ a by omega)
  simp only [impl_isPrime.f, if_pos h]
  refine Evl.bind (impl_leastFactor_ev n (by omega) (by omega)) ?_
  refine (Evl.ret _).cast ?_
  rw [isPI_nat]
  unfold isP
  rw [decide_eq_true (show 2 ≤ n by omega), Bool.true_and]
  by_cases e : lf n = n
  ·rw [decide_eq_true e, e]
   exact beq_self_eq_true _
  ·rw [decide_eq_false e]
   exact beq_eq_false_iff_ne.2 (by omega)
 ·simp only [impl_isPrime.f, if_neg h]
  rw [isPI_neg (by omega)]
  exact Evl.ret _

end Go.Proofs.Ytdaodlhcedjfoaa.L

/-! ## E2 -/

namespace Go.Proofs.Ytdaodlhcedjfoaa.L
open Go.RowKit Go.Proofs.YtdaodlhcedjfoaaW.PrintWords Go.Proofs.Ytdaodlhcedjfoaa.P Go.Proofs.Ytdaodlhcedjfoaa.M
set_option linter.unusedVariables false
set_option linter.unusedSimpArgs false

/-- The primes among m numbers from n on. -/
def pl : Nat → Int → List Int
 | 0, _ => []
 | m + 1, n => if isPI n = true then n :: pl m (n + 1) else pl m (n + 1)
end Go.Proofs.Ytdaodlhcedjfoaa.L

/-! ## E3 -/

namespace Go.Proofs.Ytdaodlhcedjfoaa.L
open Go.RowKit Go.Proofs.YtdaodlhcedjfoaaW.PrintWords Go.Proofs.Ytdaodlhcedjfoaa.P Go.Proofs.Ytdaodlhcedjfoaa.M
set_option linter.unusedVariables false
set_option linter.unusedSimpArgs false

end Go.Proofs.Ytdaodlhcedjfoaa.L

/-! ## E4 -/
namespace Go.Proofs.Ytdaodlhcedjfoaa.L
open Go.RowKit Go.Proofs.YtdaodlhcedjfoaaW.PrintWords Go.Proofs.Ytdaodlhcedjfoaa.P Go.Proofs.Ytdaodlhcedjfoaa.M
set_option linter.unusedVariables false
set_option linter.unusedSimpArgs false

theorem l1In_eq (a lo hi : Int) : spec_l1In.f a lo hi = some (decide (lo ≤ a ∧ a ≤ hi)) := by
 unfold spec_l1In.f
 by_cases h : a ≥ lo
 ·rw [if_pos h]
  by_cases h2 : a ≤ hi
  ·rw [decide_eq_true h2, decide_eq_true ⟨h, h2⟩]
  ·rw [decide_eq_false h2, decide_eq_false (fun c => h2 c.2)]
 ·rw [if_neg h, decide_eq_false (fun c => h c.1)]

end Go.Proofs.Ytdaodlhcedjfoaa.L

/-! ## M2 -/
namespace Go.Proofs.Ytdaodlhcedjfoaa.M
set_option linter.unusedVariables false
set_option linter.unusedSimpArgs false

/-- A rule: every, rest. -/
abbrev Ru := Int × Int
def okR (r : Ru) : Bool := decide (2 ≤ r.1 ∧ r.1 ≤ 60 ∧ 0 ≤ r.2 ∧ r.2 < r.1)
def good (rs : List Ru) : Bool := decide (rs.length ≤ 12) && rs.all okR
def left (rs : List Ru) (n : Int) : Bool := rs.all fun r => decide (n % r.1 ≠ r.2)
theorem good_len {rs : List Ru} (h : good rs = true) : rs.length ≤ 12 := by
 unfold good at h
 rw [Bool.and_eq_true] at h
 exact of_decide_eq_true h.1
theorem good_ok {rs : List Ru} (h : good rs = true) {r : Ru} (hr : r ∈ rs) : 2 ≤ r.1 ∧ r.1 ≤ 60 ∧ 0 ≤ r.2 ∧ r.2 < r.1 := by
 unfold good at h
 rw [Bool.and_eq_true] at h
 exact of_decide_eq_true (List.all_eq_true.1 h.2 r hr)
/-- The numbers among m from n on that are left. -/
def lb (rs : List Ru) : Nat → Int → List Int
 | 0, _ => []
 | m + 1, n => if left rs n = true then n :: lb rs m (n + 1) else lb rs m (n + 1)
theorem lb_length (rs : List Ru) : ∀ (m : Nat) (n : Int), (lb rs m n).length ≤ m
 | 0, _ => Nat.le_refl _
 | m + 1, n => by
  unfold lb
  have := lb_length rs m (n + 1)
  split
  ·rw [List.length_cons]; omega
  ·omega
theorem lb_mem (rs : List Ru) : ∀ (m : Nat) (n x : Int), x ∈ lb rs m n ↔ n ≤ x ∧ x < n + m ∧ left rs x = true
 | 0, n, x => by
  unfold lb
  constructor
  ·intro h; cases h
  ·intro h; omega
 | m + 1, n, x => by
  unfold lb
  have ih := lb_mem rs m (n + 1) x
  by_cases h : left rs n = true
  ·rw [if_pos h, List.mem_cons, ih]
   constructor
   ·rintro (rfl | h1)
    ·exact ⟨Int.le_refl _, by omega, h⟩
    ·exact ⟨by omega, by omega, h1.2.2⟩
   ·rintro ⟨h1, h2, h3⟩
    by_cases e : x = n
    ·exact .inl e
    ·exact .inr ⟨by omega, by omega, h3⟩
  ·rw [if_neg h, ih]
   constructor
   ·rintro ⟨h1, h2, h3⟩
    exact ⟨by omega, by omega, h3⟩
   ·rintro ⟨h1, h2, h3⟩
    have e : x ≠ n := fun e => h (e ▸ h3)
    exact ⟨by omega, by omega, h3⟩
theorem lb_sorted (rs : List Ru) : ∀ (m : Nat) (n : Int), (lb rs m n).Pairwise (· < ·)
 | 0, _ => List.Pairwise.nil
 | m + 1, n => by
  unfold lb
  have ih := lb_sorted rs m (n + 1)
  split
  ·refine List.Pairwise.cons (fun x hx => ?_) ih
   have := (lb_mem rs m (n + 1) x).1 hx
   omega
  ·exact ih
theorem lb_append (rs : List Ru) : ∀ (m k : Nat) (n : Int), lb rs (m + k) n = lb rs m n ++ lb rs k (n + m)
 | 0, k, n => by simp [lb]
 | m + 1, k, n => by
  have ih := lb_append rs m k (n + 1)
  rw [show m + 1 + k = (m + k) + 1 by omega]
  simp only [lb]
  rw [ih, show n + 1 + (m : Int) = n + ((m + 1 : Nat) : Int) by omega]
  split <;> rfl

/-- The period of rules, if it is not too great. -/
def per : Nat → List Ru → Option Nat
 | p, [] => some p
 | p, r :: rs => if 100000 < p / Nat.gcd p r.1.toNat * r.1.toNat then none else per (p / Nat.gcd p r.1.toNat * r.1.toNat) rs
theorem lcm_eq (p e : Nat) : p / Nat.gcd p e * e = Nat.lcm p e := by
 unfold Nat.lcm
 rw [Nat.div_mul_right_comm (Nat.gcd_dvd_left p e)]
theorem per_spec : ∀ (rs : List Ru) (p P : Nat), 1 ≤ p → p ≤ 100000 → (∀ r ∈ rs, 1 ≤ r.1) → per p rs = some P → 1 ≤ P ∧ P ≤ 100000 ∧ p ∣ P ∧ ∀ r ∈ rs, r.1.toNat ∣ P
 | [], p, P, h1, h2, _, h => by
  injection h with h
  subst h
  exact ⟨h1, h2, Nat.dvd_refl _, fun r hr => absurd hr (by simp)⟩
 | r :: rs, p, P, h1, h2, hr, h => by
  unfold per at h
  have he : 1 ≤ r.1.toNat := by have := hr r (by simp); omega
  by_cases hc : 100000 < p / Nat.gcd p r.1.toNat * r.1.toNat
  ·rw [if_pos hc] at h
   cases h
  ·rw [if_neg hc] at h
   rw [lcm_eq] at h hc
   have hp : 1 ≤ Nat.lcm p r.1.toNat := Nat.lcm_pos (by omega) (by omega)
   obtain ⟨g1, g2, g3, g4⟩ := per_spec rs _ P hp (by omega) (fun q hq => hr q (by simp [hq])) h
   refine ⟨g1, g2, Nat.dvd_trans (Nat.dvd_lcm_left _ _) g3, fun q hq => ?_⟩
   rcases List.mem_cons.1 hq with rfl | hq
   ·exact Nat.dvd_trans (Nat.dvd_lcm_right _ _) g3
   ·exact g4 q hq
/-- The whole period divides whatever all rules' numbers divide. -/
theorem per_dvd : ∀ (rs : List Ru) (p P Q : Nat), per p rs = some P → p ∣ Q → (∀ r ∈ rs, r.1.toNat ∣ Q) → P ∣ Q
 | [], p, P, Q, h, h1, _ => by
  injection h with h
  exact h ▸ h1
 | r :: rs, p, P, Q, h, h1, h2 => by
  unfold per at h
  by_cases hc : 100000 < p / Nat.gcd p r.1.toNat * r.1.toNat
  ·rw [if_pos hc] at h
   cases h
  ·rw [if_neg hc, lcm_eq] at h
   exact per_dvd rs _ P Q h (Nat.lcm_dvd h1 (h2 r (by simp))) (fun q hq => h2 q (by simp [hq]))

theorem left_add {rs : List Ru} {P : Nat} (hd : ∀ r ∈ rs, r.1.toNat ∣ P) (hp : ∀ r ∈ rs, 1 ≤ r.1) (n k : Int) : left rs (n + P * k) = left rs n := by
 unfold left
 have : ∀ (q : List Ru), (∀ r ∈ q, r ∈ rs) → (q.all fun r => decide ((n + P * k) % r.1 ≠ r.2)) = q.all fun r => decide (n % r.1 ≠ r.2) := by
  intro q
  induction q with
  | nil => intro _; rfl
  | cons r q ih =>
   intro hq
   have hr := hq r (by simp)
   obtain ⟨c, hc⟩ := hd r hr
   have h1 := hp r hr
   have e : (P : Int) = r.1 * (c : Int) := by
    rw [hc, Int.natCast_mul, Int.toNat_of_nonneg (by omega)]
   have e2 : (n + P * k) % r.1 = n % r.1 := by
    rw [e, Int.mul_assoc, Int.add_mul_emod_self_left]
   rw [List.all_cons, List.all_cons, ih (fun r hr => hq r (by simp [hr])), e2]
 exact this rs (fun r hr => hr)

/-- A wheel: its period. -/
def whl (rs : List Ru) : Option Nat :=
 if good rs = true then match per 1 rs with
  | none => none
  | some P => if P ≤ 5000 ∧ lb rs P 1 ≠ [] then some P else none
 else none
structure Wheel (rs : List Ru) (P : Nat) : Prop where
 good : good rs = true
 per : per 1 rs = some P
 pos : 1 ≤ P
 most : P ≤ 5000
 dvd : ∀ r ∈ rs, r.1.toNat ∣ P
 some : lb rs P 1 ≠ []
theorem whl_spec {rs : List Ru} {P : Nat} (h : whl rs = some P) : Wheel rs P := by
 unfold whl at h
 by_cases hg : good rs = true
 ·rw [if_pos hg] at h
  cases hp : per 1 rs with
  | none => rw [hp] at h; cases h
  | some Q =>
   rw [hp] at h
   dsimp only at h
   by_cases hc : Q ≤ 5000 ∧ lb rs Q 1 ≠ []
   ·rw [if_pos hc] at h
    injection h with h
    subst h
    obtain ⟨g1, g2, g3, g4⟩ := per_spec rs 1 Q (by omega) (by omega) (fun r hr => by have := good_ok hg hr; omega) hp
    exact ⟨hg, hp, g1, hc.1, g4, hc.2⟩
   ·rw [if_neg hc] at h
    cases h
 ·rw [if_neg hg] at h
  cases h
theorem Wheel.one {rs : List Ru} {P : Nat} (h : Wheel rs P) : ∀ r ∈ rs, 1 ≤ r.1 := fun r hr => by have := good_ok h.good hr; omega
theorem Wheel.add {rs : List Ru} {P : Nat} (h : Wheel rs P) (n k : Int) : left rs (n + P * k) = left rs n := left_add h.dvd h.one n k
theorem Wheel.back {rs : List Ru} {P : Nat} (h : Wheel rs P) (n : Int) : left rs (n - P) = left rs n := by
 have := h.add n (-1)
 rw [show n + (P : Int) * (-1) = n - P by omega] at this
 exact this
theorem Wheel.on {rs : List Ru} {P : Nat} (h : Wheel rs P) (n : Int) : left rs (n + P) = left rs n := by
 have := h.add n 1
 rw [Int.mul_one] at this
 exact this

end Go.Proofs.Ytdaodlhcedjfoaa.M

/-! ## E5 -/
namespace Go.Proofs.Ytdaodlhcedjfoaa.L
open Go.RowKit Go.Proofs.YtdaodlhcedjfoaaW.PrintWords Go.Proofs.Ytdaodlhcedjfoaa.P Go.Proofs.Ytdaodlhcedjfoaa.M
set_option linter.unusedVariables false
set_option linter.unusedSimpArgs false

/-- A rule as a pair. -/
def ru (x : S45) : Ru := (x.f0, x.f1)
def rs (l : List S45) : List Ru := l.map ru
theorem rdT_of {xs : List S45} {i : Nat} {x : S45} (h : xs[i]? = some x) : rd_T45 xs (i : Int) = x := by
 unfold rd_T45
 rw [Int.toNat_natCast, List.getD_eq_getElem?_getD, h]
 rfl
/-- All numbers of rules at least 1 and at most 60. -/
def Sane (l : List S45) : Prop := ∀ x ∈ l, 1 ≤ x.f0 ∧ x.f0 ≤ 60

theorem tmod_range {a b : Int} (hb : 1 ≤ b) : -b < Int.tmod a b ∧ Int.tmod a b < b := by
 rcases Int.le_total 0 a with h | h
 ·rw [Int.tmod_eq_emod_of_nonneg h]
  exact ⟨by have := Int.emod_nonneg a (show b ≠ 0 by omega); omega, Int.emod_lt_of_pos a (by omega)⟩
 ·obtain ⟨c, rfl⟩ : ∃ c, a = -c := ⟨-a, by omega⟩
  rw [Int.neg_tmod, Int.tmod_eq_emod_of_nonneg (show 0 ≤ c by omega)]
  have h1 := Int.emod_nonneg c (show b ≠ 0 by omega)
  have h2 := Int.emod_lt_of_pos c (show 0 < b by omega)
  exact ⟨by omega, by omega⟩
theorem rest_eq {a b : Int} (hb : 1 ≤ b) (hb2 : b ≤ 1000000) : Int.tmod (wrap64 (Int.tmod a b + b)) b = a % b := by
 have hr := tmod_range (a := a) hb
 rw [w64 (by omega) (by omega), Int.tmod_eq_emod_of_nonneg (by omega), Int.tmod_def]
 rw [show a - b * Int.tdiv a b + b = a + b * (1 - Int.tdiv a b) by rw [Int.mul_sub, Int.mul_one]; omega, Int.add_mul_emod_self_left]
theorem impl_mod_eq {a b : Int} (hb : 1 ≤ b) (hb2 : b ≤ 1000000) : impl_mod.f a b = some (a % b) := by
 simp only [impl_mod.f, if_neg (show ¬ b = 0 by omega)]
 rw [rest_eq hb hb2]
theorem spec_siRest_eq {a b : Int} (hb : 1 ≤ b) (hb2 : b ≤ 1000000) : spec_siRest.f a b = some (a % b) := by
 simp only [spec_siRest.f, if_neg (show ¬ b = 0 by omega)]
 rw [rest_eq hb hb2]

/-- The first rule that crosses a number out, told from index i on; -1: none. -/
def fiFrom : List Ru → Int → Int → Int
 | [], _, _ => -1
 | r :: q, n, i => if n % r.1 = r.2 then i else fiFrom q n (i + 1)
theorem fiFrom_neg : ∀ (q : List Ru) (n i : Int), 0 ≤ i → decide (fiFrom q n i < 0) = left q n
 | [], n, i, h => rfl
 | r :: q, n, i, h => by
  unfold fiFrom
  have ih := fiFrom_neg q n (i + 1) (by omega)
  unfold left at ih ⊢
  rw [List.all_cons]
  by_cases c : n % r.1 = r.2
  ·rw [if_pos c, decide_eq_false (show ¬ i < 0 by omega), decide_eq_false (by simp [c]), Bool.false_and]
  ·rw [if_neg c, ih, decide_eq_true (show n % r.1 ≠ r.2 from c), Bool.true_and]
theorem firstRule_go : ∀ (l : List S45) (n i : Int), Sane l → impl_firstRule.go l n i = some (fiFrom (rs l) n i)
 | [], n, i, _ => rfl
 | x :: l, n, i, h => by
  have hx := h x (by simp)
  have ih := firstRule_go l n (i + 1) (fun y hy => h y (by simp [hy]))
  simp only [impl_firstRule.go, impl_mod_eq (a := n) hx.1 (show x.f0 ≤ 1000000 by omega), Option.bind_some, ih]
  unfold rs
  rw [List.map_cons, fiFrom]
  unfold ru
  by_cases c : n % x.f0 = x.f1
  ·rw [if_pos c, if_pos c]
  ·rw [if_neg c, if_neg c]
theorem isLeft_eq {l : List S45} (h : Sane l) (n : Int) : impl_isLeft.f l n = some (left (rs l) n) := by
 simp only [impl_isLeft.f, impl_firstRule.f, firstRule_go l n 0 h, Option.bind_some]
 rw [fiFrom_neg _ _ _ (Int.le_refl 0)]
theorem siFirst_l0 (l : List S45) (h : Sane l) (hl : l.length ≤ 1099511627776) (n : Int) : ∀ (s : List S45) (i : Nat), l.drop i = s → Evl (fun k => spec_siFirst.l0 k n l (l.length : Int) (i : Int)) (fiFrom (rs s) n (i : Int)) := by
 intro s
 induction s with
 | nil =>
  intro i hd
  have hi := drop_nil hd
  refine Evl.succ ?_
  simp only [spec_siFirst.l0, if_neg (show ¬ (i : Int) < (l.length : Int) by omega)]
  exact Evl.ret _
 | cons x s ih =>
  intro i hd
  obtain ⟨hi, hx, hs⟩ := drop_cons hd
  have hsx := h x (List.mem_of_getElem? hx)
  have hw : wrap64 ((i : Int) + 1) = ((i + 1 : Nat) : Int) := by rw [w64 (by omega) (by omega)]; rfl
  refine Evl.succ ?_
  simp only [spec_siFirst.l0, if_pos (show (i : Int) < (l.length : Int) by omega), if_pos (show (0 : Int) ≤ (i : Int) by omega), rdT_of hx, spec_siRest_eq (a := n) hsx.1 (show x.f0 ≤ 1000000 by omega), Option.bind_some, hw]
  have e : fiFrom (rs (x :: s)) n (i : Int) = if n % x.f0 = x.f1 then (i : Int) else fiFrom (rs s) n ((i : Int) + 1) := rfl
  rw [e]
  by_cases c : n % x.f0 = x.f1
  ·simp only [if_pos c]
   exact Evl.ret _
  ·simp only [if_neg c]
   exact ih (i + 1) hs
theorem siLeft_ev {l : List S45} (h : Sane l) (hl : l.length ≤ 1099511627776) (n : Int) : Evl (fun k => spec_siLeft.f k l n) (left (rs l) n) := by
 simp only [spec_siLeft.f, spec_siFirst.f]
 refine Evl.bind (siFirst_l0 l h hl n l 0 rfl) ?_
 rw [← fiFrom_neg (rs l) n 0 (Int.le_refl 0)]
 exact Evl.ret _

/-! ### valid rules -/
theorem isRule_eq (a b : Int) : impl_isRule.f a b = some (okR (a, b)) := by
 unfold impl_isRule.f okR
 by_cases h1 : a ≥ 2
 ·by_cases h2 : a ≤ 60
  ·by_cases h3 : b ≥ 0
   ·rw [if_pos h1, if_pos h2, if_pos h3]
    by_cases h4 : b < a
    ·rw [decide_eq_true h4, decide_eq_true ⟨h1, h2, h3, h4⟩]
    ·rw [decide_eq_false h4, decide_eq_false (fun c => h4 c.2.2.2)]
   ·rw [if_pos h1, if_pos h2, if_neg h3, decide_eq_false (fun c => h3 c.2.2.1)]
  ·rw [if_pos h1, if_neg h2, decide_eq_false (fun c => h2 c.2.1)]
 ·rw [if_neg h1, decide_eq_false (fun c => h1 c.1)]
theorem siRule_eq (a b : Int) : spec_siRule.f a b = some (okR (a, b)) := by
 unfold spec_siRule.f okR
 rw [l1In_eq, Option.bind_some]
 by_cases h1 : 2 ≤ a ∧ a ≤ 60
 ·rw [decide_eq_true h1, if_pos rfl, l1In_eq, Option.bind_some, w64 (by omega) (by omega)]
  by_cases h2 : 0 ≤ b ∧ b ≤ a - 1
  ·rw [decide_eq_true h2, decide_eq_true (by omega)]
  ·rw [decide_eq_false h2, decide_eq_false (by omega)]
 ·rw [decide_eq_false h1, if_neg (by simp), decide_eq_false (fun c => h1 ⟨c.1, c.2.1⟩)]
theorem areRules_go : ∀ (l : List S45) (i : Int), 0 ≤ i → ∃ r, impl_areRules.go l i = some r ∧ (!(decide (0 ≤ r))) = (rs l).all okR
 | [], i, _ => ⟨-1, rfl, rfl⟩
 | x :: l, i, h => by
  have e : rs (x :: l) = ru x :: rs l := rfl
  simp only [impl_areRules.go, isRule_eq, Option.bind_some]
  rw [e, List.all_cons]
  cases c : okR (x.f0, x.f1) with
  | true =>
   simp only [if_true]
   obtain ⟨r, h1, h2⟩ := areRules_go l (i + 1) (by omega)
   refine ⟨r, h1, ?_⟩
   rw [h2, show okR (ru x) = true from c, Bool.true_and]
  | false =>
   simp only [Bool.false_eq_true, if_false]
   refine ⟨i, rfl, ?_⟩
   rw [show okR (ru x) = false from c, Bool.false_and, decide_eq_true h]
   rfl
theorem rs_length (l : List S45) : (rs l).length = l.length := by unfold rs; exact List.length_map ..
theorem areRules_eq (l : List S45) : impl_areRules.f l = some (good (rs l)) := by
 unfold impl_areRules.f good
 rw [rs_length]
 by_cases h : l.length ≤ 12
 ·obtain ⟨r, h1, h2⟩ := areRules_go l 0 (Int.le_refl 0)
  rw [if_pos (show (l.length : Int) ≤ 12 by omega), h1, Option.bind_some, h2, decide_eq_true h, Bool.true_and]
 ·rw [if_neg (show ¬ (l.length : Int) ≤ 12 by omega), decide_eq_false h, Bool.false_and]
theorem siGood_l0 (l : List S45) (hl : l.length ≤ 12) : ∀ (s : List S45) (i : Nat), l.drop i = s → Evl (fun k => spec_siGood.l0 k l (l.length : Int) (i : Int)) ((rs s).all okR) := by
 intro s
 induction s with
 | nil =>
  intro i hd
  have hi := drop_nil hd
  refine Evl.succ ?_
  simp only [spec_siGood.l0, if_neg (show ¬ (i : Int) < (l.length : Int) by omega)]
  exact Evl.ret _
 | cons x s ih =>
  intro i hd
  obtain ⟨hi, hx, hs⟩ := drop_cons hd
  have hw : wrap64 ((i : Int) + 1) = ((i + 1 : Nat) : Int) := by rw [w64 (by omega) (by omega)]; rfl
  have e : rs (x :: s) = ru x :: rs s := rfl
  refine Evl.succ ?_
  simp only [spec_siGood.l0, if_pos (show (i : Int) < (l.length : Int) by omega), if_pos (show (0 : Int) ≤ (i : Int) by omega), rdT_of hx, siRule_eq, Option.bind_some, hw]
  rw [e, List.all_cons]
  cases c : okR (x.f0, x.f1) with
  | true =>
   simp only [if_true]
   refine (ih (i + 1) hs).cast ?_
   rw [show okR (ru x) = true from c, Bool.true_and]
  | false =>
   simp only [Bool.false_eq_true, if_false]
   refine (Evl.ret _).cast ?_
   rw [show okR (ru x) = false from c, Bool.false_and]
theorem siGood_ev (l : List S45) : Evl (fun k => spec_siGood.f k l) (good (rs l)) := by
 unfold good
 rw [rs_length]
 by_cases h : l.length ≤ 12
 ·simp only [spec_siGood.f, if_neg (show ¬ (l.length : Int) > 12 by omega)]
  rw [decide_eq_true h, Bool.true_and]
  exact siGood_l0 l h l 0 rfl
 ·simp only [spec_siGood.f, if_pos (show (l.length : Int) > 12 by omega)]
  rw [decide_eq_false h, Bool.false_and]
  exact Evl.ret _
theorem sane_of_good {l : List S45} (h : good (rs l) = true) : Sane l := fun x hx => by
 have := good_ok h (r := ru x) (List.mem_map.2 ⟨x, hx, rfl⟩)
 exact ⟨by have := this.1; unfold ru at this; omega, this.2.1⟩
theorem len_of_good {l : List S45} (h : good (rs l) = true) : l.length ≤ 12 := by
 have := good_len h
 rwa [rs_length] at this

end Go.Proofs.Ytdaodlhcedjfoaa.L

/-! ## E6 -/
namespace Go.Proofs.Ytdaodlhcedjfoaa.L
open Go.RowKit Go.Proofs.YtdaodlhcedjfoaaW.PrintWords Go.Proofs.Ytdaodlhcedjfoaa.P Go.Proofs.Ytdaodlhcedjfoaa.M
set_option linter.unusedVariables false
set_option linter.unusedSimpArgs false

theorem leftBetween_l0 (l : List S45) (h : Sane l) (hi : Int) (hh : hi ≤ 2000000000) : ∀ (m : Nat) (n : Int) (acc : List Int), -2000000000 ≤ n → (m : Int) = hi + 1 - n → acc.length + m ≤ 10000000000 → Evl (fun k => impl_leftBetween.l0 k l hi acc n) (acc ++ lb (rs l) m n) := by
 intro m
 induction m with
 | zero =>
  intro n acc h0 hm hb
  refine Evl.succ ?_
  simp only [impl_leftBetween.l0, if_neg (show ¬ n ≤ hi by omega)]
  refine (Evl.ret _).cast ?_
  simp [lb]
 | succ m ih =>
  intro n acc h0 hm hb
  have hw : wrap64 (n + 1) = n + 1 := w64 (by omega) (by omega)
  refine Evl.succ ?_
  simp only [impl_leftBetween.l0, if_pos (show n ≤ hi by omega), isLeft_eq h, Option.bind_some, hw]
  unfold lb
  by_cases hp : left (rs l) n = true
  ·simp only [if_pos hp, if_pos (show acc.length < 17592186044416 by omega)]
   refine (ih (n + 1) (acc ++ [n]) (by omega) (by omega) (by rw [List.length_append]; simp; omega)).cast ?_
   simp
  ·simp only [if_neg hp]
   exact ih (n + 1) acc (by omega) (by omega) (by omega)
theorem leftBetween_ev {l : List S45} (h : Sane l) (lo hi : Int) (h0 : -2000000000 ≤ lo) (hh : hi ≤ 2000000000) : Evl (fun k => impl_leftBetween.f k l lo hi) (lb (rs l) (hi + 1 - lo).toNat lo) := by
 simp only [impl_leftBetween.f]
 rcases Int.lt_or_le hi lo with c | c
 ·refine Evl.succ ?_
  simp only [impl_leftBetween.l0, if_neg (show ¬ lo ≤ hi by omega)]
  rw [show (hi + 1 - lo).toNat = 0 by omega]
  exact Evl.ret _
 ·exact leftBetween_l0 l h hi hh (hi + 1 - lo).toNat lo [] h0 (by omega) (by simp; omega)
theorem whSpokes_l0 (l : List S45) (h : Sane l) (hl : l.length ≤ 1099511627776) (hi : Int) (hh : hi ≤ 2000000000) : ∀ (m : Nat) (n : Int) (acc : List Int), -2000000000 ≤ n → (m : Int) = hi + 1 - n → acc.length + m ≤ 10000000000 → Evl (fun k => spec_whSpokes.l0 k l hi acc n) (acc ++ lb (rs l) m n) := by
 intro m
 induction m with
 | zero =>
  intro n acc h0 hm hb
  refine Evl.succ ?_
  simp only [spec_whSpokes.l0, if_neg (show ¬ n ≤ hi by omega)]
  refine (Evl.ret _).cast ?_
  simp [lb]
 | succ m ih =>
  intro n acc h0 hm hb
  have hw : wrap64 (n + 1) = n + 1 := w64 (by omega) (by omega)
  refine Evl.succ ?_
  simp only [spec_whSpokes.l0, if_pos (show n ≤ hi by omega), hw]
  refine Evl.bind (siLeft_ev h hl n) ?_
  unfold lb
  by_cases hp : left (rs l) n = true
  ·simp only [if_pos hp, if_pos (show acc.length < 17592186044416 by omega)]
   refine (ih (n + 1) (acc ++ [n]) (by omega) (by omega) (by rw [List.length_append]; simp; omega)).cast ?_
   simp
  ·simp only [if_neg hp]
   exact ih (n + 1) acc (by omega) (by omega) (by omega)
theorem whSpokes_ev {l : List S45} (h : Sane l) (hl : l.length ≤ 1099511627776) (P : Nat) (hp : P ≤ 100000) : Evl (fun k => spec_whSpokes.f k l (P : Int)) (lb (rs l) P 1) := by
 simp only [spec_whSpokes.f]
 exact whSpokes_l0 l h hl (P : Int) (by omega) P 1 [] (by omega) (by omega) (by simp; omega)

/-! ### periods -/
theorem impl_gcd_l0 : ∀ (b a : Nat), Evl (fun k => impl_gcd.l0 k (a : Int) (b : Int)) ((Nat.gcd a b : Nat) : Int) := by
 intro b
 induction b using Nat.strongRecOn with
 | ind b ih =>
  intro a
  refine Evl.succ ?_
  rcases Nat.eq_zero_or_pos b with h | h
  ·subst h
   simp only [impl_gcd.l0, if_neg (show ¬ ((0 : Nat) : Int) > 0 by omega)]
   rw [Nat.gcd_zero_right]
   exact Evl.ret _
  ·have ht : Int.tmod (a : Int) (b : Int) = ((a % b : Nat) : Int) := rfl
   simp only [impl_gcd.l0, if_pos (show (b : Int) > 0 by omega), if_neg (show ¬ (b : Int) = 0 by omega), ht]
   refine (ih (a % b) (Nat.mod_lt _ h) b).cast ?_
   rw [Nat.gcd_comm, ← Nat.gcd_rec, Nat.gcd_comm]
theorem impl_gcd_ev (a b : Nat) : Evl (fun k => impl_gcd.f k (a : Int) (b : Int)) ((Nat.gcd a b : Nat) : Int) := by
 simp only [impl_gcd.f]
 exact impl_gcd_l0 b a
theorem spec_siCommon_l0 : ∀ (b a : Nat), Evl (fun k => spec_siCommon.l0 k (a : Int) (b : Int)) ((Nat.gcd a b : Nat) : Int) := by
 intro b
 induction b using Nat.strongRecOn with
 | ind b ih =>
  intro a
  refine Evl.succ ?_
  rcases Nat.eq_zero_or_pos b with h | h
  ·subst h
   simp only [spec_siCommon.l0, if_neg (show ¬ ((0 : Nat) : Int) > 0 by omega)]
   rw [Nat.gcd_zero_right]
   exact Evl.ret _
  ·have ht : Int.tmod (a : Int) (b : Int) = ((a % b : Nat) : Int) := rfl
   simp only [spec_siCommon.l0, if_pos (show (b : Int) > 0 by omega), if_neg (show ¬ (b : Int) = 0 by omega), ht]
   refine (ih (a % b) (Nat.mod_lt _ h) b).cast ?_
   rw [Nat.gcd_comm, ← Nat.gcd_rec, Nat.gcd_comm]
theorem spec_siCommon_ev (a b : Nat) : Evl (fun k => spec_siCommon.f k (a : Int) (b : Int)) ((Nat.gcd a b : Nat) : Int) := by
 simp only [spec_siCommon.f]
 exact spec_siCommon_l0 b a
theorem per_step {p e : Nat} (hp : 1 ≤ p) (hp2 : p ≤ 100000) (he : 1 ≤ e) (he2 : e ≤ 60) :
 1 ≤ Nat.gcd p e ∧ wrap64 (Int.tdiv (p : Int) ((Nat.gcd p e : Nat) : Int)) = ((p / Nat.gcd p e : Nat) : Int) ∧ wrap64 (((p / Nat.gcd p e : Nat) : Int) * (e : Int)) = ((p / Nat.gcd p e * e : Nat) : Int) := by
 have hg : 1 ≤ Nat.gcd p e := Nat.gcd_pos_of_pos_left _ (by omega)
 have hq : p / Nat.gcd p e ≤ p := Nat.div_le_self _ _
 have ht : Int.tdiv (p : Int) ((Nat.gcd p e : Nat) : Int) = ((p / Nat.gcd p e : Nat) : Int) := rfl
 generalize p / Nat.gcd p e = q at hq ht
 refine ⟨hg, by rw [ht]; exact w64 (by omega) (by omega), ?_⟩
 have hm : q * e ≤ 100000 * 60 := Nat.mul_le_mul (by omega) he2
 rw [← Int.natCast_mul]
 exact w64 (by omega) (by omega)
theorem lcmOf_l0 (l : List S45) (h : Sane l) (hl : l.length ≤ 1099511627776) : ∀ (s : List S45) (i p : Nat), l.drop i = s → 1 ≤ p → p ≤ 100000 →
 Evl (fun k => impl_lcmOf.l0 k (p : Int) l (l.length : Int) (i : Int)) (match per p (rs s) with | some P => ((P : Int), true) | none => (0, false)) := by
 intro s
 induction s with
 | nil =>
  intro i p hd h1 h2
  have hi := drop_nil hd
  refine Evl.succ ?_
  simp only [impl_lcmOf.l0, if_neg (show ¬ (i : Int) < (l.length : Int) by omega)]
  exact Evl.ret _
 | cons x s ih =>
  intro i p hd h1 h2
  obtain ⟨hi, hx, hs⟩ := drop_cons hd
  have hsx := h x (List.mem_of_getElem? hx)
  have hw : wrap64 ((i : Int) + 1) = ((i + 1 : Nat) : Int) := by rw [w64 (by omega) (by omega)]; rfl
  obtain ⟨e, he⟩ := Int.eq_ofNat_of_zero_le (show 0 ≤ x.f0 by omega)
  obtain ⟨g1, g2, g3⟩ := per_step h1 h2 (show 1 ≤ e by omega) (show e ≤ 60 by omega)
  have e1 : rs (x :: s) = ru x :: rs s := rfl
  have e2 : (ru x).1.toNat = e := by show x.f0.toNat = e; rw [he]; exact Int.toNat_natCast e
  refine Evl.succ ?_
  simp only [impl_lcmOf.l0, if_pos (show (i : Int) < (l.length : Int) by omega), if_pos (show (0 : Int) ≤ (i : Int) by omega), rdT_of hx, hw, he]
  refine Evl.bind (impl_gcd_ev p e) ?_
  rw [e1, per, e2]
  simp only [if_neg (show ¬ ((Nat.gcd p e : Nat) : Int) = 0 by omega), g2, g3]
  have hpos : 1 ≤ p / Nat.gcd p e * e := by rw [lcm_eq]; exact Nat.lcm_pos (by omega) (by omega)
  generalize p / Nat.gcd p e * e = q at hpos
  by_cases c : 100000 < q
  ·simp only [if_pos c, if_pos (show (q : Int) > 100000 by omega)]
   exact Evl.ret _
  ·simp only [if_neg c, if_neg (show ¬ (q : Int) > 100000 by omega)]
   exact ih (i + 1) q hs hpos (by omega)
theorem lcmOf_ev {l : List S45} (h : Sane l) (hl : l.length ≤ 1099511627776) : Evl (fun k => impl_lcmOf.f k l) (match per 1 (rs l) with | some P => ((P : Int), true) | none => (0, false)) := by
 simp only [impl_lcmOf.f]
 exact lcmOf_l0 l h hl l 0 1 rfl (by omega) (by omega)
theorem siPeriod_l0 (l : List S45) (h : Sane l) (hl : l.length ≤ 1099511627776) : ∀ (s : List S45) (i p : Nat), l.drop i = s → 1 ≤ p → p ≤ 100000 →
 Evl (fun k => spec_siPeriod.l0 k (p : Int) l (l.length : Int) (i : Int)) (match per p (rs s) with | some P => (P : Int) | none => 0) := by
 intro s
 induction s with
 | nil =>
  intro i p hd h1 h2
  have hi := drop_nil hd
  refine Evl.succ ?_
  simp only [spec_siPeriod.l0, if_neg (show ¬ (i : Int) < (l.length : Int) by omega)]
  exact Evl.ret _
 | cons x s ih =>
  intro i p hd h1 h2
  obtain ⟨hi, hx, hs⟩ := drop_cons hd
  have hsx := h x (List.mem_of_getElem? hx)
  have hw : wrap64 ((i : Int) + 1) = ((i + 1 : Nat) : Int) := by rw [w64 (by omega) (by omega)]; rfl
  obtain ⟨e, he⟩ := Int.eq_ofNat_of_zero_le (show 0 ≤ x.f0 by omega)
  obtain ⟨g1, g2, g3⟩ := per_step h1 h2 (show 1 ≤ e by omega) (show e ≤ 60 by omega)
  have e1 : rs (x :: s) = ru x :: rs s := rfl
  have e2 : (ru x).1.toNat = e := by show x.f0.toNat = e; rw [he]; exact Int.toNat_natCast e
  refine Evl.succ ?_
  simp only [spec_siPeriod.l0, if_pos (show (i : Int) < (l.length : Int) by omega), if_pos (show (0 : Int) ≤ (i : Int) by omega), rdT_of hx, hw, he]
  refine Evl.bind (spec_siCommon_ev p e) ?_
  rw [e1, per, e2]
  simp only [if_neg (show ¬ ((Nat.gcd p e : Nat) : Int) = 0 by omega), g2, g3]
  have hpos : 1 ≤ p / Nat.gcd p e * e := by rw [lcm_eq]; exact Nat.lcm_pos (by omega) (by omega)
  generalize p / Nat.gcd p e * e = q at hpos
  by_cases c : 100000 < q
  ·simp only [if_pos c, if_pos (show (q : Int) > 100000 by omega)]
   exact Evl.ret _
  ·simp only [if_neg c, if_neg (show ¬ (q : Int) > 100000 by omega)]
   exact ih (i + 1) q hs hpos (by omega)
theorem siPeriod_ev {l : List S45} (h : Sane l) (hl : l.length ≤ 1099511627776) : Evl (fun k => spec_siPeriod.f k l) (match per 1 (rs l) with | some P => (P : Int) | none => 0) := by
 simp only [spec_siPeriod.f]
 exact siPeriod_l0 l h hl l 0 1 rfl (by omega) (by omega)
theorem periodOf_ev (l : List S45) : Evl (fun k => impl_periodOf.f k l) (if good (rs l) = true then (match per 1 (rs l) with | some P => ((P : Int), true) | none => (0, false)) else (0, false)) := by
 simp only [impl_periodOf.f, areRules_eq, Option.bind_some]
 by_cases g : good (rs l) = true
 ·have hl := len_of_good g
  simp only [if_pos g]
  refine Evl.bind (lcmOf_ev (sane_of_good g) (by omega)) ?_
  refine (Evl.ret _).cast ?_
  cases per 1 (rs l) <;> rfl
 ·simp only [if_neg g]
  exact Evl.ret _
/-- A wheel as the program makes it: told apart by whl. -/
theorem wheelOf_ev (l : List S45) : (∃ P, whl (rs l) = some P ∧ Evl (fun k => impl_wheelOf.f k l) ((P : Int), lb (rs l) P 1, true)) ∨ (whl (rs l) = none ∧ ∃ x y, Evl (fun k => impl_wheelOf.f k l) (x, y, false)) := by
 have hp := periodOf_ev l
 unfold whl
 by_cases g : good (rs l) = true
 ·rw [if_pos g] at hp ⊢
  cases c : per 1 (rs l) with
  | none =>
   rw [c] at hp
   refine .inr ⟨rfl, 0, [], ?_⟩
   simp only [impl_wheelOf.f]
   refine Evl.bind hp ?_
   simp only [Bool.false_eq_true, if_false]
   exact Evl.ret _
  | some P =>
   rw [c] at hp
   dsimp only
   by_cases c5 : P ≤ 5000
   ·have hw : Evl (fun k => impl_wheelOf.f k l) ((P : Int), lb (rs l) P 1, decide (((lb (rs l) P 1).length : Int) > 0)) := by
     simp only [impl_wheelOf.f]
     refine Evl.bind hp ?_
     simp only [if_true, if_neg (show ¬ (P : Int) > 5000 by omega)]
     have hb := leftBetween_ev (sane_of_good g) 1 (P : Int) (by omega) (by omega)
     rw [show ((P : Int) + 1 - 1).toNat = P by omega] at hb
     exact Evl.bind hb (Evl.ret _)
    by_cases ce : lb (rs l) P 1 = []
    ·rw [if_neg (fun x => x.2 ce)]
     refine .inr ⟨rfl, (P : Int), [], ?_⟩
     rw [ce] at hw
     exact hw
    ·rw [if_pos ⟨c5, ce⟩]
     refine .inl ⟨P, rfl, ?_⟩
     have : decide (((lb (rs l) P 1).length : Int) > 0) = true := decide_eq_true (by have := List.length_pos_iff.2 ce; omega)
     rw [this] at hw
     exact hw
   ·rw [if_neg (fun x => c5 x.1)]
    refine .inr ⟨rfl, 0, [], ?_⟩
    simp only [impl_wheelOf.f]
    refine Evl.bind hp ?_
    simp only [if_true, if_pos (show (P : Int) > 5000 by omega)]
    exact Evl.ret _
 ·rw [if_neg g] at hp ⊢
  refine .inr ⟨rfl, 0, [], ?_⟩
  simp only [impl_wheelOf.f]
  refine Evl.bind hp ?_
  simp only [Bool.false_eq_true, if_false]
  exact Evl.ret _
theorem whPeriod_l0 (l : List S45) (h : Sane l) (hl : l.length ≤ 1099511627776) (P : Nat) (hp : P ≤ 5000) : ∀ (m n : Nat), m + n = P → Evl (fun k => spec_whPeriod.l0 k l (P : Int) (n : Int)) (if lb (rs l) m (n : Int) = [] then 0 else (P : Int)) := by
 intro m
 induction m with
 | zero =>
  intro n hn
  refine Evl.succ ?_
  simp only [spec_whPeriod.l0, if_neg (show ¬ (n : Int) < (P : Int) by omega)]
  exact Evl.ret _
 | succ m ih =>
  intro n hn
  have hw : wrap64 ((n : Int) + 1) = ((n + 1 : Nat) : Int) := by rw [w64 (by omega) (by omega)]; rfl
  refine Evl.succ ?_
  simp only [spec_whPeriod.l0, if_pos (show (n : Int) < (P : Int) by omega), hw]
  refine Evl.bind (siLeft_ev h hl (n : Int)) ?_
  unfold lb
  by_cases c : left (rs l) (n : Int) = true
  ·simp only [if_pos c]
   refine (Evl.ret _).cast ?_
   rw [if_neg (by simp)]
  ·simp only [if_neg c]
   exact ih (n + 1) (by omega)
/-- Whether one is left in 0 .. P - 1 is whether one is in 1 .. P. -/
theorem lb_shift {q : List Ru} {P : Nat} (h1 : 1 ≤ P) (hd : ∀ r ∈ q, r.1.toNat ∣ P) (hp : ∀ r ∈ q, 1 ≤ r.1) : lb q P 0 = [] ↔ lb q P 1 = [] := by
 have key : ∀ (n : Int), lb q P n = [] ↔ ∀ x, n ≤ x → x < n + P → left q x = false := by
  intro n
  constructor
  ·intro h x hx hx2
   cases c : left q x with
   | false => rfl
   | true =>
    have := (lb_mem q P n x).2 ⟨hx, hx2, c⟩
    rw [h] at this
    cases this
  ·intro h
   rcases e : lb q P n with _ | ⟨x, s⟩
   ·rfl
   ·have := (lb_mem q P n x).1 (by rw [e]; simp)
    rw [h x this.1 this.2.1] at this
    cases this.2.2
 have hsh : left q (0 + (P : Int)) = left q 0 := by
  have := left_add hd hp 0 1
  rwa [Int.mul_one] at this
 rw [Int.zero_add] at hsh
 rw [key, key]
 constructor
 ·intro h x hx hx2
  by_cases c : x = (P : Int)
  ·rw [c, hsh]; exact h 0 (by omega) (by omega)
  ·exact h x (by omega) (by omega)
 ·intro h x hx hx2
  by_cases c : x = 0
  ·rw [c, ← hsh]; exact h P (by omega) (by omega)
  ·exact h x (by omega) (by omega)
theorem whPeriod_ev (l : List S45) : Evl (fun k => spec_whPeriod.f k l) (match whl (rs l) with | some P => (P : Int) | none => 0) := by
 simp only [spec_whPeriod.f]
 refine Evl.bind (siGood_ev l) ?_
 unfold whl
 by_cases g : good (rs l) = true
 ·have hl := len_of_good g
  simp only [if_pos g]
  refine Evl.bind (siPeriod_ev (sane_of_good g) (by omega)) ?_
  cases c : per 1 (rs l) with
  | none =>
   refine Evl.succ ?_
   simp only [if_neg (show ¬ (0 : Int) > 5000 by omega), spec_whPeriod.l0, if_neg (show ¬ (0 : Int) < 0 by omega)]
   exact Evl.ret _
  | some P =>
   dsimp only
   obtain ⟨g1, g2, _, g4⟩ := per_spec (rs l) 1 P (by omega) (by omega) (fun r hr => by have := good_ok g hr; omega) c
   by_cases c5 : P ≤ 5000
   ·simp only [if_neg (show ¬ (P : Int) > 5000 by omega)]
    refine (whPeriod_l0 l (sane_of_good g) (by omega) P c5 P 0 rfl).cast ?_
    have hs : lb (rs l) P ((0 : Nat) : Int) = [] ↔ lb (rs l) P 1 = [] := lb_shift g1 g4 (fun r hr => by have := good_ok g hr; omega)
    by_cases ce : lb (rs l) P 1 = []
    ·rw [if_pos (hs.2 ce), if_neg (fun x : P ≤ 5000 ∧ lb (rs l) P 1 ≠ [] => x.2 ce)]
    ·rw [if_neg (fun x => ce (hs.1 x)), if_pos (show P ≤ 5000 ∧ lb (rs l) P 1 ≠ [] from ⟨c5, ce⟩)]
   ·simp only [if_pos (show (P : Int) > 5000 by omega), if_neg (fun x : P ≤ 5000 ∧ lb (rs l) P 1 ≠ [] => c5 x.1)]
    exact Evl.ret _
 ·simp only [if_neg g]
  exact Evl.ret _

end Go.Proofs.Ytdaodlhcedjfoaa.L

/-! ## E8 -/
namespace Go.Proofs.Ytdaodlhcedjfoaa.L
open Go.RowKit Go.Proofs.YtdaodlhcedjfoaaW.PrintWords Go.Proofs.Ytdaodlhcedjfoaa.P Go.Proofs.Ytdaodlhcedjfoaa.M
set_option linter.unusedVariables false
set_option linter.unusedSimpArgs false

/-- The differences from each to the next; behind the last one the first one of the next period. -/
def stepsL (first P : Int) : List Int → List Int
 | [] => []
 | [x] => [first + P - x]
 | x :: y :: t => (y - x) :: stepsL first P (y :: t)
theorem stepsL_length (first P : Int) : ∀ l : List Int, (stepsL first P l).length = l.length
 | [] => rfl
 | [x] => rfl
 | x :: y :: t => by rw [stepsL, List.length_cons, stepsL_length first P (y :: t)]; rfl
/-- The steps of a wheel. -/
def steps (q : List Ru) (P : Nat) : List Int := stepsL ((lb q P 1).headD 0) P (lb q P 1)
theorem steps_length (q : List Ru) (P : Nat) : (steps q P).length = (lb q P 1).length := stepsL_length _ _ _

theorem wheel_steps_l0 (xs : List Int) (P first : Int) (hx : ∀ x ∈ xs, 0 ≤ x ∧ x ≤ 1000000) (hP : 0 ≤ P ∧ P ≤ 1000000) (hf : rd xs 0 = first) (hl : xs.length ≤ 1000000) : ∀ (s : List Int) (i : Nat) (acc : List Int), xs.drop i = s → acc.length + s.length ≤ 1000000 →
 Evl (fun k => impl_wheel_steps.l0 k acc xs (xs.length : Int) (i : Int) P xs) (acc ++ stepsL first P s) := by
 intro s
 induction s with
 | nil =>
  intro i acc hd ha
  have hi := drop_nil hd
  refine Evl.succ ?_
  simp only [impl_wheel_steps.l0, if_neg (show ¬ (i : Int) < (xs.length : Int) by omega)]
  refine (Evl.ret _).cast ?_
  simp [stepsL]
 | cons x s ih =>
  intro i acc hd ha
  obtain ⟨hi, hxx, hs⟩ := drop_cons hd
  have bx := hx x (List.mem_of_getElem? hxx)
  rw [List.length_cons] at ha
  have hw : wrap64 ((i : Int) + 1) = ((i + 1 : Nat) : Int) := by rw [w64 (by omega) (by omega)]; rfl
  refine Evl.succ ?_
  simp only [impl_wheel_steps.l0, if_pos (show (i : Int) < (xs.length : Int) by omega), if_pos (show (0 : Int) ≤ (i : Int) by omega), hw, rd_of hxx]
  cases s with
  | nil =>
   have hn := drop_nil hs
   have bf : 0 ≤ first ∧ first ≤ 1000000 := by
    have h0 : 0 < xs.length := by omega
    have := hx xs[0] (List.getElem_mem h0)
    have e : rd xs 0 = xs[0] := rd_nat (i := 0) h0
    rw [← hf, e]; exact this
   have e1 : wrap64 (rd xs 0 + P) = first + P := by rw [hf]; exact w64 (by omega) (by omega)
   have e2 : wrap64 (first + P - x) = first + P - x := w64 (by omega) (by omega)
   simp only [if_neg (show ¬ ((i + 1 : Nat) : Int) < (xs.length : Int) by omega), if_pos (show (0 : Int) < (xs.length : Int) by omega), if_pos (show acc.length < 17592186044416 by omega), e1, e2]
   refine (ih (i + 1) _ hs (by rw [List.length_append, List.length_singleton]; simp; omega)).cast ?_
   simp [stepsL]
  | cons y t =>
   obtain ⟨hi2, hy, _⟩ := drop_cons hs
   have byy := hx y (List.mem_of_getElem? hy)
   have e2 : wrap64 (y - x) = y - x := w64 (by omega) (by omega)
   simp only [if_pos (show ((i + 1 : Nat) : Int) < (xs.length : Int) by omega), if_pos (show (0 : Int) ≤ ((i + 1 : Nat) : Int) by omega), if_pos (show acc.length < 17592186044416 by omega), rd_of hy, e2]
   refine (ih (i + 1) _ hs (by rw [List.length_append, List.length_singleton]; omega)).cast ?_
   simp [stepsL]
theorem wheel_bounds {q : List Ru} {P : Nat} (h : P ≤ 5000) : ∀ x ∈ lb q P 1, 0 ≤ x ∧ x ≤ 1000000 := fun x hx => by
 have := (lb_mem q P 1 x).1 hx
 omega
theorem rd_head (xs : List Int) : rd xs 0 = xs.headD 0 := by cases xs <;> rfl
theorem wheel_steps_ev (q : List Ru) (P : Nat) (h : P ≤ 5000) : Evl (fun k => impl_wheel_steps.f k (P : Int) (lb q P 1)) (steps q P) := by
 simp only [impl_wheel_steps.f]
 have hl := lb_length q P 1
 exact wheel_steps_l0 (lb q P 1) (P : Int) _ (wheel_bounds h) (by omega) (rd_head _) (by omega) _ 0 [] rfl (by simp; omega)
theorem whSteps_l0 (xs : List Int) (P first : Int) (hx : ∀ x ∈ xs, 0 ≤ x ∧ x ≤ 1000000) (hP : 0 ≤ P ∧ P ≤ 1000000) (hf : rd xs 0 = first) (hl : xs.length ≤ 1000000) : ∀ (s : List Int) (i : Nat) (acc : List Int), xs.drop i = s → acc.length + s.length ≤ 1000000 →
 Evl (fun k => spec_whSteps.l0 k P xs acc xs (xs.length : Int) (i : Int)) (acc ++ stepsL first P s) := by
 intro s
 induction s with
 | nil =>
  intro i acc hd ha
  have hi := drop_nil hd
  refine Evl.succ ?_
  simp only [spec_whSteps.l0, if_neg (show ¬ (i : Int) < (xs.length : Int) by omega)]
  refine (Evl.ret _).cast ?_
  simp [stepsL]
 | cons x s ih =>
  intro i acc hd ha
  obtain ⟨hi, hxx, hs⟩ := drop_cons hd
  have bx := hx x (List.mem_of_getElem? hxx)
  rw [List.length_cons] at ha
  have hw : wrap64 ((i : Int) + 1) = ((i + 1 : Nat) : Int) := by rw [w64 (by omega) (by omega)]; rfl
  have bf : 0 ≤ first ∧ first ≤ 1000000 := by
   have h0 : 0 < xs.length := by omega
   have := hx xs[0] (List.getElem_mem h0)
   have e : rd xs 0 = xs[0] := rd_nat (i := 0) h0
   rw [← hf, e]; exact this
  have e1 : wrap64 (rd xs 0 + P) = first + P := by rw [hf]; exact w64 (by omega) (by omega)
  refine Evl.succ ?_
  simp only [spec_whSteps.l0, if_pos (show (i : Int) < (xs.length : Int) by omega), if_pos (show (0 : Int) ≤ (i : Int) by omega), if_pos (show (0 : Int) < (xs.length : Int) by omega), hw, rd_of hxx, e1]
  cases s with
  | nil =>
   have hn := drop_nil hs
   have e2 : wrap64 (first + P - x) = first + P - x := w64 (by omega) (by omega)
   simp only [if_neg (show ¬ ((i + 1 : Nat) : Int) < (xs.length : Int) by omega), if_pos (show acc.length < 17592186044416 by omega), e2]
   refine (ih (i + 1) _ hs (by rw [List.length_append, List.length_singleton]; simp; omega)).cast ?_
   simp [stepsL]
  | cons y t =>
   obtain ⟨hi2, hy, _⟩ := drop_cons hs
   have byy := hx y (List.mem_of_getElem? hy)
   have e2 : wrap64 (y - x) = y - x := w64 (by omega) (by omega)
   simp only [if_pos (show ((i + 1 : Nat) : Int) < (xs.length : Int) by omega), if_pos (show (0 : Int) ≤ ((i + 1 : Nat) : Int) by omega), if_pos (show acc.length < 17592186044416 by omega), rd_of hy, e2]
   refine (ih (i + 1) _ hs (by rw [List.length_append, List.length_singleton]; omega)).cast ?_
   simp [stepsL]
theorem whSteps_ev (l : List S45) (h : Sane l) (hl : l.length ≤ 1099511627776) (P : Nat) (hp : P ≤ 5000) : Evl (fun k => spec_whSteps.f k l (P : Int)) (steps (rs l) P) := by
 simp only [spec_whSteps.f]
 refine Evl.bind (whSpokes_ev h hl P (by omega)) ?_
 have hll := lb_length (rs l) P 1
 exact whSteps_l0 (lb (rs l) P 1) (P : Int) _ (wheel_bounds hp) (by omega) (rd_head _) (by omega) _ 0 [] rfl (by simp; omega)

end Go.Proofs.Ytdaodlhcedjfoaa.L

/-! ## X5 -/
namespace Go.Proofs.Ytdaodlhcedjfoaa.L
open Go.RowKit Go.Proofs.YtdaodlhcedjfoaaW.PrintWords Go.Proofs.Ytdaodlhcedjfoaa.P Go.Proofs.Ytdaodlhcedjfoaa.M
set_option linter.unusedVariables false
set_option linter.unusedSimpArgs false

/-- A wheel, or none, as both tell it. -/
theorem wheel_cases (l : List S45) : (∃ P : Nat, Wheel (rs l) P ∧ Evl (fun k => impl_wheelOf.f k l) ((P : Int), lb (rs l) P 1, true) ∧ Evl (fun k => spec_whPeriod.f k l) (P : Int) ∧ Sane l ∧ l.length ≤ 1099511627776 ∧ ¬ (P : Int) = 0 ∧ 1 ≤ P ∧ P ≤ 5000) ∨
 ((∃ x y, Evl (fun k => impl_wheelOf.f k l) (x, y, false)) ∧ Evl (fun k => spec_whPeriod.f k l) 0) := by
 have hs := whPeriod_ev l
 rcases wheelOf_ev l with ⟨P, hw, hi⟩ | ⟨hw, hi⟩
 ·have hW := whl_spec hw
  rw [hw] at hs
  have := len_of_good hW.good
  have h1 := hW.pos
  exact .inl ⟨P, hW, hi, hs, sane_of_good hW.good, by omega, by omega, h1, hW.most⟩
 ·rw [hw] at hs
  exact .inr ⟨hi, hs⟩

theorem FnExactStepsOf_main (l : List S45) (hlc : l.length ≤ 1099511627776) : ∃ r b, Evl (fun k => spec_StepsOf.f k l) (r, b) ∧ Evl (fun k => impl_StepsOf.f k l) (r, b) ∧ r.length ≤ 1099511627776 := by
 rcases wheel_cases l with ⟨P, hW, hi, hs, hsane, hl, hz, h1, h5⟩ | ⟨⟨x, y, hi⟩, hs⟩
 ·refine ⟨steps (rs l) P, true, ?_, ?_, by have := lb_length (rs l) P 1; rw [steps_length]; omega⟩
  ·simp only [spec_StepsOf.f]
   refine Evl.bind hs ?_
   simp only [if_neg hz]
   exact Evl.bind (whSteps_ev l hsane hl P h5) (Evl.ret _)
  ·simp only [impl_StepsOf.f]
   refine Evl.bind hi ?_
   simp only [if_true]
   exact Evl.bind (wheel_steps_ev (rs l) P h5) (Evl.ret _)
 ·refine ⟨[], false, ?_, ?_, by simp⟩
  ·simp only [spec_StepsOf.f]
   refine Evl.bind hs ?_
   simp only [if_true]
   exact Evl.ret _
  ·simp only [impl_StepsOf.f]
   refine Evl.bind hi ?_
   simp only [Bool.false_eq_true, if_false]
   exact Evl.ret _

theorem isFar_eq (a : Int) : impl_isFar.f a = some (decide (0 ≤ a ∧ a ≤ 1000000000)) := by
 unfold impl_isFar.f
 by_cases h : a ≥ 0
 ·rw [if_pos h]
  by_cases h2 : a ≤ 1000000000
  ·rw [decide_eq_true h2, decide_eq_true ⟨h, h2⟩]
  ·rw [decide_eq_false h2, decide_eq_false (fun c => h2 c.2)]
 ·rw [if_neg h, decide_eq_false (fun c => h c.1)]

/-! ### counting -/
/-- How often x is among them. -/
def cnt (x : Int) (l : List Int) : Nat := (l.filter fun y => decide (y = x)).length
theorem impl_CountStep_l0 (x : Int) (xs : List Int) (hl : xs.length ≤ 1000000) : ∀ (s : List Int) (i : Nat) (c : Int), xs.drop i = s → 0 ≤ c → c + s.length ≤ 1000000 → Evl (fun k => impl_CountStep.l0 k x c xs (xs.length : Int) (i : Int)) (c + cnt x s, true) := by
 intro s
 induction s with
 | nil =>
  intro i c hd h0 hb
  have hi := drop_nil hd
  refine Evl.succ ?_
  simp only [impl_CountStep.l0, if_neg (show ¬ (i : Int) < (xs.length : Int) by omega)]
  refine (Evl.ret _).cast ?_
  simp [cnt]
 | cons y s ih =>
  intro i c hd h0 hb
  obtain ⟨hi, hx, hs⟩ := drop_cons hd
  rw [List.length_cons] at hb
  have hw : wrap64 ((i : Int) + 1) = ((i + 1 : Nat) : Int) := by rw [w64 (by omega) (by omega)]; rfl
  have hw2 : wrap64 (c + 1) = c + 1 := w64 (by omega) (by omega)
  refine Evl.succ ?_
  simp only [impl_CountStep.l0, if_pos (show (i : Int) < (xs.length : Int) by omega), if_pos (show (0 : Int) ≤ (i : Int) by omega), rd_of hx, hw, hw2]
  by_cases e : y = x
  ·simp only [if_pos e]
   refine (ih (i + 1) (c + 1) hs (by omega) (by omega)).cast ?_
   unfold cnt
   rw [List.filter_cons_of_pos (by simpa using e), List.length_cons]
   refine Prod.ext ?_ rfl
   show c + 1 + ((s.filter fun y => decide (y = x)).length : Int) = c + (((s.filter fun y => decide (y = x)).length + 1 : Nat) : Int)
   omega
  ·simp only [if_neg e]
   refine (ih (i + 1) c hs h0 (by omega)).cast ?_
   unfold cnt
   rw [List.filter_cons_of_neg (by simpa using e)]
theorem spec_CountStep_l0 (x : Int) (xs : List Int) (hl : xs.length ≤ 1000000) : ∀ (s : List Int) (i : Nat) (c : Int), xs.drop i = s → 0 ≤ c → c + s.length ≤ 1000000 → Evl (fun k => spec_CountStep.l0 k x c xs (xs.length : Int) (i : Int)) (c + cnt x s, true) := by
 intro s
 induction s with
 | nil =>
  intro i c hd h0 hb
  have hi := drop_nil hd
  refine Evl.succ ?_
  simp only [spec_CountStep.l0, if_neg (show ¬ (i : Int) < (xs.length : Int) by omega)]
  refine (Evl.ret _).cast ?_
  simp [cnt]
 | cons y s ih =>
  intro i c hd h0 hb
  obtain ⟨hi, hx, hs⟩ := drop_cons hd
  rw [List.length_cons] at hb
  have hw : wrap64 ((i : Int) + 1) = ((i + 1 : Nat) : Int) := by rw [w64 (by omega) (by omega)]; rfl
  have hw2 : wrap64 (c + 1) = c + 1 := w64 (by omega) (by omega)
  refine Evl.succ ?_
  simp only [spec_CountStep.l0, if_pos (show (i : Int) < (xs.length : Int) by omega), if_pos (show (0 : Int) ≤ (i : Int) by omega), rd_of hx, hw, hw2]
  by_cases e : y = x
  ·simp only [if_pos e]
   refine (ih (i + 1) (c + 1) hs (by omega) (by omega)).cast ?_
   unfold cnt
   rw [List.filter_cons_of_pos (by simpa using e), List.length_cons]
   refine Prod.ext ?_ rfl
   show c + 1 + ((s.filter fun y => decide (y = x)).length : Int) = c + (((s.filter fun y => decide (y = x)).length + 1 : Nat) : Int)
   omega
  ·simp only [if_neg e]
   refine (ih (i + 1) c hs h0 (by omega)).cast ?_
   unfold cnt
   rw [List.filter_cons_of_neg (by simpa using e)]
theorem FnExactCountStep_main (l : List S45) (a1 : Int) (hlc : l.length ≤ 1099511627776) (h1 : (Lit.int .i64 a1).wf = true) : ∃ r b, Evl (fun k => spec_CountStep.f k l a1) (r, b) ∧ Evl (fun k => impl_CountStep.f k l a1) (r, b) := by
 rcases wheel_cases l with ⟨P, hW, hi, hs, hsane, hl, hz, h1, h5⟩ | ⟨⟨x, y, hi⟩, hs⟩
 ·have hsl : (steps (rs l) P).length ≤ 5000 := by have := lb_length (rs l) P 1; rw [steps_length]; omega
  by_cases c : a1 < 1
  ·refine ⟨0, false, ?_, ?_⟩
   ·simp only [spec_CountStep.f]
    refine Evl.bind hs ?_
    simp only [if_neg hz, decide_eq_true c]
    refine Evl.succ ?_
    simp only [spec_CountStep.j0, if_true]
    exact Evl.ret _
   ·simp only [impl_CountStep.f]
    refine Evl.bind hi ?_
    simp only [if_true, decide_eq_true c]
    refine Evl.succ ?_
    simp only [impl_CountStep.j0, if_true]
    exact Evl.ret _
  ·refine ⟨0 + cnt a1 (steps (rs l) P), true, ?_, ?_⟩
   ·simp only [spec_CountStep.f]
    refine Evl.bind hs ?_
    simp only [if_neg hz, decide_eq_false c]
    refine Evl.succ ?_
    simp only [spec_CountStep.j0, Bool.false_eq_true, if_false]
    refine Evl.bind (whSteps_ev l hsane hl P h5) ?_
    exact spec_CountStep_l0 a1 (steps (rs l) P) (by omega) _ 0 0 rfl (by omega) (by omega)
   ·simp only [impl_CountStep.f]
    refine Evl.bind hi ?_
    simp only [if_true, decide_eq_false c]
    refine Evl.succ ?_
    simp only [impl_CountStep.j0, Bool.false_eq_true, if_false]
    refine Evl.bind (wheel_steps_ev (rs l) P h5) ?_
    exact impl_CountStep_l0 a1 (steps (rs l) P) (by omega) _ 0 0 rfl (by omega) (by omega)
 ·refine ⟨0, false, ?_, ?_⟩
  ·simp only [spec_CountStep.f]
   refine Evl.bind hs ?_
   simp only [if_true]
   refine Evl.succ ?_
   simp only [spec_CountStep.j0, if_true]
   exact Evl.ret _
  ·simp only [impl_CountStep.f]
   refine Evl.bind hi ?_
   simp only [Bool.false_eq_true, if_false]
   refine Evl.succ ?_
   simp only [impl_CountStep.j0, if_true]
   exact Evl.ret _


/-- How many of them are left when moved. -/
def cntL (q : List Ru) (a : Int) (l : List Int) : Nat := (l.filter fun y => left q (y + a)).length
theorem impl_TimesTogether_l0 (l : List S45) (hsane : Sane l) (hl : l.length ≤ 1099511627776) (a : Int) (ha : 0 ≤ a ∧ a ≤ 5000) (xs : List Int) (hx : ∀ x ∈ xs, 0 ≤ x ∧ x ≤ 1000000) (hxl : xs.length ≤ 1000000) : ∀ (s : List Int) (i : Nat) (c : Int), xs.drop i = s → 0 ≤ c → c + s.length ≤ 1000000 →
 Evl (fun k => impl_TimesTogether.l0 k l a c xs (xs.length : Int) (i : Int)) (c + cntL (rs l) a s, true) := by
 intro s
 induction s with
 | nil =>
  intro i c hd h0 hb
  have hi := drop_nil hd
  refine Evl.succ ?_
  simp only [impl_TimesTogether.l0, if_neg (show ¬ (i : Int) < (xs.length : Int) by omega)]
  refine (Evl.ret _).cast ?_
  simp [cntL]
 | cons y s ih =>
  intro i c hd h0 hb
  obtain ⟨hi, hy, hs⟩ := drop_cons hd
  have byy := hx y (List.mem_of_getElem? hy)
  rw [List.length_cons] at hb
  have hw : wrap64 ((i : Int) + 1) = ((i + 1 : Nat) : Int) := by rw [w64 (by omega) (by omega)]; rfl
  have hw2 : wrap64 (c + 1) = c + 1 := w64 (by omega) (by omega)
  have hw3 : wrap64 (y + a) = y + a := w64 (by omega) (by omega)
  refine Evl.succ ?_
  simp only [impl_TimesTogether.l0, if_pos (show (i : Int) < (xs.length : Int) by omega), if_pos (show (0 : Int) ≤ (i : Int) by omega), rd_of hy, hw, hw2, hw3]
  first | refine Evl.bind (siLeft_ev hsane hl (y + a)) ?_ | simp only [isLeft_eq hsane, Option.bind_some]
  by_cases e : left (rs l) (y + a) = true
  ·simp only [if_pos e]
   refine (ih (i + 1) (c + 1) hs (by omega) (by omega)).cast ?_
   unfold cntL
   rw [List.filter_cons_of_pos (by simpa using e), List.length_cons]
   refine Prod.ext ?_ rfl
   show c + 1 + ((s.filter fun y => left (rs l) (y + a)).length : Int) = c + (((s.filter fun y => left (rs l) (y + a)).length + 1 : Nat) : Int)
   omega
  ·simp only [if_neg e]
   refine (ih (i + 1) c hs h0 (by omega)).cast ?_
   unfold cntL
   rw [List.filter_cons_of_neg (by simpa using e)]
theorem spec_TimesTogether_l0 (l : List S45) (hsane : Sane l) (hl : l.length ≤ 1099511627776) (a : Int) (ha : 0 ≤ a ∧ a ≤ 5000) (xs : List Int) (hx : ∀ x ∈ xs, 0 ≤ x ∧ x ≤ 1000000) (hxl : xs.length ≤ 1000000) : ∀ (s : List Int) (i : Nat) (c : Int), xs.drop i = s → 0 ≤ c → c + s.length ≤ 1000000 →
 Evl (fun k => spec_TimesTogether.l0 k l a c xs (xs.length : Int) (i : Int)) (c + cntL (rs l) a s, true) := by
 intro s
 induction s with
 | nil =>
  intro i c hd h0 hb
  have hi := drop_nil hd
  refine Evl.succ ?_
  simp only [spec_TimesTogether.l0, if_neg (show ¬ (i : Int) < (xs.length : Int) by omega)]
  refine (Evl.ret _).cast ?_
  simp [cntL]
 | cons y s ih =>
  intro i c hd h0 hb
  obtain ⟨hi, hy, hs⟩ := drop_cons hd
  have byy := hx y (List.mem_of_getElem? hy)
  rw [List.length_cons] at hb
  have hw : wrap64 ((i : Int) + 1) = ((i + 1 : Nat) : Int) := by rw [w64 (by omega) (by omega)]; rfl
  have hw2 : wrap64 (c + 1) = c + 1 := w64 (by omega) (by omega)
  have hw3 : wrap64 (y + a) = y + a := w64 (by omega) (by omega)
  refine Evl.succ ?_
  simp only [spec_TimesTogether.l0, if_pos (show (i : Int) < (xs.length : Int) by omega), if_pos (show (0 : Int) ≤ (i : Int) by omega), rd_of hy, hw, hw2, hw3]
  first | refine Evl.bind (siLeft_ev hsane hl (y + a)) ?_ | simp only [isLeft_eq hsane, Option.bind_some]
  by_cases e : left (rs l) (y + a) = true
  ·simp only [if_pos e]
   refine (ih (i + 1) (c + 1) hs (by omega) (by omega)).cast ?_
   unfold cntL
   rw [List.filter_cons_of_pos (by simpa using e), List.length_cons]
   refine Prod.ext ?_ rfl
   show c + 1 + ((s.filter fun y => left (rs l) (y + a)).length : Int) = c + (((s.filter fun y => left (rs l) (y + a)).length + 1 : Nat) : Int)
   omega
  ·simp only [if_neg e]
   refine (ih (i + 1) c hs h0 (by omega)).cast ?_
   unfold cntL
   rw [List.filter_cons_of_neg (by simpa using e)]
theorem spec_TT_no (l : List S45) (a p : Int) : Evl (fun k => spec_TimesTogether.j0 k l a p true) (0, false) := by
 refine Evl.succ ?_
 simp only [spec_TimesTogether.j0, if_true]
 exact Evl.ret _
theorem impl_TT_no (l : List S45) (a p : Int) (s : List Int) : Evl (fun k => impl_TimesTogether.j0 k l a true p s) (0, false) := by
 refine Evl.succ ?_
 simp only [impl_TimesTogether.j0, if_true]
 exact Evl.ret _
theorem FnExactTimesTogether_main (l : List S45) (a1 : Int) (hlc : l.length ≤ 1099511627776) (h1 : (Lit.int .i64 a1).wf = true) : ∃ r b, Evl (fun k => spec_TimesTogether.f k l a1) (r, b) ∧ Evl (fun k => impl_TimesTogether.f k l a1) (r, b) := by
 rcases wheel_cases l with ⟨P, hW, hi, hs, hsane, hl, hz, h1, h5⟩ | ⟨⟨x, y, hi⟩, hs⟩
 ·have hll := lb_length (rs l) P 1
  by_cases c : 1 ≤ a1 ∧ a1 ≤ 5000
  ·refine ⟨0 + cntL (rs l) a1 (lb (rs l) P 1), true, ?_, ?_⟩
   ·simp only [spec_TimesTogether.f]
    refine Evl.bind hs ?_
    simp only [if_neg hz, l1In_eq, decide_eq_true c, Option.bind_some, Bool.not_true]
    refine Evl.succ ?_
    simp only [spec_TimesTogether.j0, Bool.false_eq_true, if_false]
    refine Evl.bind (whSpokes_ev hsane hl P (by omega)) ?_
    exact spec_TimesTogether_l0 l hsane hl a1 (by omega) _ (wheel_bounds h5) (by omega) _ 0 0 rfl (by omega) (by omega)
   ·simp only [impl_TimesTogether.f]
    refine Evl.bind hi ?_
    simp only [if_true, if_neg (show ¬ a1 < 1 by omega), decide_eq_false (show ¬ a1 > 5000 by omega)]
    refine Evl.succ ?_
    simp only [impl_TimesTogether.j0, Bool.false_eq_true, if_false]
    exact impl_TimesTogether_l0 l hsane hl a1 (by omega) _ (wheel_bounds h5) (by omega) _ 0 0 rfl (by omega) (by omega)
  ·refine ⟨0, false, ?_, ?_⟩
   ·simp only [spec_TimesTogether.f]
    refine Evl.bind hs ?_
    simp only [if_neg hz, l1In_eq, decide_eq_false c, Option.bind_some, Bool.not_false]
    exact spec_TT_no _ _ _
   ·simp only [impl_TimesTogether.f]
    refine Evl.bind hi ?_
    by_cases c2 : a1 < 1
    ·simp only [if_true, if_pos c2]
     exact impl_TT_no _ _ _ _
    ·simp only [if_true, if_neg c2, decide_eq_true (show a1 > 5000 by omega)]
     exact impl_TT_no _ _ _ _
 ·refine ⟨0, false, ?_, ?_⟩
  ·simp only [spec_TimesTogether.f]
   refine Evl.bind hs ?_
   simp only [if_true]
   exact spec_TT_no _ _ _
  ·simp only [impl_TimesTogether.f]
   refine Evl.bind hi ?_
   simp only [Bool.false_eq_true, if_false]
   exact impl_TT_no _ _ _ _

/-- Symmetric from n on, m numbers. -/
def symL (q : List Ru) : Nat → Int → Bool
 | 0, _ => true
 | m + 1, n => if left q n = left q (-n) then symL q m (n + 1) else false
theorem impl_IsSymmetric_l0 (l : List S45) (hsane : Sane l) (P : Nat) (hP : P ≤ 5000) : ∀ (m n : Nat), m + n = P → Evl (fun k => impl_IsSymmetric.l0 k l (P : Int) (n : Int)) (symL (rs l) m (n : Int), true) := by
 intro m
 induction m with
 | zero =>
  intro n hn
  refine Evl.succ ?_
  simp only [impl_IsSymmetric.l0, if_neg (show ¬ (n : Int) < (P : Int) by omega)]
  exact Evl.ret _
 | succ m ih =>
  intro n hn
  have hw : wrap64 ((n : Int) + 1) = ((n + 1 : Nat) : Int) := by rw [w64 (by omega) (by omega)]; rfl
  have hw2 : wrap64 (-(n : Int)) = -(n : Int) := w64 (by omega) (by omega)
  refine Evl.succ ?_
  simp only [impl_IsSymmetric.l0, if_pos (show (n : Int) < (P : Int) by omega), isLeft_eq hsane, Option.bind_some, hw, hw2]
  unfold symL
  by_cases c : left (rs l) (n : Int) = left (rs l) (-(n : Int))
  ·simp only [if_pos c]
   rw [c]
   simp only [bne_self_eq_false, Bool.false_eq_true, if_false]
   exact ih (n + 1) (by omega)
  ·simp only [if_neg c, bne_iff_ne.2 c, if_true]
   exact Evl.ret _
theorem spec_IsSymmetric_l0 (l : List S45) (hsane : Sane l) (hl : l.length ≤ 1099511627776) (P : Nat) (hW : Wheel (rs l) P) : ∀ (m n : Nat), m + n = P → Evl (fun k => spec_IsSymmetric.l0 k l (P : Int) (n : Int)) (symL (rs l) m (n : Int), true) := by
 have hP := hW.most
 intro m
 induction m with
 | zero =>
  intro n hn
  refine Evl.succ ?_
  simp only [spec_IsSymmetric.l0, if_neg (show ¬ (n : Int) < (P : Int) by omega)]
  exact Evl.ret _
 | succ m ih =>
  intro n hn
  have hw : wrap64 ((n : Int) + 1) = ((n + 1 : Nat) : Int) := by rw [w64 (by omega) (by omega)]; rfl
  have hw2 : wrap64 ((P : Int) - (n : Int)) = -(n : Int) + (P : Int) := by rw [w64 (by omega) (by omega)]; omega
  refine Evl.succ ?_
  simp only [spec_IsSymmetric.l0, if_pos (show (n : Int) < (P : Int) by omega), hw, hw2]
  refine Evl.bind (siLeft_ev hsane hl (n : Int)) ?_
  refine Evl.bind (siLeft_ev hsane hl (-(n : Int) + (P : Int))) ?_
  rw [hW.on]
  unfold symL
  by_cases c : left (rs l) (n : Int) = left (rs l) (-(n : Int))
  ·simp only [if_pos c]
   rw [c]
   simp only [bne_self_eq_false, Bool.false_eq_true, if_false]
   exact ih (n + 1) (by omega)
  ·simp only [if_neg c, bne_iff_ne.2 c, if_true]
   exact Evl.ret _
theorem FnExactIsSymmetric_main (l : List S45) (hlc : l.length ≤ 1099511627776) : ∃ r b, Evl (fun k => spec_IsSymmetric.f k l) (r, b) ∧ Evl (fun k => impl_IsSymmetric.f k l) (r, b) := by
 rcases wheel_cases l with ⟨P, hW, hi, hs, hsane, hl, hz, h1, h5⟩ | ⟨⟨x, y, hi⟩, hs⟩
 ·refine ⟨symL (rs l) P 0, true, ?_, ?_⟩
  ·simp only [spec_IsSymmetric.f]
   refine Evl.bind hs ?_
   simp only [if_neg hz]
   exact spec_IsSymmetric_l0 l hsane hl P hW P 0 rfl
  ·simp only [impl_IsSymmetric.f]
   refine Evl.bind hi ?_
   simp only [if_true]
   exact impl_IsSymmetric_l0 l hsane P h5 P 0 rfl
 ·refine ⟨false, false, ?_, ?_⟩
  ·simp only [spec_IsSymmetric.f]
   refine Evl.bind hs ?_
   simp only [if_true]
   exact Evl.ret _
  ·simp only [impl_IsSymmetric.f]
   refine Evl.bind hi ?_
   simp only [Bool.false_eq_true, if_false]
   exact Evl.ret _

end Go.Proofs.Ytdaodlhcedjfoaa.L

/-! ## X6 -/
namespace Go.Proofs.Ytdaodlhcedjfoaa.L
open Go.RowKit Go.Proofs.YtdaodlhcedjfoaaW.PrintWords Go.Proofs.Ytdaodlhcedjfoaa.P Go.Proofs.Ytdaodlhcedjfoaa.M
set_option linter.unusedVariables false
set_option linter.unusedSimpArgs false

/-- Whether m numbers from n on are left just as those by further on. -/
def sameL (q : List Ru) (b : Int) : Nat → Int → Bool
 | 0, _ => true
 | m + 1, n => if left q n = left q (n + b) then sameL q b m (n + 1) else false
/-- The least one from b on, m tries. -/
def leastL (q : List Ru) (P : Nat) : Nat → Nat → Int
 | 0, b => (b : Int)
 | m + 1, b => if P % b = 0 ∧ sameL q (b : Int) P 0 = true then (b : Int) else leastL q P m (b + 1)
theorem sameL_self {q : List Ru} {P : Nat} (h : Wheel q P) : ∀ (m : Nat) (n : Int), sameL q (P : Int) m n = true
 | 0, _ => rfl
 | m + 1, n => by
  unfold sameL
  rw [if_pos (h.on n).symm]
  exact sameL_self h m (n + 1)
theorem impl_LP_yes (l : List S45) (hsane : Sane l) (P b : Nat) (s : List Int) (hP : P ≤ 5000) (hb : b ≤ 5000) : ∀ (m n : Nat), m + n = P → sameL (rs l) (b : Int) m (n : Int) = true → Evl (fun k => impl_LeastPeriod.l1 k l (b : Int) true (n : Int) (P : Int) s) ((b : Int), true) := by
 intro m
 induction m with
 | zero =>
  intro n hn hy
  refine Evl.succ ?_
  simp only [impl_LeastPeriod.l1, if_true, decide_eq_false (show ¬ (n : Int) < (P : Int) by omega)]
  refine Evl.succ ?_
  simp only [impl_LeastPeriod.j2, Bool.false_eq_true, if_false, if_true]
  exact Evl.ret _
 | succ m ih =>
  intro n hn hy
  have hw : wrap64 ((n : Int) + 1) = ((n + 1 : Nat) : Int) := by rw [w64 (by omega) (by omega)]; rfl
  have hw2 : wrap64 ((n : Int) + (b : Int)) = (n : Int) + (b : Int) := w64 (by omega) (by omega)
  refine Evl.succ ?_
  simp only [impl_LeastPeriod.l1, if_true, decide_eq_true (show (n : Int) < (P : Int) by omega)]
  refine Evl.succ ?_
  simp only [impl_LeastPeriod.j2, if_true, isLeft_eq hsane, Option.bind_some, hw, hw2]
  unfold sameL at hy
  by_cases c : left (rs l) (n : Int) = left (rs l) ((n : Int) + (b : Int))
  ·rw [if_pos c] at hy
   rw [beq_iff_eq.2 c]
   exact ih (n + 1) (by omega) hy
  ·rw [if_neg c] at hy
   cases hy
theorem impl_LP_l1 (l : List S45) (hsane : Sane l) (P b : Nat) (s : List Int) (hP : P ≤ 5000) (hb : b ≤ 5000) (R : Int × Bool)
 (hno : Evl (fun k => impl_LeastPeriod.l0 k l ((b + 1 : Nat) : Int) (P : Int) s) R) : Evl (fun k => impl_LeastPeriod.l1 k l (b : Int) false 0 (P : Int) s) R ∧ ∀ (m n : Nat), m + n = P →
  (sameL (rs l) (b : Int) m (n : Int) = true → R = ((b : Int), true)) → Evl (fun k => impl_LeastPeriod.l1 k l (b : Int) true (n : Int) (P : Int) s) R := by
 have hwb : wrap64 ((b : Int) + 1) = ((b + 1 : Nat) : Int) := by rw [w64 (by omega) (by omega)]; rfl
 have hf : ∀ n : Int, Evl (fun k => impl_LeastPeriod.l1 k l (b : Int) false n (P : Int) s) R := by
  intro n
  refine Evl.succ ?_
  simp only [impl_LeastPeriod.l1, Bool.false_eq_true, if_false]
  refine Evl.succ ?_
  simp only [impl_LeastPeriod.j2, Bool.false_eq_true, if_false, hwb]
  exact hno
 refine ⟨hf 0, ?_⟩
 intro m
 induction m with
 | zero =>
  intro n hn hy
  refine Evl.succ ?_
  simp only [impl_LeastPeriod.l1, if_true, decide_eq_false (show ¬ (n : Int) < (P : Int) by omega)]
  refine Evl.succ ?_
  simp only [impl_LeastPeriod.j2, Bool.false_eq_true, if_false, if_true]
  rw [hy rfl]
  exact Evl.ret _
 | succ m ih =>
  intro n hn hy
  have hw : wrap64 ((n : Int) + 1) = ((n + 1 : Nat) : Int) := by rw [w64 (by omega) (by omega)]; rfl
  have hw2 : wrap64 ((n : Int) + (b : Int)) = (n : Int) + (b : Int) := w64 (by omega) (by omega)
  refine Evl.succ ?_
  simp only [impl_LeastPeriod.l1, if_true, decide_eq_true (show (n : Int) < (P : Int) by omega)]
  refine Evl.succ ?_
  simp only [impl_LeastPeriod.j2, if_true, isLeft_eq hsane, Option.bind_some, hw, hw2]
  unfold sameL at hy
  by_cases c : left (rs l) (n : Int) = left (rs l) ((n : Int) + (b : Int))
  ·rw [if_pos c] at hy
   rw [beq_iff_eq.2 c]
   exact ih (n + 1) (by omega) hy
  ·rw [beq_eq_false_iff_ne.2 c]
   exact hf _
theorem impl_LP_l0 (l : List S45) (hsane : Sane l) (P : Nat) (hW : Wheel (rs l) P) (s : List Int) : ∀ (m b : Nat), 1 ≤ b → b ≤ P → m + b = P + 1 → Evl (fun k => impl_LeastPeriod.l0 k l (b : Int) (P : Int) s) (leastL (rs l) P m b, true) := by
 have hP := hW.most
 intro m
 induction m with
 | zero => intro b h1 h2 h3; omega
 | succ m ih =>
  intro b h1 h2 h3
  have ht : Int.tmod (P : Int) (b : Int) = ((P % b : Nat) : Int) := rfl
  refine Evl.succ ?_
  simp only [impl_LeastPeriod.l0, if_neg (show ¬ (b : Int) = 0 by omega), ht]
  unfold leastL
  by_cases c : P % b = 0 ∧ sameL (rs l) (b : Int) P 0 = true
  ·rw [if_pos c, show (((P % b : Nat) : Int) == 0) = true from beq_iff_eq.2 (by rw [c.1]; rfl)]
   exact impl_LP_yes l hsane P b s hP (by omega) P 0 rfl c.2
  ·have hbP : b ≠ P := fun e => c ⟨by rw [e]; exact Nat.mod_self P, by rw [e]; exact sameL_self hW P 0⟩
   rw [if_neg c]
   have hn := ih (b + 1) (by omega) (by omega) (by omega)
   obtain ⟨g1, g2⟩ := impl_LP_l1 l hsane P b s hP (by omega) _ hn
   by_cases c1 : P % b = 0
   ·rw [show (((P % b : Nat) : Int) == 0) = true from beq_iff_eq.2 (by rw [c1]; rfl)]
    exact g2 P 0 rfl (fun h => absurd ⟨c1, h⟩ c)
   ·rw [show (((P % b : Nat) : Int) == 0) = false from beq_eq_false_iff_ne.2 (fun e => c1 (Int.ofNat_eq_zero.1 e))]
    exact g1
theorem spec_LP_yes (l : List S45) (hsane : Sane l) (hl : l.length ≤ 1099511627776) (P b : Nat) (hP : P ≤ 5000) (hb : b ≤ 5000) : ∀ (m n : Nat), m + n = P → sameL (rs l) (b : Int) m (n : Int) = true → Evl (fun k => spec_LeastPeriod.l1 k l (P : Int) (b : Int) true (n : Int)) ((b : Int), true) := by
 intro m
 induction m with
 | zero =>
  intro n hn hy
  refine Evl.succ ?_
  simp only [spec_LeastPeriod.l1, if_neg (show ¬ (n : Int) < (P : Int) by omega)]
  refine Evl.succ ?_
  simp only [spec_LeastPeriod.j2, Bool.false_eq_true, if_false, if_true]
  exact Evl.ret _
 | succ m ih =>
  intro n hn hy
  have hw : wrap64 ((n : Int) + 1) = ((n + 1 : Nat) : Int) := by rw [w64 (by omega) (by omega)]; rfl
  have hw2 : wrap64 ((n : Int) + (b : Int)) = (n : Int) + (b : Int) := w64 (by omega) (by omega)
  refine Evl.succ ?_
  simp only [spec_LeastPeriod.l1, if_pos (show (n : Int) < (P : Int) by omega)]
  refine Evl.succ ?_
  simp only [spec_LeastPeriod.j2, if_true, hw, hw2]
  refine Evl.bind (siLeft_ev hsane hl (n : Int)) ?_
  refine Evl.bind (siLeft_ev hsane hl ((n : Int) + (b : Int))) ?_
  unfold sameL at hy
  by_cases c : left (rs l) (n : Int) = left (rs l) ((n : Int) + (b : Int))
  ·rw [if_pos c] at hy
   rw [beq_iff_eq.2 c]
   exact ih (n + 1) (by omega) hy
  ·rw [if_neg c] at hy
   cases hy
theorem spec_LP_l1 (l : List S45) (hsane : Sane l) (hl : l.length ≤ 1099511627776) (P b : Nat) (hP : P ≤ 5000) (hb : b ≤ 5000) (R : Int × Bool)
 (hno : Evl (fun k => spec_LeastPeriod.l0 k l (P : Int) ((b + 1 : Nat) : Int)) R) : ∀ (m n : Nat), m + n = P →
  (sameL (rs l) (b : Int) m (n : Int) = true → R = ((b : Int), true)) → Evl (fun k => spec_LeastPeriod.l1 k l (P : Int) (b : Int) true (n : Int)) R := by
 have hwb : wrap64 ((b : Int) + 1) = ((b + 1 : Nat) : Int) := by rw [w64 (by omega) (by omega)]; rfl
 have hf : ∀ n : Int, Evl (fun k => spec_LeastPeriod.l1 k l (P : Int) (b : Int) false n) R := by
  intro n
  refine Evl.succ ?_
  by_cases c : n < (P : Int)
  ·simp only [spec_LeastPeriod.l1, if_pos c]
   refine Evl.succ ?_
   simp only [spec_LeastPeriod.j2, Bool.false_eq_true, if_false, hwb]
   exact hno
  ·simp only [spec_LeastPeriod.l1, if_neg c]
   refine Evl.succ ?_
   simp only [spec_LeastPeriod.j2, Bool.false_eq_true, if_false, hwb]
   exact hno
 intro m
 induction m with
 | zero =>
  intro n hn hy
  rw [hy rfl]
  exact spec_LP_yes l hsane hl P b hP hb 0 n hn rfl
 | succ m ih =>
  intro n hn hy
  have hw : wrap64 ((n : Int) + 1) = ((n + 1 : Nat) : Int) := by rw [w64 (by omega) (by omega)]; rfl
  have hw2 : wrap64 ((n : Int) + (b : Int)) = (n : Int) + (b : Int) := w64 (by omega) (by omega)
  refine Evl.succ ?_
  simp only [spec_LeastPeriod.l1, if_pos (show (n : Int) < (P : Int) by omega)]
  refine Evl.succ ?_
  simp only [spec_LeastPeriod.j2, if_true, hw, hw2]
  refine Evl.bind (siLeft_ev hsane hl (n : Int)) ?_
  refine Evl.bind (siLeft_ev hsane hl ((n : Int) + (b : Int))) ?_
  unfold sameL at hy
  by_cases c : left (rs l) (n : Int) = left (rs l) ((n : Int) + (b : Int))
  ·rw [if_pos c] at hy
   rw [beq_iff_eq.2 c]
   exact ih (n + 1) (by omega) hy
  ·rw [beq_eq_false_iff_ne.2 c]
   exact hf _
theorem spec_LP_l0 (l : List S45) (hsane : Sane l) (hl : l.length ≤ 1099511627776) (P : Nat) (hW : Wheel (rs l) P) : ∀ (m b : Nat), 1 ≤ b → b ≤ P → m + b = P + 1 → Evl (fun k => spec_LeastPeriod.l0 k l (P : Int) (b : Int)) (leastL (rs l) P m b, true) := by
 have hP := hW.most
 intro m
 induction m with
 | zero => intro b h1 h2 h3; omega
 | succ m ih =>
  intro b h1 h2 h3
  have hwb : wrap64 ((b : Int) + 1) = ((b + 1 : Nat) : Int) := by rw [w64 (by omega) (by omega)]; rfl
  have ht : Int.tmod (P : Int) (b : Int) = ((P % b : Nat) : Int) := rfl
  refine Evl.succ ?_
  simp only [spec_LeastPeriod.l0, if_neg (show ¬ (b : Int) = 0 by omega), ht, hwb]
  unfold leastL
  by_cases c : P % b = 0 ∧ sameL (rs l) (b : Int) P 0 = true
  ·simp only [if_pos c, if_pos (show ((P % b : Nat) : Int) = 0 by rw [c.1]; rfl)]
   exact spec_LP_yes l hsane hl P b hP (by omega) P 0 rfl c.2
  ·have hbP : b ≠ P := fun e => c ⟨by rw [e]; exact Nat.mod_self P, by rw [e]; exact sameL_self hW P 0⟩
   simp only [if_neg c]
   have hn := ih (b + 1) (by omega) (by omega) (by omega)
   by_cases c1 : P % b = 0
   ·simp only [if_pos (show ((P % b : Nat) : Int) = 0 by rw [c1]; rfl)]
    exact spec_LP_l1 l hsane hl P b hP (by omega) _ hn P 0 rfl (fun h => absurd ⟨c1, h⟩ c)
   ·simp only [if_neg (show ¬ ((P % b : Nat) : Int) = 0 from fun e => c1 (Int.ofNat_eq_zero.1 e))]
    exact hn
theorem FnExactLeastPeriod_main (l : List S45) (hlc : l.length ≤ 1099511627776) : ∃ r b, Evl (fun k => spec_LeastPeriod.f k l) (r, b) ∧ Evl (fun k => impl_LeastPeriod.f k l) (r, b) := by
 rcases wheel_cases l with ⟨P, hW, hi, hs, hsane, hl, hz, h1, h5⟩ | ⟨⟨x, y, hi⟩, hs⟩
 ·refine ⟨leastL (rs l) P P 1, true, ?_, ?_⟩
  ·simp only [spec_LeastPeriod.f]
   refine Evl.bind hs ?_
   simp only [if_neg hz]
   exact spec_LP_l0 l hsane hl P hW P 1 (by omega) h1 rfl
  ·simp only [impl_LeastPeriod.f]
   refine Evl.bind hi ?_
   simp only [if_true]
   exact impl_LP_l0 l hsane P hW _ P 1 (by omega) h1 rfl
 ·refine ⟨0, false, ?_, ?_⟩
  ·simp only [spec_LeastPeriod.f]
   refine Evl.bind hs ?_
   simp only [if_true]
   exact Evl.ret _
  ·simp only [impl_LeastPeriod.f]
   refine Evl.bind hi ?_
   simp only [Bool.false_eq_true, if_false]
   exact Evl.ret _

end Go.Proofs.Ytdaodlhcedjfoaa.L

/-! ## X7 -/
namespace Go.Proofs.Ytdaodlhcedjfoaa.L
open Go.RowKit Go.Proofs.YtdaodlhcedjfoaaW.PrintWords Go.Proofs.Ytdaodlhcedjfoaa.P Go.Proofs.Ytdaodlhcedjfoaa.M
set_option linter.unusedVariables false
set_option linter.unusedSimpArgs false

theorem spec_RW_no (l : List S45) (a : Int) : Evl (fun k => spec_RollWheel.j0 k l a true) ([], false) := by
 refine Evl.succ ?_
 simp only [spec_RollWheel.j0, if_true]
 exact Evl.ret _
theorem impl_RW_no (l : List S45) (a : Int) : Evl (fun k => impl_RollWheel.j0 k l a true) ([], false) := by
 refine Evl.succ ?_
 simp only [impl_RollWheel.j0, if_true]
 exact Evl.ret _
/-- The rules and one more. -/
theorem RW_more (l : List S45) (a : Int) (hl : l.length ≤ 12) : ∃ r b, Evl (fun k => spec_RollWheel.j0 k l a false) (r, b) ∧ Evl (fun k => impl_RollWheel.j0 k l a false) (r, b) ∧ r.length ≤ 1099511627776 := by
 have e1 : ([] : List S45).length + l.length < 8796093022208 := by simp; omega
 have e2 : (([] : List S45) ++ l).length < 8796093022208 := by simp; omega
 have e3 : (([] : List S45) ++ l) ++ [(⟨a, 0⟩ : S45)] = l ++ [(⟨a, 0⟩ : S45)] := rfl
 rcases wheel_cases (l ++ [(⟨a, 0⟩ : S45)]) with ⟨P, hW, hi, hs, hsane, hl2, hz, h1, h5⟩ | ⟨⟨x, y, hi⟩, hs⟩
 ·refine ⟨lb (rs (l ++ [(⟨a, 0⟩ : S45)])) P 1, true, ?_, ?_, by have := lb_length (rs (l ++ [(⟨a, 0⟩ : S45)])) P 1; omega⟩
  ·refine Evl.succ ?_
   simp only [spec_RollWheel.j0, Bool.false_eq_true, if_false, Option.bind_some, if_pos e1, if_pos e2, e3]
   refine Evl.bind hs ?_
   simp only [if_neg hz]
   refine Evl.bind hs ?_
   exact Evl.bind (whSpokes_ev hsane hl2 P (by omega)) (Evl.ret _)
  ·refine Evl.succ ?_
   simp only [impl_RollWheel.j0, Bool.false_eq_true, if_false, Option.bind_some, if_pos e1, if_pos e2, e3]
   refine Evl.bind hi ?_
   simp only [if_true]
   exact Evl.ret _
 ·refine ⟨[], false, ?_, ?_, by simp⟩
  ·refine Evl.succ ?_
   simp only [spec_RollWheel.j0, Bool.false_eq_true, if_false, Option.bind_some, if_pos e1, if_pos e2, e3]
   refine Evl.bind hs ?_
   simp only [if_true]
   exact Evl.ret _
  ·refine Evl.succ ?_
   simp only [impl_RollWheel.j0, Bool.false_eq_true, if_false, Option.bind_some, if_pos e1, if_pos e2, e3]
   refine Evl.bind hi ?_
   simp only [Bool.false_eq_true, if_false]
   exact Evl.ret _
theorem FnExactRollWheel_main (l : List S45) (a1 : Int) (hlc : l.length ≤ 1099511627776) (h1 : (Lit.int .i64 a1).wf = true) : ∃ r b, Evl (fun k => spec_RollWheel.f k l a1) (r, b) ∧ Evl (fun k => impl_RollWheel.f k l a1) (r, b) ∧ r.length ≤ 1099511627776 := by
 rcases wheel_cases l with ⟨P, hW, hi, hs, hsane, hl, hz, h1, h5⟩ | ⟨⟨x, y, hi⟩, hs⟩
 ·by_cases c : 2 ≤ a1 ∧ a1 ≤ 60
  ·have i1 : ¬ a1 < 2 := by omega
   have i2 : ¬ a1 > 60 := by omega
   have i3 : ¬ a1 = 0 := by omega
   cases cp : isPI a1 with
   | true =>
    by_cases ct : Int.tmod (P : Int) a1 = 0
    ·refine ⟨[], false, ?_, ?_, by simp⟩
     ·simp only [spec_RollWheel.f]
      refine Evl.bind hs ?_
      simp only [if_neg hz, l1In_eq, decide_eq_true c, Option.bind_some, if_true]
      refine Evl.bind (spec_prIs_ev a1 (by omega)) ?_
      simp only [cp, if_true, if_neg i3, if_pos ct]
      exact spec_RW_no _ _
     ·simp only [impl_RollWheel.f]
      refine Evl.bind hi ?_
      simp only [if_true, if_neg i1, if_neg i2]
      refine Evl.bind (impl_isPrime_ev a1 (by omega)) ?_
      simp only [cp, if_true, if_neg i3, if_pos ct]
      exact impl_RW_no _ _
    ·by_cases cl : (l.length : Int) = 12
     ·refine ⟨[], false, ?_, ?_, by simp⟩
      ·simp only [spec_RollWheel.f]
       refine Evl.bind hs ?_
       simp only [if_neg hz, l1In_eq, decide_eq_true c, Option.bind_some, if_true]
       refine Evl.bind (spec_prIs_ev a1 (by omega)) ?_
       simp only [cp, if_true, if_neg i3, if_neg ct, beq_iff_eq.2 cl]
       exact spec_RW_no _ _
      ·simp only [impl_RollWheel.f]
       refine Evl.bind hi ?_
       simp only [if_true, if_neg i1, if_neg i2]
       refine Evl.bind (impl_isPrime_ev a1 (by omega)) ?_
       simp only [cp, if_true, if_neg i3, if_neg ct, beq_iff_eq.2 cl]
       exact impl_RW_no _ _
     ·obtain ⟨r, b, g1, g2, g3⟩ := RW_more l a1 (len_of_good hW.good)
      refine ⟨r, b, ?_, ?_, g3⟩
      ·simp only [spec_RollWheel.f]
       refine Evl.bind hs ?_
       simp only [if_neg hz, l1In_eq, decide_eq_true c, Option.bind_some, if_true]
       refine Evl.bind (spec_prIs_ev a1 (by omega)) ?_
       simp only [cp, if_true, if_neg i3, if_neg ct, beq_eq_false_iff_ne.2 cl]
       exact g1
      ·simp only [impl_RollWheel.f]
       refine Evl.bind hi ?_
       simp only [if_true, if_neg i1, if_neg i2]
       refine Evl.bind (impl_isPrime_ev a1 (by omega)) ?_
       simp only [cp, if_true, if_neg i3, if_neg ct, beq_eq_false_iff_ne.2 cl]
       exact g2
   | false =>
    refine ⟨[], false, ?_, ?_, by simp⟩
    ·simp only [spec_RollWheel.f]
     refine Evl.bind hs ?_
     simp only [if_neg hz, l1In_eq, decide_eq_true c, Option.bind_some, if_true]
     refine Evl.bind (spec_prIs_ev a1 (by omega)) ?_
     simp only [cp, Bool.false_eq_true, if_false]
     exact spec_RW_no _ _
    ·simp only [impl_RollWheel.f]
     refine Evl.bind hi ?_
     simp only [if_true, if_neg i1, if_neg i2]
     refine Evl.bind (impl_isPrime_ev a1 (by omega)) ?_
     simp only [cp, Bool.false_eq_true, if_false]
     exact impl_RW_no _ _
  ·refine ⟨[], false, ?_, ?_, by simp⟩
   ·simp only [spec_RollWheel.f]
    refine Evl.bind hs ?_
    simp only [if_neg hz, l1In_eq, decide_eq_false c, Option.bind_some, Bool.false_eq_true, if_false]
    exact spec_RW_no _ _
   ·simp only [impl_RollWheel.f]
    refine Evl.bind hi ?_
    by_cases i1 : a1 < 2
    ·simp only [if_true, if_pos i1]
     exact impl_RW_no _ _
    ·simp only [if_true, if_neg i1, if_pos (show a1 > 60 by omega)]
     exact impl_RW_no _ _
 ·refine ⟨[], false, ?_, ?_, by simp⟩
  ·simp only [spec_RollWheel.f]
   refine Evl.bind hs ?_
   simp only [if_true]
   exact spec_RW_no _ _
  ·simp only [impl_RollWheel.f]
   refine Evl.bind hi ?_
   simp only [Bool.false_eq_true, if_false]
   exact impl_RW_no _ _

end Go.Proofs.Ytdaodlhcedjfoaa.L

/-! ## X34 -/
namespace Go.Proofs.Ytdaodlhcedjfoaa.L
open Go.RowKit Go.Proofs.YtdaodlhcedjfoaaW.PrintWords Go.Proofs.Ytdaodlhcedjfoaa.P Go.Proofs.Ytdaodlhcedjfoaa.M
set_option linter.unusedVariables false
set_option linter.unusedSimpArgs false

theorem Evl.uniq {α : Type} {g : Nat → Option α} {a b : α} (h : Evl g a) (h2 : Evl g b) : a = b := by
 obtain ⟨K, h⟩ := h
 obtain ⟨K2, h2⟩ := h2
 exact Option.some.inj ((h (max K K2) (Nat.le_max_left ..)).symm.trans (h2 (max K K2) (Nat.le_max_right ..)))
theorem Evl.both {α β : Type} {gi gs : Nat → Option (α × β)} (h : ∃ r b, Evl gs (r, b) ∧ Evl gi (r, b)) {v : α × β} (hv : Evl gi v) : Evl gs v := by
 obtain ⟨r, b, h1, h2⟩ := h
 rw [Evl.uniq hv h2]
 exact h1

/-- A wheel, as both tell it. -/
structure WD (l : List S45) (P : Nat) : Prop where
 W : Wheel (rs l) P
 i : Evl (fun k => impl_wheelOf.f k l) ((P : Int), lb (rs l) P 1, true)
 s : Evl (fun k => spec_whPeriod.f k l) (P : Int)
 sane : Sane l
 len : l.length ≤ 1099511627776
 z : ¬ (P : Int) = 0
 h1 : 1 ≤ P
 h5 : P ≤ 5000
theorem wd_cases (l : List S45) : (∃ P, WD l P) ∨ ((∃ x y, Evl (fun k => impl_wheelOf.f k l) (x, y, false)) ∧ Evl (fun k => spec_whPeriod.f k l) 0) := by
 rcases wheel_cases l with ⟨P, hW, hi, hs, hsane, hl, hz, h1, h5⟩ | h
 ·exact .inl ⟨P, hW, hi, hs, hsane, hl, hz, h1, h5⟩
 ·exact .inr h

/-! ### lists that rise -/
theorem lb_at {q : List Ru} {P i : Nat} (h : i < (lb q P 1).length) : 1 ≤ (lb q P 1)[i] ∧ (lb q P 1)[i] ≤ P ∧ left q (lb q P 1)[i] = true := by
 have := (lb_mem q P 1 _).1 (List.getElem_mem h)
 exact ⟨this.1, by omega, this.2.2⟩

/-! ### ranks -/
/-- Whether it is a spoke. -/
def isV (q : List Ru) (a : Int) : Bool × Bool := if 0 ≤ a ∧ a ≤ 1000000000 then (left q a, true) else (false, false)

theorem is_i {l : List S45} {P : Nat} (d : WD l P) (a : Int) : Evl (fun k => impl_IsSpoke.f k l a) (isV (rs l) a) := by
 unfold isV
 simp only [impl_IsSpoke.f]
 refine Evl.bind d.i ?_
 by_cases c : 0 ≤ a ∧ a ≤ 1000000000
 ·rw [if_pos c]
  simp only [if_true, isFar_eq, decide_eq_true c, Option.bind_some, isLeft_eq d.sane]
  exact Evl.ret _
 ·rw [if_neg c]
  simp only [if_true, isFar_eq, decide_eq_false c, Option.bind_some, Bool.false_eq_true, if_false]
  exact Evl.ret _
theorem spokes_i {l : List S45} {P : Nat} (d : WD l P) : Evl (fun k => impl_SpokesOf.f k l) (lb (rs l) P 1, true) := by
 simp only [impl_SpokesOf.f]
 refine Evl.bind d.i ?_
 simp only [if_true]
 exact Evl.ret _
theorem steps_i {l : List S45} {P : Nat} (d : WD l P) : Evl (fun k => impl_StepsOf.f k l) (steps (rs l) P, true) := by
 simp only [impl_StepsOf.f]
 refine Evl.bind d.i ?_
 simp only [if_true]
 exact Evl.bind (wheel_steps_ev (rs l) P d.h5) (Evl.ret _)
theorem count_i {l : List S45} {P : Nat} (d : WD l P) : Evl (fun k => impl_CountSpokes.f k l) (((lb (rs l) P 1).length : Int), true) := by
 simp only [impl_CountSpokes.f]
 refine Evl.bind d.i ?_
 simp only [if_true]
 exact Evl.ret _
theorem period_i {l : List S45} {P : Nat} (d : WD l P) : Evl (fun k => impl_PeriodOfRules.f k l) ((P : Int), true) := by
 have h := periodOf_ev l
 rw [if_pos d.W.good, d.W.per] at h
 simp only [impl_PeriodOfRules.f]
 exact Evl.bind h (Evl.ret _)

/-! ### there and back -/
/-! ### sums, steps -/
theorem gSame_l0 (a : List Int) (hl : a.length ≤ 1099511627776) : ∀ (s : List Int) (i : Nat), a.drop i = s → Evl (fun k => laws_gSame.l0 k a a (a.length : Int) (i : Int)) true := by
 intro s
 induction s with
 | nil =>
  intro i h
  have hi := drop_nil h
  refine Evl.succ ?_
  simp only [laws_gSame.l0, if_neg (show ¬ (i : Int) < (a.length : Int) by omega)]
  exact Evl.ret _
 | cons x s ih =>
  intro i h
  obtain ⟨hi, hx, hs⟩ := drop_cons h
  have hw : wrap64 ((i : Int) + 1) = ((i + 1 : Nat) : Int) := by rw [w64 (by omega) (by omega)]; rfl
  refine Evl.succ ?_
  simp only [laws_gSame.l0, if_pos (show (i : Int) < (a.length : Int) by omega), if_pos (show (0 : Int) ≤ (i : Int) by omega), if_true, hw]
  exact ih (i + 1) hs
theorem gSame_self (a : List Int) (hl : a.length ≤ 1099511627776) : Evl (fun k => laws_gSame.f k a a) true := by
 simp only [laws_gSame.f, if_true]
 exact gSame_l0 a hl a 0 rfl
theorem stepsL_range (first P : Int) (hf : 1 ≤ first) (hfP : first ≤ P) : ∀ (t : List Int) (x : Int), (x :: t).Pairwise (· < ·) → (∀ y ∈ x :: t, first ≤ y ∧ y ≤ P) → ∀ s ∈ stepsL first P (x :: t), 1 ≤ s ∧ s ≤ P
 | [], x => fun _ hx s hs => by
  have := hx x (List.mem_cons_self ..)
  simp only [stepsL, List.mem_singleton] at hs
  omega
 | y :: t, x => fun hp hx s hs => by
  rw [List.pairwise_cons] at hp
  have h1 := hp.1 y (List.mem_cons_self ..)
  have h2 := hx x (List.mem_cons_self ..)
  have h3 := hx y (List.mem_cons_of_mem _ (List.mem_cons_self ..))
  simp only [stepsL, List.mem_cons] at hs
  rcases hs with rfl | hs
  ·omega
  ·exact stepsL_range first P hf hfP t y hp.2 (fun z hz => hx z (List.mem_cons_of_mem _ hz)) s hs
theorem stepsL_rd (first P : Int) : ∀ (l : List Int) (i : Nat), i + 1 < l.length → rd (stepsL first P l) (i : Int) = rd l ((i + 1 : Nat) : Int) - rd l (i : Int)
 | [], i, h => absurd h (Nat.not_lt_zero _)
 | [x], i, h => absurd h (by simp)
 | x :: y :: t, 0, h => by
  rw [rd_of (xs := stepsL first P (x :: y :: t)) (i := 0) (x := y - x) rfl, rd_of (xs := x :: y :: t) (i := 0) (x := x) rfl, rd_of (xs := x :: y :: t) (i := 0 + 1) (x := y) rfl]
 | x :: y :: t, i + 1, h => by
  have hl : i + 1 < (y :: t).length := by simp only [List.length_cons] at h ⊢; omega
  have ih := stepsL_rd first P (y :: t) i hl
  have hsl : i < (stepsL first P (y :: t)).length := by rw [stepsL_length]; omega
  rw [rd_nat hsl, rd_nat hl, rd_nat (show i < (y :: t).length by omega)] at ih
  rw [rd_of (xs := stepsL first P (x :: y :: t)) (i := i + 1) (x := (stepsL first P (y :: t))[i]) (List.getElem?_eq_getElem hsl),
   rd_of (xs := x :: y :: t) (i := i + 1) (x := (y :: t)[i]) (List.getElem?_eq_getElem (show i < (y :: t).length by omega)),
   rd_of (xs := x :: y :: t) (i := i + 1 + 1) (x := (y :: t)[i + 1]) (List.getElem?_eq_getElem hl)]
  exact ih
theorem lb_cons {q : List Ru} {P : Nat} (W : Wheel q P) : ∃ x t, lb q P 1 = x :: t := by
 cases e : lb q P 1 with
 | nil => exact absurd e W.some
 | cons x t => exact ⟨x, t, rfl⟩
theorem steps_range {q : List Ru} {P : Nat} (W : Wheel q P) : ∀ s ∈ steps q P, 1 ≤ s ∧ s ≤ P := by
 obtain ⟨x, t, e⟩ := lb_cons W
 have hs := lb_sorted q P 1
 have hm := fun y => (lb_mem q P 1 y).1
 unfold steps
 rw [e] at hs hm ⊢
 have hx := hm x (List.mem_cons_self ..)
 refine stepsL_range x P hx.1 (by omega) t x hs (fun y hy => ⟨?_, by have := hm y hy; omega⟩)
 rcases List.mem_cons.1 hy with rfl | hy
 ·exact Int.le_refl _
 ·exact Int.le_of_lt ((List.pairwise_cons.1 hs).1 y hy)
theorem steps_rd {q : List Ru} {P i : Nat} (h : i + 1 < (lb q P 1).length) : rd (steps q P) (i : Int) = rd (lb q P 1) ((i + 1 : Nat) : Int) - rd (lb q P 1) (i : Int) := stepsL_rd _ _ _ _ h

end Go.Proofs.Ytdaodlhcedjfoaa.L

/-! ## X8 -/
namespace Go.Proofs.Ytdaodlhcedjfoaa.L
open Go.RowKit Go.Proofs.YtdaodlhcedjfoaaW.PrintWords Go.Proofs.YtdaodlhcedjfoaaW.PrintMore Go.Proofs.Ytdaodlhcedjfoaa.P Go.Proofs.Ytdaodlhcedjfoaa.M
set_option linter.unusedVariables false
set_option linter.unusedSimpArgs false

/-- The greatest, 0 if there is none greater. -/
def maxL : List Int → Int
 | [] => 0
 | y :: s => if maxL s > y then maxL s else y
/-- The first place of x. -/
def fstI (x : Int) : List Int → Nat
 | [] => 0
 | y :: s => if x = y then 0 else fstI x s + 1
theorem maxL_mem : ∀ (s : List Int), s ≠ [] → (∀ y ∈ s, 1 ≤ y) → maxL s ∈ s
 | [], h, _ => absurd rfl h
 | y :: s, _, h => by
  unfold maxL
  by_cases c : maxL s > y
  ·rw [if_pos c]
   have hs : s ≠ [] := by
    rintro rfl
    have := h y (by simp)
    simp only [maxL] at c
    omega
   exact List.mem_cons_of_mem _ (maxL_mem s hs (fun z hz => h z (by simp [hz])))
  ·rw [if_neg c]
   simp
theorem fstI_lt : ∀ (s : List Int) (x : Int), x ∈ s → fstI x s < s.length
 | [], x, h => by cases h
 | y :: s, x, h => by
  unfold fstI
  rw [List.length_cons]
  by_cases c : x = y
  ·rw [if_pos c]; omega
  ·rw [if_neg c]
   rcases List.mem_cons.1 h with h | h
   ·exact absurd h c
   ·have := fstI_lt s x h
    omega
theorem Index2_l0 (xs : List Int) (hl : xs.length ≤ 1000000) (x : Int) : ∀ (s : List Int) (i : Nat), xs.drop i = s → x ∈ s → Evl (fun k => slices_Index_int_int.l0 k xs x (xs.length : Int) (i : Int)) ((i : Int) + fstI x s) := by
 intro s
 induction s with
 | nil => intro i _ hx; cases hx
 | cons y s ih =>
  intro i hd hx
  obtain ⟨hi, hy, hs⟩ := drop_cons hd
  have hw : wrap64 ((i : Int) + 1) = ((i + 1 : Nat) : Int) := by rw [w64 (by omega) (by omega)]; rfl
  refine Evl.succ ?_
  simp only [slices_Index_int_int.l0, if_pos (show (i : Int) < (xs.length : Int) by omega), if_pos (show (0 : Int) ≤ (i : Int) by omega), rd_of hy, hw]
  unfold fstI
  by_cases c : x = y
  ·simp only [if_pos c]
   refine (Evl.ret _).cast ?_
   omega
  ·simp only [if_neg c]
   rcases List.mem_cons.1 hx with h | h
   ·exact absurd h c
   ·refine (ih (i + 1) hs h).cast ?_
    omega
theorem Max_l0 (xs : List Int) (hl : xs.length ≤ 1000000) : ∀ (s : List Int) (i : Nat) (m : Int), xs.drop i = s → 1 ≤ m → (∀ y ∈ s, 1 ≤ y) → Evl (fun k => slices_Max_int_int.l0 k xs m (i : Int)) (if maxL s > m then maxL s else m) := by
 intro s
 induction s with
 | nil =>
  intro i m hd hm _
  have hi := drop_nil hd
  refine Evl.succ ?_
  simp only [slices_Max_int_int.l0, if_neg (show ¬ (i : Int) < (xs.length : Int) by omega)]
  refine (Evl.ret _).cast ?_
  rw [if_neg (by simp only [maxL]; omega)]
 | cons y s ih =>
  intro i m hd hm hs1
  obtain ⟨hi, hy, hs⟩ := drop_cons hd
  have hy1 := hs1 y (by simp)
  have hw : wrap64 ((i : Int) + 1) = ((i + 1 : Nat) : Int) := by rw [w64 (by omega) (by omega)]; rfl
  refine Evl.succ ?_
  simp only [slices_Max_int_int.l0, if_pos (show (i : Int) < (xs.length : Int) by omega), if_pos (show (0 : Int) ≤ (i : Int) by omega), rd_of hy, hw]
  refine (ih (i + 1) (mx m y) hs (by unfold mx; split <;> omega) (fun z hz => hs1 z (by simp [hz]))).cast ?_
  simp only [maxL]
  unfold mx
  by_cases c1 : m < y <;> by_cases c2 : maxL s > y <;> by_cases c3 : maxL s > m <;> simp [c1, c2, c3] <;> omega
theorem Max_ev (s : List Int) (hl : s.length ≤ 1000000) (hne : s ≠ []) (h1 : ∀ y ∈ s, 1 ≤ y) : Evl (fun k => slices_Max_int_int.f k s) (maxL s) := by
 obtain ⟨y, t, rfl⟩ := List.exists_cons_of_ne_nil hne
 have e0 : rd (y :: t) 0 = y := rfl
 simp only [slices_Max_int_int.f, if_neg (show ¬ ((y :: t).length : Int) < 1 by rw [List.length_cons]; omega), if_pos (show (0 : Int) < ((y :: t).length : Int) by rw [List.length_cons]; omega), e0]
 exact Max_l0 (y :: t) hl t 1 y rfl (h1 y (by simp)) (fun z hz => h1 z (by simp [hz]))

/-- Steps are at least 1. -/
theorem stepsL_pos (first P : Int) : ∀ (l : List Int), l.Pairwise (· < ·) → (∀ x ∈ l, x < first + P) → ∀ y ∈ stepsL first P l, 1 ≤ y
 | [], _, _, y, hy => by cases hy
 | [x], _, h, y, hy => by
  simp only [stepsL, List.mem_singleton] at hy
  have := h x (by simp)
  omega
 | x :: z :: t, hp, h, y, hy => by
  rw [List.pairwise_cons] at hp
  simp only [stepsL, List.mem_cons] at hy
  rcases hy with hy | hy
  ·have := hp.1 z (by simp)
   omega
  ·exact stepsL_pos first P (z :: t) hp.2 (fun w hw => h w (by simp [hw])) y hy
theorem steps_pos {q : List Ru} {P : Nat} : ∀ y ∈ steps q P, 1 ≤ y := by
 refine stepsL_pos _ _ _ (lb_sorted _ _ _) (fun x hx => ?_)
 have h1 := (lb_mem q P 1 x).1 hx
 cases e : lb q P 1 with
 | nil => rw [e] at hx; cases hx
 | cons z t =>
  have := (lb_mem q P 1 z).1 (by rw [e]; simp)
  show x < z + (P : Int)
  omega
theorem steps_ne {q : List Ru} {P : Nat} (h : lb q P 1 ≠ []) : steps q P ≠ [] := by
 intro e
 have := steps_length q P
 rw [e] at this
 exact h (List.eq_nil_of_length_eq_zero this.symm)

theorem spec_LS_l0 (sp xs : List Int) (hsl : sp.length = xs.length) (hl : xs.length ≤ 1000000) : ∀ (s : List Int) (i : Nat) (m f : Int), xs.drop i = s → 0 ≤ m → (∀ y ∈ s, 1 ≤ y) →
 Evl (fun k => spec_LongestStep.l0 k sp m f xs (xs.length : Int) (i : Int)) (if maxL s > m then (maxL s, rd sp ((i : Int) + fstI (maxL s) s), true) else (m, f, true)) := by
 intro s
 induction s with
 | nil =>
  intro i m f hd hm _
  have hi := drop_nil hd
  refine Evl.succ ?_
  simp only [spec_LongestStep.l0, if_neg (show ¬ (i : Int) < (xs.length : Int) by omega)]
  refine (Evl.ret _).cast ?_
  rw [if_neg (by simp only [maxL]; omega)]
 | cons y s ih =>
  intro i m f hd hm hs1
  obtain ⟨hi, hy, hs⟩ := drop_cons hd
  have hy1 := hs1 y (by simp)
  have hs2 : ∀ z ∈ s, 1 ≤ z := fun z hz => hs1 z (by simp [hz])
  have hw : wrap64 ((i : Int) + 1) = ((i + 1 : Nat) : Int) := by rw [w64 (by omega) (by omega)]; rfl
  refine Evl.succ ?_
  simp only [spec_LongestStep.l0, if_pos (show (i : Int) < (xs.length : Int) by omega), if_pos (show (0 : Int) ≤ (i : Int) by omega), rd_of hy, hw, if_pos (show (i : Int) < (sp.length : Int) by omega)]
  have e1 : maxL (y :: s) = if maxL s > y then maxL s else y := rfl
  have e0 : maxL s > y → fstI (maxL s) (y :: s) = fstI (maxL s) s + 1 := fun c => by
   simp only [fstI]
   rw [if_neg (show ¬ maxL s = y by omega)]
  have e00 : fstI y (y :: s) = 0 := by simp [fstI]
  by_cases c1 : y > m
  ·simp only [if_pos c1]
   refine (ih (i + 1) y (rd sp (i : Int)) hs (by omega) hs2).cast ?_
   by_cases c2 : maxL s > y
   ·rw [if_pos c2] at e1
    simp only [e1, if_pos c2, if_pos (show maxL s > m by omega), e0 c2]
    rw [show (((i + 1 : Nat) : Int) + (fstI (maxL s) s : Int)) = (i : Int) + ((fstI (maxL s) s + 1 : Nat) : Int) by omega]
   ·rw [if_neg c2] at e1
    simp only [e1, if_neg c2, if_pos c1, e00]
    rw [show ((i : Int) + ((0 : Nat) : Int)) = (i : Int) by omega]
  ·simp only [if_neg c1]
   refine (ih (i + 1) m f hs hm hs2).cast ?_
   by_cases c2 : maxL s > y
   ·rw [if_pos c2] at e1
    by_cases c3 : maxL s > m
    ·simp only [e1, if_pos c3, e0 c2]
     rw [show (((i + 1 : Nat) : Int) + (fstI (maxL s) s : Int)) = (i : Int) + ((fstI (maxL s) s + 1 : Nat) : Int) by omega]
    ·simp only [e1, if_neg c3]
   ·rw [if_neg c2] at e1
    simp only [e1, if_neg c1, if_neg (show ¬ maxL s > m by omega)]
theorem FnExactLongestStep_main (l : List S45) (hlc : l.length ≤ 1099511627776) : ∃ r q b, Evl (fun k => spec_LongestStep.f k l) (r, q, b) ∧ Evl (fun k => impl_LongestStep.f k l) (r, q, b) := by
 rcases wheel_cases l with ⟨P, hW, hi, hs, hsane, hl, hz, h1, h5⟩ | ⟨⟨x, y, hi⟩, hs⟩
 ·have hll := lb_length (rs l) P 1
  have hsl := steps_length (rs l) P
  have hne := steps_ne hW.some
  have hpos := steps_pos (q := rs l) (P := P)
  have hmem := maxL_mem _ hne hpos
  have hm1 := hpos _ hmem
  have hlt := fstI_lt _ _ hmem
  refine ⟨maxL (steps (rs l) P), rd (lb (rs l) P 1) ((0 : Int) + fstI (maxL (steps (rs l) P)) (steps (rs l) P)), true, ?_, ?_⟩
  ·simp only [spec_LongestStep.f]
   refine Evl.bind hs ?_
   simp only [if_neg hz]
   refine Evl.bind (whSpokes_ev hsane hl P (by omega)) ?_
   refine Evl.bind (whSteps_ev l hsane hl P h5) ?_
   refine (spec_LS_l0 (lb (rs l) P 1) (steps (rs l) P) hsl.symm (by omega) (steps (rs l) P) 0 0 0 rfl (by omega) hpos).cast ?_
   rw [if_pos (show maxL (steps (rs l) P) > 0 by omega)]
   rfl
  ·simp only [impl_LongestStep.f]
   refine Evl.bind hi ?_
   simp only [if_true]
   refine Evl.bind (wheel_steps_ev (rs l) P h5) ?_
   refine Evl.bind (Max_ev _ (by omega) hne hpos) ?_
   have hix : Evl (fun k => slices_Index_int_int.f k (steps (rs l) P) (maxL (steps (rs l) P))) ((0 : Int) + fstI (maxL (steps (rs l) P)) (steps (rs l) P)) := by
    simp only [slices_Index_int_int.f]
    exact Index2_l0 _ (by omega) _ _ 0 rfl hmem
   refine Evl.bind hix ?_
   simp only [if_pos (show (0 : Int) ≤ (0 : Int) + (fstI (maxL (steps (rs l) P)) (steps (rs l) P) : Int) by omega), if_pos (show (0 : Int) + (fstI (maxL (steps (rs l) P)) (steps (rs l) P) : Int) < ((lb (rs l) P 1).length : Int) by omega)]
   exact Evl.ret _
 ·refine ⟨0, 0, false, ?_, ?_⟩
  ·simp only [spec_LongestStep.f]
   refine Evl.bind hs ?_
   simp only [if_true]
   exact Evl.ret _
  ·simp only [impl_LongestStep.f]
   refine Evl.bind hi ?_
   simp only [Bool.false_eq_true, if_false]
   exact Evl.ret _

/-- One step compared behind the ones before. -/
def runF (own : List Int) (i : Nat) : List Int → Nat → Bool → Bool
 | [], _, b => b
 | y :: s, j, b => runF own i s (j + 1) (if b = true then rd own (((i + j) % own.length : Nat) : Int) == y else false)
/-- The first spoke that the steps follow. -/
def runs (own sts : List Int) : List Int → Nat → Int × Bool
 | [], _ => (0, false)
 | n :: s, i => if runF own i sts 0 true = true then (n, true) else runs own sts s (i + 1)
theorem run_parts {i j n : Nat} (hn : 1 ≤ n) (h : i + j ≤ 1000000) : wrap64 ((i : Int) + (j : Int)) = ((i + j : Nat) : Int) ∧ Int.tmod ((i + j : Nat) : Int) (n : Int) = (((i + j) % n : Nat) : Int) ∧ (0 : Int) ≤ (((i + j) % n : Nat) : Int) ∧ (((i + j) % n : Nat) : Int) < (n : Int) := by
 have hlt : (i + j) % n < n := Nat.mod_lt _ (by omega)
 refine ⟨?_, rfl, Int.natCast_nonneg _, ?_⟩
 ·clear hlt
  rw [w64 (by omega) (by omega)]
  rfl
 ·generalize (i + j) % n = r at hlt
  omega
theorem impl_FirstRun_l1_ev (own sts sp : List Int) (i : Nat) (n : Int) (ho : 1 ≤ own.length) (hi : i ≤ 10000) (hl : sts.length ≤ 100) (r : Int × Bool) : ∀ (s : List Int) (j : Nat) (b : Bool), sts.drop j = s → (runF own i s j b = true → r = (n, true)) → (runF own i s j b = false → Evl (fun k => impl_FirstRun.l0 k sts own sp (sp.length : Int) (wrap64 ((i : Int) + 1))) r) →
 Evl (fun k => impl_FirstRun.l1 k sts own (i : Int) n b sp (sp.length : Int) (i : Int) sts (sts.length : Int) (j : Int)) r := by
 intro s
 induction s with
 | nil =>
  intro j b hd h1 h2
  have hj := drop_nil hd
  refine Evl.succ ?_
  simp only [impl_FirstRun.l1, if_neg (show ¬ (j : Int) < (sts.length : Int) by omega)]
  cases b with
  | true =>
   simp only [if_true]
   rw [h1 rfl]
   exact Evl.ret _
  | false =>
   simp only [Bool.false_eq_true, if_false]
   exact h2 rfl
 | cons y s ih =>
  intro j b hd h1 h2
  obtain ⟨hj, hy, hs⟩ := drop_cons hd
  have hw : wrap64 ((j : Int) + 1) = ((j + 1 : Nat) : Int) := by rw [w64 (by omega) (by omega)]; rfl
  obtain ⟨g1, g2, g3, g4⟩ := run_parts (i := i) (j := j) ho (by omega)
  have hz : ¬ (own.length : Int) = 0 := by omega
  refine Evl.succ ?_
  simp only [impl_FirstRun.l1, if_pos (show (j : Int) < (sts.length : Int) by omega), if_pos (show (0 : Int) ≤ (j : Int) by omega), rd_of hy, hw, if_neg hz, g1, g2, if_pos g3, if_pos g4]
  cases b with
  | true =>
   simp only [if_true]
   exact ih (j + 1) _ hs h1 h2
  | false =>
   simp only [Bool.false_eq_true, if_false]
   exact ih (j + 1) _ hs h1 h2
theorem spec_FirstRun_l2_ev (own sts sp : List Int) (i : Nat) (n : Int) (ho : 1 ≤ own.length) (hi : i ≤ 10000) (hl : sts.length ≤ 100) (r : Int × Bool) : ∀ (s : List Int) (j : Nat) (b : Bool), sts.drop j = s → (runF own i s j b = true → r = (n, true)) → (runF own i s j b = false → Evl (fun k => spec_FirstRun.l1 k sts own sp (sp.length : Int) (wrap64 ((i : Int) + 1))) r) →
 Evl (fun k => spec_FirstRun.l2 k sts own (i : Int) n b sp (sp.length : Int) (i : Int) sts (sts.length : Int) (j : Int)) r := by
 intro s
 induction s with
 | nil =>
  intro j b hd h1 h2
  have hj := drop_nil hd
  refine Evl.succ ?_
  simp only [spec_FirstRun.l2, if_neg (show ¬ (j : Int) < (sts.length : Int) by omega)]
  cases b with
  | true =>
   simp only [if_true]
   rw [h1 rfl]
   exact Evl.ret _
  | false =>
   simp only [Bool.false_eq_true, if_false]
   exact h2 rfl
 | cons y s ih =>
  intro j b hd h1 h2
  obtain ⟨hj, hy, hs⟩ := drop_cons hd
  have hw : wrap64 ((j : Int) + 1) = ((j + 1 : Nat) : Int) := by rw [w64 (by omega) (by omega)]; rfl
  obtain ⟨g1, g2, g3, g4⟩ := run_parts (i := i) (j := j) ho (by omega)
  have hz : ¬ (own.length : Int) = 0 := by omega
  refine Evl.succ ?_
  simp only [spec_FirstRun.l2, if_pos (show (j : Int) < (sts.length : Int) by omega), if_pos (show (0 : Int) ≤ (j : Int) by omega), rd_of hy, hw, if_neg hz, g1, g2, if_pos g3, if_pos g4]
  cases b with
  | true =>
   simp only [if_true]
   exact ih (j + 1) _ hs h1 h2
  | false =>
   simp only [Bool.false_eq_true, if_false]
   exact ih (j + 1) _ hs h1 h2
theorem impl_FirstRun_l0_ev (own sts sp : List Int) (ho : 1 ≤ own.length) (hp : sp.length ≤ 10000) (hl : sts.length ≤ 100) : ∀ (s : List Int) (i : Nat), sp.drop i = s → Evl (fun k => impl_FirstRun.l0 k sts own sp (sp.length : Int) (i : Int)) (runs own sts s i) := by
 intro s
 induction s with
 | nil =>
  intro i hd
  have hi := drop_nil hd
  refine Evl.succ ?_
  simp only [impl_FirstRun.l0, if_neg (show ¬ (i : Int) < (sp.length : Int) by omega)]
  exact Evl.ret _
 | cons y s ih =>
  intro i hd
  obtain ⟨hi, hy, hs⟩ := drop_cons hd
  have hw : wrap64 ((i : Int) + 1) = ((i + 1 : Nat) : Int) := by rw [w64 (by omega) (by omega)]; rfl
  refine Evl.succ ?_
  simp only [impl_FirstRun.l0, if_pos (show (i : Int) < (sp.length : Int) by omega), if_pos (show (0 : Int) ≤ (i : Int) by omega), rd_of hy]
  refine impl_FirstRun_l1_ev own sts sp i y ho (by omega) hl _ sts 0 true rfl ?_ ?_
  ·intro h
   unfold runs
   rw [if_pos h]
  ·intro h
   unfold runs
   rw [if_neg (show ¬ runF own i sts 0 true = true by rw [h]; simp), hw]
   exact ih (i + 1) hs
theorem spec_FirstRun_l1_ev (own sts sp : List Int) (ho : 1 ≤ own.length) (hp : sp.length ≤ 10000) (hl : sts.length ≤ 100) : ∀ (s : List Int) (i : Nat), sp.drop i = s → Evl (fun k => spec_FirstRun.l1 k sts own sp (sp.length : Int) (i : Int)) (runs own sts s i) := by
 intro s
 induction s with
 | nil =>
  intro i hd
  have hi := drop_nil hd
  refine Evl.succ ?_
  simp only [spec_FirstRun.l1, if_neg (show ¬ (i : Int) < (sp.length : Int) by omega)]
  exact Evl.ret _
 | cons y s ih =>
  intro i hd
  obtain ⟨hi, hy, hs⟩ := drop_cons hd
  have hw : wrap64 ((i : Int) + 1) = ((i + 1 : Nat) : Int) := by rw [w64 (by omega) (by omega)]; rfl
  refine Evl.succ ?_
  simp only [spec_FirstRun.l1, if_pos (show (i : Int) < (sp.length : Int) by omega), if_pos (show (0 : Int) ≤ (i : Int) by omega), rd_of hy]
  refine spec_FirstRun_l2_ev own sts sp i y ho (by omega) hl _ sts 0 true rfl ?_ ?_
  ·intro h
   unfold runs
   rw [if_pos h]
  ·intro h
   unfold runs
   rw [if_neg (show ¬ runF own i sts 0 true = true by rw [h]; simp), hw]
   exact ih (i + 1) hs
/-- All are at least 1. -/
def allOne (s : List Int) : Bool := s.all fun y => decide (1 ≤ y)
theorem minFold (s : List Int) : ∀ m : Int, decide (s.foldl mn m < 1) = !(decide (1 ≤ m) && allOne s) := by
 induction s with
 | nil =>
  intro m
  show decide (m < 1) = !(decide (1 ≤ m) && true)
  rw [Bool.and_true]
  by_cases h : m < 1
  ·rw [decide_eq_true h, decide_eq_false (show ¬ 1 ≤ m by omega)]; rfl
  ·rw [decide_eq_false h, decide_eq_true (show 1 ≤ m by omega)]; rfl
 | cons y s ih =>
  intro m
  rw [List.foldl_cons, ih]
  have : decide (1 ≤ mn m y) = (decide (1 ≤ m) && decide (1 ≤ y)) := by
   unfold mn
   by_cases h : y < m
   ·rw [if_pos h]
    by_cases h1 : 1 ≤ y
    ·rw [decide_eq_true h1, decide_eq_true (show 1 ≤ m by omega)]; rfl
    ·rw [decide_eq_false h1, Bool.and_false]
   ·rw [if_neg h]
    by_cases h1 : 1 ≤ m
    ·rw [decide_eq_true h1, decide_eq_true (show 1 ≤ y by omega)]; rfl
    ·rw [decide_eq_false h1]; rfl
  rw [this]
  simp only [allOne, List.all_cons, Bool.and_assoc]
theorem Min_l0 (xs : List Int) (hl : xs.length ≤ 1000000) : ∀ (s : List Int) (i : Nat) (m : Int), xs.drop i = s → Evl (fun k => slices_Min_int_int.l0 k xs m (i : Int)) (s.foldl mn m) := by
 intro s
 induction s with
 | nil =>
  intro i m hd
  have hi := drop_nil hd
  refine Evl.succ ?_
  simp only [slices_Min_int_int.l0, if_neg (show ¬ (i : Int) < (xs.length : Int) by omega)]
  exact Evl.ret _
 | cons y s ih =>
  intro i m hd
  obtain ⟨hi, hy, hs⟩ := drop_cons hd
  have hw : wrap64 ((i : Int) + 1) = ((i + 1 : Nat) : Int) := by rw [w64 (by omega) (by omega)]; rfl
  refine Evl.succ ?_
  simp only [slices_Min_int_int.l0, if_pos (show (i : Int) < (xs.length : Int) by omega), if_pos (show (0 : Int) ≤ (i : Int) by omega), rd_of hy, hw]
  exact ih (i + 1) (mn m y) hs
theorem Min_ev (y : Int) (t : List Int) (hl : (y :: t).length ≤ 1000000) : Evl (fun k => slices_Min_int_int.f k (y :: t)) (t.foldl mn y) := by
 have e0 : rd (y :: t) 0 = y := rfl
 simp only [slices_Min_int_int.f, if_neg (show ¬ ((y :: t).length : Int) < 1 by rw [List.length_cons]; omega), if_pos (show (0 : Int) < ((y :: t).length : Int) by rw [List.length_cons]; omega), e0]
 exact Min_l0 (y :: t) hl t 1 y rfl
theorem spec_FR_l0 (l : List S45) (sts : List Int) (P : Int) (hl : sts.length ≤ 100) (r : Int × Bool) : ∀ (s : List Int) (i : Nat), sts.drop i = s → (allOne s = false → r = (0, false)) →
 (allOne s = true → Evl (fun k => (spec_whSpokes.f k l P).bind fun t => (spec_whSteps.f k l P).bind fun u => spec_FirstRun.l1 k sts u t (t.length : Int) 0) r) → Evl (fun k => spec_FirstRun.l0 k l sts P sts (sts.length : Int) (i : Int)) r := by
 intro s
 induction s with
 | nil =>
  intro i hd h1 h2
  have hi := drop_nil hd
  refine Evl.succ ?_
  simp only [spec_FirstRun.l0, if_neg (show ¬ (i : Int) < (sts.length : Int) by omega)]
  exact h2 rfl
 | cons y s ih =>
  intro i hd h1 h2
  obtain ⟨hi, hy, hs⟩ := drop_cons hd
  have hw : wrap64 ((i : Int) + 1) = ((i + 1 : Nat) : Int) := by rw [w64 (by omega) (by omega)]; rfl
  refine Evl.succ ?_
  simp only [spec_FirstRun.l0, if_pos (show (i : Int) < (sts.length : Int) by omega), if_pos (show (0 : Int) ≤ (i : Int) by omega), rd_of hy, hw]
  by_cases c : y < 1
  ·simp only [if_pos c]
   rw [h1 (by simp only [allOne, List.all_cons, decide_eq_false (show ¬ 1 ≤ y by omega), Bool.false_and])]
   exact Evl.ret _
  ·simp only [if_neg c]
   have e : allOne (y :: s) = allOne s := by simp only [allOne, List.all_cons, decide_eq_true (show 1 ≤ y by omega), Bool.true_and]
   rw [e] at h1 h2
   exact ih (i + 1) hs h1 h2
theorem spec_FR_no (l : List S45) (sts : List Int) (P : Int) : Evl (fun k => spec_FirstRun.j0 k l sts P true) (0, false) := by
 refine Evl.succ ?_
 simp only [spec_FirstRun.j0, if_true]
 exact Evl.ret _
theorem impl_FR_no (sts : List Int) (P : Int) (sp : List Int) : Evl (fun k => impl_FirstRun.j0 k sts true P sp) (0, false) := by
 refine Evl.succ ?_
 simp only [impl_FirstRun.j0, if_true]
 exact Evl.ret _
theorem FnExactFirstRun_main (l : List S45) (sts : List Int) (hlc : l.length ≤ 1099511627776) (hm1 : sts.length ≤ maxLen) (hl1 : sts.length * 8 ≤ 140737488351232) (hw1 : ∀ x ∈ sts, (Lit.int .i64 x).wf = true) : ∃ r b, Evl (fun k => spec_FirstRun.f k l sts) (r, b) ∧ Evl (fun k => impl_FirstRun.f k l sts) (r, b) := by
 rcases wheel_cases l with ⟨P, hW, hi, hs, hsane, hl, hz, h1, h5⟩ | ⟨⟨x, y, hi⟩, hs⟩
 ·by_cases c : 1 ≤ (sts.length : Int) ∧ (sts.length : Int) ≤ 8
  ·have i1 : ¬ (sts.length : Int) < 1 := by omega
   have i2 : ¬ (sts.length : Int) > 8 := by omega
   have h9 : sts.length ≤ 100 := by omega
   obtain ⟨y, t, rfl⟩ : ∃ y t, sts = y :: t := by
    cases sts with
    | nil => simp at i1
    | cons y t => exact ⟨y, t, rfl⟩
   have hmin := minFold t y
   have hcons : (decide (1 ≤ y) && allOne t) = allOne (y :: t) := by simp only [allOne, List.all_cons]
   rw [hcons] at hmin
   have hll := lb_length (rs l) P 1
   have hsl := steps_length (rs l) P
   have hown : 1 ≤ (steps (rs l) P).length := by
    have hne := steps_ne hW.some
    rcases Nat.eq_zero_or_pos (steps (rs l) P).length with h | h
    ·exact absurd (List.eq_nil_of_length_eq_zero h) hne
    ·exact h
   cases ca : allOne (y :: t) with
   | true =>
    rw [ca] at hmin
    refine ⟨(runs (steps (rs l) P) (y :: t) (lb (rs l) P 1) 0).1, (runs (steps (rs l) P) (y :: t) (lb (rs l) P 1) 0).2, ?_, ?_⟩
    ·simp only [spec_FirstRun.f]
     refine Evl.bind hs ?_
     simp only [if_neg hz, l1In_eq, decide_eq_true c, Option.bind_some, Bool.not_true]
     refine Evl.succ ?_
     simp only [spec_FirstRun.j0, Bool.false_eq_true, if_false]
     refine spec_FR_l0 l (y :: t) (P : Int) h9 _ (y :: t) 0 rfl (fun h => by rw [ca] at h; cases h) (fun _ => ?_)
     refine Evl.bind (whSpokes_ev hsane hl P (by omega)) ?_
     refine Evl.bind (whSteps_ev l hsane hl P h5) ?_
     exact spec_FirstRun_l1_ev (steps (rs l) P) (y :: t) (lb (rs l) P 1) hown (by omega) h9 _ 0 rfl
    ·simp only [impl_FirstRun.f]
     refine Evl.bind hi ?_
     simp only [if_true, if_neg i1, if_neg i2]
     refine Evl.bind (Min_ev y t (by omega)) ?_
     simp only [hmin, Bool.not_true]
     refine Evl.succ ?_
     simp only [impl_FirstRun.j0, Bool.false_eq_true, if_false]
     refine Evl.bind (wheel_steps_ev (rs l) P h5) ?_
     exact impl_FirstRun_l0_ev (steps (rs l) P) (y :: t) (lb (rs l) P 1) hown (by omega) h9 _ 0 rfl
   | false =>
    rw [ca] at hmin
    refine ⟨0, false, ?_, ?_⟩
    ·simp only [spec_FirstRun.f]
     refine Evl.bind hs ?_
     simp only [if_neg hz, l1In_eq, decide_eq_true c, Option.bind_some, Bool.not_true]
     refine Evl.succ ?_
     simp only [spec_FirstRun.j0, Bool.false_eq_true, if_false]
     exact spec_FR_l0 l (y :: t) (P : Int) h9 _ (y :: t) 0 rfl (fun _ => rfl) (fun h => by rw [ca] at h; cases h)
    ·simp only [impl_FirstRun.f]
     refine Evl.bind hi ?_
     simp only [if_true, if_neg i1, if_neg i2]
     refine Evl.bind (Min_ev y t (by omega)) ?_
     simp only [hmin, Bool.not_false]
     exact impl_FR_no _ _ _
  ·refine ⟨0, false, ?_, ?_⟩
   ·simp only [spec_FirstRun.f]
    refine Evl.bind hs ?_
    simp only [if_neg hz, l1In_eq, decide_eq_false c, Option.bind_some, Bool.not_false]
    exact spec_FR_no _ _ _
   ·simp only [impl_FirstRun.f]
    refine Evl.bind hi ?_
    by_cases i1 : (sts.length : Int) < 1
    ·simp only [if_true, if_pos i1]
     exact impl_FR_no _ _ _
    ·simp only [if_true, if_neg i1, if_pos (show (sts.length : Int) > 8 by omega)]
     exact impl_FR_no _ _ _
 ·refine ⟨0, false, ?_, ?_⟩
  ·simp only [spec_FirstRun.f]
   refine Evl.bind hs ?_
   simp only [if_true]
   exact spec_FR_no _ _ _
  ·simp only [impl_FirstRun.f]
   refine Evl.bind hi ?_
   simp only [Bool.false_eq_true, if_false]
   exact impl_FR_no _ _ _

end Go.Proofs.Ytdaodlhcedjfoaa.L

/-! ## M4 -/
namespace Go.Proofs.Ytdaodlhcedjfoaa.M
set_option linter.unusedVariables false
set_option linter.unusedSimpArgs false

/-- The first six primes. -/
def six : List Nat := [2, 3, 5, 7, 11, 13]
/-- m has the remainders asked for. -/
def Sol (l : List (Nat × Nat)) (m : Nat) : Prop := ∀ q ∈ l, m % q.1 = q.2
structure Crt (l : List (Nat × Nat)) (n P : Nat) : Prop where
 lt : n < P
 dv : ∀ q ∈ l, q.1 ∣ P
 sol : Sol l n
 uniq : ∀ m, Sol l m → ∃ j, m = n + j * P
 co : ∀ p, isP p = true → (∀ q ∈ l, q.1 ≠ p) → P % p ≠ 0
theorem Crt.least {l : List (Nat × Nat)} {n P : Nat} (h : Crt l n P) : ∀ m, Sol l m → n ≤ m := fun m hm => by
 obtain ⟨j, rfl⟩ := h.uniq m hm
 exact Nat.le_add_right _ _

/-- Of different members of a list there are no more than it has. -/
theorem nodup_len {α : Type} [DecidableEq α] : ∀ (l s : List α), l.Nodup → (∀ x ∈ l, x ∈ s) → l.length ≤ s.length
 | [], s, _, _ => Nat.zero_le _
 | x :: l, s, h, hs => by
  obtain ⟨h1, h2⟩ := List.nodup_cons.1 h
  have hx := hs x (List.mem_cons_self ..)
  have := nodup_len l (s.erase x) h2 fun y hy => (List.mem_erase_of_ne (fun (e : y = x) => h1 (e ▸ hy))).2 (hs y (List.mem_cons_of_mem _ hy))
  rw [List.length_erase_of_mem hx] at this
  have hp := List.length_pos_of_mem hx
  rw [List.length_cons]
  omega

end Go.Proofs.Ytdaodlhcedjfoaa.M

/-! ## E9 -/
namespace Go.Proofs.Ytdaodlhcedjfoaa.L
open Go.RowKit Go.Proofs.YtdaodlhcedjfoaaW.PrintWords Go.Proofs.Ytdaodlhcedjfoaa.P Go.Proofs.Ytdaodlhcedjfoaa.M
set_option linter.unusedVariables false
set_option linter.unusedSimpArgs false

/-- The first six primes. -/
def p6 : List Int := [2, 3, 5, 7, 11, 13]
def has : List Int → Int → Bool
 | [], _ => false
 | y :: s, x => if y = x then true else has s x
theorem has_iff : ∀ {s : List Int} {x : Int}, has s x = true ↔ x ∈ s
 | [], x => by simp [has]
 | y :: s, x => by
  unfold has
  by_cases e : y = x
  ·simp [e]
  ·rw [if_neg e, has_iff, List.mem_cons]
   exact ⟨.inr, fun h => h.resolve_left fun c => e c.symm⟩
theorem l1Has_l0 (l : List Int) (hl : l.length ≤ 1099511627776) (x : Int) : ∀ (s : List Int) (i : Nat), l.drop i = s → Evl (fun k => spec_l1Has.l0 k x l (l.length : Int) (i : Int)) (has s x) := by
 intro s
 induction s with
 | nil =>
  intro i h
  have hi := drop_nil h
  refine Evl.succ ?_
  simp only [spec_l1Has.l0, if_neg (show ¬ (i : Int) < (l.length : Int) by omega)]
  exact Evl.ret _
 | cons y s ih =>
  intro i h
  obtain ⟨hi, hx, hs⟩ := drop_cons h
  have hw : wrap64 ((i : Int) + 1) = ((i + 1 : Nat) : Int) := by rw [w64 (by omega) (by omega)]; rfl
  refine Evl.succ ?_
  simp only [spec_l1Has.l0, if_pos (show (i : Int) < (l.length : Int) by omega), if_pos (show (0 : Int) ≤ (i : Int) by omega), rd_of hx, hw]
  unfold has
  by_cases e : y = x
  ·simp only [if_pos e]
   exact Evl.ret _
  ·simp only [if_neg e]
   exact ih (i + 1) hs
theorem l1Has_ev (l : List Int) (hl : l.length ≤ 1099511627776) (x : Int) : Evl (fun k => spec_l1Has.f k l x) (has l x) := by
 simp only [spec_l1Has.f]
 exact l1Has_l0 l hl x l 0 rfl
end Go.Proofs.Ytdaodlhcedjfoaa.L

/-! ## M5 -/
namespace Go.Proofs.Ytdaodlhcedjfoaa.M
open Go
set_option linter.unusedVariables false
set_option linter.unusedSimpArgs false

/-- Lists that rise and have the same members are the same. -/
theorem sorted_ext : ∀ (a b : List Int), a.Pairwise (· < ·) → b.Pairwise (· < ·) → (∀ x, x ∈ a ↔ x ∈ b) → a = b
 | [], [], _, _, _ => rfl
 | [], y :: b, _, _, h => absurd ((h y).2 (List.mem_cons_self ..)) (by simp)
 | x :: a, [], _, _, h => absurd ((h x).1 (List.mem_cons_self ..)) (by simp)
 | x :: a, y :: b, ha, hb, h => by
  obtain ⟨ha1, ha2⟩ := List.pairwise_cons.1 ha
  obtain ⟨hb1, hb2⟩ := List.pairwise_cons.1 hb
  have e : x = y := by
   rcases List.mem_cons.1 ((h x).1 (List.mem_cons_self ..)) with h1 | h1
   ·exact h1
   ·rcases List.mem_cons.1 ((h y).2 (List.mem_cons_self ..)) with h2 | h2
    ·exact h2.symm
    ·have := hb1 x h1
     have := ha1 y h2
     omega
  subst e
  refine congrArg (x :: ·) (sorted_ext a b ha2 hb2 fun z => ?_)
  constructor
  ·intro hz
   rcases List.mem_cons.1 ((h z).1 (List.mem_cons_of_mem _ hz)) with h1 | h1
   ·have := ha1 z hz
    omega
   ·exact h1
  ·intro hz
   rcases List.mem_cons.1 ((h z).2 (List.mem_cons_of_mem _ hz)) with h1 | h1
   ·have := hb1 z hz
    omega
   ·exact h1
theorem compactUpTo_spec (d : Array Int) (hd : ∀ i j, i ≤ j → j < d.size → d[i]! ≤ d[j]!) : ∀ m, m ≤ d.size → (Lib.compactUpTo d m).Pairwise (· < ·) ∧ ∀ x, x ∈ Lib.compactUpTo d m ↔ ∃ j, j < m ∧ d[j]! = x
 | 0, _ => ⟨List.Pairwise.nil, fun x => ⟨fun h => absurd h (by simp [Lib.compactUpTo]), fun ⟨j, hj, _⟩ => absurd hj (Nat.not_lt_zero _)⟩⟩
 | m + 1, hm => by
  obtain ⟨h1, h2⟩ := compactUpTo_spec d hd m (by omega)
  rw [Lib.compactUpTo_succ]
  by_cases hk : Lib.keeps d m = true
  ·rw [if_pos hk]
   constructor
   ·refine List.pairwise_append.2 ⟨h1, List.pairwise_singleton _ _, fun x hx y hy => ?_⟩
    rw [List.mem_singleton.1 hy]
    obtain ⟨j, hj, rfl⟩ := (h2 x).1 hx
    have hle := hd j (m - 1) (by omega) (by omega)
    have hle2 := hd (m - 1) m (by omega) (by omega)
    have : m = 0 ∨ d[m]! ≠ d[m - 1]! := of_decide_eq_true hk
    rcases this with h | h
    ·omega
    ·omega
   ·intro x
    rw [List.mem_append, h2, List.mem_singleton]
    constructor
    ·rintro (⟨j, hj, e⟩ | e)
     ·exact ⟨j, by omega, e⟩
     ·exact ⟨m, by omega, e.symm⟩
    ·rintro ⟨j, hj, e⟩
     rcases Nat.lt_or_ge j m with h | h
     ·exact .inl ⟨j, h, e⟩
     ·obtain rfl : j = m := by omega
      exact .inr e.symm
  ·rw [if_neg hk, List.append_nil]
   refine ⟨h1, fun x => (h2 x).trans ?_⟩
   have hk2 : ¬ (m = 0 ∨ d[m]! ≠ d[m - 1]!) := fun c => hk (decide_eq_true c)
   constructor
   ·rintro ⟨j, hj, e⟩
    exact ⟨j, by omega, e⟩
   ·rintro ⟨j, hj, e⟩
    rcases Nat.lt_or_ge j m with h | h
    ·exact ⟨j, h, e⟩
    ·obtain rfl : j = m := by omega
     refine ⟨j - 1, by omega, ?_⟩
     rw [← e]
     exact (Classical.not_not.1 fun c => hk2 (.inr c)).symm
/-- The members of a list, rising, each once. -/
def srt (l : List Int) : List Int := Lib.compact (l.mergeSort fun x y => decide (x ≤ y))
theorem srt_spec (l : List Int) : (srt l).Pairwise (· < ·) ∧ ∀ x, x ∈ srt l ↔ x ∈ l := by
 have hs : (l.mergeSort fun x y => decide (x ≤ y)).Pairwise fun x y => decide (x ≤ y) := List.pairwise_mergeSort (by intro a b c h1 h2; simp at *; omega) (by intro a b; simp; omega) l
 have hm : ∀ x, x ∈ (l.mergeSort fun x y => decide (x ≤ y)) ↔ x ∈ l := fun x => List.mem_mergeSort
 unfold srt
 generalize (l.mergeSort fun x y => decide (x ≤ y)) = s at hs hm
 have hd : ∀ i j, i ≤ j → j < s.toArray.size → s.toArray[i]! ≤ s.toArray[j]! := by
  intro i j hij hj
  rw [List.size_toArray] at hj
  rw [getElem!_pos s.toArray i (by rw [List.size_toArray]; omega), getElem!_pos s.toArray j (by rw [List.size_toArray]; omega), List.getElem_toArray, List.getElem_toArray]
  rcases Nat.lt_or_ge i j with h | h
  ·have := List.pairwise_iff_getElem.1 hs i j (by omega) hj h
   exact of_decide_eq_true this
  ·obtain rfl : i = j := by omega
   exact Int.le_refl _
 obtain ⟨h1, h2⟩ := compactUpTo_spec s.toArray hd s.length (by simp)
 refine ⟨h1, fun x => ?_⟩
 unfold Lib.compact
 rw [h2, ← hm]
 constructor
 ·rintro ⟨j, hj, e⟩
  rw [getElem!_pos s.toArray j (by rw [List.size_toArray]; omega), List.getElem_toArray] at e
  exact e ▸ List.getElem_mem _
 ·intro h
  obtain ⟨j, hj, e⟩ := List.getElem_of_mem h
  refine ⟨j, hj, ?_⟩
  rw [getElem!_pos s.toArray j (by rw [List.size_toArray]; omega), List.getElem_toArray]
  exact e
theorem srt_mem {l : List Int} {x : Int} : x ∈ srt l ↔ x ∈ l := (srt_spec l).2 x
theorem srt_sorted (l : List Int) : (srt l).Pairwise (· < ·) := (srt_spec l).1
theorem srt_length (l : List Int) : (srt l).length ≤ l.length := by
 unfold srt
 refine Nat.le_trans (Lib.compact_length_le _) ?_
 rw [List.length_mergeSort]
 exact Nat.le_refl _
theorem srt_eq {l s : List Int} (h : s.Pairwise (· < ·)) (hm : ∀ x, x ∈ s ↔ x ∈ l) : srt l = s := sorted_ext _ _ (srt_sorted l) h fun x => srt_mem.trans (hm x).symm

end Go.Proofs.Ytdaodlhcedjfoaa.M

/-! ## X2 -/

namespace Go.Proofs.Ytdaodlhcedjfoaa.L
open Go.RowKit Go.Proofs.YtdaodlhcedjfoaaW.PrintWords Go.Proofs.Ytdaodlhcedjfoaa.P Go.Proofs.Ytdaodlhcedjfoaa.M
set_option linter.unusedVariables false
set_option linter.unusedSimpArgs false

/-- The reference's way: the bound is asked of the last one alone. -/
def sp : Int → List Int → Bool
 | p, [] => decide (p ≤ 60)
 | p, x :: s => if x ≤ p then false else sp x s
end Go.Proofs.Ytdaodlhcedjfoaa.L

/-! ## E11 -/
namespace Go.Proofs.Ytdaodlhcedjfoaa.L
open Go.RowKit Go.Proofs.YtdaodlhcedjfoaaW.PrintWords Go.Proofs.Ytdaodlhcedjfoaa.P Go.Proofs.Ytdaodlhcedjfoaa.M
set_option linter.unusedVariables false
set_option linter.unusedSimpArgs false

theorem SortCompact (l : List Int) (h : l ≠ []) (hl : l.length < 1000000000000) : ∃ s, slices_Sort_int_int.f l = some s ∧ slices_Compact_int_int.f s = some (srt l) := by
 have h0 : ¬ l.length = 0 := fun c => h (List.eq_nil_of_length_eq_zero c)
 refine ⟨l.mergeSort fun x y => decide (x ≤ y), ?_, ?_⟩
 ·unfold slices_Sort_int_int.f
  rw [if_neg h0, if_pos (by omega)]
 ·unfold slices_Compact_int_int.f
  rw [if_neg (by rw [List.length_mergeSort]; exact h0)]
  rfl
/-- The remainders of offsets modulo a number, rising, each once. -/
def res (l : List Int) (p : Int) : List Int := srt (l.map fun o => o % p)
def hasR (p r : Int) : List Int → Bool
 | [] => false
 | o :: s => if o % p = r then true else hasR p r s
/-- Of m remainders from r on those that offsets have. -/
def rr (p : Int) (l : List Int) : Nat → Int → List Int
 | 0, _ => []
 | m + 1, r => if hasR p r l = true then r :: rr p l m (r + 1) else rr p l m (r + 1)
/-- The first of some primes that closes a pattern, 0 for none. -/
def cls (l : List Int) : List Int → Int
 | [] => 0
 | p :: s => if ((res l p).length : Int) = p then p else cls l s
def cl (l : List Int) : Int := cls l p6
end Go.Proofs.Ytdaodlhcedjfoaa.L

/-! ## X4 -/
namespace Go.Proofs.Ytdaodlhcedjfoaa.L
open Go.RowKit Go.Proofs.YtdaodlhcedjfoaaW.PrintWords Go.Proofs.Ytdaodlhcedjfoaa.P Go.Proofs.Ytdaodlhcedjfoaa.M
set_option linter.unusedVariables false
set_option linter.unusedSimpArgs false

/-- A number put into a rising list. -/
def put : List Int → Int → List Int
 | [], x => [x]
 | y :: s, x => if y < x then y :: put s x else if y = x then y :: s else x :: y :: s
theorem put_mem : ∀ (l : List Int) (x z : Int), z ∈ put l x ↔ z = x ∨ z ∈ l
 | [], x, z => by simp [put]
 | y :: s, x, z => by
  unfold put
  by_cases c : y < x
  ·rw [if_pos c, List.mem_cons, put_mem s x z, List.mem_cons]
   constructor
   ·rintro (h | h | h)
    ·exact .inr (.inl h)
    ·exact .inl h
    ·exact .inr (.inr h)
   ·rintro (h | h | h)
    ·exact .inr (.inl h)
    ·exact .inl h
    ·exact .inr (.inr h)
  ·rw [if_neg c]
   by_cases e : y = x
   ·rw [if_pos e]
    constructor
    ·exact .inr
    ·rintro (h | h)
     ·rw [h, ← e]; exact List.mem_cons_self ..
     ·exact h
   ·rw [if_neg e, List.mem_cons]
theorem put_sorted : ∀ (l : List Int) (x : Int), l.Pairwise (· < ·) → (put l x).Pairwise (· < ·)
 | [], x, _ => List.pairwise_singleton _ _
 | y :: s, x, h => by
  obtain ⟨h1, h2⟩ := List.pairwise_cons.1 h
  unfold put
  by_cases c : y < x
  ·rw [if_pos c]
   refine List.Pairwise.cons (fun z hz => ?_) (put_sorted s x h2)
   rcases (put_mem s x z).1 hz with rfl | hz
   ·exact c
   ·exact h1 z hz
  ·rw [if_neg c]
   by_cases e : y = x
   ·rw [if_pos e]; exact h
   ·rw [if_neg e]
    refine List.Pairwise.cons (fun z hz => ?_) h
    rcases List.mem_cons.1 hz with rfl | hz
    ·omega
    ·have := h1 z hz
     omega
theorem put_length : ∀ (l : List Int) (x : Int), (put l x).length ≤ l.length + 1
 | [], x => Nat.le_refl _
 | y :: s, x => by
  unfold put
  have := put_length s x
  split
  ·rw [List.length_cons, List.length_cons]; omega
  ·split
   ·omega
   ·simp only [List.length_cons]
    omega
theorem l1Put_l0 (l : List Int) (hl : l.length ≤ 1000000) (x : Int) : ∀ (s pre : List Int), l = pre ++ s → Evl (fun k => spec_l1Put.l0 k l x ((pre.length : Nat) : Int)) (pre ++ put s x) := by
 intro s
 induction s with
 | nil =>
  intro pre e
  rw [List.append_nil] at e
  subst e
  refine Evl.succ ?_
  have hz : ([] : List Int).length + (l.take ((l.length : Nat) : Int).toNat).length < 17592186044416 := by rw [List.length_take]; simp; omega
  simp only [spec_l1Put.l0, if_neg (show ¬ ((l.length : Nat) : Int) < (l.length : Int) by omega), Option.bind_some, if_pos (show (0 : Int) ≤ ((l.length : Nat) : Int) by omega), if_pos (show ((l.length : Nat) : Int) ≤ (l.length : Int) by omega), Int.toNat_natCast, List.take_length, List.drop_length, List.nil_append, List.length_nil, List.length_append, List.length_singleton, if_pos (show 0 + l.length < 17592186044416 by omega), if_pos (show l.length < 17592186044416 by omega), if_pos (show 0 + l.length + 1 + 0 < 17592186044416 by omega), List.append_nil]
  exact Evl.ret _
 | cons y s ih =>
  intro pre e
  have hle : l.length = pre.length + (s.length + 1) := by rw [e, List.length_append, List.length_cons]
  have hy : l[pre.length]? = some y := by rw [e, List.getElem?_append_right (Nat.le_refl _), Nat.sub_self]; rfl
  have hw : wrap64 (((pre.length : Nat) : Int) + 1) = (((pre ++ [y]).length : Nat) : Int) := by rw [w64 (by omega) (by omega), List.length_append, List.length_singleton]; omega
  refine Evl.succ ?_
  simp only [spec_l1Put.l0, if_pos (show ((pre.length : Nat) : Int) < (l.length : Int) by omega), if_pos (show (0 : Int) ≤ ((pre.length : Nat) : Int) by omega), rd_of hy]
  unfold put
  by_cases c : y < x
  ·simp only [if_pos c, hw]
   refine (ih (pre ++ [y]) (by rw [e, List.append_assoc]; rfl)).cast ?_
   rw [List.append_assoc]
   rfl
  ·simp only [if_neg c]
   by_cases e1 : y = x
   ·simp only [if_pos e1]
    rw [← e]
    exact Evl.ret _
   ·have htk : l.take pre.length = pre := by rw [e]; exact List.take_left' rfl
    have hdr : l.drop pre.length = y :: s := by rw [e]; exact List.drop_left' rfl
    simp only [if_neg e1, Option.bind_some, if_pos (show ((pre.length : Nat) : Int) ≤ (l.length : Int) by omega), Int.toNat_natCast, htk, hdr, List.nil_append, List.length_nil, List.length_append, List.length_singleton, List.length_cons, if_pos (show 0 + pre.length < 17592186044416 by omega), if_pos (show pre.length < 17592186044416 by omega), if_pos (show 0 + pre.length + (0 + 1) + (s.length + 1) < 17592186044416 by omega), List.append_assoc]
    exact Evl.ret _
theorem l1Put_ev (l : List Int) (hl : l.length ≤ 1000000) (x : Int) : Evl (fun k => spec_l1Put.f k l x) (put l x) := by
 simp only [spec_l1Put.f]
 exact l1Put_l0 l hl x l [] rfl
theorem put_has {l : List Int} {x : Int} (hs : l.Pairwise (· < ·)) (h : has l x = true) : put l x = l :=
 sorted_ext _ _ (put_sorted l x hs) hs fun z => (put_mem l x z).trans ⟨fun c => c.elim (fun e => e ▸ has_iff.1 h) id, .inr⟩
/-- The members of a list put one by one. -/
def puts : List Int → List Int → List Int
 | acc, [] => acc
 | acc, x :: s => puts (put acc x) s
theorem puts_spec : ∀ (s acc : List Int), acc.Pairwise (· < ·) → (puts acc s).Pairwise (· < ·) ∧ ∀ z, z ∈ puts acc s ↔ z ∈ acc ∨ z ∈ s
 | [], acc, h => ⟨h, fun z => by simp [puts]⟩
 | x :: s, acc, h => by
  obtain ⟨g1, g2⟩ := puts_spec s (put acc x) (put_sorted acc x h)
  refine ⟨g1, fun z => (g2 z).trans ?_⟩
  rw [put_mem, List.mem_cons]
  constructor
  ·rintro ((h | h) | h)
   ·exact .inr (.inl h)
   ·exact .inl h
   ·exact .inr (.inr h)
  ·rintro (h | h | h)
   ·exact .inl (.inr h)
   ·exact .inl (.inl h)
   ·exact .inr h
theorem spec_StepSizes_l0 (xs : List Int) (hx : xs.length ≤ 100000) : ∀ (s acc : List Int) (i : Nat), xs.drop i = s → acc.Pairwise (· < ·) → acc.length + s.length ≤ 100000 → Evl (fun k => spec_StepSizes.l0 k acc xs (xs.length : Int) (i : Int)) (puts acc s, true) := by
 intro s
 induction s with
 | nil =>
  intro acc i h _ _
  have hi := drop_nil h
  refine Evl.succ ?_
  simp only [spec_StepSizes.l0, if_neg (show ¬ (i : Int) < (xs.length : Int) by omega)]
  exact Evl.ret _
 | cons y s ih =>
  intro acc i h hs hl
  obtain ⟨hi, hy, hd⟩ := drop_cons h
  rw [List.length_cons] at hl
  have hw : wrap64 ((i : Int) + 1) = ((i + 1 : Nat) : Int) := by rw [w64 (by omega) (by omega)]; rfl
  have hpl := put_length acc y
  refine Evl.succ ?_
  simp only [spec_StepSizes.l0, if_pos (show (i : Int) < (xs.length : Int) by omega), if_pos (show (0 : Int) ≤ (i : Int) by omega), rd_of hy, hw]
  refine Evl.bind (l1Has_ev acc (by omega) y) ?_
  unfold puts
  by_cases c : has acc y = true
  ·simp only [if_pos c]
   rw [put_has hs c]
   exact ih acc (i + 1) hd hs (by omega)
  ·simp only [if_neg c]
   refine Evl.bind (l1Put_ev acc (by omega) y) ?_
   exact ih (put acc y) (i + 1) hd (put_sorted acc y hs) (by omega)
theorem FnExactStepSizes_main (l : List S45) (hl : l.length ≤ 1099511627776) :
 ∃ r b, Evl (fun k => spec_StepSizes.f k l) (r, b) ∧ Evl (fun k => impl_StepSizes.f k l) (r, b) ∧ r.length ≤ 1099511627776 := by
 rcases wheel_cases l with ⟨P, hW, hi, hs, hsane, hl2, hz, h1, h5⟩ | ⟨⟨x, y, hi⟩, hs⟩
 ·have hlen : (steps (rs l) P).length ≤ 5000 := by have := lb_length (rs l) P 1; rw [steps_length]; omega
  have hne : steps (rs l) P ≠ [] := fun e => hW.some (List.eq_nil_of_length_eq_zero (by rw [← steps_length, e]; rfl))
  have e : puts [] (steps (rs l) P) = srt (steps (rs l) P) := by
   obtain ⟨g1, g2⟩ := puts_spec (steps (rs l) P) [] List.Pairwise.nil
   exact (srt_eq g1 fun z => (g2 z).trans (by simp)).symm
  refine ⟨srt (steps (rs l) P), true, ?_, ?_, by have := srt_length (steps (rs l) P); omega⟩
  ·simp only [spec_StepSizes.f]
   refine Evl.bind hs ?_
   simp only [if_neg hz]
   refine Evl.bind (whSteps_ev l hsane hl2 P h5) ?_
   rw [← e]
   exact spec_StepSizes_l0 _ (by omega) _ [] 0 rfl List.Pairwise.nil (by simp; omega)
  ·obtain ⟨s, q1, q2⟩ := SortCompact _ hne (by omega)
   simp only [impl_StepSizes.f]
   refine Evl.bind hi ?_
   simp only [if_true]
   refine Evl.bind (wheel_steps_ev (rs l) P h5) ?_
   simp only [q1, q2, Option.bind_some]
   exact Evl.ret _
 ·refine ⟨[], false, ?_, ?_, by simp⟩
  ·simp only [spec_StepSizes.f]
   refine Evl.bind hs ?_
   simp only [if_true]
   exact Evl.ret _
  ·simp only [impl_StepSizes.f]
   refine Evl.bind hi ?_
   simp only [Bool.false_eq_true, if_false]
   exact Evl.ret _

end Go.Proofs.Ytdaodlhcedjfoaa.L

/-! ## X37 -/
namespace Go.Proofs.Ytdaodlhcedjfoaa.L
open Go.RowKit Go.Proofs.YtdaodlhcedjfoaaW.PrintWords Go.Proofs.Ytdaodlhcedjfoaa.P Go.Proofs.Ytdaodlhcedjfoaa.M
set_option linter.unusedVariables false
set_option linter.unusedSimpArgs false

theorem gHas_l0 (l : List Int) (hl : l.length ≤ 1099511627776) (x : Int) : ∀ (s : List Int) (i : Nat), l.drop i = s → Evl (fun k => laws_gHas.l0 k x l (l.length : Int) (i : Int)) (decide (x ∈ s)) := by
 intro s
 induction s with
 | nil =>
  intro i h
  have hi := drop_nil h
  refine Evl.succ ?_
  simp only [laws_gHas.l0, if_neg (show ¬ (i : Int) < (l.length : Int) by omega)]
  refine (Evl.ret _).cast ?_
  simp
 | cons y s ih =>
  intro i h
  obtain ⟨hi, hx, hs⟩ := drop_cons h
  have hw : wrap64 ((i : Int) + 1) = ((i + 1 : Nat) : Int) := by rw [w64 (by omega) (by omega)]; rfl
  refine Evl.succ ?_
  simp only [laws_gHas.l0, if_pos (show (i : Int) < (l.length : Int) by omega), if_pos (show (0 : Int) ≤ (i : Int) by omega), rd_of hx, hw]
  by_cases e : y = x
  ·simp only [if_pos e]
   refine (Evl.ret _).cast ?_
   rw [e]
   simp
  ·simp only [if_neg e]
   refine (ih (i + 1) hs).cast ?_
   have : ¬ x = y := fun h => e h.symm
   simp [this]
theorem gHas_yes (l : List Int) (hl : l.length ≤ 1099511627776) {x : Int} (h : x ∈ l) : Evl (fun k => laws_gHas.f k l x) true := by
 simp only [laws_gHas.f]
 exact (gHas_l0 l hl x l 0 rfl).cast (decide_eq_true h)

/-- The place of the longest step. -/
def lpl (q : List Ru) (P : Nat) : Nat := fstI (maxL (steps q P)) (steps q P)
theorem longest_i {l : List S45} {P : Nat} (d : WD l P) : Evl (fun k => impl_LongestStep.f k l) (maxL (steps (rs l) P), rd (lb (rs l) P 1) ((lpl (rs l) P : Nat) : Int), true) := by
 have h5 := d.h5
 have hll := lb_length (rs l) P 1
 have hsl := steps_length (rs l) P
 have hne := steps_ne d.W.some
 have hpos := steps_pos (q := rs l) (P := P)
 have hmem := maxL_mem _ hne hpos
 have hm1 := hpos _ hmem
 have hlt := fstI_lt _ _ hmem
 simp only [impl_LongestStep.f]
 refine Evl.bind d.i ?_
 simp only [if_true]
 refine Evl.bind (wheel_steps_ev (rs l) P h5) ?_
 refine Evl.bind (Max_ev _ (by omega) hne hpos) ?_
 have hix : Evl (fun k => slices_Index_int_int.f k (steps (rs l) P) (maxL (steps (rs l) P))) ((0 : Int) + fstI (maxL (steps (rs l) P)) (steps (rs l) P)) := by
  simp only [slices_Index_int_int.f]
  exact Index2_l0 _ (by omega) _ _ 0 rfl hmem
 refine Evl.bind hix ?_
 simp only [if_pos (show (0 : Int) ≤ (0 : Int) + (fstI (maxL (steps (rs l) P)) (steps (rs l) P) : Int) by omega), if_pos (show (0 : Int) + (fstI (maxL (steps (rs l) P)) (steps (rs l) P) : Int) < ((lb (rs l) P 1).length : Int) by omega)]
 refine (Evl.ret _).cast ?_
 rw [Int.zero_add]
 rfl
theorem sizes_i {l : List S45} {P : Nat} (d : WD l P) : Evl (fun k => impl_StepSizes.f k l) (srt (steps (rs l) P), true) := by
 have h5 := d.h5
 have hlen : (steps (rs l) P).length ≤ 5000 := by have := lb_length (rs l) P 1; rw [steps_length]; omega
 have hne : steps (rs l) P ≠ [] := steps_ne d.W.some
 obtain ⟨s, q1, q2⟩ := SortCompact _ hne (by omega)
 simp only [impl_StepSizes.f]
 refine Evl.bind d.i ?_
 simp only [if_true]
 refine Evl.bind (wheel_steps_ev (rs l) P d.h5) ?_
 simp only [q1, q2, Option.bind_some]
 exact Evl.ret _
theorem least_i {l : List S45} {P : Nat} (d : WD l P) : Evl (fun k => impl_LeastPeriod.f k l) (leastL (rs l) P P 1, true) := by
 simp only [impl_LeastPeriod.f]
 refine Evl.bind d.i ?_
 simp only [if_true]
 exact impl_LP_l0 l d.sane P d.W _ P 1 (by omega) d.h1 rfl
theorem sym_i {l : List S45} {P : Nat} (d : WD l P) : Evl (fun k => impl_IsSymmetric.f k l) (symL (rs l) P 0, true) := by
 simp only [impl_IsSymmetric.f]
 refine Evl.bind d.i ?_
 simp only [if_true]
 exact impl_IsSymmetric_l0 l d.sane P d.h5 P 0 rfl
theorem cstep_i {l : List S45} {P : Nat} (d : WD l P) {a : Int} (h : 1 ≤ a) : Evl (fun k => impl_CountStep.f k l a) ((cnt a (steps (rs l) P) : Int), true) := by
 have h5 := d.h5
 have hsl : (steps (rs l) P).length ≤ 5000 := by have := lb_length (rs l) P 1; rw [steps_length]; omega
 simp only [impl_CountStep.f]
 refine Evl.bind d.i ?_
 simp only [if_true, decide_eq_false (show ¬ a < 1 by omega)]
 refine Evl.succ ?_
 simp only [impl_CountStep.j0, Bool.false_eq_true, if_false]
 refine Evl.bind (wheel_steps_ev (rs l) P d.h5) ?_
 refine (impl_CountStep_l0 a (steps (rs l) P) (by omega) (steps (rs l) P) 0 0 rfl (by omega) (by omega)).cast ?_
 rw [Int.zero_add]
/-- Steps of some size, and longer ways: who tells the one tells the other. -/
theorem times_i (l : List S45) (a : Int) : (∃ P, WD l P ∧ 1 ≤ a ∧ Evl (fun k => impl_TimesTogether.f k l a) ((cntL (rs l) a (lb (rs l) P 1) : Int), true)) ∨ Evl (fun k => impl_TimesTogether.f k l a) (0, false) := by
 rcases wd_cases l with ⟨P, d⟩ | ⟨⟨x, y, hi⟩, hs⟩
 ·have h5 := d.h5
  have hll := lb_length (rs l) P 1
  by_cases c : 1 ≤ a ∧ a ≤ 5000
  ·refine .inl ⟨P, d, c.1, ?_⟩
   simp only [impl_TimesTogether.f]
   refine Evl.bind d.i ?_
   simp only [if_true, if_neg (show ¬ a < 1 by omega), decide_eq_false (show ¬ a > 5000 by omega)]
   refine Evl.succ ?_
   simp only [impl_TimesTogether.j0, Bool.false_eq_true, if_false]
   refine (impl_TimesTogether_l0 l d.sane d.len a (by omega) _ (wheel_bounds h5) (by omega) (lb (rs l) P 1) 0 0 rfl (by omega) (by omega)).cast ?_
   rw [Int.zero_add]
  ·refine .inr ?_
   simp only [impl_TimesTogether.f]
   refine Evl.bind d.i ?_
   by_cases c2 : a < 1
   ·simp only [if_true, if_pos c2]
    exact impl_TT_no _ _ _ _
   ·simp only [if_true, if_neg c2, decide_eq_true (show a > 5000 by omega)]
    exact impl_TT_no _ _ _ _
 ·refine .inr ?_
  simp only [impl_TimesTogether.f]
  refine Evl.bind hi ?_
  simp only [Bool.false_eq_true, if_false]
  exact impl_TT_no _ _ _ _
/-- A run that is found, or none. -/
theorem run_i (l : List S45) (sts : List Int) : (∃ P, WD l P ∧ sts.length ≤ 8 ∧ Evl (fun k => impl_FirstRun.f k l sts) (runs (steps (rs l) P) sts (lb (rs l) P 1) 0)) ∨ Evl (fun k => impl_FirstRun.f k l sts) (0, false) := by
 rcases wd_cases l with ⟨P, d⟩ | ⟨⟨x, y, hi⟩, hs⟩
 ·have h5 := d.h5
  have hll := lb_length (rs l) P 1
  have hsl := steps_length (rs l) P
  have hown : 1 ≤ (steps (rs l) P).length := by
   have hne := steps_ne d.W.some
   rcases Nat.eq_zero_or_pos (steps (rs l) P).length with h | h
   ·exact absurd (List.eq_nil_of_length_eq_zero h) hne
   ·exact h
  by_cases i1 : (sts.length : Int) < 1
  ·refine .inr ?_
   simp only [impl_FirstRun.f]
   refine Evl.bind d.i ?_
   simp only [if_true, if_pos i1]
   exact impl_FR_no _ _ _
  ·by_cases i2 : (sts.length : Int) > 8
   ·refine .inr ?_
    simp only [impl_FirstRun.f]
    refine Evl.bind d.i ?_
    simp only [if_true, if_neg i1, if_pos i2]
    exact impl_FR_no _ _ _
   ·obtain ⟨y, t, rfl⟩ : ∃ y t, sts = y :: t := by
     cases sts with
     | nil => simp at i1
     | cons y t => exact ⟨y, t, rfl⟩
    have hmin := minFold t y
    cases hb : decide (t.foldl mn y < 1) with
    | true =>
     refine .inr ?_
     simp only [impl_FirstRun.f]
     refine Evl.bind d.i ?_
     simp only [if_true, if_neg i1, if_neg i2]
     refine Evl.bind (Min_ev y t (by omega)) ?_
     simp only [hb]
     exact impl_FR_no _ _ _
    | false =>
     refine .inl ⟨P, d, by omega, ?_⟩
     simp only [impl_FirstRun.f]
     refine Evl.bind d.i ?_
     simp only [if_true, if_neg i1, if_neg i2]
     refine Evl.bind (Min_ev y t (by omega)) ?_
     simp only [hb]
     refine Evl.succ ?_
     simp only [impl_FirstRun.j0, Bool.false_eq_true, if_false]
     refine Evl.bind (wheel_steps_ev (rs l) P h5) ?_
     exact impl_FirstRun_l0_ev (steps (rs l) P) (y :: t) (lb (rs l) P 1) hown (by omega) (by omega) _ 0 rfl
 ·refine .inr ?_
  simp only [impl_FirstRun.f]
  refine Evl.bind hi ?_
  simp only [Bool.false_eq_true, if_false]
  exact impl_FR_no _ _ _
/-- A rolled wheel is the wheel of the rules and one more. -/
theorem roll_i (l : List S45) (a : Int) : (∃ P P', WD l P ∧ isPI a = true ∧ 2 ≤ a ∧ a ≤ 60 ∧ ¬ Int.tmod (P : Int) a = 0 ∧ l.length ≤ 12 ∧ WD (l ++ [(⟨a, 0⟩ : S45)]) P' ∧ Evl (fun k => impl_RollWheel.f k l a) (lb (rs (l ++ [(⟨a, 0⟩ : S45)])) P' 1, true)) ∨
 Evl (fun k => impl_RollWheel.f k l a) ([], false) := by
 rcases wd_cases l with ⟨P, d⟩ | ⟨⟨x, y, hi⟩, hs⟩
 ·have hl := len_of_good d.W.good
  by_cases c : 2 ≤ a ∧ a ≤ 60
  ·have i1 : ¬ a < 2 := by omega
   have i2 : ¬ a > 60 := by omega
   have i3 : ¬ a = 0 := by omega
   cases cp : isPI a with
   | true =>
    by_cases ct : Int.tmod (P : Int) a = 0
    ·refine .inr ?_
     simp only [impl_RollWheel.f]
     refine Evl.bind d.i ?_
     simp only [if_true, if_neg i1, if_neg i2]
     refine Evl.bind (impl_isPrime_ev a (by omega)) ?_
     simp only [cp, if_true, if_neg i3, if_pos ct]
     exact impl_RW_no _ _
    ·by_cases cl : (l.length : Int) = 12
     ·refine .inr ?_
      simp only [impl_RollWheel.f]
      refine Evl.bind d.i ?_
      simp only [if_true, if_neg i1, if_neg i2]
      refine Evl.bind (impl_isPrime_ev a (by omega)) ?_
      simp only [cp, if_true, if_neg i3, if_neg ct, beq_iff_eq.2 cl]
      exact impl_RW_no _ _
     ·have e1 : ([] : List S45).length + l.length < 8796093022208 := by simp; omega
      have e2 : (([] : List S45) ++ l).length < 8796093022208 := by simp; omega
      have e3 : (([] : List S45) ++ l) ++ [(⟨a, 0⟩ : S45)] = l ++ [(⟨a, 0⟩ : S45)] := rfl
      rcases wd_cases (l ++ [(⟨a, 0⟩ : S45)]) with ⟨P', d'⟩ | ⟨⟨x, y, hi⟩, hs⟩
      ·refine .inl ⟨P, P', d, rfl, c.1, c.2, ct, by omega, d', ?_⟩
       simp only [impl_RollWheel.f]
       refine Evl.bind d.i ?_
       simp only [if_true, if_neg i1, if_neg i2]
       refine Evl.bind (impl_isPrime_ev a (by omega)) ?_
       simp only [cp, if_true, if_neg i3, if_neg ct, beq_eq_false_iff_ne.2 cl]
       refine Evl.succ ?_
       simp only [impl_RollWheel.j0, Bool.false_eq_true, if_false, Option.bind_some, if_pos e1, if_pos e2, e3]
       refine Evl.bind d'.i ?_
       simp only [if_true]
       exact Evl.ret _
      ·refine .inr ?_
       simp only [impl_RollWheel.f]
       refine Evl.bind d.i ?_
       simp only [if_true, if_neg i1, if_neg i2]
       refine Evl.bind (impl_isPrime_ev a (by omega)) ?_
       simp only [cp, if_true, if_neg i3, if_neg ct, beq_eq_false_iff_ne.2 cl]
       refine Evl.succ ?_
       simp only [impl_RollWheel.j0, Bool.false_eq_true, if_false, Option.bind_some, if_pos e1, if_pos e2, e3]
       refine Evl.bind hi ?_
       simp only [Bool.false_eq_true, if_false]
       exact Evl.ret _
   | false =>
    refine .inr ?_
    simp only [impl_RollWheel.f]
    refine Evl.bind d.i ?_
    simp only [if_true, if_neg i1, if_neg i2]
    refine Evl.bind (impl_isPrime_ev a (by omega)) ?_
    simp only [cp, Bool.false_eq_true, if_false]
    exact impl_RW_no _ _
  ·refine .inr ?_
   simp only [impl_RollWheel.f]
   refine Evl.bind d.i ?_
   by_cases i1 : a < 2
   ·simp only [if_true, if_pos i1]
    exact impl_RW_no _ _
   ·simp only [if_true, if_neg i1, if_pos (show a > 60 by omega)]
    exact impl_RW_no _ _
 ·refine .inr ?_
  simp only [impl_RollWheel.f]
  refine Evl.bind hi ?_
  simp only [Bool.false_eq_true, if_false]
  exact impl_RW_no _ _

end Go.Proofs.Ytdaodlhcedjfoaa.L

/-! ## X38 -/
namespace Go.Proofs.Ytdaodlhcedjfoaa.L
open Go.RowKit Go.Proofs.YtdaodlhcedjfoaaW.PrintWords Go.Proofs.Ytdaodlhcedjfoaa.P Go.Proofs.Ytdaodlhcedjfoaa.M
set_option linter.unusedVariables false
set_option linter.unusedSimpArgs false

/-! ### sizes of steps -/
def sumC : List Int → List Int → Int
 | [], _ => 0
 | x :: s, L => (cnt x L : Int) + sumC s L
theorem cnt_cons (x y : Int) (L : List Int) : cnt x (y :: L) = cnt x L + if y = x then 1 else 0 := by
 unfold cnt
 by_cases e : y = x
 ·rw [List.filter_cons_of_pos (by simpa using e), List.length_cons, if_pos e]
 ·rw [List.filter_cons_of_neg (by simpa using e), if_neg e]
  rfl
theorem sumC_nil : ∀ S : List Int, sumC S [] = 0
 | [] => rfl
 | x :: S => by
  simp only [sumC]
  rw [sumC_nil S]
  rfl
theorem sumC_cons : ∀ (S : List Int) (y : Int) (L : List Int), sumC S (y :: L) = sumC S L + cnt y S
 | [], y, L => rfl
 | x :: S, y, L => by
  have ih := sumC_cons S y L
  simp only [sumC]
  rw [ih, cnt_cons x y L, cnt_cons y x S]
  by_cases e : y = x
  ·rw [if_pos e, if_pos e.symm]
   omega
  ·rw [if_neg e, if_neg (fun h => e h.symm)]
   omega
theorem sumC_nonneg : ∀ (S L : List Int), 0 ≤ sumC S L
 | [], L => Int.le_refl _
 | x :: S, L => by
  have := sumC_nonneg S L
  simp only [sumC]
  omega
theorem cnt_one : ∀ (S : List Int), S.Pairwise (· < ·) → ∀ y ∈ S, cnt y S = 1
 | [], _, y, h => by cases h
 | x :: S, hp, y, h => by
  rw [List.pairwise_cons] at hp
  rw [cnt_cons]
  by_cases e : x = y
  ·subst e
   have : cnt x S = 0 := by
    unfold cnt
    rw [List.length_eq_zero_iff, List.filter_eq_nil_iff]
    intro z hz
    have := hp.1 z hz
    simp
    omega
   rw [this, if_pos rfl]
  ·rcases List.mem_cons.1 h with h | h
   ·exact absurd h.symm e
   ·rw [cnt_one S hp.2 y h, if_neg e]
theorem sumC_all : ∀ (L S : List Int), S.Pairwise (· < ·) → (∀ y ∈ L, y ∈ S) → sumC S L = L.length
 | [], S, _, _ => sumC_nil S
 | y :: L, S, hp, h => by
  rw [sumC_cons, sumC_all L S hp (fun z hz => h z (List.mem_cons_of_mem _ hz)), cnt_one S hp y (h y (List.mem_cons_self ..)), List.length_cons]
  omega
theorem cnt_pos {x : Int} {L : List Int} (h : x ∈ L) : 1 ≤ cnt x L := by
 unfold cnt
 exact List.length_pos_of_mem (List.mem_filter.2 ⟨h, decide_eq_true rfl⟩)
def lastD : Int → List Int → Int
 | m, [] => m
 | _, x :: s => lastD x s
theorem lastD_mem : ∀ (s : List Int) (m : Int), s ≠ [] → lastD m s ∈ s
 | [], m, h => absurd rfl h
 | [y], m, _ => List.mem_cons_self ..
 | y :: z :: s, m, _ => List.mem_cons_of_mem _ (lastD_mem (z :: s) y (by simp))
theorem lastD_max : ∀ (s : List Int) (m : Int), s.Pairwise (· < ·) → ∀ x ∈ s, x ≤ lastD m s
 | [], m, _, x, h => by cases h
 | [y], m, _, x, h => by
  rw [List.mem_singleton.1 h]
  exact Int.le_refl _
 | y :: z :: s, m, hp, x, h => by
  rw [List.pairwise_cons] at hp
  show x ≤ lastD y (z :: s)
  have hz := lastD_max (z :: s) y hp.2 z (List.mem_cons_self ..)
  have hy := hp.1 z (List.mem_cons_self ..)
  rcases List.mem_cons.1 h with rfl | h
  ·omega
  ·exact lastD_max (z :: s) y hp.2 x h
theorem maxL_le : ∀ (s : List Int), ∀ x ∈ s, x ≤ maxL s
 | [], x, h => by cases h
 | y :: s, x, h => by
  unfold maxL
  by_cases c : maxL s > y
  ·rw [if_pos c]
   rcases List.mem_cons.1 h with rfl | h
   ·omega
   ·exact maxL_le s x h
  ·rw [if_neg c]
   rcases List.mem_cons.1 h with rfl | h
   ·exact Int.le_refl _
   ·have := maxL_le s x h
    omega
theorem last_srt {L : List Int} (hne : L ≠ []) (h1 : ∀ y ∈ L, 1 ≤ y) : lastD 0 (srt L) = maxL L := by
 have hm := maxL_mem L hne h1
 have hs : maxL L ∈ srt L := srt_mem.2 hm
 have h2 := lastD_max (srt L) 0 (srt_sorted L) _ hs
 have h3 := maxL_le L _ (srt_mem.1 (lastD_mem (srt L) 0 (fun e => by rw [e] at hs; cases hs)))
 omega
theorem fstI_le (x : Int) : ∀ (s : List Int) (i : Nat), s[i]? = some x → fstI x s ≤ i
 | [], i, h => by simp at h
 | y :: s, 0, h => by
  rw [List.getElem?_cons_zero] at h
  injection h with h
  unfold fstI
  rw [if_pos h.symm]
  omega
 | y :: s, i + 1, h => by
  rw [List.getElem?_cons_succ] at h
  have := fstI_le x s i h
  unfold fstI
  split
  ·omega
  ·omega
theorem sorted_rd {xs : List Int} (hp : xs.Pairwise (· < ·)) {i j : Nat} (h : i ≤ j) (hj : j < xs.length) : rd xs (i : Int) ≤ rd xs (j : Int) := by
 rw [rd_nat hj, rd_nat (show i < xs.length by omega)]
 rcases Nat.lt_or_ge i j with g | g
 ·exact Int.le_of_lt (List.pairwise_iff_getElem.1 hp i j (by omega) hj g)
 ·have : i = j := by omega
  subst this
  exact Int.le_refl _

/-! ### periods -/
theorem leastL_spec {q : List Ru} {P : Nat} (W : Wheel q P) : ∀ (m b : Nat), 1 ≤ b → b ≤ P → m + b = P + 1 → ∃ d : Nat, leastL q P m b = (d : Int) ∧ 1 ≤ d ∧ d ≤ P ∧ P % d = 0 ∧ sameL q (d : Int) P 0 = true := by
 intro m
 induction m with
 | zero => intro b h1 h2 h3; omega
 | succ m ih =>
  intro b h1 h2 h3
  unfold leastL
  by_cases c : P % b = 0 ∧ sameL q (b : Int) P 0 = true
  ·rw [if_pos c]
   exact ⟨b, rfl, h1, h2, c.1, c.2⟩
  ·have hbP : b ≠ P := fun e => c ⟨by rw [e]; exact Nat.mod_self P, by rw [e]; exact sameL_self W P 0⟩
   rw [if_neg c]
   exact ih (b + 1) (by omega) (by omega) (by omega)
theorem sameL_all {q : List Ru} {b : Int} : ∀ (m : Nat) (n : Int), sameL q b m n = true → ∀ x, n ≤ x → x < n + m → left q x = left q (x + b) := by
 intro m
 induction m with
 | zero => intro n _ x h1 h2; omega
 | succ m ih =>
  intro n h x h1 h2
  unfold sameL at h
  by_cases c : left q n = left q (n + b)
  ·rw [if_pos c] at h
   by_cases e : x = n
   ·rw [e]; exact c
   ·exact ih (n + 1) h x (by omega) (by omega)
  ·rw [if_neg c] at h
   cases h
theorem parts (x : Int) (P : Nat) (h : 1 ≤ P) : ∃ r z : Int, 0 ≤ r ∧ r < P ∧ x = r + (P : Int) * z := by
 refine ⟨x % (P : Int), x / (P : Int), Int.emod_nonneg x (by omega), Int.emod_lt_of_pos x (by omega), ?_⟩
 exact (Int.emod_add_mul_ediv x (P : Int)).symm
theorem per_all {q : List Ru} {P d : Nat} (W : Wheel q P) (h : sameL q (d : Int) P 0 = true) (x : Int) : left q (x + d) = left q x := by
 obtain ⟨r, z, h0, h1, rfl⟩ := parts x P W.pos
 rw [W.add, show r + (P : Int) * z + (d : Int) = (r + d) + (P : Int) * z by omega, W.add]
 exact (sameL_all P 0 h r (by omega) (by omega)).symm
theorem lb_rep {q : List Ru} {d : Nat} (hd : ∀ x, left q (x + d) = left q x) : ∀ (m : Nat) (n : Int), (lb q m (n + d)).length = (lb q m n).length
 | 0, n => rfl
 | m + 1, n => by
  unfold lb
  have ih := lb_rep hd m (n + 1)
  rw [hd n, show n + (d : Int) + 1 = n + 1 + d by omega]
  split
  ·rw [List.length_cons, List.length_cons, ih]
  ·exact ih
theorem lb_mul {q : List Ru} {d : Nat} (hd : ∀ x, left q (x + d) = left q x) : ∀ k : Nat, (lb q (d * k) 1).length = k * (lb q d 1).length
 | 0 => by rw [Nat.mul_zero, Nat.zero_mul]; rfl
 | k + 1 => by
  rw [Nat.mul_succ, Nat.add_comm, lb_append, List.length_append, lb_rep hd, lb_mul hd k, Nat.succ_mul, Nat.add_comm]
theorem count_least {q : List Ru} {P d : Nat} (W : Wheel q P) (h1 : 1 ≤ d) (h2 : d ≤ P) (hm : P % d = 0) (h : sameL q (d : Int) P 0 = true) : Int.tmod (wrap64 (((lb q P 1).length : Int) * (d : Int))) (P : Int) = 0 := by
 obtain ⟨k, hk⟩ := Nat.dvd_of_mod_eq_zero hm
 have hc : (lb q P 1).length = k * (lb q d 1).length := by
  have := lb_mul (per_all W h) k
  rwa [← hk] at this
 have h5 := W.most
 have hl := lb_length q P 1
 have hb : (lb q P 1).length * d ≤ 5000 * 5000 := Nat.mul_le_mul (by omega) (by omega)
 have e : (lb q P 1).length * d = P * (lb q d 1).length := by
  rw [hc]
  conv => rhs; rw [hk]
  rw [Nat.mul_comm k, Nat.mul_assoc, Nat.mul_comm, Nat.mul_comm k d]
 rw [← Int.natCast_mul, w64 (by omega) (by omega), e]
 show ((P * (lb q d 1).length % P : Nat) : Int) = 0
 rw [Nat.mul_mod_right]
 rfl

/-! ### mirrored ones -/
theorem symL_all {q : List Ru} : ∀ (m : Nat) (n : Int), symL q m n = true → ∀ x, n ≤ x → x < n + m → left q x = left q (-x) := by
 intro m
 induction m with
 | zero => intro n _ x h1 h2; omega
 | succ m ih =>
  intro n h x h1 h2
  unfold symL at h
  by_cases c : left q n = left q (-n)
  ·rw [if_pos c] at h
   by_cases e : x = n
   ·rw [e]; exact c
   ·exact ih (n + 1) h x (by omega) (by omega)
  ·rw [if_neg c] at h
   cases h
theorem sym_all {q : List Ru} {P : Nat} (W : Wheel q P) (h : symL q P 0 = true) (x : Int) : left q (-x) = left q x := by
 obtain ⟨r, z, h0, h1, rfl⟩ := parts x P W.pos
 have e : -(r + (P : Int) * z) = -r + (P : Int) * (-z) := by rw [Int.mul_neg]; omega
 rw [e, W.add, W.add]
 exact (symL_all P 0 h r (by omega) (by omega)).symm
theorem pal {q : List Ru} {P : Nat} (W : Wheel q P) (hs : ∀ x, left q (-x) = left q x) : ((lb q (P - 1) 1).map fun x => (P : Int) - x).reverse = lb q (P - 1) 1 := by
 have hP := W.pos
 have hm : ∀ y, left q ((P : Int) - y) = left q y := fun y => by
  rw [show (P : Int) - y = -y + P by omega, W.on, hs]
 refine sorted_ext _ _ ?_ (lb_sorted q (P - 1) 1) ?_
 ·rw [List.pairwise_reverse, List.pairwise_map]
  exact (lb_sorted q (P - 1) 1).imp (fun {a b} h => by show (P : Int) - b < (P : Int) - a; omega)
 ·intro x
  rw [List.mem_reverse, List.mem_map]
  constructor
  ·rintro ⟨y, hy, rfl⟩
   have := (lb_mem q (P - 1) 1 y).1 hy
   exact (lb_mem q (P - 1) 1 _).2 ⟨by omega, by omega, by rw [hm]; exact this.2.2⟩
  ·intro hx
   have := (lb_mem q (P - 1) 1 x).1 hx
   exact ⟨(P : Int) - x, (lb_mem q (P - 1) 1 _).2 ⟨by omega, by omega, by rw [hm]; exact this.2.2⟩, by omega⟩
theorem pal_rd {q : List Ru} {P : Nat} (W : Wheel q P) (hs : ∀ x, left q (-x) = left q x) {i : Nat} (h : i < (lb q (P - 1) 1).length) :
 rd (lb q (P - 1) 1) (((lb q (P - 1) 1).length - 1 - i : Nat) : Int) = (P : Int) - rd (lb q (P - 1) 1) (i : Int) := by
 have e := pal W hs
 have hr : (((lb q (P - 1) 1).map fun x => (P : Int) - x).reverse)[i]? = (lb q (P - 1) 1)[i]? := by rw [e]
 rw [List.getElem?_reverse (by rw [List.length_map]; exact h), List.getElem?_map, List.length_map, List.getElem?_eq_getElem h, List.getElem?_eq_getElem (show (lb q (P - 1) 1).length - 1 - i < (lb q (P - 1) 1).length by omega)] at hr
 have hr : (P : Int) - (lb q (P - 1) 1)[(lb q (P - 1) 1).length - 1 - i] = (lb q (P - 1) 1)[i] := Option.some.inj hr
 rw [rd_nat h, rd_nat (show (lb q (P - 1) 1).length - 1 - i < (lb q (P - 1) 1).length by omega)]
 omega
theorem lb_last {q : List Ru} {P : Nat} (h : 1 ≤ P) : lb q P 1 = lb q (P - 1) 1 ++ (if left q (P : Int) = true then [(P : Int)] else []) := by
 have := lb_append q (P - 1) 1 1
 rw [show P - 1 + 1 = P by omega, show (1 : Int) + ((P - 1 : Nat) : Int) = (P : Int) by omega] at this
 exact this
theorem rd_left {xs ys : List Int} {i : Nat} (h : i < xs.length) : rd (xs ++ ys) (i : Int) = rd xs (i : Int) := by
 rw [rd_of (List.getElem?_eq_getElem h), rd_of (xs := xs ++ ys) (x := xs[i])]
 rw [List.getElem?_append_left h]
 exact List.getElem?_eq_getElem h
theorem rd_end (xs : List Int) (x : Int) : rd (xs ++ [x]) (xs.length : Int) = x := rd_of (by rw [List.getElem?_append_right (Nat.le_refl _), Nat.sub_self]; rfl)
theorem rd_succ (a : Int) (s : List Int) (i : Nat) : rd (a :: s) ((i + 1 : Nat) : Int) = rd s (i : Int) := by
 unfold rd
 rw [Int.toNat_natCast, Int.toNat_natCast]
 rfl
theorem stepsL_end (first P : Int) : ∀ l : List Int, l ≠ [] → rd (stepsL first P l) ((l.length - 1 : Nat) : Int) = first + P - rd l ((l.length - 1 : Nat) : Int)
 | [], h => absurd rfl h
 | [x], _ => rfl
 | x :: y :: t, _ => by
  have ih := stepsL_end first P (y :: t) (by simp)
  rw [show (y :: t).length - 1 = t.length by rw [List.length_cons]; omega] at ih
  rw [show (x :: y :: t).length - 1 = t.length + 1 by rw [List.length_cons, List.length_cons]; omega]
  simp only [stepsL]
  rw [rd_succ, rd_succ]
  exact ih
theorem steps_end {q : List Ru} {P : Nat} (W : Wheel q P) : rd (steps q P) (((lb q P 1).length - 1 : Nat) : Int) = rd (lb q P 1) 0 + P - rd (lb q P 1) (((lb q P 1).length - 1 : Nat) : Int) := by
 unfold steps
 rw [stepsL_end _ _ _ W.some, rd_head]
theorem tmod_of {c r : Nat} {e : Int} (k : Nat) (hr : r < c) (h : e = ((r + c * k : Nat) : Int)) : Int.tmod e (c : Int) = (r : Int) := by
 rw [h]
 show (((r + c * k) % c : Nat) : Int) = _
 rw [Nat.add_mul_mod_self_left, Nat.mod_eq_of_lt hr]
/-- Where the number at 0 is a spoke. -/
theorem mirror_yes {q : List Ru} {P : Nat} (W : Wheel q P) (hs : ∀ x, left q (-x) = left q x) (hP : left q (P : Int) = true) {i : Nat} (hi : i < (lb q P 1).length) :
 ∃ j : Nat, j < (lb q P 1).length ∧ Int.tmod ((((lb q P 1).length : Int) - 2 - i - 1) + 3 * ((lb q P 1).length : Int)) ((lb q P 1).length : Int) = (j : Int) ∧ rd (steps q P) (j : Int) = rd (steps q P) (i : Int) := by
 have h1 := W.pos
 have eL : lb q P 1 = lb q (P - 1) 1 ++ [(P : Int)] := by rw [lb_last h1, if_pos hP]
 have hlen : (lb q P 1).length = (lb q (P - 1) 1).length + 1 := by rw [eL, List.length_append, List.length_singleton]
 have hrd : ∀ t : Nat, t < (lb q (P - 1) 1).length → rd (lb q P 1) (t : Int) = rd (lb q (P - 1) 1) (t : Int) := fun t ht => by rw [eL]; exact rd_left ht
 have hend : rd (lb q P 1) (((lb q (P - 1) 1).length : Nat) : Int) = P := by rw [eL]; exact rd_end _ _
 have hse := steps_end W
 rw [show (lb q P 1).length - 1 = (lb q (P - 1) 1).length by omega, hend] at hse
 have hst := fun t => @steps_rd q P t
 have hp := fun t => @pal_rd q P W hs t
 generalize (lb q P 1).length = c at *
 generalize hc' : (lb q (P - 1) 1).length = c' at *
 subst hlen
 by_cases g : i + 1 < c'
 ·refine ⟨c' - 2 - i, by omega, tmod_of 3 (by omega) (by omega), ?_⟩
  have a1 := hst (c' - 2 - i) (by omega)
  have a2 := hst i (by omega)
  rw [show c' - 2 - i + 1 = c' - 1 - i by omega, hrd _ (by omega), hrd _ (by omega), show c' - 2 - i = c' - 1 - (i + 1) by omega, hp i (by omega), hp (i + 1) (by omega)] at a1
  rw [hrd _ (by omega), hrd _ (by omega)] at a2
  rw [show c' - 2 - i = c' - 1 - (i + 1) by omega, a1, a2]
  omega
 ·by_cases g0 : c' = 0
  ·refine ⟨0, by omega, tmod_of (c := c' + 1) 1 (by omega) (by omega), ?_⟩
   rw [show i = 0 by omega]
  ·have h0 : rd (lb q P 1) ((0 : Nat) : Int) = (P : Int) - rd (lb q (P - 1) 1) ((c' - 1 : Nat) : Int) := by
    rw [hrd 0 (by omega)]
    have := hp (c' - 1) (by omega)
    rwa [show c' - 1 - (c' - 1) = 0 by omega] at this
   have a2 := hst (c' - 1) (by omega)
   rw [show c' - 1 + 1 = c' by omega, hend, hrd _ (by omega)] at a2
   have h00 : rd (lb q P 1) 0 = rd (lb q P 1) ((0 : Nat) : Int) := rfl
   by_cases g1 : i = c'
   ·refine ⟨c' - 1, by omega, tmod_of 2 (by omega) (by omega), ?_⟩
    rw [g1, hse, a2]
    omega
   ·refine ⟨c', by omega, tmod_of 2 (by omega) (by omega), ?_⟩
    rw [show i = c' - 1 by omega, hse, a2]
    omega
/-- Where it is none. -/
theorem mirror_no {q : List Ru} {P : Nat} (W : Wheel q P) (hs : ∀ x, left q (-x) = left q x) (hP : ¬ left q (P : Int) = true) {i : Nat} (hi : i < (lb q P 1).length) :
 ∃ j : Nat, j < (lb q P 1).length ∧ Int.tmod ((((lb q P 1).length : Int) - 2 - i) + 3 * ((lb q P 1).length : Int)) ((lb q P 1).length : Int) = (j : Int) ∧ rd (steps q P) (j : Int) = rd (steps q P) (i : Int) := by
 have h1 := W.pos
 have eL : lb q P 1 = lb q (P - 1) 1 := by rw [lb_last h1, if_neg hP, List.append_nil]
 have hst := fun t => @steps_rd q P t
 have hp := fun t => @pal_rd q P W hs t
 rw [← eL] at hp
 generalize (lb q P 1).length = c at *
 by_cases g : i + 1 < c
 ·refine ⟨c - 2 - i, by omega, tmod_of 3 (by omega) (by omega), ?_⟩
  have a1 := hst (c - 2 - i) (by omega)
  have a2 := hst i (by omega)
  rw [show c - 2 - i + 1 = c - 1 - i by omega, show c - 2 - i = c - 1 - (i + 1) by omega, hp i (by omega), hp (i + 1) (by omega)] at a1
  rw [show c - 2 - i = c - 1 - (i + 1) by omega, a1, a2]
  omega
 ·refine ⟨c - 1, by omega, tmod_of 2 (by omega) (by omega), ?_⟩
  rw [show i = c - 1 by omega]
theorem last_is {q : List Ru} {P : Nat} (W : Wheel q P) : rd (lb q P 1) (((lb q P 1).length - 1 : Nat) : Int) = (P : Int) ↔ left q (P : Int) = true := by
 have hlen : 1 ≤ (lb q P 1).length := List.length_pos_iff.2 W.some
 have hlt : (lb q P 1).length - 1 < (lb q P 1).length := by omega
 constructor
 ·intro h
  rw [rd_nat hlt] at h
  have := (lb_mem q P 1 _).1 (List.getElem_mem hlt)
  rw [h] at this
  exact this.2.2
 ·intro h
  have eL : lb q P 1 = lb q (P - 1) 1 ++ [(P : Int)] := by rw [lb_last W.pos, if_pos h]
  have hl : (lb q P 1).length - 1 = (lb q (P - 1) 1).length := by rw [eL, List.length_append, List.length_singleton]; omega
  rw [hl, eL]
  exact rd_end _ _

/-! ### longer ways -/
theorem cntL_cons (q : List Ru) (a x : Int) (l : List Int) : cntL q a (x :: l) = cntL q a l + if left q (x + a) = true then 1 else 0 := by
 unfold cntL
 by_cases e : left q (x + a) = true
 ·rw [List.filter_cons_of_pos (by simpa using e), List.length_cons, if_pos e]
 ·rw [List.filter_cons_of_neg (by simpa using e), if_neg e]
  rfl
theorem cnt_cntL {q : List Ru} (a first P : Int) (hf : left q (first + P) = true) : ∀ l : List Int, (∀ x ∈ l, left q x = true) → cnt a (stepsL first P l) ≤ cntL q a l
 | [], _ => Nat.le_refl _
 | [x], h => by
  rw [cntL_cons]
  show cnt a ((first + P - x) :: []) ≤ _
  rw [cnt_cons]
  by_cases e : first + P - x = a
  ·rw [if_pos e, if_pos (by rw [show x + a = first + P by omega]; exact hf)]
   exact Nat.le_refl _
  ·rw [if_neg e]
   exact Nat.zero_le _
 | x :: y :: t, h => by
  have ih := cnt_cntL a first P hf (y :: t) (fun z hz => h z (List.mem_cons_of_mem _ hz))
  rw [cntL_cons]
  show cnt a ((y - x) :: stepsL first P (y :: t)) ≤ _
  rw [cnt_cons]
  by_cases e : y - x = a
  ·rw [if_pos e, if_pos (by rw [show x + a = y by omega]; exact h y (List.mem_cons_of_mem _ (List.mem_cons_self ..)))]
   omega
  ·rw [if_neg e]
   omega
theorem count_times {q : List Ru} {P : Nat} (W : Wheel q P) (a : Int) : cnt a (steps q P) ≤ cntL q a (lb q P 1) := by
 obtain ⟨x, t, e⟩ := lb_cons W
 have hm := fun y => (lb_mem q P 1 y).1
 unfold steps
 rw [e] at hm ⊢
 refine cnt_cntL a x P ?_ _ (fun y hy => (hm y hy).2.2)
 rw [W.on]
 exact (hm x (List.mem_cons_self ..)).2.2

/-! ### from spoke to spoke -/
theorem gap {q : List Ru} {P a : Nat} (W : Wheel q P) (ha : a < (lb q P 1).length) : 1 ≤ rd (steps q P) (a : Int) ∧ rd (steps q P) (a : Int) ≤ P ∧ (∀ k : Int, 1 ≤ k → k < rd (steps q P) (a : Int) → left q (rd (lb q P 1) (a : Int) + k) = false) ∧
 ∃ z : Int, rd (lb q P 1) (a : Int) + rd (steps q P) (a : Int) = rd (lb q P 1) (((a + 1) % (lb q P 1).length : Nat) : Int) + (P : Int) * z := by
 have hsl : a < (steps q P).length := by rw [steps_length]; exact ha
 have hr := steps_range W _ (List.getElem_mem hsl)
 rw [← rd_nat hsl] at hr
 have hP := W.pos
 have hs := lb_sorted q P 1
 have hmem : ∀ {t : Nat}, t < (lb q P 1).length → 1 ≤ rd (lb q P 1) (t : Int) ∧ rd (lb q P 1) (t : Int) ≤ P := fun {t} ht => by
  rw [rd_nat ht]
  have := lb_at ht
  exact ⟨this.1, this.2.1⟩
 have hidx : ∀ x : Int, 1 ≤ x → x ≤ P → left q x = true → ∃ t : Nat, t < (lb q P 1).length ∧ rd (lb q P 1) (t : Int) = x := fun x h1 h2 h3 => by
  obtain ⟨t, ht, e⟩ := List.getElem_of_mem ((lb_mem q P 1 x).2 ⟨h1, by omega, h3⟩)
  exact ⟨t, ht, by rw [rd_nat ht, e]⟩
 refine ⟨hr.1, hr.2, ?_, ?_⟩
 ·intro k h1 h2
  cases hb : left q (rd (lb q P 1) (a : Int) + k) with
  | false => rfl
  | true =>
   exfalso
   have ma := hmem ha
   by_cases g : a + 1 < (lb q P 1).length
   ·rw [steps_rd g] at h2
    have mb := hmem g
    obtain ⟨t, ht, e⟩ := hidx _ (by omega) (by omega) hb
    rcases Nat.lt_or_ge a t with c | c
    ·have := sorted_rd hs (show a + 1 ≤ t by omega) ht
     omega
    ·have := sorted_rd hs c ha
     omega
   ·have e1 : a = (lb q P 1).length - 1 := by omega
    have he := steps_end W
    rw [← e1] at he
    rw [he] at h2
    by_cases g2 : rd (lb q P 1) (a : Int) + k ≤ P
    ·obtain ⟨t, ht, e⟩ := hidx _ (by omega) g2 hb
     have := sorted_rd hs (show t ≤ a by omega) ha
     omega
    ·have hb2 : left q (rd (lb q P 1) (a : Int) + k - P) = true := by rw [W.back]; exact hb
     obtain ⟨t, ht, e⟩ := hidx _ (by omega) (by have := hmem (show 0 < (lb q P 1).length by omega); have h00 : rd (lb q P 1) 0 = rd (lb q P 1) ((0 : Nat) : Int) := rfl; omega) hb2
     have := sorted_rd hs (show 0 ≤ t by omega) ht
     have h00 : rd (lb q P 1) 0 = rd (lb q P 1) ((0 : Nat) : Int) := rfl
     omega
 ·by_cases g : a + 1 < (lb q P 1).length
  ·refine ⟨0, ?_⟩
   rw [Nat.mod_eq_of_lt g, steps_rd g]
   omega
  ·have e1 : a = (lb q P 1).length - 1 := by omega
   have he := steps_end W
   rw [← e1] at he
   refine ⟨1, ?_⟩
   rw [show a + 1 = (lb q P 1).length by omega, Nat.mod_self, he]
   have h00 : rd (lb q P 1) 0 = rd (lb q P 1) ((0 : Nat) : Int) := rfl
   omega
theorem runF_no (own : List Int) (i : Nat) : ∀ (s : List Int) (j : Nat), runF own i s j false = false
 | [], j => rfl
 | y :: s, j => by
  unfold runF
  exact runF_no own i s (j + 1)
theorem runF_cons {own : List Int} {i j : Nat} {y : Int} {s : List Int} (h : runF own i (y :: s) j true = true) : rd own (((i + j) % own.length : Nat) : Int) = y ∧ runF own i s (j + 1) true = true := by
 unfold runF at h
 simp only [if_true] at h
 cases e : (rd own (((i + j) % own.length : Nat) : Int) == y) with
 | true =>
  rw [e] at h
  exact ⟨beq_iff_eq.1 e, h⟩
 | false =>
  rw [e, runF_no] at h
  cases h
theorem runs_true {own sts : List Int} : ∀ (s : List Int) (i : Nat), (runs own sts s i).2 = true → ∃ t : Nat, s[t]? = some (runs own sts s i).1 ∧ runF own (i + t) sts 0 true = true
 | [], i, h => by cases h
 | n :: s, i, h => by
  unfold runs at h ⊢
  by_cases c : runF own i sts 0 true = true
  ·rw [if_pos c]
   exact ⟨0, rfl, c⟩
  ·rw [if_neg c] at h ⊢
   obtain ⟨t, h1, h2⟩ := runs_true s (i + 1) h
   exact ⟨t + 1, h1, by rw [show i + (t + 1) = i + 1 + t by omega]; exact h2⟩

end Go.Proofs.Ytdaodlhcedjfoaa.L

/-! ## X39 -/
namespace Go.Proofs.Ytdaodlhcedjfoaa.L
open Go.RowKit Go.Proofs.YtdaodlhcedjfoaaW.PrintWords Go.Proofs.Ytdaodlhcedjfoaa.P Go.Proofs.Ytdaodlhcedjfoaa.M
set_option linter.unusedVariables false
set_option linter.unusedSimpArgs false

/-- The numbers among m from n on of which f holds. -/
def lF (f : Int → Bool) : Nat → Int → List Int
 | 0, _ => []
 | m + 1, n => if f n = true then n :: lF f m (n + 1) else lF f m (n + 1)
theorem lF_lb (q : List Ru) : ∀ (m : Nat) (n : Int), lb q m n = lF (left q) m n
 | 0, _ => rfl
 | m + 1, n => by
  unfold lb lF
  rw [lF_lb q m (n + 1)]
theorem lF_mem (f : Int → Bool) : ∀ (m : Nat) (n x : Int), x ∈ lF f m n ↔ n ≤ x ∧ x < n + m ∧ f x = true
 | 0, n, x => by
  unfold lF
  constructor
  ·intro h; cases h
  ·intro h; omega
 | m + 1, n, x => by
  unfold lF
  have ih := lF_mem f m (n + 1) x
  by_cases h : f n = true
  ·rw [if_pos h, List.mem_cons, ih]
   constructor
   ·rintro (rfl | h1)
    ·exact ⟨Int.le_refl _, by omega, h⟩
    ·exact ⟨by omega, by omega, h1.2.2⟩
   ·rintro ⟨h1, h2, h3⟩
    by_cases e : x = n
    ·exact .inl e
    ·exact .inr ⟨by omega, by omega, h3⟩
  ·rw [if_neg h, ih]
   constructor
   ·rintro ⟨h1, h2, h3⟩
    exact ⟨by omega, by omega, h3⟩
   ·rintro ⟨h1, h2, h3⟩
    have e : x ≠ n := fun e => h (e ▸ h3)
    exact ⟨by omega, by omega, h3⟩
theorem lF_sorted (f : Int → Bool) : ∀ (m : Nat) (n : Int), (lF f m n).Pairwise (· < ·)
 | 0, _ => List.Pairwise.nil
 | m + 1, n => by
  unfold lF
  have ih := lF_sorted f m (n + 1)
  split
  ·refine List.Pairwise.cons (fun x hx => ?_) ih
   have := (lF_mem f m (n + 1) x).1 hx
   omega
  ·exact ih
theorem lF_add (f : Int → Bool) : ∀ (m k : Nat) (n : Int), (lF f (m + k) n).length = (lF f m n).length + (lF f k (n + m)).length
 | 0, k, n => by rw [Nat.zero_add, show n + ((0 : Nat) : Int) = n by omega]; simp [lF]
 | m + 1, k, n => by
  have ih := lF_add f m k (n + 1)
  rw [show m + 1 + k = (m + k) + 1 by omega]
  simp only [lF]
  rw [show n + ((m + 1 : Nat) : Int) = n + 1 + (m : Int) by omega]
  split
  ·rw [List.length_cons, List.length_cons, ih]; omega
  ·exact ih
theorem lF_congr {f g : Int → Bool} (h : ∀ x, f x = g x) (m : Nat) (n : Int) : lF f m n = lF g m n := by rw [show f = g from funext h]
theorem lF_none {f : Int → Bool} : ∀ (m : Nat) (n : Int), (∀ x, n ≤ x → x < n + m → f x = false) → (lF f m n).length = 0
 | 0, n, _ => rfl
 | m + 1, n, h => by
  unfold lF
  rw [if_neg (by rw [h n (by omega) (by omega)]; simp)]
  exact lF_none m (n + 1) (fun x h1 h2 => h x (by omega) (by omega))
theorem lF_one (f : Int → Bool) (n : Int) : (lF f 1 n).length = if f n = true then 1 else 0 := by
 simp only [lF]
 split <;> rfl
theorem lF_split (f g : Int → Bool) : ∀ (m : Nat) (n : Int), (lF (fun x => f x && !(g x)) m n).length + (lF (fun x => f x && g x) m n).length = (lF f m n).length
 | 0, n => rfl
 | m + 1, n => by
  have ih := lF_split f g m (n + 1)
  simp only [lF]
  rcases Bool.eq_false_or_eq_true (f n) with hf | hf <;> rcases Bool.eq_false_or_eq_true (g n) with hg | hg <;> simp only [hf, hg, Bool.false_and, Bool.true_and, Bool.not_true, Bool.not_false, Bool.false_eq_true, if_false, if_true, List.length_cons] <;> omega
theorem emod_mul_zero (p t : Int) : (p * t) % p = 0 := Int.mul_emod_right p t
/-- Every p-th number. -/
theorem lF_mul (f : Int → Bool) (r : Nat) : ∀ m : Nat, (lF (fun x => f x && decide (x % ((r + 1 : Nat) : Int) = 0)) ((r + 1) * m) 1).length = (lF (fun t => f (((r + 1 : Nat) : Int) * t)) m 1).length
 | 0 => rfl
 | m + 1 => by
  rw [Nat.mul_succ, lF_add, lF_mul f r m, lF_add _ m 1 1, lF_add _ r 1, lF_one, lF_one, lF_none r]
  ·rw [show (1 : Int) + (((r + 1) * m : Nat) : Int) + (r : Int) = ((r + 1 : Nat) : Int) * (1 + (m : Int)) by rw [Int.natCast_mul, Int.mul_add, Int.mul_one]; omega]
   simp only [emod_mul_zero, decide_true, Bool.and_true, Nat.zero_add]
  ·intro x h1 h2
   have : ¬ x % ((r + 1 : Nat) : Int) = 0 := by
    intro e
    have e2 : (x - ((r + 1 : Nat) : Int) * (m : Int)) % ((r + 1 : Nat) : Int) = 0 := by rw [Int.sub_mul_emod_self_left]; exact e
    rw [Int.natCast_mul] at h1 h2
    rw [Int.emod_eq_of_lt (by omega) (by omega)] at e2
    omega
   show (f x && decide (x % ((r + 1 : Nat) : Int) = 0)) = false
   rw [decide_eq_false this, Bool.and_false]
theorem hole {M I : List Int} (h1 : M.Nodup) (h2 : ∀ x ∈ M, x ∈ I) (h3 : I.length ≤ M.length) : ∀ x ∈ I, x ∈ M := fun x hx => by
 rcases Classical.em (x ∈ M) with h | h
 ·exact h
 ·have := nodup_len (x :: M) I (List.nodup_cons.2 ⟨h, h1⟩) (fun y hy => by
   rcases List.mem_cons.1 hy with rfl | hy
   ·exact hx
   ·exact h2 y hy)
  rw [List.length_cons] at this
  omega
theorem sorted_nodup {l : List Int} (h : l.Pairwise (· < ·)) : l.Nodup := h.imp (fun h => by omega)
/-- A number's like in 1 to P. -/
def like (P p t : Int) : Int := (p * t - 1) % P + 1
theorem like_range {P : Nat} (h : 1 ≤ P) (p t : Int) : 1 ≤ like P p t ∧ like P p t ≤ P := by
 have h0 := Int.emod_nonneg (p * t - 1) (show (P : Int) ≠ 0 by omega)
 have h1 := Int.emod_lt_of_pos (p * t - 1) (show 0 < (P : Int) by omega)
 unfold like
 omega
theorem like_eq (P p t : Int) : ∃ z, like P p t = p * t + P * z := by
 refine ⟨-((p * t - 1) / P), ?_⟩
 have := Int.emod_add_mul_ediv (p * t - 1) P
 unfold like
 rw [Int.mul_neg]
 omega
theorem like_inj {P p : Nat} (hc : Nat.Coprime P p) {t u : Int} (ht : 1 ≤ t ∧ t ≤ P) (hu : 1 ≤ u ∧ u ≤ P) (h : like P p t = like P p u) : t = u := by
 obtain ⟨z, hz⟩ := like_eq P p t
 obtain ⟨y, hy⟩ := like_eq P p u
 rw [hz, hy] at h
 have hd : (P : Int) ∣ (p : Int) * (t - u) := ⟨y - z, by rw [Int.mul_sub, Int.mul_sub]; omega⟩
 have hn : P ∣ p * (t - u).natAbs := by
  have := Int.natAbs_dvd_natAbs.2 hd
  rwa [Int.natAbs_natCast, Int.natAbs_mul, Int.natAbs_natCast] at this
 have hn2 := hc.dvd_of_dvd_mul_left hn
 rcases Nat.eq_zero_or_pos (t - u).natAbs with h0 | h0
 ·omega
 ·have := Nat.le_of_dvd h0 hn2
  omega
theorem count_like {q : List Ru} {P p : Nat} (W : Wheel q P) (hc : Nat.Coprime P p) : (lF (fun t => left q ((p : Int) * t)) P 1).length = (lb q P 1).length := by
 have hP := W.pos
 have hlk : ∀ t, left q (like P p t) = left q ((p : Int) * t) := fun t => by
  obtain ⟨z, hz⟩ := like_eq P p t
  rw [hz, W.add]
 have hnd : ∀ f : Int → Bool, ((lF f P 1).map (like P p)).Nodup := fun f => by
  unfold List.Nodup
  rw [List.pairwise_map]
  refine List.Pairwise.imp_of_mem (fun {a b} ha hb hab => ?_) (lF_sorted f P 1)
  have h1 := (lF_mem f P 1 a).1 ha
  have h2 := (lF_mem f P 1 b).1 hb
  intro e
  have := like_inj hc ⟨h1.1, by omega⟩ ⟨h2.1, by omega⟩ e
  omega
 have hall : ∀ v : Int, 1 ≤ v → v ≤ P → ∃ t : Int, 1 ≤ t ∧ t ≤ P ∧ like P p t = v := fun v h1 h2 => by
  have := hole (hnd fun _ => true) (I := lF (fun _ => true) P 1) (fun x hx => by
   obtain ⟨t, _, rfl⟩ := List.mem_map.1 hx
   have := like_range hP p t
   exact (lF_mem _ P 1 _).2 ⟨this.1, by omega, rfl⟩) (by rw [List.length_map]; exact Nat.le_refl _) v ((lF_mem _ P 1 v).2 ⟨h1, by omega, rfl⟩)
  obtain ⟨t, ht, e⟩ := List.mem_map.1 this
  have := (lF_mem _ P 1 t).1 ht
  exact ⟨t, this.1, by omega, e⟩
 have g1 := nodup_len _ (lb q P 1) (hnd fun t => left q ((p : Int) * t)) (fun x hx => by
  obtain ⟨t, ht, rfl⟩ := List.mem_map.1 hx
  have h1 := (lF_mem _ P 1 t).1 ht
  have h2 := like_range hP p t
  exact (lb_mem q P 1 _).2 ⟨h2.1, by omega, by rw [hlk]; exact h1.2.2⟩)
 have g2 := nodup_len (lb q P 1) ((lF (fun t => left q ((p : Int) * t)) P 1).map (like P p)) (sorted_nodup (lb_sorted q P 1)) (fun v hv => by
  have h1 := (lb_mem q P 1 v).1 hv
  obtain ⟨t, t1, t2, e⟩ := hall v h1.1 (by omega)
  exact List.mem_map.2 ⟨t, (lF_mem _ P 1 t).2 ⟨t1, by omega, by rw [← hlk, e]; exact h1.2.2⟩, e⟩)
 rw [List.length_map] at g1 g2
 omega
theorem left_more (q : List Ru) (a n : Int) : left (q ++ [(a, 0)]) n = (left q n && !(decide (n % a = 0))) := by
 unfold left
 rw [List.all_append, List.all_cons, List.all_nil, Bool.and_true, decide_not]
/-- A wheel rolled by a prime that does not divide its period. -/
theorem roll_count {q : List Ru} {P P' p : Nat} (W : Wheel q P) (hp : isP p = true) (hn : ¬ p ∣ P) (W' : Wheel (q ++ [((p : Int), 0)]) P') : (lb (q ++ [((p : Int), 0)]) P' 1).length = (lb q P 1).length * (p - 1) := by
 have hc : Nat.Coprime P p := by
  rcases isP_dvd hp (Nat.gcd_dvd_right P p) with h | h
  ·exact h
  ·exact absurd (h ▸ Nat.gcd_dvd_left P p) hn
 have h2 := isP_two hp
 have d1 : P ∣ P' := per_dvd q 1 P P' W.per (Nat.one_dvd _) (fun r hr => W'.dvd r (List.mem_append_left _ hr))
 have d2 : p ∣ P' := by
  have := W'.dvd ((p : Int), 0) (List.mem_append_right _ (List.mem_cons_self ..))
  simpa using this
 have d3 : P' ∣ P * p := per_dvd _ 1 P' (P * p) W'.per (Nat.one_dvd _) (fun r hr => by
  rcases List.mem_append.1 hr with h | h
  ·exact Nat.dvd_trans (W.dvd r h) (Nat.dvd_mul_right _ _)
  ·rw [List.mem_singleton.1 h]
   exact ⟨P, by rw [Nat.mul_comm]; rfl⟩)
 have e : P' = P * p := Nat.dvd_antisymm d3 (hc.mul_dvd_of_dvd_of_dvd d1 d2)
 have k1 := lb_mul (q := q) (d := P) W.on p
 obtain ⟨r, rfl⟩ : ∃ r, p = r + 1 := ⟨p - 1, by omega⟩
 have k2 := lF_split (left q) (fun x => decide (x % ((r + 1 : Nat) : Int) = 0)) (P * (r + 1)) 1
 have k3 := lF_mul (left q) r P
 rw [count_like W hc, Nat.mul_comm (r + 1) P] at k3
 rw [k3, ← lF_lb, k1] at k2
 rw [e, lF_lb, lF_congr (left_more q _)]
 rw [Nat.succ_mul] at k2
 rw [show r + 1 - 1 = r by omega, Nat.mul_comm (lb q P 1).length r]
 omega

end Go.Proofs.Ytdaodlhcedjfoaa.L

/-! ## E12 -/
namespace Go.Proofs.Ytdaodlhcedjfoaa.L
open Go.RowKit Go.Proofs.YtdaodlhcedjfoaaW.PrintWords Go.Proofs.Ytdaodlhcedjfoaa.P
set_option linter.unusedVariables false
set_option linter.unusedSimpArgs false

def Rg (v : Int) : Prop := -9223372036854775808 ≤ v ∧ v ≤ 9223372036854775807
theorem Rg.wf {v : Int} (h : Rg v) : (Lit.int .i64 v).wf = true := by
 have := wrap64_wf v
 rwa [w64 h.1 h.2] at this
theorem Rg.wrap (n : Int) : Rg (wrap64 n) := by unfold Rg wrap64; omega
theorem u8_range {x : Int} (h : (Lit.int .u8 x).wf = true) : 0 ≤ x ∧ x ≤ 255 := by
 simp [Lit.wf, IntKind.min, IntKind.max, IntKind.signed, IntKind.bits] at h
 omega
theorem bits255 (s : Int) : 0 ≤ wrap64 (Go.bits .and .u64 (IntKind.u64.wrap s / 1099511627776) 255) ∧ wrap64 (Go.bits .and .u64 (IntKind.u64.wrap s / 1099511627776) 255) ≤ 255 := by
 have h0 : 0 ≤ IntKind.u64.wrap s ∧ IntKind.u64.wrap s < 18446744073709551616 := by rw [IntKind.wrap_u64]; omega
 generalize IntKind.u64.wrap s = z at *
 obtain ⟨n, hn⟩ := Int.eq_ofNat_of_zero_le (show 0 ≤ z / 1099511627776 by omega)
 have hb : Go.bits .and .u64 (n : Int) 255 = ((n &&& 255 : Nat) : Int) := Go.bits_and_u64_nat n 255 (by omega) (by omega)
 have hle : n &&& 255 ≤ 255 := Nat.and_le_right
 rw [hn, hb]
 generalize n &&& 255 = y at *
 rw [w64 (by omega) (by omega)]
 omega
theorem next_some (l : List Int) (hl : ∀ x ∈ l, 0 ≤ x ∧ x ≤ 255) (p s : Int) (h0 : 0 ≤ p) (h1 : p ≤ 1000000) : ∃ b s', spec_l1Cur_next.f l p s = some (b, p + 1, s') ∧ 0 ≤ b ∧ b ≤ 255 := by
 have hw : wrap64 (p + 1) = p + 1 := w64 (by omega) (by omega)
 simp only [spec_l1Cur_next.f, hw, if_pos h0]
 by_cases g : p < (l.length : Int)
 ·have hr : 0 ≤ rd l p ∧ rd l p ≤ 255 := by
   obtain ⟨i, rfl⟩ := Int.eq_ofNat_of_zero_le h0
   rw [rd_nat (by omega)]
   exact hl _ (List.getElem_mem _)
  have hwr : wrap64 (rd l p) = rd l p := w64 (by omega) (by omega)
  simp only [if_pos g, if_pos (show p + 1 ≤ (l.length : Int) by omega), hwr]
  exact ⟨_, _, rfl, hr⟩
 ·simp only [if_neg g, if_neg (show ¬ p + 1 ≤ (l.length : Int) by omega)]
  exact ⟨_, _, rfl, bits255 _⟩
theorem pick_some (l : List Int) (hl : ∀ x ∈ l, 0 ≤ x ∧ x ≤ 255) (p s n : Int) (h0 : 0 ≤ p) (h1 : p ≤ 100000) (hn : 1 ≤ n) (hn2 : n ≤ 60000) : ∃ r p' s', spec_l1Cur_pick.f l p s n = some (r, p', s') ∧ 0 ≤ r ∧ r < n ∧ p ≤ p' ∧ p' ≤ p + 2 := by
 simp only [spec_l1Cur_pick.f]
 by_cases g : n ≤ 1
 ·simp only [if_pos g]
  exact ⟨_, _, _, rfl, by omega, by omega, by omega, by omega⟩
 ·obtain ⟨b, s1, e1, b0, b1⟩ := next_some l hl p s h0 (by omega)
  obtain ⟨c, s2, e2, c0, c1⟩ := next_some l hl (p + 1) s1 (by omega) (by omega)
  have hz : ¬ n = 0 := by omega
  simp only [if_neg g, e1, Option.bind_some, if_neg hz]
  by_cases g2 : n > 200
  ·have w1 : wrap64 (b * 256) = b * 256 := w64 (by omega) (by omega)
   have w2 : wrap64 (b * 256 + c) = b * 256 + c := w64 (by omega) (by omega)
   simp only [if_pos g2, e2, Option.bind_some, w1, w2]
   exact ⟨_, _, _, rfl, Int.tmod_nonneg _ (by omega), Int.tmod_lt_of_pos _ (by omega), by omega, by omega⟩
  ·simp only [if_neg g2]
   exact ⟨_, _, _, rfl, Int.tmod_nonneg _ (by omega), Int.tmod_lt_of_pos _ (by omega), by omega, by omega⟩
theorem among_some (l : List Int) (hl : ∀ x ∈ l, 0 ≤ x ∧ x ≤ 255) (p s : Int) (xs : List Int) (h0 : 0 ≤ p) (h1 : p ≤ 100000) (hn : 1 ≤ xs.length) (hn2 : xs.length ≤ 60000) : ∃ v p' s', spec_l1Cur_among.f l p s xs = some (v, p', s') ∧ v ∈ xs ∧ p ≤ p' ∧ p' ≤ p + 2 := by
 obtain ⟨r, p', s', e, r0, r1, q0, q1⟩ := pick_some l hl p s (xs.length : Int) h0 h1 (by omega) (by omega)
 simp only [spec_l1Cur_among.f, e, Option.bind_some, if_pos r0, if_pos r1]
 refine ⟨_, _, _, rfl, ?_, q0, q1⟩
 obtain ⟨i, rfl⟩ := Int.eq_ofNat_of_zero_le r0
 rw [rd_nat (by omega)]
 exact List.getElem_mem _
theorem big_some (a b : List Int) : ∃ t, laws_big.f a b = some t := by
 simp only [laws_big.f]
 split
 ·exact ⟨_, rfl⟩
 ·exact ⟨_, rfl⟩

end Go.Proofs.Ytdaodlhcedjfoaa.L

/-! ## X3 -/
namespace Go.Proofs.Ytdaodlhcedjfoaa.L
open Go.RowKit Go.Proofs.YtdaodlhcedjfoaaW.PrintWords Go.Proofs.Ytdaodlhcedjfoaa.P Go.Proofs.Ytdaodlhcedjfoaa.M
set_option linter.unusedVariables false
set_option linter.unusedSimpArgs false

/-- The first twelve primes. -/
def p12 : List Int := [2, 3, 5, 7, 11, 13, 17, 19, 23, 29, 31, 37]
theorem pl_36 : pl 36 2 = p12 := by decide +kernel
theorem prFirst_l0 (c : Nat) (hc : c ≤ 100000) : ∀ (m : Nat) (n : Int) (acc : List Int), 0 ≤ n → n + m ≤ 100000 → acc.length ≤ c → c ≤ acc.length + (pl m n).length → Evl (fun k => spec_prFirst.l0 k (c : Int) acc n) (acc ++ (pl m n).take (c - acc.length)) := by
 intro m
 induction m with
 | zero =>
  intro n acc h0 hn ha hb
  simp only [pl, List.length_nil] at hb
  refine Evl.succ ?_
  simp only [spec_prFirst.l0, if_neg (show ¬ (acc.length : Int) < (c : Int) by omega)]
  refine (Evl.ret _).cast ?_
  simp [pl]
 | succ m ih =>
  intro n acc h0 hn ha hb
  have hw : wrap64 (n + 1) = n + 1 := w64 (by omega) (by omega)
  refine Evl.succ ?_
  by_cases e : acc.length < c
  ·simp only [spec_prFirst.l0, if_pos (show (acc.length : Int) < (c : Int) by omega), if_pos (show acc.length < 17592186044416 by omega), hw]
   refine Evl.bind (spec_prIs_ev n (by omega)) ?_
   unfold pl at hb ⊢
   by_cases p : isPI n = true
   ·rw [if_pos p] at hb ⊢
    rw [List.length_cons] at hb
    simp only [p, if_true]
    refine (ih (n + 1) (acc ++ [n]) (by omega) (by omega) (by rw [List.length_append, List.length_singleton]; omega) (by rw [List.length_append, List.length_singleton]; omega)).cast ?_
    rw [List.length_append, List.length_singleton, show c - acc.length = (c - (acc.length + 1)) + 1 by omega, List.take_succ_cons, List.append_assoc]
    rfl
   ·rw [if_neg p] at hb ⊢
    simp only [if_neg p]
    exact ih (n + 1) acc (by omega) (by omega) ha hb
  ·simp only [spec_prFirst.l0, if_neg (show ¬ (acc.length : Int) < (c : Int) by omega)]
   refine (Evl.ret _).cast ?_
   rw [show c - acc.length = 0 by omega, List.take_zero, List.append_nil]
theorem prFirst_ev (c : Nat) (hc : c ≤ 12) : Evl (fun k => spec_prFirst.f k (c : Int)) (p12.take c) := by
 simp only [spec_prFirst.f]
 refine (prFirst_l0 c (by omega) 36 2 [] (by omega) (by omega) (by simp) (by rw [pl_36]; show c ≤ 0 + 12; omega)).cast ?_
 rw [pl_36]
 rfl
theorem spec_prRules_l0 (xs : List Int) (hl : xs.length ≤ 1000) : ∀ (s : List Int) (i : Nat) (acc : List S45), xs.drop i = s → acc.length + s.length ≤ 1000 → Evl (fun k => spec_prRules.l0 k acc xs (xs.length : Int) (i : Int)) (acc ++ s.map fun p => (⟨p, 0⟩ : S45)) := by
 intro s
 induction s with
 | nil =>
  intro i acc hd ha
  have hi := drop_nil hd
  refine Evl.succ ?_
  simp only [spec_prRules.l0, if_neg (show ¬ (i : Int) < (xs.length : Int) by omega)]
  refine (Evl.ret _).cast ?_
  simp
 | cons y s ih =>
  intro i acc hd ha
  obtain ⟨hi, hy, hs⟩ := drop_cons hd
  rw [List.length_cons] at ha
  have hw : wrap64 ((i : Int) + 1) = ((i + 1 : Nat) : Int) := by rw [w64 (by omega) (by omega)]; rfl
  refine Evl.succ ?_
  simp only [spec_prRules.l0, if_pos (show (i : Int) < (xs.length : Int) by omega), if_pos (show (0 : Int) ≤ (i : Int) by omega), if_pos (show acc.length < 8796093022208 by omega), rd_of hy, hw]
  refine (ih (i + 1) _ hs (by rw [List.length_append, List.length_singleton]; omega)).cast ?_
  rw [List.append_assoc]
  rfl
theorem take12 (c : Nat) : (p12.take c).length ≤ 12 := by rw [List.length_take]; exact Nat.min_le_right _ _
theorem prRules_ev (c : Nat) (hc : c ≤ 12) : Evl (fun k => spec_prRules.f k (c : Int)) ((p12.take c).map fun p => (⟨p, 0⟩ : S45)) := by
 simp only [spec_prRules.f]
 refine Evl.bind (prFirst_ev c hc) ?_
 have := take12 c
 exact spec_prRules_l0 (p12.take c) (by omega) _ 0 [] rfl (by simp only [List.length_nil]; omega)

end Go.Proofs.Ytdaodlhcedjfoaa.L

/-! ## E15 -/
namespace Go.Proofs.Ytdaodlhcedjfoaa.L
open Go.RowKit Go.Proofs.YtdaodlhcedjfoaaW.PrintWords Go.Proofs.Ytdaodlhcedjfoaa.P Go.Proofs.Ytdaodlhcedjfoaa.M
set_option linter.unusedVariables false
set_option linter.unusedSimpArgs false

theorem dwheel_l1 (l : List Int) (p s : Int) : ∀ (m : Nat) (acc : List S45), 12 ≤ acc.length + m → acc.length ≤ 60 → ∃ r, Evl (fun k => spec_l1Cur_wheel.l1 k acc l p s) (r, p, s) ∧ r.length ≤ 100 := by
 intro m
 induction m with
 | zero =>
  intro acc h1 h2
  refine ⟨acc, ?_, by omega⟩
  refine Evl.succ ?_
  simp only [spec_l1Cur_wheel.l1, if_neg (show ¬ (acc.length : Int) < 12 by omega)]
  exact Evl.ret _
 | succ m ih =>
  intro acc h1 h2
  by_cases g : (acc.length : Int) < 12
  ·obtain ⟨r, hr, hl⟩ := ih (acc ++ [(⟨3, 0⟩ : S45)]) (by rw [List.length_append, List.length_singleton]; omega) (by rw [List.length_append, List.length_singleton]; omega)
   refine ⟨r, ?_, hl⟩
   refine Evl.succ ?_
   simp only [spec_l1Cur_wheel.l1, if_pos g, if_pos (show acc.length < 8796093022208 by omega)]
   exact hr
  ·refine ⟨acc, ?_, by omega⟩
   refine Evl.succ ?_
   simp only [spec_l1Cur_wheel.l1, if_neg g]
   exact Evl.ret _
theorem dwheel_l0 (l : List Int) (hl : ∀ x ∈ l, 0 ≤ x ∧ x ≤ 255) : ∀ (m : Nat) (acc : List S45) (p s : Int), 0 ≤ p → p + 4 * m ≤ 9000 → acc.length + m ≤ 50 → ∃ r p' s', Evl (fun k => spec_l1Cur_wheel.l0 k acc (m : Int) l p s) (r, p', s') ∧ r.length ≤ 100 ∧ p ≤ p' ∧ p' ≤ p + 4 * m + 8 := by
 intro m
 induction m with
 | zero =>
  intro acc p s h0 h1 h2
  obtain ⟨r, p1, s1, e, r0, r1, q0, q1⟩ := pick_some l hl p s 16 h0 (by omega) (by omega) (by omega)
  by_cases c0 : r = 0
  ·obtain ⟨u, p2, s2, e2, hu, q2, q3⟩ := among_some l hl p1 s1 [1, 2, 59, 60, 61, 0] (by omega) (by omega) (by decide) (by decide)
   obtain ⟨v, p3, s3, e3, hv, q4, q5⟩ := among_some l hl p2 s2 [0, 1, (-1)] (by omega) (by omega) (by decide) (by decide)
   refine ⟨acc ++ [(⟨u, v⟩ : S45)], p3, s3, ?_, by rw [List.length_append, List.length_singleton]; omega, by omega, by omega⟩
   refine Evl.succ ?_
   simp only [spec_l1Cur_wheel.l0, if_neg (show ¬ ((0 : Nat) : Int) > 0 by omega), e, e2, e3, Option.bind_some, if_pos c0, if_pos (show acc.length < 8796093022208 by omega)]
   exact Evl.ret _
  ·by_cases c1 : r = 1
   ·refine ⟨acc ++ [(⟨2, 0⟩ : S45), (⟨2, 1⟩ : S45)], p1, s1, ?_, by rw [List.length_append]; simp; omega, by omega, by omega⟩
    refine Evl.succ ?_
    simp only [spec_l1Cur_wheel.l0, if_neg (show ¬ ((0 : Nat) : Int) > 0 by omega), e, Option.bind_some, if_neg c0, if_pos c1, if_pos (show acc.length + [(⟨2, 0⟩ : S45), (⟨2, 1⟩ : S45)].length < 8796093022208 by simp; omega)]
    exact Evl.ret _
   ·by_cases c2 : r = 2
    ·obtain ⟨t, ht, hlen⟩ := dwheel_l1 l p1 s1 12 acc (by omega) (by omega)
     refine ⟨t, p1, s1, ?_, hlen, by omega, by omega⟩
     refine Evl.succ ?_
     simp only [spec_l1Cur_wheel.l0, if_neg (show ¬ ((0 : Nat) : Int) > 0 by omega), e, Option.bind_some, if_neg c0, if_neg c1, if_pos c2]
     exact ht
    ·refine ⟨acc, p1, s1, ?_, by omega, by omega, by omega⟩
     refine Evl.succ ?_
     simp only [spec_l1Cur_wheel.l0, if_neg (show ¬ ((0 : Nat) : Int) > 0 by omega), e, Option.bind_some, if_neg c0, if_neg c1, if_neg c2]
     exact Evl.ret _
 | succ m ih =>
  intro acc p s h0 h1 h2
  obtain ⟨u, p1, s1, e, u0, u1, q0, q1⟩ := pick_some l hl p s 9 h0 (by omega) (by omega) (by omega)
  have hw : wrap64 (2 + u) = 2 + u := w64 (by omega) (by omega)
  have hw2 : wrap64 (((m + 1 : Nat) : Int) - 1) = (m : Int) := by rw [w64 (by omega) (by omega)]; omega
  obtain ⟨v, p2, s2, e2, v0, v1, q2, q3⟩ := pick_some l hl p1 s1 (2 + u) (by omega) (by omega) (by omega) (by omega)
  obtain ⟨r, p3, s3, hr, hlen, q4, q5⟩ := ih (acc ++ [(⟨2 + u, v⟩ : S45)]) p2 s2 (by omega) (by omega) (by rw [List.length_append, List.length_singleton]; omega)
  refine ⟨r, p3, s3, ?_, hlen, by omega, by omega⟩
  refine Evl.succ ?_
  simp only [spec_l1Cur_wheel.l0, if_pos (show ((m + 1 : Nat) : Int) > 0 by omega), e, Option.bind_some, hw, e2, hw2, if_pos (show acc.length < 8796093022208 by omega)]
  exact hr
theorem dwheel_some (l : List Int) (hl : ∀ x ∈ l, 0 ≤ x ∧ x ≤ 255) (p s : Int) (h0 : 0 ≤ p) (h1 : p ≤ 1000) : ∃ r p' s', Evl (fun k => spec_l1Cur_wheel.f k l p s) (r, p', s') ∧ r.length ≤ 100 ∧ p ≤ p' ∧ p' ≤ p + 100 := by
 obtain ⟨r, p1, s1, e, r0, r1, q0, q1⟩ := pick_some l hl p s 5 h0 (by omega) (by omega) (by omega)
 simp only [spec_l1Cur_wheel.f, spec_l1Cur_one.f, e, Option.bind_some]
 by_cases g : (r == 0) = true
 ·obtain ⟨v, p2, s2, e2, hv, q2, q3⟩ := among_some l hl p1 s1 [0, 1, 2, 3, 4, 5, 6] (by omega) (by omega) (by decide) (by decide)
  have hv2 : 0 ≤ v ∧ v ≤ 6 := by
   have : ∀ x ∈ ([0, 1, 2, 3, 4, 5, 6] : List Int), 0 ≤ x ∧ x ≤ 6 := by decide
   exact this v hv
  obtain ⟨c, rfl⟩ := Int.eq_ofNat_of_zero_le hv2.1
  refine ⟨(p12.take c).map fun p => (⟨p, 0⟩ : S45), p2, s2, ?_, ?_, by omega, by omega⟩
  ·simp only [if_pos g, e2, Option.bind_some]
   exact Evl.bind (prRules_ev c (by omega)) (Evl.ret _)
  ·have := take12 c
   rw [List.length_map]
   omega
 ·obtain ⟨v, p2, s2, e2, v0, v1, q2, q3⟩ := pick_some l hl p1 s1 4 (by omega) (by omega) (by omega) (by omega)
  obtain ⟨c, rfl⟩ := Int.eq_ofNat_of_zero_le v0
  obtain ⟨t, p3, s3, ht, hlen, q4, q5⟩ := dwheel_l0 l hl c [] p2 s2 (by omega) (by omega) (by simp; omega)
  refine ⟨t, p3, s3, ?_, hlen, by omega, by omega⟩
  simp only [if_neg g, e2, Option.bind_some]
  exact ht

end Go.Proofs.Ytdaodlhcedjfoaa.L

/-! ## E16 -/
namespace Go.Proofs.Ytdaodlhcedjfoaa.L
open Go.RowKit Go.Proofs.YtdaodlhcedjfoaaW.PrintWords Go.Proofs.Ytdaodlhcedjfoaa.P Go.Proofs.Ytdaodlhcedjfoaa.M
set_option linter.unusedVariables false
set_option linter.unusedSimpArgs false

theorem drawLongestStep_some (l : List Int) (hl : ∀ x ∈ l, 0 ≤ x ∧ x ≤ 255) : ∃ r, Evl (fun k => spec_DrawLongestStep.f k l) r ∧ r.length ≤ 1099511627776 := by
 obtain ⟨r, p, s, hr, hlen, q0, q1⟩ := dwheel_some l hl 0 0 (by omega) (by omega)
 refine ⟨r, ?_, by omega⟩
 simp only [spec_DrawLongestStep.f, spec_DrawCountSpokes.f]
 refine Evl.bind (a := r) ?_ (Evl.ret _)
 exact Evl.bind hr (Evl.ret _)
def xsR : List Int := [2, 3, 5, 7, 11, 13, 59, 4, 1, 61, 0]
def xsT : List Int := [1, 2, 3, 4, 6, 30, 0, 5000, 5001]
def xsC : List Int := [1, 2, 3, 4, 6, 10, 0, (-1), 4611686018427387904]
theorem drawRollWheel_some (l : List Int) (hl : ∀ x ∈ l, 0 ≤ x ∧ x ≤ 255) : ∃ r n, Evl (fun k => spec_DrawRollWheel.f k l) (r, n) ∧ r.length ≤ 1099511627776 ∧ Rg n := by
 obtain ⟨r, p, s, hr, hlen, q0, q1⟩ := dwheel_some l hl 0 0 (by omega) (by omega)
 obtain ⟨v, p2, s2, e2, hv, _⟩ := among_some l hl p s xsR (by omega) (by omega) (by decide) (by decide)
 refine ⟨r, v, ?_, by omega, ?_⟩
 ·simp only [spec_DrawRollWheel.f]
  refine Evl.bind hr ?_
  unfold xsR at e2
  simp only [e2, Option.bind_some]
  exact Evl.ret _
 ·have : ∀ x ∈ (xsR : List Int), -1 ≤ x ∧ x ≤ 4611686018427387904 := by decide
  have := this v hv
  unfold Rg
  omega
theorem drawTimesTogether_some (l : List Int) (hl : ∀ x ∈ l, 0 ≤ x ∧ x ≤ 255) : ∃ r n, Evl (fun k => spec_DrawTimesTogether.f k l) (r, n) ∧ r.length ≤ 1099511627776 ∧ Rg n := by
 obtain ⟨r, p, s, hr, hlen, q0, q1⟩ := dwheel_some l hl 0 0 (by omega) (by omega)
 obtain ⟨v, p2, s2, e2, hv, _⟩ := among_some l hl p s xsT (by omega) (by omega) (by decide) (by decide)
 refine ⟨r, v, ?_, by omega, ?_⟩
 ·simp only [spec_DrawTimesTogether.f]
  refine Evl.bind hr ?_
  unfold xsT at e2
  simp only [e2, Option.bind_some]
  exact Evl.ret _
 ·have : ∀ x ∈ (xsT : List Int), -1 ≤ x ∧ x ≤ 4611686018427387904 := by decide
  have := this v hv
  unfold Rg
  omega
theorem drawCountStep_some (l : List Int) (hl : ∀ x ∈ l, 0 ≤ x ∧ x ≤ 255) : ∃ r n, Evl (fun k => spec_DrawCountStep.f k l) (r, n) ∧ r.length ≤ 1099511627776 ∧ Rg n := by
 obtain ⟨r, p, s, hr, hlen, q0, q1⟩ := dwheel_some l hl 0 0 (by omega) (by omega)
 obtain ⟨v, p2, s2, e2, hv, _⟩ := among_some l hl p s xsC (by omega) (by omega) (by decide) (by decide)
 refine ⟨r, v, ?_, by omega, ?_⟩
 ·simp only [spec_DrawCountStep.f]
  refine Evl.bind hr ?_
  unfold xsC at e2
  simp only [e2, Option.bind_some]
  exact Evl.ret _
 ·have : ∀ x ∈ (xsC : List Int), -1 ≤ x ∧ x ≤ 4611686018427387904 := by decide
  have := this v hv
  unfold Rg
  omega
theorem dfr_l0 (l : List S45) (st : List Int) (h1 : 1 ≤ st.length) (h5 : st.length ≤ 5000) (hv : ∀ x ∈ st, Rg x) : ∀ (m p : Nat) (acc : List Int), acc.length + m ≤ 50 → p + m ≤ 100000 → (∀ x ∈ acc, Rg x) → ∃ r, Evl (fun k => spec_DrawFirstRun.l0 k l st acc (p : Int) (m : Int)) (l, r) ∧ r.length ≤ 50 ∧ ∀ x ∈ r, Rg x := by
 intro m
 induction m with
 | zero =>
  intro p acc h2 h3 h4
  refine ⟨acc, ?_, by omega, h4⟩
  refine Evl.succ ?_
  simp only [spec_DrawFirstRun.l0, if_neg (show ¬ ((0 : Nat) : Int) > 0 by omega)]
  exact Evl.ret _
 | succ m ih =>
  intro p acc h2 h3 h4
  have hlt : p % st.length < st.length := Nat.mod_lt _ (by omega)
  have ht : Int.tmod (p : Int) (st.length : Int) = ((p % st.length : Nat) : Int) := rfl
  have hw1 : wrap64 ((p : Int) + 1) = ((p + 1 : Nat) : Int) := by clear hlt ht; rw [w64 (by omega) (by omega)]; rfl
  have hw2 : wrap64 (((m + 1 : Nat) : Int) - 1) = (m : Int) := by clear hlt ht; rw [w64 (by omega) (by omega)]; omega
  have hr : Rg (rd st ((p % st.length : Nat) : Int)) := by rw [rd_nat hlt]; exact hv _ (List.getElem_mem _)
  obtain ⟨r, e, g1, g2⟩ := ih (p + 1) (acc ++ [rd st ((p % st.length : Nat) : Int)]) (by rw [List.length_append, List.length_singleton]; omega) (by omega) (fun x hx => by
   rcases List.mem_append.1 hx with h | h
   ·exact h4 x h
   ·rw [List.mem_singleton.1 h]; exact hr)
  refine ⟨r, ?_, g1, g2⟩
  generalize p % st.length = q at *
  refine Evl.succ ?_
  simp only [spec_DrawFirstRun.l0, if_pos (show ((m + 1 : Nat) : Int) > 0 by omega), if_neg (show ¬ (st.length : Int) = 0 by omega), ht, if_pos (show (0 : Int) ≤ (q : Int) by omega), if_pos (show (q : Int) < (st.length : Int) by omega), if_pos (show acc.length < 17592186044416 by omega), hw1, hw2]
  exact e
theorem dfr_l1 (l : List S45) (b : List Int) (hb : ∀ x ∈ b, 0 ≤ x ∧ x ≤ 255) : ∀ (m : Nat) (acc : List Int) (p s : Int), acc.length + m ≤ 50 → 0 ≤ p → p + 2 * m ≤ 90000 → (∀ x ∈ acc, Rg x) → ∃ r, Evl (fun k => spec_DrawFirstRun.l1 k l acc (m : Int) b p s) (l, r) ∧ r.length ≤ 50 ∧ ∀ x ∈ r, Rg x := by
 intro m
 induction m with
 | zero =>
  intro acc p s h2 h3 h4 h6
  refine ⟨acc, ?_, by omega, h6⟩
  refine Evl.succ ?_
  simp only [spec_DrawFirstRun.l1, if_neg (show ¬ ((0 : Nat) : Int) > 0 by omega)]
  exact Evl.ret _
 | succ m ih =>
  intro acc p s h2 h3 h4 h6
  obtain ⟨v, p2, s2, e2, hv, q0, q1⟩ := among_some b hb p s [1, 2, 4, 6, 1, 2, 0] h3 (by omega) (by decide) (by decide)
  have hw2 : wrap64 (((m + 1 : Nat) : Int) - 1) = (m : Int) := by rw [w64 (by omega) (by omega)]; omega
  have hr : Rg v := by
   have : ∀ x ∈ ([1, 2, 4, 6, 1, 2, 0] : List Int), 0 ≤ x ∧ x ≤ 6 := by decide
   have := this v hv
   unfold Rg
   omega
  obtain ⟨r, e, g1, g2⟩ := ih (acc ++ [v]) p2 s2 (by rw [List.length_append, List.length_singleton]; omega) (by omega) (by omega) (fun x hx => by
   rcases List.mem_append.1 hx with h | h
   ·exact h6 x h
   ·rw [List.mem_singleton.1 h]; exact hr)
  refine ⟨r, ?_, g1, g2⟩
  refine Evl.succ ?_
  simp only [spec_DrawFirstRun.l1, if_pos (show ((m + 1 : Nat) : Int) > 0 by omega), e2, Option.bind_some, if_pos (show acc.length < 17592186044416 by omega), hw2]
  exact e
theorem dfr_no (l : List S45) (st : List Int) (b : List Int) (hb : ∀ x ∈ b, 0 ≤ x ∧ x ≤ 255) (p s : Int) (h0 : 0 ≤ p) (h1 : p ≤ 1000) : ∃ r, Evl (fun k => spec_DrawFirstRun.j0 k l st [] false b p s) (l, r) ∧ r.length ≤ 50 ∧ ∀ x ∈ r, Rg x := by
 obtain ⟨n, p1, s1, e, r0, r1, q0, q1⟩ := pick_some b hb p s 10 h0 (by omega) (by omega) (by omega)
 obtain ⟨c, rfl⟩ := Int.eq_ofNat_of_zero_le r0
 obtain ⟨r, er, g1, g2⟩ := dfr_l1 l b hb c [] p1 s1 (by simp; omega) (by omega) (by omega) (fun x hx => by cases hx)
 refine ⟨r, ?_, g1, g2⟩
 refine Evl.succ ?_
 simp only [spec_DrawFirstRun.j0, Bool.false_eq_true, if_false, e, Option.bind_some]
 exact er
theorem drawnSteps (l : List S45) (hlen : l.length ≤ 1099511627776) : (∃ st, Evl (fun k => spec_StepsOf.f k l) (st, true) ∧ 1 ≤ st.length ∧ st.length ≤ 5000 ∧ ∀ x ∈ st, Rg x) ∨ Evl (fun k => spec_StepsOf.f k l) ([], false) := by
 obtain ⟨r, b, g1, g2, _⟩ := FnExactStepsOf_main l hlen
 rcases wd_cases l with ⟨P, d⟩ | ⟨⟨x, y, hi⟩, hs⟩
 ·have h5 := d.h5
  refine .inl ⟨steps (rs l) P, Evl.both ⟨r, b, g1, g2⟩ (steps_i d), ?_, ?_, ?_⟩
  ·rw [steps_length]
   exact List.length_pos_iff.2 d.W.some
  ·rw [steps_length]
   exact Nat.le_trans (lb_length (rs l) P 1) h5
  ·intro x hx
   have := steps_range d.W x hx
   unfold Rg
   omega
 ·refine .inr ?_
  have k6 : Evl (fun k => impl_StepsOf.f k l) ([], false) := by
   simp only [impl_StepsOf.f]
   refine Evl.bind hi ?_
   simp only [Bool.false_eq_true, if_false]
   exact Evl.ret _
  exact Evl.both ⟨r, b, g1, g2⟩ k6
theorem drawFirstRun_some (b : List Int) (hb : ∀ x ∈ b, 0 ≤ x ∧ x ≤ 255) : ∃ l r, Evl (fun k => spec_DrawFirstRun.f k b) (l, r) ∧ l.length ≤ 1099511627776 ∧ r.length ≤ 50 ∧ ∀ x ∈ r, Rg x := by
 obtain ⟨l, p, s, hr, hlen, q0, q1⟩ := dwheel_some b hb 0 0 (by omega) (by omega)
 have hlen2 : l.length ≤ 1099511627776 := by omega
 rcases drawnSteps l hlen2 with ⟨st, hst, hs1, hs5, hRg⟩ | hst
 ·obtain ⟨n, p1, s1, e, r0, r1, q2, q3⟩ := pick_some b hb p s 4 q0 (by omega) (by omega) (by omega)
  by_cases g : (n == 0) = true
  ·obtain ⟨r, er, g1, g2⟩ := dfr_no l st b hb p1 s1 (by omega) (by omega)
   refine ⟨l, r, ?_, hlen2, g1, g2⟩
   simp only [spec_DrawFirstRun.f]
   refine Evl.bind hr ?_
   refine Evl.bind hst ?_
   simp only [if_true, spec_l1Cur_one.f, e, Option.bind_some, g, Bool.not_true]
   exact er
  ·have g' : (n == 0) = false := by cases h : (n == 0) with | true => exact absurd h g | false => rfl
   obtain ⟨a, p2, s2, e2, a0, a1, q4, q5⟩ := pick_some b hb p1 s1 (st.length : Int) (by omega) (by omega) (by omega) (by omega)
   obtain ⟨c, p3, s3, e3, c0, c1, q6, q7⟩ := pick_some b hb p2 s2 4 (by omega) (by omega) (by omega) (by omega)
   obtain ⟨a', rfl⟩ := Int.eq_ofNat_of_zero_le a0
   obtain ⟨c', rfl⟩ := Int.eq_ofNat_of_zero_le c0
   have hw : wrap64 (1 + (c' : Int)) = ((c' + 1 : Nat) : Int) := by rw [w64 (by omega) (by omega)]; omega
   have h50 : ([] : List Int).length + (c' + 1) ≤ 50 := by rw [List.length_nil]; omega
   obtain ⟨r, er, g1, g2⟩ := dfr_l0 l st hs1 hs5 hRg (c' + 1) a' [] h50 (by omega) (fun x hx => by cases hx)
   refine ⟨l, r, ?_, hlen2, g1, g2⟩
   simp only [spec_DrawFirstRun.f]
   refine Evl.bind hr ?_
   refine Evl.bind hst ?_
   simp only [if_true, spec_l1Cur_one.f, e, Option.bind_some, g', Bool.not_false]
   refine Evl.succ ?_
   simp only [spec_DrawFirstRun.j0, if_true, e2, e3, Option.bind_some, hw]
   exact er
 ·obtain ⟨r, er, g1, g2⟩ := dfr_no l [] b hb p s q0 (by omega)
  refine ⟨l, r, ?_, hlen2, g1, g2⟩
  simp only [spec_DrawFirstRun.f]
  refine Evl.bind hr ?_
  refine Evl.bind hst ?_
  simp only [Bool.false_eq_true, if_false]
  exact er

end Go.Proofs.Ytdaodlhcedjfoaa.L

/-! ## X41 -/
namespace Go.Proofs.Ytdaodlhcedjfoaa.L
open Go.RowKit Go.Proofs.YtdaodlhcedjfoaaW.PrintWords Go.Proofs.Ytdaodlhcedjfoaa.P Go.Proofs.Ytdaodlhcedjfoaa.M
set_option linter.unusedVariables false
set_option linter.unusedSimpArgs false

theorem SAD_l4 {u : List S45} {P : Nat} (d : WD u P) (now y : Int) (xs : List Int) (j : Nat) (hno : ∀ k : Int, 1 ≤ k → k < y → left (rs u) (now + k) = false) (hn : 0 ≤ now ∧ now ≤ 1000000) (hy : y ≤ 5000) (hj : j ≤ 1000)
 (hR : Evl (fun k => laws_FnStepsAround.l3 k u (now + y) xs (xs.length : Int) ((j + 1 : Nat) : Int)) true) : ∀ (m k : Nat), (k : Int) + m = y → 1 ≤ k → Evl (fun K => laws_FnStepsAround.l4 K u now y (k : Int) xs (xs.length : Int) (j : Int)) true := by
 intro m
 induction m with
 | zero =>
  intro k h h1
  have w1 : wrap64 (now + y) = now + y := w64 (by omega) (by omega)
  have w2 : wrap64 ((j : Int) + 1) = ((j + 1 : Nat) : Int) := by rw [w64 (by omega) (by omega)]; rfl
  refine Evl.succ ?_
  simp only [laws_FnStepsAround.l4, if_neg (show ¬ (k : Int) < y by omega), w1, w2]
  exact hR
 | succ m ih =>
  intro k h h1
  have w1 : wrap64 (now + (k : Int)) = now + (k : Int) := w64 (by omega) (by omega)
  have w2 : wrap64 ((k : Int) + 1) = ((k + 1 : Nat) : Int) := by rw [w64 (by omega) (by omega)]; rfl
  have e : isV (rs u) (now + (k : Int)) = (false, true) := by
   unfold isV
   rw [if_pos ⟨by omega, by omega⟩, hno k (by omega) (by omega)]
  refine Evl.succ ?_
  simp only [laws_FnStepsAround.l4, if_pos (show (k : Int) < y by omega), w1, w2]
  refine Evl.bind (is_i d _) ?_
  rw [e]
  simp only [if_true, Bool.false_eq_true, if_false]
  exact ih (k + 1) (by omega) (by omega)
theorem SAD_l3 {u : List S45} {P : Nat} (d : WD u P) (i : Nat) (run : List Int) (hl : run.length ≤ 8) : ∀ (s : List Int) (t : Nat) (now : Int), run.drop t = s → 0 ≤ now → now ≤ 5000 + 5000 * t → (∃ z : Int, now = rd (lb (rs u) P 1) (((i + t) % (lb (rs u) P 1).length : Nat) : Int) + (P : Int) * z) → runF (steps (rs u) P) i s t true = true →
 Evl (fun k => laws_FnStepsAround.l3 k u now run (run.length : Int) (t : Int)) true := by
 have hc : 1 ≤ (lb (rs u) P 1).length := List.length_pos_iff.2 d.W.some
 have h5 := d.h5
 intro s
 induction s with
 | nil =>
  intro t now hd h0 h1 hz hr
  have ht := drop_nil hd
  refine Evl.succ ?_
  simp only [laws_FnStepsAround.l3, if_neg (show ¬ (t : Int) < (run.length : Int) by omega)]
  exact Evl.ret _
 | cons y s ih =>
  intro t now hd h0 h1 hz hr
  obtain ⟨ht, hy, hs⟩ := drop_cons hd
  obtain ⟨z, hz⟩ := hz
  obtain ⟨r1, r2⟩ := runF_cons hr
  rw [steps_length] at r1
  have ha : (i + t) % (lb (rs u) P 1).length < (lb (rs u) P 1).length := Nat.mod_lt _ (by omega)
  obtain ⟨g1, g2, g3, z2, g4⟩ := gap d.W ha
  rw [r1] at g1 g2 g3 g4
  rw [Nat.mod_add_mod, show i + t + 1 = i + (t + 1) by omega] at g4
  have hb : (i + (t + 1)) % (lb (rs u) P 1).length < (lb (rs u) P 1).length := Nat.mod_lt _ (by omega)
  have hlb := lb_at hb
  rw [← rd_nat hb] at hlb
  have hnow : now + y = rd (lb (rs u) P 1) (((i + (t + 1)) % (lb (rs u) P 1).length : Nat) : Int) + (P : Int) * (z + z2) := by rw [Int.mul_add]; omega
  have w1 : wrap64 (now + y) = now + y := w64 (by omega) (by omega)
  have e : isV (rs u) (now + y) = (true, true) := by
   unfold isV
   rw [if_pos ⟨by omega, by omega⟩, hnow, d.W.add, hlb.2.2]
  refine Evl.succ ?_
  simp only [laws_FnStepsAround.l3, if_pos (show (t : Int) < (run.length : Int) by omega), if_pos (show (0 : Int) ≤ (t : Int) by omega), rd_of hy, w1]
  refine Evl.bind (is_i d _) ?_
  rw [e]
  simp only [if_true]
  refine SAD_l4 d now y run t ?_ ⟨h0, by omega⟩ (by omega) (by omega) (ih (t + 1) (now + y) hs (by omega) (by omega) ⟨_, hnow⟩ r2) (y.toNat - 1) 1 (by omega) (by omega)
  intro k k1 k2
  rw [hz, show rd (lb (rs u) P 1) (((i + t) % (lb (rs u) P 1).length : Nat) : Int) + (P : Int) * z + k = rd (lb (rs u) P 1) (((i + t) % (lb (rs u) P 1).length : Nat) : Int) + k + (P : Int) * z by omega, d.W.add]
  exact g3 k k1 k2
theorem SAD_no6 (u : List S45) (run : List Int) (x : Int) : Evl (fun k => laws_FnStepsAround.j5 k u run x false) true := by
 refine Evl.succ ?_
 simp only [laws_FnStepsAround.j5, Bool.false_eq_true, if_false]
 exact Evl.ret _
theorem SAD_j6 {u : List S45} {P : Nat} (d : WD u P) (run : List Int) (hl : run.length ≤ 8) : Evl (fun k => laws_FnStepsAround.j5 k u run (runs (steps (rs u) P) run (lb (rs u) P 1) 0).1 (runs (steps (rs u) P) run (lb (rs u) P 1) 0).2) true := by
 cases hb : (runs (steps (rs u) P) run (lb (rs u) P 1) 0).2 with
 | false => exact SAD_no6 _ _ _
 | true =>
  obtain ⟨t, h1, h2⟩ := runs_true _ _ hb
  rw [Nat.zero_add] at h2
  have ht : t < (lb (rs u) P 1).length := by
   rcases Nat.lt_or_ge t (lb (rs u) P 1).length with h | h
   ·exact h
   ·rw [List.getElem?_eq_none h] at h1
    cases h1
  have hm := (lb_mem (rs u) P 1 _).1 (List.mem_of_getElem? h1)
  have h5 := d.h5
  refine Evl.succ ?_
  simp only [laws_FnStepsAround.j5, if_true]
  refine SAD_l3 d t run hl run 0 _ rfl (by omega) (by omega) ⟨0, ?_⟩ h2
  rw [Nat.add_zero, Nat.mod_eq_of_lt ht, rd_of h1]
  omega
theorem SAD_j5 (more : List Int) (sA : List S45) (st : Int) (t : List S45) (x : Int) (u : List S45) (run : List Int) (hs : sA.length ≤ 1099511627776) (hst : (Lit.int .i64 st).wf = true) (ht : t.length ≤ 1099511627776) (hx : (Lit.int .i64 x).wf = true) (hu : u.length ≤ 1099511627776) (hrun1 : run.length ≤ maxLen) (hrun2 : run.length * 8 ≤ 140737488351232) (hrun3 : ∀ x ∈ run, (Lit.int .i64 x).wf = true) (dT : Evl (fun k => spec_DrawTimesTogether.f k more) (sA, st)) (dC : Evl (fun k => spec_DrawCountStep.f k more) (t, x)) (dF : Evl (fun k => spec_DrawFirstRun.f k more) (u, run)) : Evl (fun k => laws_FnStepsAround.j4 k more) true := by
 have m1 := FnExactTimesTogether_main sA st hs hst
 obtain ⟨cr, cb, m2, m3⟩ := FnExactCountStep_main t x ht hx
 have m4 := FnExactFirstRun_main u run hu hrun1 hrun2 hrun3
 have fin : ∃ v : Int × Bool, Evl (fun k => impl_FirstRun.f k u run) v ∧ Evl (fun k => laws_FnStepsAround.j5 k u run v.1 v.2) true := by
  rcases run_i u run with ⟨P, d, h8, h⟩ | h
  ·exact ⟨_, h, SAD_j6 d run h8⟩
  ·exact ⟨_, h, SAD_no6 _ _ _⟩
 obtain ⟨v, v1, v2⟩ := fin
 have v3 := Evl.both m4 v1
 have tim : ∃ w : Int × Bool, Evl (fun k => impl_TimesTogether.f k sA st) w ∧ (w.2 = false ∨ ∃ o : Int, w.2 = true ∧ Evl (fun k => impl_CountStep.f k sA st) (o, true) ∧ ¬ w.1 < o) := by
  rcases times_i sA st with ⟨P, d, h1, h⟩ | h
  ·refine ⟨_, h, .inr ⟨_, rfl, cstep_i d h1, ?_⟩⟩
   have := count_times d.W st
   show ¬ (cntL (rs sA) st (lb (rs sA) P 1) : Int) < (cnt st (steps (rs sA) P) : Int)
   omega
  ·exact ⟨_, h, .inl rfl⟩
 obtain ⟨w, w1, w2⟩ := tim
 have w3 := Evl.both m1 w1
 refine Evl.succ ?_
 simp only [laws_FnStepsAround.j4]
 refine Evl.bind dT ?_
 refine Evl.bind w1 ?_
 refine Evl.bind w3 ?_
 refine Evl.bind dC ?_
 refine Evl.bind m3 ?_
 refine Evl.bind m2 ?_
 refine Evl.bind dF ?_
 refine Evl.bind v1 ?_
 refine Evl.bind v3 ?_
 simp only [bne_self_eq_false, Bool.false_eq_true, if_false, if_true]
 rcases w2 with h | ⟨o, h, ho, hlt⟩
 ·rw [h]
  simp only [Bool.false_eq_true, if_false]
  exact v2
 ·rw [h]
  simp only [if_true]
  refine Evl.bind ho ?_
  simp only [if_true, if_neg hlt]
  exact v2
theorem SAD_j4 (more : List Int) (r : List S45) (p : Int) (hr : r.length ≤ 1099511627776) (hp : (Lit.int .i64 p).wf = true) (dR : Evl (fun k => spec_DrawRollWheel.f k more) (r, p)) (sA : List S45) (st : Int) (t : List S45) (x : Int) (u : List S45) (run : List Int) (hs : sA.length ≤ 1099511627776) (hst : (Lit.int .i64 st).wf = true) (ht : t.length ≤ 1099511627776) (hx : (Lit.int .i64 x).wf = true) (hu : u.length ≤ 1099511627776) (hrun1 : run.length ≤ maxLen) (hrun2 : run.length * 8 ≤ 140737488351232) (hrun3 : ∀ x ∈ run, (Lit.int .i64 x).wf = true) (dT : Evl (fun k => spec_DrawTimesTogether.f k more) (sA, st)) (dC : Evl (fun k => spec_DrawCountStep.f k more) (t, x)) (dF : Evl (fun k => spec_DrawFirstRun.f k more) (u, run)) : Evl (fun k => laws_FnStepsAround.j3 k more) true := by
 have h5 := SAD_j5 more sA st t x u run hs hst ht hx hu hrun1 hrun2 hrun3 dT dC dF
 obtain ⟨rr, rb, m1, m2, hrl⟩ := FnExactRollWheel_main r p hr hp
 refine Evl.succ ?_
 simp only [laws_FnStepsAround.j3]
 refine Evl.bind dR ?_
 rcases roll_i r p with ⟨P, P', d, hpr, p2, p60, hmod, h12, d', h⟩ | h
 ·have e := Evl.uniq m2 h
  rw [e] at m1
  refine Evl.bind h ?_
  refine Evl.bind m1 ?_
  have hl' := lb_length (rs (r ++ [(⟨p, 0⟩ : S45)])) P' 1
  have h5' := d'.h5
  simp only [bne_self_eq_false, Bool.false_eq_true, if_false]
  refine Evl.bind (gSame_self _ (by omega)) ?_
  simp only [if_true]
  refine Evl.bind (count_i d) ?_
  have e1 : ([] : List S45).length + r.length < 8796093022208 := by simp; omega
  have e2 : (([] : List S45) ++ r).length < 8796093022208 := by simp; omega
  have e3 : (([] : List S45) ++ r) ++ [(⟨p, 0⟩ : S45)] = r ++ [(⟨p, 0⟩ : S45)] := rfl
  simp only [Option.bind_some, if_pos e1, if_pos e2, e3]
  refine Evl.bind (spokes_i d') ?_
  have hlen := lb_length (rs r) P 1
  have hP5 := d.h5
  have hcnt : ((lb (rs (r ++ [(⟨p, 0⟩ : S45)])) P' 1).length : Int) = wrap64 (((lb (rs r) P 1).length : Int) * wrap64 (p - 1)) := by
   obtain ⟨pn, hpe⟩ := Int.eq_ofNat_of_zero_le (show 0 ≤ p by omega)
   have hq : rs (r ++ [(⟨p, 0⟩ : S45)]) = rs r ++ [((pn : Int), 0)] := by
    unfold rs
    rw [List.map_append, ← hpe]
    rfl
   have hW := d'.W
   rw [hq] at hW ⊢
   have hp' : isP pn = true := by rw [← isPI_nat, ← hpe]; exact hpr
   have hnd : ¬ pn ∣ P := by
    rintro ⟨y, hy⟩
    apply hmod
    rw [hpe, hy]
    show ((pn * y % pn : Nat) : Int) = 0
    rw [Nat.mul_mod_right]
    rfl
   rw [roll_count d.W hp' hnd hW, hpe, w64 (x := (pn : Int) - 1) (by omega) (by omega)]
   have hb : (lb (rs r) P 1).length * (pn - 1) ≤ 5000 * 60 := Nat.mul_le_mul (by omega) (by omega)
   rw [show (pn : Int) - 1 = ((pn - 1 : Nat) : Int) by omega, ← Int.natCast_mul, w64 (by omega) (by omega)]
  simp only [if_true, if_pos hcnt]
  refine Evl.bind (gSame_self _ (by omega)) ?_
  simp only [if_true]
  exact h5
 ·have e := Evl.uniq m2 h
  rw [e] at m1
  refine Evl.bind h ?_
  refine Evl.bind m1 ?_
  simp only [bne_self_eq_false, Bool.false_eq_true, if_false]
  refine Evl.bind (gSame_self [] (by simp)) ?_
  simp only [if_true]
  exact h5
theorem SAD_l2 (more : List Int) (h4 : Evl (fun k => laws_FnStepsAround.j3 k more) true) {l : List S45} {P : Nat} (d : WD l P) (hs : symL (rs l) P 0 = true) : ∀ (s : List Int) (i : Nat), (steps (rs l) P).drop i = s →
 Evl (fun k => laws_FnStepsAround.l2 k more (steps (rs l) P) (P : Int) (lb (rs l) P 1) (steps (rs l) P) ((steps (rs l) P).length : Int) (i : Int)) true := by
 have h5 := d.h5
 have hll := lb_length (rs l) P 1
 have hc : 1 ≤ (lb (rs l) P 1).length := List.length_pos_iff.2 d.W.some
 have hsl := steps_length (rs l) P
 have hsym := sym_all d.W hs
 intro s
 induction s with
 | nil =>
  intro i hd
  have hi := drop_nil hd
  refine Evl.succ ?_
  simp only [laws_FnStepsAround.l2, if_neg (show ¬ (i : Int) < ((steps (rs l) P).length : Int) by omega)]
  exact h4
 | cons y s ih =>
  intro i hd
  obtain ⟨hi, hy, hs2⟩ := drop_cons hd
  have hi2 : i < (lb (rs l) P 1).length := by omega
  have hw : wrap64 ((i : Int) + 1) = ((i + 1 : Nat) : Int) := by rw [w64 (by omega) (by omega)]; rfl
  have w1 : wrap64 (((lb (rs l) P 1).length : Int) - 1) = (((lb (rs l) P 1).length - 1 : Nat) : Int) := by rw [w64 (by omega) (by omega)]; omega
  have w2 : wrap64 (((lb (rs l) P 1).length : Int) - 2) = ((lb (rs l) P 1).length : Int) - 2 := w64 (by omega) (by omega)
  have w3 : wrap64 (((lb (rs l) P 1).length : Int) - 2 - (i : Int)) = ((lb (rs l) P 1).length : Int) - 2 - (i : Int) := w64 (by omega) (by omega)
  have w4 : wrap64 (((lb (rs l) P 1).length : Int) - 2 - (i : Int) - 1) = ((lb (rs l) P 1).length : Int) - 2 - (i : Int) - 1 := w64 (by omega) (by omega)
  have w5 : wrap64 (3 * ((lb (rs l) P 1).length : Int)) = 3 * ((lb (rs l) P 1).length : Int) := w64 (by omega) (by omega)
  have w6 : wrap64 (((lb (rs l) P 1).length : Int) - 2 - (i : Int) - 1 + 3 * ((lb (rs l) P 1).length : Int)) = ((lb (rs l) P 1).length : Int) - 2 - (i : Int) - 1 + 3 * ((lb (rs l) P 1).length : Int) := w64 (by omega) (by omega)
  have w7 : wrap64 (((lb (rs l) P 1).length : Int) - 2 - (i : Int) + 3 * ((lb (rs l) P 1).length : Int)) = ((lb (rs l) P 1).length : Int) - 2 - (i : Int) + 3 * ((lb (rs l) P 1).length : Int) := w64 (by omega) (by omega)
  have hrest := ih (i + 1) hs2
  rw [hsl] at hrest
  refine Evl.succ ?_
  simp only [laws_FnStepsAround.l2, hsl, if_pos (show (i : Int) < ((lb (rs l) P 1).length : Int) by omega), if_pos (show (0 : Int) ≤ (i : Int) by omega), rd_of hy, w1, if_pos (show (0 : Int) ≤ (((lb (rs l) P 1).length - 1 : Nat) : Int) by omega), if_pos (show (((lb (rs l) P 1).length - 1 : Nat) : Int) < ((lb (rs l) P 1).length : Int) by omega), if_neg (show ¬ ((lb (rs l) P 1).length : Int) = 0 by omega), w2, w3, w4, w5, w6, w7, hw]
  by_cases g : rd (lb (rs l) P 1) (((lb (rs l) P 1).length - 1 : Nat) : Int) = (P : Int)
  ·obtain ⟨j, j1, j2, j3⟩ := mirror_yes d.W hsym ((last_is d.W).1 g) hi2
   rw [rd_of hy] at j3
   simp only [if_pos g, j2, if_pos (show (0 : Int) ≤ (j : Int) by omega), if_pos (show (j : Int) < ((lb (rs l) P 1).length : Int) by omega), if_pos j3]
   exact hrest
  ·obtain ⟨j, j1, j2, j3⟩ := mirror_no d.W hsym (fun h => g ((last_is d.W).2 h)) hi2
   rw [rd_of hy] at j3
   simp only [if_neg g, j2, if_pos (show (0 : Int) ≤ (j : Int) by omega), if_pos (show (j : Int) < ((lb (rs l) P 1).length : Int) by omega), if_pos j3]
   exact hrest
theorem SAD_l1 (more : List Int) (h4 : Evl (fun k => laws_FnStepsAround.j3 k more) true) {l : List S45} {P : Nat} (d : WD l P) : ∀ (s : List Int) (i : Nat), (steps (rs l) P).drop i = s →
 Evl (fun k => laws_FnStepsAround.l1 k more (maxL (steps (rs l) P)) (rd (lb (rs l) P 1) ((lpl (rs l) P : Nat) : Int)) (symL (rs l) P 0) (steps (rs l) P) (P : Int) (lb (rs l) P 1) (steps (rs l) P) ((steps (rs l) P).length : Int) (i : Int)) true := by
 have h5 := d.h5
 have hll := lb_length (rs l) P 1
 have hsl := steps_length (rs l) P
 intro s
 induction s with
 | nil =>
  intro i hd
  have hi := drop_nil hd
  refine Evl.succ ?_
  simp only [laws_FnStepsAround.l1, if_neg (show ¬ (i : Int) < ((steps (rs l) P).length : Int) by omega)]
  cases hb : symL (rs l) P 0 with
  | true =>
   simp only [if_true]
   exact SAD_l2 more h4 d hb (steps (rs l) P) 0 List.drop_zero
  | false =>
   simp only [Bool.false_eq_true, if_false]
   exact h4
 | cons y s ih =>
  intro i hd
  obtain ⟨hi, hy, hs2⟩ := drop_cons hd
  have hw : wrap64 ((i : Int) + 1) = ((i + 1 : Nat) : Int) := by rw [w64 (by omega) (by omega)]; rfl
  have hm := maxL_le _ y (List.mem_of_getElem? hy)
  refine Evl.succ ?_
  simp only [laws_FnStepsAround.l1, if_pos (show (i : Int) < ((steps (rs l) P).length : Int) by omega), if_pos (show (0 : Int) ≤ (i : Int) by omega), rd_of hy, if_neg (show ¬ y > maxL (steps (rs l) P) by omega), hw]
  by_cases g : y = maxL (steps (rs l) P)
  ·have hle : lpl (rs l) P ≤ i := fstI_le _ _ i (by rw [hy, g])
   have := sorted_rd (lb_sorted (rs l) P 1) hle (by omega)
   simp only [if_pos g, if_pos (show (i : Int) < ((lb (rs l) P 1).length : Int) by omega), if_neg (show ¬ rd (lb (rs l) P 1) (i : Int) < rd (lb (rs l) P 1) ((lpl (rs l) P : Nat) : Int) by omega)]
   exact ih (i + 1) hs2
  ·simp only [if_neg g]
   exact ih (i + 1) hs2
theorem SAD_l0 (more : List Int) (h4 : Evl (fun k => laws_FnStepsAround.j3 k more) true) {l : List S45} {P : Nat} (d : WD l P) (S : List Int) (hSs : S.Pairwise (· < ·)) (hSm : ∀ y ∈ S, y ∈ steps (rs l) P) (hSl : S.length ≤ 1000000) : ∀ (s : List Int) (i : Nat) (tot m : Int), S.drop i = s → 0 ≤ tot → tot + sumC s (steps (rs l) P) = (steps (rs l) P).length → lastD m s = maxL (steps (rs l) P) →
 Evl (fun k => laws_FnStepsAround.l0 k more l (maxL (steps (rs l) P)) (rd (lb (rs l) P 1) ((lpl (rs l) P : Nat) : Int)) S (leastL (rs l) P P 1) (symL (rs l) P 0) (steps (rs l) P) (P : Int) true (lb (rs l) P 1) true tot m S (S.length : Int) (i : Int)) true := by
 have h5 := d.h5
 have hll := lb_length (rs l) P 1
 have hsl := steps_length (rs l) P
 have hne := steps_ne d.W.some
 have hpos := steps_pos (q := rs l) (P := P)
 intro s
 induction s with
 | nil =>
  intro i tot m hd h0 ht hm
  have hi := drop_nil hd
  have hmem := maxL_mem _ hne hpos
  have hlt : lpl (rs l) P < (steps (rs l) P).length := fstI_lt _ _ hmem
  obtain ⟨ld, e1, e2, e3, e4, e5⟩ := leastL_spec d.W P 1 (by omega) d.h1 rfl
  have e6 : Int.tmod (P : Int) (ld : Int) = 0 := by
   show ((P % ld : Nat) : Int) = 0
   rw [e4]
   rfl
  have hin : rd (lb (rs l) P 1) ((lpl (rs l) P : Nat) : Int) ∈ lb (rs l) P 1 := by
   rw [rd_nat (show lpl (rs l) P < (lb (rs l) P 1).length by omega)]
   exact List.getElem_mem _
  simp only [sumC] at ht
  simp only [lastD] at hm
  refine Evl.succ ?_
  simp only [laws_FnStepsAround.l0, if_neg (show ¬ (i : Int) < (S.length : Int) by omega), if_true, e1, if_neg (show ¬ (ld : Int) = 0 by omega), if_pos e6, if_pos (show tot = ((steps (rs l) P).length : Int) by omega), if_pos hm]
  refine Evl.bind (gHas_yes _ (by omega) hin) ?_
  simp only [if_true, if_neg d.z, if_pos (count_least d.W e2 e3 e4 e5)]
  exact SAD_l1 more h4 d (steps (rs l) P) 0 List.drop_zero
 | cons y s ih =>
  intro i tot m hd h0 ht hm
  obtain ⟨hi, hy, hs2⟩ := drop_cons hd
  have hmem := hSm y (List.mem_of_getElem? hy)
  have hy1 := hpos y hmem
  have hc := cnt_pos hmem
  have hnn := sumC_nonneg s (steps (rs l) P)
  have hw : wrap64 ((i : Int) + 1) = ((i + 1 : Nat) : Int) := by rw [w64 (by omega) (by omega)]; rfl
  simp only [sumC] at ht
  have hw2 : wrap64 (tot + (cnt y (steps (rs l) P) : Int)) = tot + (cnt y (steps (rs l) P) : Int) := w64 (by omega) (by omega)
  have hrest := ih (i + 1) (tot + (cnt y (steps (rs l) P) : Int)) y hs2 (by omega) (by omega) hm
  have hcs := cstep_i d hy1
  clear hm ht hnn
  generalize cnt y (steps (rs l) P) = cv at hcs hc hw2 hrest
  refine Evl.succ ?_
  simp only [laws_FnStepsAround.l0, if_pos (show (i : Int) < (S.length : Int) by omega), if_pos (show (0 : Int) ≤ (i : Int) by omega), rd_of hy]
  refine Evl.bind hcs ?_
  simp only [if_true, if_neg (show ¬ (cv : Int) < 1 by omega)]
  refine Evl.bind (gHas_yes _ (by omega) hmem) ?_
  simp only [if_true, hw, hw2]
  by_cases g : (i : Int) > 0
  ·obtain ⟨n, rfl⟩ : ∃ n, i = n + 1 := ⟨i - 1, by omega⟩
   have hwm : wrap64 (((n + 1 : Nat) : Int) - 1) = (n : Int) := by rw [w64 (by omega) (by omega)]; omega
   have hlt := List.pairwise_iff_getElem.1 hSs n (n + 1) (by omega) hi (by omega)
   rw [List.getElem?_eq_getElem hi] at hy
   injection hy with hy
   have hr := rd_nat (xs := S) (i := n) (by omega)
   simp only [if_pos g, hwm, if_pos (show (0 : Int) ≤ (n : Int) by omega), if_pos (show (n : Int) < (S.length : Int) by omega), if_neg (show ¬ rd S (n : Int) ≥ y by rw [hr]; omega)]
   exact hrest
  ·simp only [if_neg g]
   exact hrest
theorem SAD_first (code more : List Int) (hb : laws_big.f code more = some false) (l : List S45) (dL : Evl (fun k => spec_DrawLongestStep.f k code) l) (h4 : Evl (fun k => laws_FnStepsAround.j3 k more) true) (hlc : l.length ≤ 1099511627776) : Evl (fun k => laws_FnStepsAround.f k code more) true := by
 rcases wd_cases l with ⟨P, d⟩ | ⟨⟨x, y, hi⟩, hs⟩
 ·have h5 := d.h5
  have hll := lb_length (rs l) P 1
  have hsl := steps_length (rs l) P
  have hsr := srt_length (steps (rs l) P)
  have hne := steps_ne d.W.some
  have hpos := steps_pos (q := rs l) (P := P)
  have a1 := longest_i d
  have a2 : Evl (fun k => spec_LongestStep.f k l) (maxL (steps (rs l) P), rd (lb (rs l) P 1) ((lpl (rs l) P : Nat) : Int), true) := by
   obtain ⟨r, q, b, g1, g2⟩ := FnExactLongestStep_main l hlc
   rw [Evl.uniq a1 g2]
   exact g1
  have b1 := sizes_i d
  have hS1 := srt_sorted (steps (rs l) P)
  have hS2 := fun y => @srt_mem (steps (rs l) P) y
  have hS3 := last_srt hne hpos
  generalize srt (steps (rs l) P) = S at *
  have b2 : Evl (fun k => spec_StepSizes.f k l) (S, true) := by
   obtain ⟨r, b, g1, g2, _⟩ := FnExactStepSizes_main l hlc
   exact Evl.both ⟨r, b, g1, g2⟩ b1
  have c1 := least_i d
  have c2 := Evl.both (FnExactLeastPeriod_main l hlc) c1
  have e1 := sym_i d
  have e2 := Evl.both (FnExactIsSymmetric_main l hlc) e1
  simp only [laws_FnStepsAround.f, hb, Option.bind_some, Bool.false_eq_true, if_false]
  refine Evl.bind dL ?_
  refine Evl.bind a1 ?_
  refine Evl.bind a2 ?_
  refine Evl.bind b1 ?_
  refine Evl.bind b2 ?_
  refine Evl.bind c1 ?_
  refine Evl.bind c2 ?_
  refine Evl.bind e1 ?_
  refine Evl.bind e2 ?_
  refine Evl.bind (steps_i d) ?_
  simp only [bne_self_eq_false, Bool.false_eq_true, if_false, if_true]
  refine Evl.bind (gSame_self _ (by omega)) ?_
  simp only [if_true]
  refine Evl.bind (period_i d) ?_
  refine Evl.bind (spokes_i d) ?_
  refine SAD_l0 more h4 d S hS1 (fun y hy => (hS2 y).1 hy) (by omega) S 0 0 0 List.drop_zero (by omega) ?_ hS3
  rw [Int.zero_add]
  exact sumC_all _ _ hS1 (fun y hy => (hS2 y).2 hy)
 ·have a1 : Evl (fun k => impl_LongestStep.f k l) (0, 0, false) := by
   simp only [impl_LongestStep.f]
   refine Evl.bind hi ?_
   simp only [Bool.false_eq_true, if_false]
   exact Evl.ret _
  have a2 : Evl (fun k => spec_LongestStep.f k l) (0, 0, false) := by
   obtain ⟨r, q, b, g1, g2⟩ := FnExactLongestStep_main l hlc
   rw [Evl.uniq a1 g2]
   exact g1
  have b1 : Evl (fun k => impl_StepSizes.f k l) ([], false) := by
   simp only [impl_StepSizes.f]
   refine Evl.bind hi ?_
   simp only [Bool.false_eq_true, if_false]
   exact Evl.ret _
  have b2 : Evl (fun k => spec_StepSizes.f k l) ([], false) := by
   obtain ⟨r, b, g1, g2, _⟩ := FnExactStepSizes_main l hlc
   exact Evl.both ⟨r, b, g1, g2⟩ b1
  have c1 : Evl (fun k => impl_LeastPeriod.f k l) (0, false) := by
   simp only [impl_LeastPeriod.f]
   refine Evl.bind hi ?_
   simp only [Bool.false_eq_true, if_false]
   exact Evl.ret _
  have c2 := Evl.both (FnExactLeastPeriod_main l hlc) c1
  have e1 : Evl (fun k => impl_IsSymmetric.f k l) (false, false) := by
   simp only [impl_IsSymmetric.f]
   refine Evl.bind hi ?_
   simp only [Bool.false_eq_true, if_false]
   exact Evl.ret _
  have e2 := Evl.both (FnExactIsSymmetric_main l hlc) e1
  have f1 : Evl (fun k => impl_StepsOf.f k l) ([], false) := by
   simp only [impl_StepsOf.f]
   refine Evl.bind hi ?_
   simp only [Bool.false_eq_true, if_false]
   exact Evl.ret _
  simp only [laws_FnStepsAround.f, hb, Option.bind_some, Bool.false_eq_true, if_false]
  refine Evl.bind dL ?_
  refine Evl.bind a1 ?_
  refine Evl.bind a2 ?_
  refine Evl.bind b1 ?_
  refine Evl.bind b2 ?_
  refine Evl.bind c1 ?_
  refine Evl.bind c2 ?_
  refine Evl.bind e1 ?_
  refine Evl.bind e2 ?_
  refine Evl.bind f1 ?_
  simp only [bne_self_eq_false, Bool.false_eq_true, if_false, if_true]
  refine Evl.bind (gSame_self [] (by simp)) ?_
  simp only [if_true]
  exact h4

theorem FnStepsAround_law (l0 l1 : List Int) (hm0 : l0.length ≤ maxLen) (hl0 : l0.length * 1 ≤ 140737488351232) (hw0 : ∀ x ∈ l0, (Lit.int .u8 x).wf = true) (hm1 : l1.length ≤ maxLen) (hl1 : l1.length * 1 ≤ 140737488351232) (hw1 : ∀ x ∈ l1, (Lit.int .u8 x).wf = true) : Evl (fun k => laws_FnStepsAround.f k l0 l1) true := by
 have b0 := fun x hx => u8_range (hw0 x hx)
 have b1 := fun x hx => u8_range (hw1 x hx)
 obtain ⟨w, hw⟩ := big_some l0 l1
 cases w with
 | true =>
  simp only [laws_FnStepsAround.f, hw, Option.bind_some, if_true]
  exact Evl.ret _
 | false =>
  obtain ⟨l, hd, hlen⟩ := drawLongestStep_some l0 b0
  obtain ⟨r, p, dR, hr, hp⟩ := drawRollWheel_some l1 b1
  obtain ⟨s, st, dT, hs, hst⟩ := drawTimesTogether_some l1 b1
  obtain ⟨t, x, dC, ht, hx⟩ := drawCountStep_some l1 b1
  obtain ⟨u, run, dF, hu, hrun, hv⟩ := drawFirstRun_some l1 b1
  exact SAD_first l0 l1 hw l hd (SAD_j4 l1 r p hr hp.wf dR s st t x u run hs hst.wf ht hx.wf hu (Nat.le_trans hrun (by decide)) (by omega) (fun y hy => (hv y hy).wf) dT dC dF) hlen

end Go.Proofs.Ytdaodlhcedjfoaa.L
