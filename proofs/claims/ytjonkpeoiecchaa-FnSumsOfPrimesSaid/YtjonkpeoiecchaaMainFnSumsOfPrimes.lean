/- the law of the sums of two primes, twins, crossers and smooth numbers, for all that is drawn: what both functions compute. No condition beyond 64 bits and the lengths that the statement's guards give. -/
import Derived.Test.YtjonkpeoiecchaaPx0
import Derived.Test.YtjonkpeoiecchaaPx2
import Derived.Test.YtjonkpeoiecchaaPx4
import Derived.Test.YtjonkpeoiecchaaPx10
import Derived.Test.YtjonkpeoiecchaaPx12
import Derived.Test.YtjonkpeoiecchaaPx3
import Derived.Test.YtjonkpeoiecchaaPx7
import Derived.Test.YtjonkpeoiecchaaPx13
import Derived.Test.YtjonkpeoiecchaaPx15
import Derived.Test.YtjonkpeoiecchaaPx11
import Derived.Test.YtjonkpeoiecchaaPx14
import Derived.Test.YtjonkpeoiecchaaPx8
import Derived.Test.YtjonkpeoiecchaaPx9
import Derived.Test.YtjonkpeoiecchaaPx5
import Derived.Test.YtjonkpeoiecchaaPx6
import Derived.Test.YtjonkpeoiecchaaPx16
import Derived.Laws.Bits64b
import Derived.Test.YtjonkpeoiecchaaPx18
import Derived.Test.YtjonkpeoiecchaaPx19
import Derived.Test.YtjonkpeoiecchaaPx20
/-! ## L0 -/
namespace Go.Proofs.Ytjonkpeoiecchaa.L
open Go.RowKit Go.Proofs.YtjonkpeoiecchaaW.PrintWords
set_option linter.unusedVariables false
set_option linter.unusedSimpArgs false

/-- With enough rounds g tells r. -/
def Evl {α : Type} (g : Nat → Option α) (r : α) : Prop := ∃ K, ∀ k, K ≤ k → g k = some r
theorem Evl.ret {α : Type} (r : α) : Evl (fun _ => some r) r := ⟨0, fun _ _ => rfl⟩
theorem Evl.bind {α β : Type} {g : Nat → Option α} {f : Nat → α → Option β} {a : α} {r : β} (h : Evl g a) (h2 : Evl (fun k => f k a) r) : Evl (fun k => (g k).bind (f k)) r := by
  obtain ⟨K, hK⟩ := h
  obtain ⟨K2, hK2⟩ := h2
  refine ⟨max K K2, fun k hk => ?_⟩
  show (g k).bind (f k) = some r
  rw [hK k (Nat.le_trans (Nat.le_max_left _ _) hk), Option.bind_some]
  exact hK2 k (Nat.le_trans (Nat.le_max_right _ _) hk)
theorem Evl.succ {α : Type} {g : Nat → Option α} {r : α} (h : Evl (fun k => g (k + 1)) r) : Evl g r := by
  obtain ⟨K, hK⟩ := h
  refine ⟨K + 1, fun k hk => ?_⟩
  obtain ⟨m, rfl⟩ : ∃ m, k = m + 1 := ⟨k - 1, by omega⟩
  exact hK m (by omega)
theorem Evl.congr {α : Type} {g g' : Nat → Option α} {r : α} (h : ∀ k, g k = g' k) (h2 : Evl g' r) : Evl g r := by
  obtain ⟨K, hK⟩ := h2
  exact ⟨K, fun k hk => (h k).trans (hK k hk)⟩
theorem Evl.get {α : Type} {g : Nat → Option α} {r : α} (h : Evl g r) : ∃ k, g k = some r := by
  obtain ⟨K, hK⟩ := h
  exact ⟨K, hK K (Nat.le_refl _)⟩
theorem Evl.cast {α : Type} {g : Nat → Option α} {r r' : α} (h : Evl g r) (e : r = r') : Evl g r' := e ▸ h

theorem w64 {x : Int} (h0 : -9223372036854775808 ≤ x) (h1 : x ≤ 9223372036854775807) : wrap64 x = x := by
  unfold wrap64
  omega
theorem drop_nil {α : Type} {xs : List α} {i : Nat} (h : xs.drop i = []) : xs.length ≤ i := by
  simpa using h
theorem drop_cons {α : Type} {xs s : List α} {x : α} {i : Nat} (h : xs.drop i = x :: s) : i < xs.length ∧ xs[i]? = some x ∧ xs.drop (i + 1) = s := by
  have hl : i < xs.length := by
    rcases Nat.lt_or_ge i xs.length with h1 | h1
    · exact h1
    · rw [List.drop_of_length_le h1] at h
      cases h
  rw [List.drop_eq_getElem_cons hl] at h
  injection h with h1 h2
  exact ⟨hl, by rw [List.getElem?_eq_getElem hl, h1], h2⟩
theorem rd_of {xs : List Int} {i : Nat} {x : Int} (h : xs[i]? = some x) : rd xs (i : Int) = x := by
  unfold rd
  rw [Int.toNat_natCast, List.getD_eq_getElem?_getD, h]
  rfl
theorem rd_nat {xs : List Int} {i : Nat} (h : i < xs.length) : rd xs (i : Int) = xs[i] := rd_of (List.getElem?_eq_getElem h)

end Go.Proofs.Ytjonkpeoiecchaa.L

/-! ## E0 -/

namespace Go.Proofs.Ytjonkpeoiecchaa.L
open Go.RowKit Go.Proofs.YtjonkpeoiecchaaW.PrintWords Go.Proofs.Ytjonkpeoiecchaa.P
set_option linter.unusedVariables false
set_option linter.unusedSimpArgs false

end Go.Proofs.Ytjonkpeoiecchaa.L

/-! ## M1 -/
namespace Go.Proofs.Ytjonkpeoiecchaa.M
set_option linter.unusedVariables false
set_option linter.unusedSimpArgs false

def lfAux : Nat → Nat → Nat → Nat
  | 0, _, n => n
  | f + 1, d, n => if n % d = 0 then d else lfAux f (d + 1) n
/-- The least divisor of at least 2. -/
def lf (n : Nat) : Nat := lfAux n 2 n
def isP (n : Nat) : Bool := decide (2 ≤ n) && decide (lf n = n)

structure Least (n r : Nat) : Prop where
  two : 2 ≤ r
  le : r ≤ n
  div : n % r = 0
  least : ∀ d, 2 ≤ d → d < r → n % d ≠ 0

theorem lfAux_least : ∀ (f d n : Nat), 2 ≤ d → d ≤ n → n < d + f → (∀ e, 2 ≤ e → e < d → n % e ≠ 0) → Least n (lfAux f d n)
  | 0, d, n, _, h1, h2, _ => by omega
  | f + 1, d, n, h0, h1, h2, h3 => by
    unfold lfAux
    by_cases h : n % d = 0
    · rw [if_pos h]
      exact ⟨h0, h1, h, h3⟩
    · rw [if_neg h]
      have hne : d ≠ n := fun e => h (by rw [e]; exact Nat.mod_self n)
      refine lfAux_least f (d + 1) n (by omega) (by omega) (by omega) (fun e he hl => ?_)
      by_cases hed : e = d
      · rw [hed]; exact h
      · exact h3 e he (by omega)
theorem lf_least {n : Nat} (h : 2 ≤ n) : Least n (lf n) := lfAux_least n 2 n (by omega) h (by omega) (fun e h1 h2 => by omega)
theorem Least.uniq {n r s : Nat} (h : Least n r) (h' : Least n s) : r = s := by
  rcases Nat.lt_trichotomy r s with h1 | h1 | h1
  · exact absurd h.div (h'.least r h.two h1)
  · exact h1
  · exact absurd h'.div (h.least s h'.two h1)
theorem lf_eq {n r : Nat} (hn : 2 ≤ n) (h : Least n r) : lf n = r := (lf_least hn).uniq h

theorem split_mod {n r : Nat} (h : n % r = 0) : n = r * (n / r) := by
  have := Nat.div_add_mod n r
  rw [h] at this
  omega

/-- No divisor up to the root: the number itself. -/
theorem lf_root {n d : Nat} (hn : 2 ≤ n) (hd : ∀ e, 2 ≤ e → e < d → n % e ≠ 0) (hr : n < d * d) : lf n = n := by
  have h := lf_least hn
  rcases Nat.lt_or_ge (lf n) n with hl | hl
  · exfalso
    have hq := split_mod h.div
    generalize hqe : n / lf n = q at hq
    have hq2 : 2 ≤ q := by
      rcases Nat.lt_or_ge q 2 with h1 | h1
      · have : q = 0 ∨ q = 1 := by omega
        rcases this with rfl | rfl
        · omega
        · omega
      · exact h1
    have hqm : n % q = 0 := by
      have e : n % q = (lf n * q) % q := by rw [← hq]
      rw [e]; exact Nat.mul_mod_left _ _
    have hlq : lf n ≤ q := by
      rcases Nat.lt_or_ge q (lf n) with h1 | h1
      · exact absurd hqm (h.least q hq2 h1)
      · exact h1
    have hdl : d ≤ lf n := by
      rcases Nat.lt_or_ge (lf n) d with h1 | h1
      · exact absurd h.div (hd _ h.two h1)
      · exact h1
    have : d * d ≤ lf n * q := Nat.mul_le_mul hdl (Nat.le_trans hdl hlq)
    omega
  · have := h.le
    omega

theorem isP_iff {n : Nat} : isP n = true ↔ 2 ≤ n ∧ lf n = n := by
  simp [isP]
theorem isP_two {n : Nat} (h : isP n = true) : 2 ≤ n := (isP_iff.1 h).1
theorem isP_of {n : Nat} (h2 : 2 ≤ n) (h : ∀ d, 2 ≤ d → d < n → n % d ≠ 0) : isP n = true :=
  isP_iff.2 ⟨h2, lf_eq h2 ⟨h2, Nat.le_refl _, Nat.mod_self n, h⟩⟩
theorem isP_least {n : Nat} (h : isP n = true) : Least n n := by
  obtain ⟨h2, he⟩ := isP_iff.1 h
  have := lf_least h2
  rwa [he] at this
theorem isP_no {n d : Nat} (h : isP n = true) (h2 : 2 ≤ d) (hl : d < n) : n % d ≠ 0 := (isP_least h).least d h2 hl
theorem isP_lf {n : Nat} (hn : 2 ≤ n) : isP (lf n) = true := by
  have h := lf_least hn
  refine isP_of h.two fun d h2 hl hm => ?_
  refine h.least d h2 hl (Nat.mod_eq_zero_of_dvd ?_)
  exact Nat.dvd_trans (Nat.dvd_of_mod_eq_zero hm) (Nat.dvd_of_mod_eq_zero h.div)
/-! ### factors -/
/-- How often p divides n, and what is left. -/
def strip : Nat → Nat → Nat → Nat × Nat
  | 0, _, n => (0, n)
  | f + 1, p, n => if n % p = 0 then ((strip f p (n / p)).1 + 1, (strip f p (n / p)).2) else (0, n)
theorem div_lt_of {n p : Nat} (hp : 2 ≤ p) (hn : 1 ≤ n) : n / p < n := Nat.div_lt_self hn hp
theorem div_pos_of {n p : Nat} (hp : 2 ≤ p) (hn : 1 ≤ n) (h : n % p = 0) : 1 ≤ n / p := by
  have := split_mod h
  rcases Nat.eq_zero_or_pos (n / p) with h1 | h1
  · rw [h1] at this; omega
  · exact h1
structure Strip (p n : Nat) (r : Nat × Nat) : Prop where
  mul : n = p ^ r.1 * r.2
  pos : 1 ≤ r.2
  le : r.2 ≤ n
  no : r.2 % p ≠ 0
  few : r.1 ≤ n
theorem strip_spec : ∀ (f p n : Nat), 2 ≤ p → 1 ≤ n → n ≤ f → Strip p n (strip f p n)
  | 0, p, n, _, h1, h2 => by omega
  | f + 1, p, n, hp, hn, hf => by
    unfold strip
    by_cases h : n % p = 0
    · rw [if_pos h]
      have hlt := div_lt_of hp hn
      have ih := strip_spec f p (n / p) hp (div_pos_of hp hn h) (by omega)
      refine ⟨?_, ih.pos, by have := ih.le; omega, ih.no, by have := ih.few; show _ + 1 ≤ n; omega⟩
      have h1 := split_mod h
      have h2 := ih.mul
      show n = p ^ ((strip f p (n / p)).1 + 1) * (strip f p (n / p)).2
      rw [Nat.pow_succ, Nat.mul_comm (p ^ _) p, Nat.mul_assoc, ← h2]
      exact h1
    · rw [if_neg h]
      exact ⟨by simp, hn, Nat.le_refl _, h, by simp⟩
theorem strip_fst_pos {f p n : Nat} (hf : n ≤ f) (hn : 1 ≤ n) (h : n % p = 0) : 1 ≤ (strip f p n).1 := by
  obtain ⟨m, rfl⟩ : ∃ m, f = m + 1 := ⟨f - 1, by omega⟩
  unfold strip
  rw [if_pos h]
  show 1 ≤ _ + 1
  omega
theorem strip_lt {p n : Nat} (hp : 2 ≤ p) (hn : 1 ≤ n) (h : n % p = 0) : (strip n p n).2 < n := by
  have hs := strip_spec n p n hp hn (Nat.le_refl _)
  rcases Nat.lt_or_ge (strip n p n).2 n with h1 | h1
  · exact h1
  · exact absurd (by have := hs.le; rw [show (strip n p n).2 = n by omega]; exact h) hs.no

def facsF : Nat → Nat → List (Nat × Nat)
  | 0, _ => []
  | f + 1, n => if n ≤ 1 then [] else (lf n, (strip n (lf n) n).1) :: facsF f (strip n (lf n) n).2
/-- The primes that divide a number, rising, and how often. -/
def facs (n : Nat) : List (Nat × Nat) := facsF n n
theorem rest_lt {n : Nat} (hn : 2 ≤ n) : (strip n (lf n) n).2 < n := strip_lt (lf_least hn).two (by omega) (lf_least hn).div
theorem facsF_eq : ∀ (f g n : Nat), n ≤ f → n ≤ g → facsF f n = facsF g n
  | 0, 0, _, _, _ => rfl
  | 0, g + 1, n, h, _ => by
    unfold facsF
    rw [if_pos (by omega)]
  | f + 1, 0, n, _, h => by
    unfold facsF
    rw [if_pos (by omega)]
  | f + 1, g + 1, n, h1, h2 => by
    unfold facsF
    by_cases h : n ≤ 1
    · rw [if_pos h, if_pos h]
    · rw [if_neg h, if_neg h]
      have := rest_lt (n := n) (by omega)
      rw [facsF_eq f g _ (by omega) (by omega)]
theorem facs_one {n : Nat} (h : n ≤ 1) : facs n = [] := by
  unfold facs
  cases n with
  | zero => rfl
  | succ n => unfold facsF; rw [if_pos h]
theorem facs_more {n : Nat} (h : 2 ≤ n) : facs n = (lf n, (strip n (lf n) n).1) :: facs (strip n (lf n) n).2 := by
  obtain ⟨m, rfl⟩ : ∃ m, n = m + 1 := ⟨n - 1, by omega⟩
  have hr := rest_lt h
  unfold facs
  rw [facsF, if_neg (by omega), facsF_eq m _ _ (by omega) (Nat.le_refl _)]

theorem facs_mem : ∀ (m n : Nat), n ≤ m → 1 ≤ n → ∀ pe, pe ∈ facs n → isP pe.1 = true ∧ 1 ≤ pe.2 ∧ pe.1 ∣ n
  | 0, n, h, h1 => by omega
  | m + 1, n, h, h1 => by
    intro pe hpe
    rcases Nat.lt_or_ge n 2 with h2 | h2
    · rw [facs_one (by omega)] at hpe
      cases hpe
    · have hl := lf_least h2
      have hs := strip_spec n (lf n) n hl.two h1 (Nat.le_refl _)
      rw [facs_more h2] at hpe
      rcases List.mem_cons.1 hpe with rfl | hpe
      · exact ⟨isP_lf h2, strip_fst_pos (Nat.le_refl _) h1 hl.div, Nat.dvd_of_mod_eq_zero hl.div⟩
      · have hr := rest_lt h2
        obtain ⟨g1, g2, g3⟩ := facs_mem m _ (by omega) hs.pos pe hpe
        refine ⟨g1, g2, Nat.dvd_trans g3 ?_⟩
        refine ⟨lf n ^ (strip n (lf n) n).1, ?_⟩
        rw [Nat.mul_comm]
        exact hs.mul
theorem facs_prop {n : Nat} (h : 1 ≤ n) {pe : Nat × Nat} (hm : pe ∈ facs n) : isP pe.1 = true ∧ 1 ≤ pe.2 ∧ pe.1 ∣ n := facs_mem n n (Nat.le_refl _) h pe hm
theorem facs_sorted_aux : ∀ (m n : Nat), n ≤ m → (facs n).Pairwise (fun a b => a.1 < b.1)
  | 0, n, h => by rw [facs_one (by omega)]; exact List.Pairwise.nil
  | m + 1, n, h => by
    rcases Nat.lt_or_ge n 2 with h2 | h2
    · rw [facs_one (by omega)]; exact List.Pairwise.nil
    · have hl := lf_least h2
      have hs := strip_spec n (lf n) n hl.two (by omega) (Nat.le_refl _)
      have hr := rest_lt h2
      rw [facs_more h2]
      refine List.Pairwise.cons (fun pe hpe => ?_) (facs_sorted_aux m _ (by omega))
      obtain ⟨g1, g2, g3⟩ := facs_prop hs.pos hpe
      have hd : pe.1 ∣ n := by
        refine Nat.dvd_trans g3 ⟨lf n ^ (strip n (lf n) n).1, ?_⟩
        rw [Nat.mul_comm]
        exact hs.mul
      have hne : pe.1 ≠ lf n := fun e => hs.no (Nat.mod_eq_zero_of_dvd (e ▸ g3))
      show lf n < pe.1
      rcases Nat.lt_or_ge pe.1 (lf n) with h3 | h3
      · exact absurd (Nat.mod_eq_zero_of_dvd hd) (hl.least _ (isP_two g1) h3)
      · omega
theorem facs_sorted (n : Nat) : (facs n).Pairwise (fun a b => a.1 < b.1) := facs_sorted_aux n n (Nat.le_refl _)
theorem facs_length : ∀ (m n : Nat), n ≤ m → (facs n).length ≤ n
  | 0, n, h => by rw [facs_one (by omega)]; exact Nat.zero_le _
  | m + 1, n, h => by
    rcases Nat.lt_or_ge n 2 with h2 | h2
    · rw [facs_one (by omega)]; exact Nat.zero_le _
    · have hr := rest_lt h2
      rw [facs_more h2, List.length_cons]
      have := facs_length m _ (show (strip n (lf n) n).2 ≤ m by omega)
      omega

end Go.Proofs.Ytjonkpeoiecchaa.M

/-! ## E1 -/
namespace Go.Proofs.Ytjonkpeoiecchaa.L
open Go.RowKit Go.Proofs.YtjonkpeoiecchaaW.PrintWords Go.Proofs.Ytjonkpeoiecchaa.P Go.Proofs.Ytjonkpeoiecchaa.M
set_option linter.unusedVariables false
set_option linter.unusedSimpArgs false

/-- The same of whatever whole number. -/
def isPI (a : Int) : Bool := isP a.toNat
theorem isPI_nat (n : Nat) : isPI (n : Int) = isP n := by unfold isPI; rw [Int.toNat_natCast]
theorem isPI_neg {a : Int} (h : a < 2) : isPI a = false := by
  unfold isPI isP
  rw [decide_eq_false (by omega)]
  rfl

theorem spec_prLeast_l0 (n : Nat) (hn : 2 ≤ n) (hb : n ≤ 2000000000) : ∀ (m d : Nat), m + d = 50000 → 2 ≤ d → (∀ e, 2 ≤ e → e < d → n % e ≠ 0) → Evl (fun k => spec_prLeast.l0 k (n : Int) (d : Int)) (lf n : Int) := by
  intro m
  induction m with
  | zero =>
    intro d hd h2 hno
    obtain rfl : d = 50000 := by omega
    refine Evl.succ ?_
    have h1 : ¬ wrap64 (((50000 : Nat) : Int) * ((50000 : Nat) : Int)) ≤ (n : Int) := by rw [w64 (by omega) (by omega)]; omega
    simp only [spec_prLeast.l0, if_neg h1]
    rw [lf_root hn hno (by omega)]
    exact Evl.ret _
  | succ m ih =>
    intro d hd h2 hno
    have hdd : d * d ≤ 50000 * 50000 := Nat.mul_le_mul (by omega) (by omega)
    have hw : wrap64 ((d : Int) * (d : Int)) = ((d * d : Nat) : Int) := by rw [← Int.natCast_mul]; exact w64 (by omega) (by omega)
    have hw1 : wrap64 ((d : Int) + 1) = ((d + 1 : Nat) : Int) := by rw [w64 (by omega) (by omega)]; rfl
    refine Evl.succ ?_
    by_cases hr : d * d ≤ n
    · have h1 : ((d * d : Nat) : Int) ≤ (n : Int) := Int.ofNat_le.2 hr
      have h3 : ¬ (d : Int) = 0 := by omega
      have ht : Int.tmod (n : Int) (d : Int) = ((n % d : Nat) : Int) := rfl
      by_cases hm : n % d = 0
      · have h4 : ((n % d : Nat) : Int) = 0 := by rw [hm]; rfl
        simp only [spec_prLeast.l0, hw, if_pos h1, if_neg h3, ht, if_pos h4]
        rw [lf_eq hn ⟨h2, Nat.le_trans (Nat.le_mul_self d) hr, hm, hno⟩]
        exact Evl.ret _
      · have h4 : ¬ ((n % d : Nat) : Int) = 0 := by omega
        simp only [spec_prLeast.l0, hw, if_pos h1, if_neg h3, ht, if_neg h4, hw1]
        refine ih (d + 1) (by omega) (by omega) (fun e he hl => ?_)
        by_cases hed : e = d
        · rw [hed]; exact hm
        · exact hno e he (by omega)
    · have h1 : ¬ ((d * d : Nat) : Int) ≤ (n : Int) := fun h => hr (Int.ofNat_le.1 h)
      simp only [spec_prLeast.l0, hw, if_neg h1]
      rw [lf_root hn hno (by omega)]
      exact Evl.ret _
theorem spec_prLeast_ev (n : Nat) (hn : 2 ≤ n) (hb : n ≤ 2000000000) : Evl (fun k => spec_prLeast.f k (n : Int)) (lf n : Int) := by
  simp only [spec_prLeast.f]
  exact spec_prLeast_l0 n hn hb 49998 2 rfl (by omega) (fun e h1 h2 => by omega)
theorem spec_prIs_ev (a : Int) (hb : a ≤ 2000000000) : Evl (fun k => spec_prIs.f k a) (isPI a) := by
  by_cases h : a ≥ 2
  · obtain ⟨n, rfl⟩ := Int.eq_ofNat_of_zero_le (show 0 ≤ a by omega)
    simp only [spec_prIs.f, if_pos h]
    refine Evl.bind (spec_prLeast_ev n (by omega) (by omega)) ?_
    refine (Evl.ret _).cast ?_
    rw [isPI_nat]
    unfold isP
    rw [decide_eq_true (show 2 ≤ n by omega), Bool.true_and]
    by_cases e : lf n = n
    · rw [decide_eq_true e, e]
      exact beq_self_eq_true _
    · rw [decide_eq_false e]
      exact beq_eq_false_iff_ne.2 (by omega)
  · simp only [spec_prIs.f, if_neg h]
    rw [isPI_neg (by omega)]
    exact Evl.ret _

theorem impl_leastFactor_l0 (n : Nat) (hn : 2 ≤ n) (hb : n ≤ 2000000000) : ∀ (m d : Nat), m + d = 50000 → 2 ≤ d → (∀ e, 2 ≤ e → e < d → n % e ≠ 0) → Evl (fun k => impl_leastFactor.l0 k (n : Int) (d : Int)) (lf n : Int) := by
  intro m
  induction m with
  | zero =>
    intro d hd h2 hno
    obtain rfl : d = 50000 := by omega
    refine Evl.succ ?_
    have h1 : ¬ wrap64 (((50000 : Nat) : Int) * ((50000 : Nat) : Int)) ≤ (n : Int) := by rw [w64 (by omega) (by omega)]; omega
    simp only [impl_leastFactor.l0, if_neg h1]
    rw [lf_root hn hno (by omega)]
    exact Evl.ret _
  | succ m ih =>
    intro d hd h2 hno
    have hdd : d * d ≤ 50000 * 50000 := Nat.mul_le_mul (by omega) (by omega)
    have hw : wrap64 ((d : Int) * (d : Int)) = ((d * d : Nat) : Int) := by rw [← Int.natCast_mul]; exact w64 (by omega) (by omega)
    have hw1 : wrap64 ((d : Int) + 1) = ((d + 1 : Nat) : Int) := by rw [w64 (by omega) (by omega)]; rfl
    refine Evl.succ ?_
    by_cases hr : d * d ≤ n
    · have h1 : ((d * d : Nat) : Int) ≤ (n : Int) := Int.ofNat_le.2 hr
      have h3 : ¬ (d : Int) = 0 := by omega
      have ht : Int.tmod (n : Int) (d : Int) = ((n % d : Nat) : Int) := rfl
      by_cases hm : n % d = 0
      · have h4 : ((n % d : Nat) : Int) = 0 := by rw [hm]; rfl
        simp only [impl_leastFactor.l0, hw, if_pos h1, if_neg h3, ht, if_pos h4]
        rw [lf_eq hn ⟨h2, Nat.le_trans (Nat.le_mul_self d) hr, hm, hno⟩]
        exact Evl.ret _
      · have h4 : ¬ ((n % d : Nat) : Int) = 0 := by omega
        simp only [impl_leastFactor.l0, hw, if_pos h1, if_neg h3, ht, if_neg h4, hw1]
        refine ih (d + 1) (by omega) (by omega) (fun e he hl => ?_)
        by_cases hed : e = d
        · rw [hed]; exact hm
        · exact hno e he (by omega)
    · have h1 : ¬ ((d * d : Nat) : Int) ≤ (n : Int) := fun h => hr (Int.ofNat_le.1 h)
      simp only [impl_leastFactor.l0, hw, if_neg h1]
      rw [lf_root hn hno (by omega)]
      exact Evl.ret _
theorem impl_leastFactor_ev (n : Nat) (hn : 2 ≤ n) (hb : n ≤ 2000000000) : Evl (fun k => impl_leastFactor.f k (n : Int)) (lf n : Int) := by
  simp only [impl_leastFactor.f]
  exact impl_leastFactor_l0 n hn hb 49998 2 rfl (by omega) (fun e h1 h2 => by omega)
theorem impl_isPrime_ev (a : Int) (hb : a ≤ 2000000000) : Evl (fun k => impl_isPrime.f k a) (isPI a) := by
  by_cases h : a ≥ 2
  · obtain ⟨n, rfl⟩ := Int.eq_ofNat_of_zero_le (show 0 ≤ a by omega)
    simp only [impl_isPrime.f, if_pos h]
    refine Evl.bind (impl_leastFactor_ev n (by omega) (by omega)) ?_
    refine (Evl.ret _).cast ?_
    rw [isPI_nat]
    unfold isP
    rw [decide_eq_true (show 2 ≤ n by omega), Bool.true_and]
    by_cases e : lf n = n
    · rw [decide_eq_true e, e]
      exact beq_self_eq_true _
    · rw [decide_eq_false e]
      exact beq_eq_false_iff_ne.2 (by omega)
  · simp only [impl_isPrime.f, if_neg h]
    rw [isPI_neg (by omega)]
    exact Evl.ret _

end Go.Proofs.Ytjonkpeoiecchaa.L

/-! ## E2 -/
namespace Go.Proofs.Ytjonkpeoiecchaa.L
open Go.RowKit Go.Proofs.YtjonkpeoiecchaaW.PrintWords Go.Proofs.Ytjonkpeoiecchaa.P Go.Proofs.Ytjonkpeoiecchaa.M
set_option linter.unusedVariables false
set_option linter.unusedSimpArgs false

/-- The primes among m numbers from n on. -/
def pl : Nat → Int → List Int
  | 0, _ => []
  | m + 1, n => if isPI n = true then n :: pl m (n + 1) else pl m (n + 1)
theorem pl_length : ∀ (m : Nat) (n : Int), (pl m n).length ≤ m
  | 0, _ => Nat.le_refl _
  | m + 1, n => by
    unfold pl
    have := pl_length m (n + 1)
    split
    · rw [List.length_cons]; omega
    · omega

theorem impl_primesBetween_l0 (hi : Int) (hh : hi ≤ 1999999999) : ∀ (m : Nat) (n : Int) (acc : List Int), -1000 ≤ n → (m : Int) = hi + 1 - n → acc.length + m ≤ 10000000000 → Evl (fun k => impl_primesBetween.l0 k hi acc n) (acc ++ pl m n) := by
  intro m
  induction m with
  | zero =>
    intro n acc h0 hm hb
    refine Evl.succ ?_
    have h1 : ¬ n ≤ hi := by omega
    simp only [impl_primesBetween.l0, if_neg h1]
    refine (Evl.ret _).cast ?_
    simp [pl]
  | succ m ih =>
    intro n acc h0 hm hb
    have h1 : n ≤ hi := by omega
    have hw : wrap64 (n + 1) = n + 1 := w64 (by omega) (by omega)
    refine Evl.succ ?_
    simp only [impl_primesBetween.l0, if_pos h1, hw]
    refine Evl.bind (impl_isPrime_ev n (by omega)) ?_
    unfold pl
    by_cases hp : isPI n = true
    · have h2 : acc.length < 17592186044416 := by omega
      simp only [if_pos hp, if_pos h2]
      refine (ih (n + 1) (acc ++ [n]) (by omega) (by omega) (by rw [List.length_append]; simp; omega)).cast ?_
      simp
    · simp only [if_neg hp]
      exact ih (n + 1) acc (by omega) (by omega) (by omega)
theorem impl_primesBetween_ev (lo hi : Int) (h0 : -1000 ≤ lo) (hh : hi ≤ 1999999999) : Evl (fun k => impl_primesBetween.f k lo hi) (pl (hi + 1 - lo).toNat lo) := by
  simp only [impl_primesBetween.f]
  rcases Int.lt_or_le hi lo with h | h
  · refine Evl.succ ?_
    have h1 : ¬ lo ≤ hi := by omega
    simp only [impl_primesBetween.l0, if_neg h1]
    rw [show (hi + 1 - lo).toNat = 0 by omega]
    exact Evl.ret _
  · exact impl_primesBetween_l0 hi hh (hi + 1 - lo).toNat lo [] h0 (by omega) (by simp; omega)

end Go.Proofs.Ytjonkpeoiecchaa.L

/-! ## E3 -/
namespace Go.Proofs.Ytjonkpeoiecchaa.L
open Go.RowKit Go.Proofs.YtjonkpeoiecchaaW.PrintWords Go.Proofs.Ytjonkpeoiecchaa.P Go.Proofs.Ytjonkpeoiecchaa.M
set_option linter.unusedVariables false
set_option linter.unusedSimpArgs false

/-- Factors as the program lays them. -/
def fL (l : List (Nat × Nat)) : List (List Int) := l.map fun pe => [(pe.1 : Int), (pe.2 : Int)]

theorem spec_prFactors_l1 : ∀ (f n : Nat) (xs : List (List Int)) (p e : Nat) (R : List (List Int)), 2 ≤ p → 1 ≤ n → n ≤ f → n ≤ 2000000000 → e + n ≤ 4000000000 → xs.length < 5000000000 →
    Evl (fun k => spec_prFactors.l0 k ((strip f p n).2 : Int) (xs ++ [[(p : Int), ((e + (strip f p n).1 : Nat) : Int)]])) R → Evl (fun k => spec_prFactors.l1 k (n : Int) xs (p : Int) (e : Int)) R := by
  intro f
  induction f with
  | zero => intro n xs p e R _ h1 h2; omega
  | succ f ih =>
    intro n xs p e R hp hn hf hb he hl h
    refine Evl.succ ?_
    have h1 : ¬ (p : Int) = 0 := by omega
    have ht : Int.tmod (n : Int) (p : Int) = ((n % p : Nat) : Int) := rfl
    have hq : Int.tdiv (n : Int) (p : Int) = ((n / p : Nat) : Int) := rfl
    unfold strip at h
    by_cases hm : n % p = 0
    · rw [if_pos hm] at h
      have hlt := div_lt_of hp hn
      have hpos := div_pos_of hp hn hm
      have h2 : ((n % p : Nat) : Int) = 0 := by rw [hm]; rfl
      generalize n / p = q at h hq hlt hpos
      have hw : wrap64 (q : Int) = (q : Int) := w64 (by omega) (by omega)
      have hw1 : wrap64 ((e : Int) + 1) = ((e + 1 : Nat) : Int) := by rw [w64 (by omega) (by omega)]; rfl
      simp only [spec_prFactors.l1, if_neg h1, ht, if_pos h2, hq, hw, hw1]
      have e1 : e + 1 + (strip f p q).1 = e + ((strip f p q).1 + 1) := by rw [Nat.add_assoc, Nat.add_comm 1]
      clear ht hq h2 hw hw1 hm h1
      refine ih q xs p (e + 1) R hp hpos ?_ ?_ ?_ hl ?_
      · omega
      · omega
      · clear h e1 ih
        omega
      · rw [e1]
        exact h
    · rw [if_neg hm] at h
      have h2 : ¬ ((n % p : Nat) : Int) = 0 := fun c => hm (Int.ofNat_eq_zero.1 c)
      have h3 : xs.length < 5864062014805 := by omega
      simp only [spec_prFactors.l1, if_neg h1, ht, if_neg h2, if_pos h3]
      simpa using h
theorem spec_prFactors_l0 : ∀ (m n : Nat) (xs : List (List Int)), n ≤ m → n ≤ 2000000000 → xs.length + n ≤ 4000000000 → Evl (fun k => spec_prFactors.l0 k (n : Int) xs) (xs ++ fL (facs n)) := by
  intro m
  induction m with
  | zero =>
    intro n xs h _ _
    refine Evl.succ ?_
    have h1 : ¬ (n : Int) > 1 := by omega
    simp only [spec_prFactors.l0, if_neg h1]
    rw [facs_one (by omega)]
    refine (Evl.ret _).cast ?_
    simp [fL]
  | succ m ih =>
    intro n xs h hb hl
    refine Evl.succ ?_
    rcases Nat.lt_or_ge n 2 with h2 | h2
    · have h1 : ¬ (n : Int) > 1 := by omega
      simp only [spec_prFactors.l0, if_neg h1]
      rw [facs_one (by omega)]
      refine (Evl.ret _).cast ?_
      simp [fL]
    · have h1 : (n : Int) > 1 := by omega
      have hr := rest_lt h2
      simp only [spec_prFactors.l0, if_pos h1]
      refine Evl.bind (spec_prLeast_ev n h2 hb) ?_
      refine spec_prFactors_l1 n n xs (lf n) 0 _ (lf_least h2).two (by omega) (Nat.le_refl _) hb (by omega) (by omega) ?_
      rw [Nat.zero_add]
      refine (ih _ _ (by omega) (by omega) (by rw [List.length_append, List.length_singleton]; omega)).cast ?_
      rw [facs_more h2]
      simp [fL]
theorem spec_prFactors_ev (n : Nat) (hb : n ≤ 2000000000) : Evl (fun k => spec_prFactors.f k (n : Int)) (fL (facs n)) := by
  simp only [spec_prFactors.f]
  exact spec_prFactors_l0 n n [] (Nat.le_refl _) hb (by simp; omega)

theorem impl_factors_l1 : ∀ (f n : Nat) (xs : List (List Int)) (p e : Nat) (R : List (List Int)), 2 ≤ p → 1 ≤ n → n ≤ f → n ≤ 2000000000 → e + n ≤ 4000000000 → xs.length < 5000000000 →
    Evl (fun k => impl_factors.l0 k ((strip f p n).2 : Int) (xs ++ [[(p : Int), ((e + (strip f p n).1 : Nat) : Int)]])) R → Evl (fun k => impl_factors.l1 k (n : Int) xs (p : Int) (e : Int)) R := by
  intro f
  induction f with
  | zero => intro n xs p e R _ h1 h2; omega
  | succ f ih =>
    intro n xs p e R hp hn hf hb he hl h
    refine Evl.succ ?_
    have h1 : ¬ (p : Int) = 0 := by omega
    have ht : Int.tmod (n : Int) (p : Int) = ((n % p : Nat) : Int) := rfl
    have hq : Int.tdiv (n : Int) (p : Int) = ((n / p : Nat) : Int) := rfl
    unfold strip at h
    by_cases hm : n % p = 0
    · rw [if_pos hm] at h
      have hlt := div_lt_of hp hn
      have hpos := div_pos_of hp hn hm
      have h2 : ((n % p : Nat) : Int) = 0 := by rw [hm]; rfl
      generalize n / p = q at h hq hlt hpos
      have hw : wrap64 (q : Int) = (q : Int) := w64 (by omega) (by omega)
      have hw1 : wrap64 ((e : Int) + 1) = ((e + 1 : Nat) : Int) := by rw [w64 (by omega) (by omega)]; rfl
      simp only [impl_factors.l1, if_neg h1, ht, if_pos h2, hq, hw, hw1]
      have e1 : e + 1 + (strip f p q).1 = e + ((strip f p q).1 + 1) := by rw [Nat.add_assoc, Nat.add_comm 1]
      clear ht hq h2 hw hw1 hm h1
      refine ih q xs p (e + 1) R hp hpos ?_ ?_ ?_ hl ?_
      · omega
      · omega
      · clear h e1 ih
        omega
      · rw [e1]
        exact h
    · rw [if_neg hm] at h
      have h2 : ¬ ((n % p : Nat) : Int) = 0 := fun c => hm (Int.ofNat_eq_zero.1 c)
      have h3 : xs.length < 5864062014805 := by omega
      simp only [impl_factors.l1, if_neg h1, ht, if_neg h2, if_pos h3]
      simpa using h
theorem impl_factors_l0 : ∀ (m n : Nat) (xs : List (List Int)), n ≤ m → n ≤ 2000000000 → xs.length + n ≤ 4000000000 → Evl (fun k => impl_factors.l0 k (n : Int) xs) (xs ++ fL (facs n)) := by
  intro m
  induction m with
  | zero =>
    intro n xs h _ _
    refine Evl.succ ?_
    have h1 : ¬ (n : Int) > 1 := by omega
    simp only [impl_factors.l0, if_neg h1]
    rw [facs_one (by omega)]
    refine (Evl.ret _).cast ?_
    simp [fL]
  | succ m ih =>
    intro n xs h hb hl
    refine Evl.succ ?_
    rcases Nat.lt_or_ge n 2 with h2 | h2
    · have h1 : ¬ (n : Int) > 1 := by omega
      simp only [impl_factors.l0, if_neg h1]
      rw [facs_one (by omega)]
      refine (Evl.ret _).cast ?_
      simp [fL]
    · have h1 : (n : Int) > 1 := by omega
      have hr := rest_lt h2
      simp only [impl_factors.l0, if_pos h1]
      refine Evl.bind (impl_leastFactor_ev n h2 hb) ?_
      refine impl_factors_l1 n n xs (lf n) 0 _ (lf_least h2).two (by omega) (Nat.le_refl _) hb (by omega) (by omega) ?_
      rw [Nat.zero_add]
      refine (ih _ _ (by omega) (by omega) (by rw [List.length_append, List.length_singleton]; omega)).cast ?_
      rw [facs_more h2]
      simp [fL]
theorem impl_factors_ev (n : Nat) (hb : n ≤ 2000000000) : Evl (fun k => impl_factors.f k (n : Int)) (fL (facs n)) := by
  simp only [impl_factors.f]
  exact impl_factors_l0 n n [] (Nat.le_refl _) hb (by simp; omega)

end Go.Proofs.Ytjonkpeoiecchaa.L

/-! ## E4 -/
namespace Go.Proofs.Ytjonkpeoiecchaa.L
open Go.RowKit Go.Proofs.YtjonkpeoiecchaaW.PrintWords Go.Proofs.Ytjonkpeoiecchaa.P Go.Proofs.Ytjonkpeoiecchaa.M
set_option linter.unusedVariables false
set_option linter.unusedSimpArgs false

theorem l1In_eq (a lo hi : Int) : spec_l1In.f a lo hi = some (decide (lo ≤ a ∧ a ≤ hi)) := by
  unfold spec_l1In.f
  by_cases h : a ≥ lo
  · rw [if_pos h]
    by_cases h2 : a ≤ hi
    · rw [decide_eq_true h2, decide_eq_true ⟨h, h2⟩]
    · rw [decide_eq_false h2, decide_eq_false (fun c => h2 c.2)]
  · rw [if_neg h, decide_eq_false (fun c => h c.1)]
theorem isMost_eq (a : Int) : impl_isMost.f a = some (decide (0 ≤ a ∧ a ≤ 600)) := by
  unfold impl_isMost.f
  by_cases h : a ≥ 0
  · rw [if_pos h]
    by_cases h2 : a ≤ 600
    · rw [decide_eq_true h2, decide_eq_true ⟨h, h2⟩]
    · rw [decide_eq_false h2, decide_eq_false (fun c => h2 c.2)]
  · rw [if_neg h, decide_eq_false (fun c => h c.1)]
theorem isFactored_eq (a : Int) : impl_isFactored.f a = some (decide (1 ≤ a ∧ a ≤ 1000000000)) := by
  unfold impl_isFactored.f
  by_cases h : a ≥ 1
  · rw [if_pos h]
    by_cases h2 : a ≤ 1000000000
    · rw [decide_eq_true h2, decide_eq_true ⟨h, h2⟩]
    · rw [decide_eq_false h2, decide_eq_false (fun c => h2 c.2)]
  · rw [if_neg h, decide_eq_false (fun c => h c.1)]

theorem rdL_of {xs : List (List Int)} {i : Nat} {x : List Int} (h : xs[i]? = some x) : rd_L1 xs (i : Int) = x := by
  unfold rd_L1
  rw [Int.toNat_natCast, List.getD_eq_getElem?_getD, h]
  rfl
theorem fL_length (l : List (Nat × Nat)) : (fL l).length = l.length := by unfold fL; exact List.length_map ..

/-- Smooth: no prime factor is greater than the bound. -/
def smooth (n : Nat) (b : Int) : Bool := (facs n).all fun pe => decide ((pe.1 : Int) ≤ b)
theorem prSmooth_l0 (b : Int) (l : List (Nat × Nat)) (hl : l.length ≤ 4000000000) : ∀ (s : List (Nat × Nat)) (i : Nat), l.drop i = s → Evl (fun k => spec_prSmooth.l0 k b (fL l) ((fL l).length : Int) (i : Int)) (s.all fun pe => decide ((pe.1 : Int) ≤ b)) := by
  intro s
  induction s with
  | nil =>
    intro i h
    have hi := drop_nil h
    refine Evl.succ ?_
    have h1 : ¬ (i : Int) < ((fL l).length : Int) := by rw [fL_length]; omega
    simp only [spec_prSmooth.l0, if_neg h1]
    exact Evl.ret _
  | cons f s ih =>
    intro i h
    obtain ⟨hi, hx, hs⟩ := drop_cons h
    have hw : wrap64 ((i : Int) + 1) = ((i + 1 : Nat) : Int) := by rw [w64 (by omega) (by omega)]; rfl
    have h1 : (i : Int) < ((fL l).length : Int) := by rw [fL_length]; omega
    have h0 : (0 : Int) ≤ (i : Int) := by omega
    have hr : rd_L1 (fL l) (i : Int) = [(f.1 : Int), (f.2 : Int)] := rdL_of (by unfold fL; rw [List.getElem?_map, hx]; rfl)
    have h3 : (0 : Int) < (([(f.1 : Int), (f.2 : Int)] : List Int).length : Int) := by simp
    have h4 : rd [(f.1 : Int), (f.2 : Int)] 0 = (f.1 : Int) := rfl
    refine Evl.succ ?_
    simp only [spec_prSmooth.l0, if_pos h1, if_pos h0, hr, if_pos h3, h4, hw]
    by_cases h5 : (f.1 : Int) > b
    · simp only [if_pos h5]
      refine (Evl.ret _).cast ?_
      rw [List.all_cons, decide_eq_false (by omega)]
      rfl
    · simp only [if_neg h5]
      refine (ih (i + 1) hs).cast ?_
      rw [List.all_cons, decide_eq_true (by omega)]
      rfl
theorem prSmooth_ev (n : Nat) (b : Int) (hb : n ≤ 2000000000) : Evl (fun k => spec_prSmooth.f k (n : Int) b) (smooth n b) := by
  simp only [spec_prSmooth.f]
  refine Evl.bind (spec_prFactors_ev n hb) ?_
  have := facs_length n n (Nat.le_refl _)
  exact prSmooth_l0 b (facs n) (by omega) (facs n) 0 rfl
theorem smooth_last (n : Nat) (b : Int) {l : List (Nat × Nat)} {pe : Nat × Nat} (h : facs n = l ++ [pe]) : smooth n b = decide ((pe.1 : Int) ≤ b) := by
  have hs := facs_sorted n
  unfold smooth
  rw [h] at hs ⊢
  rw [List.pairwise_append] at hs
  by_cases hb : (pe.1 : Int) ≤ b
  · rw [decide_eq_true hb, List.all_eq_true]
    intro q hq
    rcases List.mem_append.1 hq with hq | hq
    · have := hs.2.2 q hq pe (List.mem_singleton.2 rfl)
      exact decide_eq_true (by omega)
    · rw [List.mem_singleton.1 hq]; exact decide_eq_true hb
  · rw [decide_eq_false hb, List.all_append]
    simp [hb]
theorem isSmooth_ev (n : Nat) (b : Int) (hb : n ≤ 2000000000) : Evl (fun k => impl_isSmooth.f k (n : Int) b) (smooth n b) := by
  simp only [impl_isSmooth.f]
  refine Evl.bind (impl_factors_ev n hb) ?_
  have hlen := facs_length n n (Nat.le_refl _)
  rcases List.eq_nil_or_concat (facs n) with h | ⟨l, pe, h⟩
  · have h1 : (((fL (facs n)).length : Nat) : Int) = 0 := by rw [fL_length, h]; rfl
    simp only [if_pos h1]
    refine (Evl.ret _).cast ?_
    unfold smooth
    rw [h]
    rfl
  · rw [List.concat_eq_append] at h
    rw [smooth_last n b h]
    have hl2 : l.length ≤ n := by rw [h] at hlen; simp at hlen; omega
    have hll : (fL (facs n)).length = l.length + 1 := by rw [fL_length, h]; simp
    have h1 : ¬ (((fL (facs n)).length : Nat) : Int) = 0 := by omega
    have hw : wrap64 (((fL (facs n)).length : Int) - 1) = ((l.length : Nat) : Int) := by rw [hll, w64 (by omega) (by omega)]; omega
    have h2 : (0 : Int) ≤ ((l.length : Nat) : Int) := by omega
    have h3 : ((l.length : Nat) : Int) < ((fL (facs n)).length : Int) := by omega
    have hr : rd_L1 (fL (facs n)) ((l.length : Nat) : Int) = [(pe.1 : Int), (pe.2 : Int)] := rdL_of (by unfold fL; rw [h]; simp)
    have h4 : (0 : Int) < (([(pe.1 : Int), (pe.2 : Int)] : List Int).length : Int) := by simp
    have h5 : rd [(pe.1 : Int), (pe.2 : Int)] 0 = (pe.1 : Int) := rfl
    simp only [if_neg h1, hw, if_pos h2, if_pos h3, hr, if_pos h4, h5]
    exact Evl.ret _

end Go.Proofs.Ytjonkpeoiecchaa.L

/-! ## M6 -/
namespace Go.Proofs.Ytjonkpeoiecchaa.M
set_option linter.unusedVariables false
set_option linter.unusedSimpArgs false

/-- The product of the primes up to 97. -/
def prim : Nat := 2305567963945518424753102147331756070
theorem prim_all : ((List.range 101).all fun q => !(isP q) || decide (prim % q = 0)) = true := by decide +kernel
theorem isP_of_prim {n : Nat} (h2 : 2 ≤ n) (hb : n < 10201) (hg : Nat.gcd n prim = 1) : isP n = true := by
  refine isP_iff.2 ⟨h2, ?_⟩
  have hl := lf_least h2
  rcases Nat.lt_or_ge (lf n) n with hlt | hge
  · exfalso
    have hq := isP_lf h2
    have hq2 := isP_two hq
    have hle : lf n ≤ 100 := by
      rcases Nat.lt_or_ge (lf n) 101 with h | h
      · omega
      · exfalso
        have hr : lf n = n := lf_root h2 (fun e he hl' => hl.least e he hl') (by
          have := Nat.mul_le_mul h h
          omega)
        omega
    have h1 := List.all_eq_true.1 prim_all (lf n) (List.mem_range.2 (by omega))
    rw [hq, Bool.not_true, Bool.false_or] at h1
    have hd : lf n ∣ Nat.gcd n prim := Nat.dvd_gcd (Nat.dvd_of_mod_eq_zero hl.div) (Nat.dvd_of_mod_eq_zero (of_decide_eq_true h1))
    rw [hg] at hd
    have := Nat.le_of_dvd (by omega) hd
    omega
  · have := hl.le
    omega
/-- Some small primes. -/
def smallP : List Nat := [2, 3, 5, 7, 11, 13, 17, 19, 23, 29, 31, 37, 41, 43, 47, 53, 59, 61, 67, 71, 73, 79, 83, 89, 97, 101, 103, 107, 109, 113, 127, 131, 137, 139, 149, 151, 157, 163, 167, 173, 179, 181, 191, 193, 197, 199, 211, 223, 227, 229, 233, 239, 241]
theorem smallP_isP : (smallP.all isP) = true := by decide +kernel
def gb (n : Nat) : Bool := smallP.any fun p => Nat.ble (2 * p) n && Nat.ble (p + 2) n && (Nat.beq (Nat.gcd (n - p) prim) 1 || smallP.any fun q => Nat.beq (n - p) q)
def gbAll : Nat → Nat → Bool
  | 0, _ => true
  | m + 1, n => gb n && gbAll m (n + 2)
theorem gbAll_ok : gbAll 4999 4 = true := by decide +kernel
theorem gbAll_at : ∀ (m n j : Nat), gbAll m n = true → j < m → gb (n + 2 * j) = true
  | 0, n, j, _, hj => absurd hj (Nat.not_lt_zero _)
  | m + 1, n, j, h, hj => by
    unfold gbAll at h
    rw [Bool.and_eq_true] at h
    cases j with
    | zero => exact h.1
    | succ j =>
      have := gbAll_at m (n + 2) j h.2 (by omega)
      rw [show n + 2 * (j + 1) = n + 2 + 2 * j by omega]
      exact this
/-- Each even number from 4 to 10000 is the sum of two primes. -/
theorem goldbach {n : Nat} (h4 : 4 ≤ n) (hb : n ≤ 10000) (he : n % 2 = 0) : ∃ p, isP p = true ∧ 2 * p ≤ n ∧ isP (n - p) = true := by
  have h := gbAll_at 4999 4 ((n - 4) / 2) gbAll_ok (by omega)
  rw [show 4 + 2 * ((n - 4) / 2) = n by omega] at h
  unfold gb at h
  obtain ⟨p, hp, h⟩ := List.any_eq_true.1 h
  rw [Bool.and_eq_true, Bool.and_eq_true] at h
  obtain ⟨⟨h1, h2⟩, h3⟩ := h
  have h1 := Nat.le_of_ble_eq_true h1
  have h2 := Nat.le_of_ble_eq_true h2
  have hpp := List.all_eq_true.1 smallP_isP p hp
  refine ⟨p, hpp, h1, ?_⟩
  rcases Bool.or_eq_true_iff.1 h3 with h4' | h4'
  · exact isP_of_prim (by omega) (by omega) (Nat.eq_of_beq_eq_true h4')
  · obtain ⟨q, hq, e⟩ := List.any_eq_true.1 h4'
    rw [Nat.eq_of_beq_eq_true e]
    exact List.all_eq_true.1 smallP_isP q hq

end Go.Proofs.Ytjonkpeoiecchaa.M

/-! ## X1 -/
namespace Go.Proofs.Ytjonkpeoiecchaa.L
open Go.RowKit Go.Proofs.YtjonkpeoiecchaaW.PrintWords Go.Proofs.Ytjonkpeoiecchaa.P Go.Proofs.Ytjonkpeoiecchaa.M
set_option linter.unusedVariables false
set_option linter.unusedSimpArgs false

/-- The smooth ones among m numbers from n on. -/
def sml (b : Int) : Nat → Nat → List Int
  | 0, _ => []
  | m + 1, n => if smooth n b = true then (n : Int) :: sml b m (n + 1) else sml b m (n + 1)
theorem sml_length (b : Int) : ∀ (m n : Nat), (sml b m n).length ≤ m
  | 0, _ => Nat.le_refl _
  | m + 1, n => by
    unfold sml
    have := sml_length b m (n + 1)
    split
    · rw [List.length_cons]; omega
    · omega
theorem spec_SmoothUpTo_l0 (b : Int) (most : Nat) (hb : most ≤ 600) : ∀ (m n : Nat) (acc : List Int), m + n = most + 1 → acc.length + m ≤ 10000 → Evl (fun k => spec_SmoothUpTo.l0 k (most : Int) b acc (n : Int)) (acc ++ sml b m n, true) := by
  intro m
  induction m with
  | zero =>
    intro n acc h hl
    refine Evl.succ ?_
    have h1 : ¬ (n : Int) ≤ (most : Int) := by omega
    simp only [spec_SmoothUpTo.l0, if_neg h1]
    refine (Evl.ret _).cast ?_
    simp [sml]
  | succ m ih =>
    intro n acc h hl
    have h1 : (n : Int) ≤ (most : Int) := by omega
    have hw : wrap64 ((n : Int) + 1) = ((n + 1 : Nat) : Int) := by rw [w64 (by omega) (by omega)]; rfl
    refine Evl.succ ?_
    simp only [spec_SmoothUpTo.l0, if_pos h1, hw]
    refine Evl.bind (prSmooth_ev n b (by omega)) ?_
    unfold sml
    by_cases hp : smooth n b = true
    · have h2 : acc.length < 17592186044416 := by omega
      simp only [if_pos hp, if_pos h2]
      refine (ih (n + 1) (acc ++ [(n : Int)]) (by omega) (by rw [List.length_append]; simp; omega)).cast ?_
      simp
    · simp only [if_neg hp]
      exact ih (n + 1) acc (by omega) (by omega)
theorem spec_SmoothUpTo_no (a0 a1 : Int) : Evl (fun k => spec_SmoothUpTo.j0 k a0 a1 true) ([], false) := by
  refine Evl.succ ?_
  simp only [spec_SmoothUpTo.j0, if_true]
  exact Evl.ret _
theorem spec_SmoothUpTo_yes (n : Nat) (a1 : Int) (hn : n ≤ 600) : Evl (fun k => spec_SmoothUpTo.j0 k (n : Int) a1 false) (sml a1 n 1, true) := by
  refine Evl.succ ?_
  simp only [spec_SmoothUpTo.j0, Bool.false_eq_true, if_false]
  exact spec_SmoothUpTo_l0 a1 n hn n 1 [] rfl (by simp; omega)
theorem impl_SmoothUpTo_l0 (b : Int) (most : Nat) (hb : most ≤ 600) : ∀ (m n : Nat) (acc : List Int), m + n = most + 1 → acc.length + m ≤ 10000 → Evl (fun k => impl_SmoothUpTo.l0 k (most : Int) b acc (n : Int)) (acc ++ sml b m n, true) := by
  intro m
  induction m with
  | zero =>
    intro n acc h hl
    refine Evl.succ ?_
    have h1 : ¬ (n : Int) ≤ (most : Int) := by omega
    simp only [impl_SmoothUpTo.l0, if_neg h1]
    refine (Evl.ret _).cast ?_
    simp [sml]
  | succ m ih =>
    intro n acc h hl
    have h1 : (n : Int) ≤ (most : Int) := by omega
    have hw : wrap64 ((n : Int) + 1) = ((n + 1 : Nat) : Int) := by rw [w64 (by omega) (by omega)]; rfl
    refine Evl.succ ?_
    simp only [impl_SmoothUpTo.l0, if_pos h1, hw]
    refine Evl.bind (isSmooth_ev n b (by omega)) ?_
    unfold sml
    by_cases hp : smooth n b = true
    · have h2 : acc.length < 17592186044416 := by omega
      simp only [if_pos hp, if_pos h2]
      refine (ih (n + 1) (acc ++ [(n : Int)]) (by omega) (by rw [List.length_append]; simp; omega)).cast ?_
      simp
    · simp only [if_neg hp]
      exact ih (n + 1) acc (by omega) (by omega)
theorem impl_SmoothUpTo_no (a0 a1 : Int) : Evl (fun k => impl_SmoothUpTo.j0 k a0 a1 true) ([], false) := by
  refine Evl.succ ?_
  simp only [impl_SmoothUpTo.j0, if_true]
  exact Evl.ret _
theorem impl_SmoothUpTo_yes (n : Nat) (a1 : Int) (hn : n ≤ 600) : Evl (fun k => impl_SmoothUpTo.j0 k (n : Int) a1 false) (sml a1 n 1, true) := by
  refine Evl.succ ?_
  simp only [impl_SmoothUpTo.j0, Bool.false_eq_true, if_false]
  exact impl_SmoothUpTo_l0 a1 n hn n 1 [] rfl (by simp; omega)
theorem FnExactSmoothUpTo_main (a0 a1 : Int) (h0 : (Lit.int .i64 a0).wf = true) (h1 : (Lit.int .i64 a1).wf = true) :
    ∃ r b, Evl (fun k => spec_SmoothUpTo.f k a0 a1) (r, b) ∧ Evl (fun k => impl_SmoothUpTo.f k a0 a1) (r, b) ∧ r.length ≤ 1099511627776 := by
  by_cases g0 : 0 ≤ a0 ∧ a0 ≤ 600
  · by_cases g1 : 1 ≤ a1 ∧ a1 ≤ 600
    · obtain ⟨n, rfl⟩ := Int.eq_ofNat_of_zero_le g0.1
      refine ⟨sml a1 n 1, true, ?_, ?_, by have := sml_length a1 n 1; omega⟩
      · simp only [spec_SmoothUpTo.f, l1In_eq, decide_eq_true g0, decide_eq_true g1, Option.bind_some, if_true, Bool.not_true]
        exact spec_SmoothUpTo_yes n a1 (by omega)
      · have i1 : ¬ a1 < 1 := by omega
        simp only [impl_SmoothUpTo.f, isMost_eq, decide_eq_true g0, Option.bind_some, if_true, if_neg i1, decide_eq_false (show ¬ a1 > 600 by omega)]
        exact impl_SmoothUpTo_yes n a1 (by omega)
    · refine ⟨[], false, ?_, ?_, by simp⟩
      · simp only [spec_SmoothUpTo.f, l1In_eq, decide_eq_true g0, decide_eq_false g1, Option.bind_some, if_true, Bool.not_false]
        exact spec_SmoothUpTo_no a0 a1
      · by_cases i1 : a1 < 1
        · simp only [impl_SmoothUpTo.f, isMost_eq, decide_eq_true g0, Option.bind_some, if_true, if_pos i1]
          exact impl_SmoothUpTo_no a0 a1
        · simp only [impl_SmoothUpTo.f, isMost_eq, decide_eq_true g0, Option.bind_some, if_true, if_neg i1, decide_eq_true (show a1 > 600 by omega)]
          exact impl_SmoothUpTo_no a0 a1
  · refine ⟨[], false, ?_, ?_, by simp⟩
    · simp only [spec_SmoothUpTo.f, l1In_eq, decide_eq_false g0, Option.bind_some, Bool.false_eq_true, if_false]
      exact spec_SmoothUpTo_no a0 a1
    · simp only [impl_SmoothUpTo.f, isMost_eq, decide_eq_false g0, Option.bind_some, Bool.false_eq_true, if_false]
      exact impl_SmoothUpTo_no a0 a1

end Go.Proofs.Ytjonkpeoiecchaa.L

/-! ## X14 -/
namespace Go.Proofs.Ytjonkpeoiecchaa.L
open Go.RowKit Go.Proofs.YtjonkpeoiecchaaW.PrintWords Go.Proofs.Ytjonkpeoiecchaa.P Go.Proofs.Ytjonkpeoiecchaa.M
set_option linter.unusedVariables false
set_option linter.unusedSimpArgs false

theorem pl_mem : ∀ (m : Nat) (n x : Int), x ∈ pl m n → n ≤ x ∧ x < n + m ∧ isPI x = true
  | 0, n, x, h => absurd h (by simp [pl])
  | m + 1, n, x, h => by
    unfold pl at h
    by_cases c : isPI n = true
    · rw [if_pos c] at h
      rcases List.mem_cons.1 h with rfl | h
      · exact ⟨Int.le_refl _, by omega, c⟩
      · have := pl_mem m (n + 1) x h
        exact ⟨by omega, by omega, this.2.2⟩
    · rw [if_neg c] at h
      have := pl_mem m (n + 1) x h
      exact ⟨by omega, by omega, this.2.2⟩
theorem pl_zero (most : Nat) : pl (most + 1) 0 = pl (most - 1) 2 := by
  have h0 : ¬ isPI 0 = true := by rw [isPI_neg (by omega)]; simp
  have h1 : ¬ isPI (0 + 1) = true := by rw [isPI_neg (by omega)]; simp
  cases most with
  | zero => simp [pl, h0]
  | succ m =>
    rw [Nat.add_sub_cancel]
    conv => lhs; unfold pl; rw [if_neg h0]; unfold pl; rw [if_neg h1]
    rfl
theorem spec_TwinsUpTo_l0 (most : Nat) (hm : most ≤ 600) : ∀ (m : Nat) (n : Nat) (acc : List Int), n + m = most + 1 → acc.length ≤ n → Evl (fun k => spec_TwinsUpTo.l0 k (most : Int) acc (n : Int)) (acc ++ (pl m (n : Int)).filter (fun x => isPI (x + 2)), true) := by
  intro m
  induction m with
  | zero =>
    intro n acc h _
    refine Evl.succ ?_
    simp only [spec_TwinsUpTo.l0, if_neg (show ¬ (n : Int) ≤ (most : Int) by omega)]
    refine (Evl.ret _).cast ?_
    simp [pl]
  | succ m ih =>
    intro n acc h ha
    have hw : wrap64 ((n : Int) + 1) = ((n + 1 : Nat) : Int) := by rw [w64 (by omega) (by omega)]; rfl
    have hw2 : wrap64 ((n : Int) + 2) = (n : Int) + 2 := w64 (by omega) (by omega)
    have hnx : (n : Int) + 1 = ((n + 1 : Nat) : Int) := rfl
    refine Evl.succ ?_
    simp only [spec_TwinsUpTo.l0, if_pos (show (n : Int) ≤ (most : Int) by omega), if_pos (show acc.length < 17592186044416 by omega), hw, hw2]
    refine Evl.bind (spec_prIs_ev (n : Int) (by omega)) ?_
    unfold pl
    by_cases c : isPI (n : Int) = true
    · simp only [if_pos c]
      refine Evl.bind (spec_prIs_ev ((n : Int) + 2) (by omega)) ?_
      rw [List.filter_cons, hnx]
      by_cases d : isPI ((n : Int) + 2) = true
      · simp only [if_pos d]
        refine (ih (n + 1) (acc ++ [(n : Int)]) (by omega) (by rw [List.length_append, List.length_singleton]; omega)).cast ?_
        rw [List.append_assoc]
        rfl
      · simp only [if_neg d]
        exact ih (n + 1) acc (by omega) (by omega)
    · simp only [if_neg c]
      exact ih (n + 1) acc (by omega) (by omega)
theorem twins_flt : ∀ (l : List Int), (∀ x ∈ l, -1000 ≤ x ∧ x ≤ 1999999990) → Evl (fun k => impl_TwinsUpTo.flt k l) (l.filter fun x => isPI (x + 2))
  | [], _ => Evl.ret _
  | x :: s, h => by
    have hx := h x (List.mem_cons_self ..)
    have hw : wrap64 (x + 2) = x + 2 := w64 (by omega) (by omega)
    simp only [impl_TwinsUpTo.flt, hw]
    refine Evl.bind (impl_isPrime_ev (x + 2) (by omega)) ?_
    refine Evl.bind (twins_flt s fun y hy => h y (List.mem_cons_of_mem _ hy)) ?_
    rw [List.filter_cons]
    exact Evl.ret _
theorem FnExactTwinsUpTo_main (a0 : Int) (h0 : (Lit.int .i64 a0).wf = true) : ∃ r b, Evl (fun k => spec_TwinsUpTo.f k a0) (r, b) ∧ Evl (fun k => impl_TwinsUpTo.f k a0) (r, b) ∧ r.length ≤ 1099511627776 := by
  by_cases g : 0 ≤ a0 ∧ a0 ≤ 600
  · obtain ⟨n, rfl⟩ := Int.eq_ofNat_of_zero_le g.1
    have hlen : ((pl (n - 1) 2).filter fun x => isPI (x + 2)).length ≤ 1099511627776 := by
      have h1 := List.length_filter_le (fun x => isPI (x + 2)) (pl (n - 1) 2)
      have h2 := pl_length (n - 1) 2
      omega
    refine ⟨(pl (n - 1) 2).filter fun x => isPI (x + 2), true, ?_, ?_, hlen⟩
    · simp only [spec_TwinsUpTo.f, l1In_eq, decide_eq_true g, Option.bind_some, if_true]
      rcases Nat.lt_or_ge n 2 with c | c
      · refine Evl.succ ?_
        simp only [spec_TwinsUpTo.l0, if_neg (show ¬ (2 : Int) ≤ (n : Int) by omega)]
        rw [show n - 1 = 0 by omega]
        exact Evl.ret _
      · exact spec_TwinsUpTo_l0 n (by omega) (n - 1) 2 [] (by omega) (by simp)
    · simp only [impl_TwinsUpTo.f, isMost_eq, decide_eq_true g, Option.bind_some, if_true]
      refine Evl.bind (impl_primesBetween_ev 0 (n : Int) (by omega) (by omega)) ?_
      rw [show ((n : Int) + 1 - 0).toNat = n + 1 by omega, pl_zero]
      refine Evl.bind (twins_flt _ fun x hx => by have := pl_mem _ _ _ hx; omega) ?_
      exact Evl.ret _
  · refine ⟨[], false, ?_, ?_, by simp⟩
    · simp only [spec_TwinsUpTo.f, l1In_eq, decide_eq_false g, Option.bind_some, Bool.false_eq_true, if_false]
      exact Evl.ret _
    · simp only [impl_TwinsUpTo.f, isMost_eq, decide_eq_false g, Option.bind_some, Bool.false_eq_true, if_false]
      exact Evl.ret _
/-- The primes of a list whose squares are at most a number. -/
def crs (most : Int) (l : List Int) : List Int := l.filter fun x => decide (x * x ≤ most)
theorem crs_none (most : Nat) (m n : Nat) (h : most < n * n) : crs (most : Int) (pl m (n : Int)) = [] := by
  refine List.filter_eq_nil_iff.2 fun x hx => ?_
  have hm := pl_mem m _ x hx
  obtain ⟨y, rfl⟩ := Int.eq_ofNat_of_zero_le (show 0 ≤ x by omega)
  have hny : n ≤ y := by omega
  have := Nat.mul_le_mul hny hny
  rw [← Int.natCast_mul]
  simp only [decide_eq_true_eq]
  intro c
  have := Int.ofNat_le.1 c
  omega
theorem spec_CrossersUpTo_l0 (most : Nat) (hm : most ≤ 600) : ∀ (m n : Nat) (acc : List Int), n + m = most + 1 → 1 ≤ n → acc.length ≤ n → Evl (fun k => spec_CrossersUpTo.l0 k (most : Int) acc (n : Int)) (acc ++ crs (most : Int) (pl m (n : Int)), true) := by
  intro m
  induction m with
  | zero =>
    intro n acc h h1 ha
    have hsq : n ≤ n * n := Nat.le_mul_of_pos_right _ (by omega)
    have hn : n = most + 1 := by omega
    have hsq2 : n * n ≤ 601 * 601 := Nat.mul_le_mul (by omega) (by omega)
    have hw : wrap64 ((n : Int) * (n : Int)) = ((n * n : Nat) : Int) := by rw [← Int.natCast_mul]; exact w64 (by omega) (by omega)
    refine Evl.succ ?_
    simp only [spec_CrossersUpTo.l0, hw, if_neg (show ¬ ((n * n : Nat) : Int) ≤ (most : Int) by omega)]
    refine (Evl.ret _).cast ?_
    simp [pl, crs]
  | succ m ih =>
    intro n acc h h1 ha
    have hsq2 : n * n ≤ 601 * 601 := Nat.mul_le_mul (by omega) (by omega)
    have hw : wrap64 ((n : Int) * (n : Int)) = ((n * n : Nat) : Int) := by rw [← Int.natCast_mul]; exact w64 (by omega) (by omega)
    have hw1 : wrap64 ((n : Int) + 1) = ((n + 1 : Nat) : Int) := by rw [w64 (by omega) (by omega)]; rfl
    have hnx : (n : Int) + 1 = ((n + 1 : Nat) : Int) := rfl
    refine Evl.succ ?_
    by_cases c : n * n ≤ most
    · simp only [spec_CrossersUpTo.l0, hw, if_pos (show ((n * n : Nat) : Int) ≤ (most : Int) by omega), if_pos (show acc.length < 17592186044416 by omega), hw1]
      refine Evl.bind (spec_prIs_ev (n : Int) (by omega)) ?_
      unfold pl
      by_cases d : isPI (n : Int) = true
      · simp only [if_pos d]
        refine (ih (n + 1) (acc ++ [(n : Int)]) (by omega) (by omega) (by rw [List.length_append, List.length_singleton]; omega)).cast ?_
        have e : crs (most : Int) ((n : Int) :: pl m ((n : Int) + 1)) = (n : Int) :: crs (most : Int) (pl m ((n : Int) + 1)) := by
          unfold crs
          rw [List.filter_cons, if_pos (decide_eq_true (by rw [← Int.natCast_mul]; omega))]
        rw [e, List.append_assoc, hnx]
        rfl
      · simp only [if_neg d]
        rw [hnx]
        exact ih (n + 1) acc (by omega) (by omega) (by omega)
    · simp only [spec_CrossersUpTo.l0, hw, if_neg (show ¬ ((n * n : Nat) : Int) ≤ (most : Int) by omega)]
      rw [crs_none most (m + 1) n (by omega), List.append_nil]
      exact Evl.ret _
theorem FnExactCrossersUpTo_main (a0 : Int) (h0 : (Lit.int .i64 a0).wf = true) : ∃ r b, Evl (fun k => spec_CrossersUpTo.f k a0) (r, b) ∧ Evl (fun k => impl_CrossersUpTo.f k a0) (r, b) ∧ r.length ≤ 1099511627776 := by
  by_cases g : 0 ≤ a0 ∧ a0 ≤ 600
  · obtain ⟨n, rfl⟩ := Int.eq_ofNat_of_zero_le g.1
    have hlen : (crs (n : Int) (pl (n - 1) 2)).length ≤ 1099511627776 := by
      have h1 : (crs (n : Int) (pl (n - 1) 2)).length ≤ (pl (n - 1) 2).length := List.length_filter_le _ _
      have h2 := pl_length (n - 1) 2
      omega
    refine ⟨crs (n : Int) (pl (n - 1) 2), true, ?_, ?_, hlen⟩
    · simp only [spec_CrossersUpTo.f, l1In_eq, decide_eq_true g, Option.bind_some, if_true]
      rcases Nat.lt_or_ge n 2 with c | c
      · refine Evl.succ ?_
        have hw : wrap64 (2 * 2) = 4 := by rw [w64 (by omega) (by omega)]; rfl
        simp only [spec_CrossersUpTo.l0, hw, if_neg (show ¬ (4 : Int) ≤ (n : Int) by omega)]
        rw [show n - 1 = 0 by omega]
        exact Evl.ret _
      · exact spec_CrossersUpTo_l0 n (by omega) (n - 1) 2 [] (by omega) (by omega) (by simp)
    · simp only [impl_CrossersUpTo.f, isMost_eq, decide_eq_true g, Option.bind_some, if_true]
      refine Evl.bind (impl_primesBetween_ev 0 (n : Int) (by omega) (by omega)) ?_
      rw [show ((n : Int) + 1 - 0).toNat = n + 1 by omega, pl_zero]
      refine (Evl.ret _).cast ?_
      congr 1
      refine List.filter_congr fun x hx => ?_
      have hm := pl_mem _ _ _ hx
      have hsq : x * x ≤ 700 * 700 := Int.mul_le_mul (by omega) (by omega) (by omega) (by omega)
      have hsq0 : 0 ≤ x * x := Int.mul_nonneg (by omega) (by omega)
      unfold impl_CrossersUpTo.p
      rw [w64 (by omega) (by omega)]
      by_cases c : x * x ≤ (n : Int)
      · rw [decide_eq_true c, decide_eq_false (by omega)]; rfl
      · rw [decide_eq_false c, decide_eq_true (by omega)]; rfl
  · refine ⟨[], false, ?_, ?_, by simp⟩
    · simp only [spec_CrossersUpTo.f, l1In_eq, decide_eq_false g, Option.bind_some, Bool.false_eq_true, if_false]
      exact Evl.ret _
    · simp only [impl_CrossersUpTo.f, isMost_eq, decide_eq_false g, Option.bind_some, Bool.false_eq_true, if_false]
      exact Evl.ret _

end Go.Proofs.Ytjonkpeoiecchaa.L

/-! ## X16 -/
namespace Go.Proofs.Ytjonkpeoiecchaa.L
open Go.RowKit Go.Proofs.YtjonkpeoiecchaaW.PrintWords Go.Proofs.Ytjonkpeoiecchaa.P Go.Proofs.Ytjonkpeoiecchaa.M
set_option linter.unusedVariables false
set_option linter.unusedSimpArgs false

theorem pl_mem2 : ∀ (m : Nat) (n x : Int), n ≤ x → x < n + m → isPI x = true → x ∈ pl m n
  | 0, n, x, h1, h2, _ => by omega
  | m + 1, n, x, h1, h2, h3 => by
    unfold pl
    by_cases e : x = n
    · subst e
      rw [if_pos h3]
      exact List.mem_cons_self ..
    · have := pl_mem2 m (n + 1) x (by omega) (by omega) h3
      split
      · exact List.mem_cons_of_mem _ this
      · exact this
theorem pl_sorted : ∀ (m : Nat) (n : Int), (pl m n).Pairwise (· < ·)
  | 0, _ => List.Pairwise.nil
  | m + 1, n => by
    unfold pl
    have ih := pl_sorted m (n + 1)
    split
    · refine List.Pairwise.cons (fun x hx => ?_) ih
      have := pl_mem m (n + 1) x hx
      omega
    · exact ih
theorem pl_append : ∀ (m k : Nat) (n : Int), pl (m + k) n = pl m n ++ pl k (n + m)
  | 0, k, n => by simp [pl]
  | m + 1, k, n => by
    have ih := pl_append m k (n + 1)
    rw [show m + 1 + k = (m + k) + 1 by omega]
    simp only [pl]
    rw [ih, show n + 1 + (m : Int) = n + ((m + 1 : Nat) : Int) by omega]
    split <;> rfl
/-- The primes up to half of n that with another prime make n. -/
def pr (n : Nat) : List Int := (pl (n / 2 - 1) 2).filter fun p => isPI ((n : Int) - p)
theorem pr_mem {n : Nat} {x : Int} : x ∈ pr n ↔ 2 ≤ x ∧ 2 * x ≤ n ∧ isPI x = true ∧ isPI ((n : Int) - x) = true := by
  unfold pr
  rw [List.mem_filter]
  constructor
  · rintro ⟨h1, h2⟩
    have := pl_mem _ _ _ h1
    exact ⟨this.1, by omega, this.2.2, h2⟩
  · rintro ⟨h1, h2, h3, h4⟩
    exact ⟨pl_mem2 _ _ _ h1 (by omega) h3, h4⟩
theorem pr_sorted (n : Nat) : (pr n).Pairwise (· < ·) := (pl_sorted _ _).sublist List.filter_sublist
theorem isPI_two {x : Int} (h : isPI x = true) : 2 ≤ x := by
  rcases Int.lt_or_le x 2 with c | c
  · rw [isPI_neg c] at h; cases h
  · exact c
/-- Even numbers: there is one. -/
theorem pr_even {n : Nat} (h4 : 4 ≤ n) (hb : n ≤ 10000) (he : n % 2 = 0) : pr n ≠ [] := by
  obtain ⟨p, h1, h2, h3⟩ := goldbach h4 hb he
  have hp2 := isP_two h1
  have : (p : Int) ∈ pr n := pr_mem.2 ⟨by omega, by omega, by rw [isPI_nat]; exact h1, by
    rw [show (n : Int) - (p : Int) = ((n - p : Nat) : Int) by omega, isPI_nat]; exact h3⟩
  intro c
  rw [c] at this
  cases this
/-- Odd numbers: none but 2. -/
theorem pr_odd {n : Nat} (h4 : 4 ≤ n) (ho : n % 2 = 1) : ∀ x ∈ pr n, x = 2 := by
  intro x hx
  obtain ⟨h1, h2, h3, h4'⟩ := pr_mem.1 hx
  obtain ⟨p, rfl⟩ := Int.eq_ofNat_of_zero_le (show 0 ≤ x by omega)
  rw [isPI_nat] at h3
  rw [show (n : Int) - (p : Int) = ((n - p : Nat) : Int) by omega, isPI_nat] at h4'
  rcases Nat.lt_or_ge 2 p with c | c
  · exfalso
    have e1 := isP_no h3 (d := 2) (by omega) c
    rcases Nat.lt_or_ge 2 (n - p) with c2 | c2
    · have e2 := isP_no h4' (d := 2) (by omega) c2
      omega
    · omega
  · omega
theorem pr_one {n : Nat} (h4 : 4 ≤ n) (ho : n % 2 = 1) (hne : pr n ≠ []) : pr n = [2] := by
  have hs := pr_sorted n
  have ho := pr_odd h4 ho
  cases h : pr n with
  | nil => exact absurd h hne
  | cons p s =>
    rw [h] at hs ho
    obtain rfl := ho p (List.mem_cons_self ..)
    cases s with
    | nil => rfl
    | cons q t =>
      have e := ho q (by simp)
      have := (List.pairwise_cons.1 hs).1 q (List.mem_cons_self ..)
      omega
/-- The first pair. -/
def fst2 (n : Int) : List Int → Int × Int × Bool
  | [] => (0, 0, false)
  | p :: _ => (p, n - p, true)
theorem fst2_all {n : Nat} (h4 : 4 ≤ n) : fst2 n ((pl (n - 1) 2).filter fun p => isPI ((n : Int) - p)) = fst2 n (pr n) := by
  have e : n - 1 = (n / 2 - 1) + (n - n / 2) := by omega
  rw [e, pl_append, List.filter_append]
  have hpr : ((pl (n / 2 - 1) 2).filter fun p => isPI ((n : Int) - p)) = pr n := rfl
  rw [hpr]
  cases h : pr n with
  | cons p s => rfl
  | nil =>
    have : ((pl (n - n / 2) (2 + ((n / 2 - 1 : Nat) : Int))).filter fun p => isPI ((n : Int) - p)) = [] := by
      refine List.filter_eq_nil_iff.2 fun x hx c => ?_
      have hm := pl_mem _ _ _ hx
      have h2 := isPI_two c
      have hq : (n : Int) - x ∈ pr n := pr_mem.2 ⟨h2, by omega, c, by rw [show (n : Int) - ((n : Int) - x) = x by omega]; exact hm.2.2⟩
      rw [h] at hq
      cases hq
    rw [this]
    rfl
theorem prPairs_l0 (n : Nat) (hn : n ≤ 10000) : ∀ (m p : Nat) (acc : List Int), m + p = n / 2 + 1 → acc.length ≤ p → Evl (fun k => spec_prPairs.l0 k (n : Int) acc (p : Int)) (acc ++ (pl m (p : Int)).filter fun q => isPI ((n : Int) - q)) := by
  intro m
  induction m with
  | zero =>
    intro p acc h _
    have hw : wrap64 (2 * (p : Int)) = 2 * (p : Int) := w64 (by omega) (by omega)
    refine Evl.succ ?_
    simp only [spec_prPairs.l0, hw, if_neg (show ¬ 2 * (p : Int) ≤ (n : Int) by omega)]
    refine (Evl.ret _).cast ?_
    simp [pl]
  | succ m ih =>
    intro p acc h ha
    have hw : wrap64 (2 * (p : Int)) = 2 * (p : Int) := w64 (by omega) (by omega)
    have hw1 : wrap64 ((p : Int) + 1) = ((p + 1 : Nat) : Int) := by rw [w64 (by omega) (by omega)]; rfl
    have hw2 : wrap64 ((n : Int) - (p : Int)) = (n : Int) - (p : Int) := w64 (by omega) (by omega)
    have hnx : (p : Int) + 1 = ((p + 1 : Nat) : Int) := rfl
    refine Evl.succ ?_
    simp only [spec_prPairs.l0, hw, if_pos (show 2 * (p : Int) ≤ (n : Int) by omega), hw1, hw2, if_pos (show acc.length < 17592186044416 by omega)]
    refine Evl.bind (spec_prIs_ev (p : Int) (by omega)) ?_
    unfold pl
    by_cases c : isPI (p : Int) = true
    · simp only [if_pos c]
      refine Evl.bind (spec_prIs_ev ((n : Int) - (p : Int)) (by omega)) ?_
      rw [List.filter_cons, hnx]
      by_cases d : isPI ((n : Int) - (p : Int)) = true
      · simp only [if_pos d]
        refine (ih (p + 1) (acc ++ [(p : Int)]) (by omega) (by rw [List.length_append, List.length_singleton]; omega)).cast ?_
        rw [List.append_assoc]
        rfl
      · simp only [if_neg d]
        exact ih (p + 1) acc (by omega) (by omega)
    · simp only [if_neg c]
      rw [hnx]
      exact ih (p + 1) acc (by omega) (by omega)
theorem prPairs_ev (n : Nat) (h4 : 4 ≤ n) (hn : n ≤ 10000) : Evl (fun k => spec_prPairs.f k (n : Int)) (pr n) := by
  simp only [spec_prPairs.f]
  exact prPairs_l0 n hn (n / 2 - 1) 2 [] (by omega) (by simp)
theorem FirstTwo_l0 (n : Int) (hn : 0 ≤ n ∧ n ≤ 10000) (xs : List Int) (hl : xs.length ≤ 100000) (hx : ∀ x ∈ xs, 0 ≤ x ∧ x ≤ 100000) : ∀ (s : List Int) (i : Nat), xs.drop i = s → Evl (fun k => impl_FirstTwoPrimes.l0 k n xs (xs.length : Int) (i : Int)) (fst2 n (s.filter fun q => isPI (n - q))) := by
  intro s
  induction s with
  | nil =>
    intro i h
    have hi := drop_nil h
    refine Evl.succ ?_
    simp only [impl_FirstTwoPrimes.l0, if_neg (show ¬ (i : Int) < (xs.length : Int) by omega)]
    exact Evl.ret _
  | cons y s ih =>
    intro i h
    obtain ⟨hi, hy, hs⟩ := drop_cons h
    have hyr := hx y (List.mem_of_getElem? hy)
    have hw : wrap64 ((i : Int) + 1) = ((i + 1 : Nat) : Int) := by rw [w64 (by omega) (by omega)]; rfl
    have hw2 : wrap64 (n - y) = n - y := w64 (by omega) (by omega)
    refine Evl.succ ?_
    simp only [impl_FirstTwoPrimes.l0, if_pos (show (i : Int) < (xs.length : Int) by omega), if_pos (show (0 : Int) ≤ (i : Int) by omega), rd_of hy, hw, hw2]
    refine Evl.bind (impl_isPrime_ev (n - y) (by omega)) ?_
    rw [List.filter_cons]
    by_cases c : isPI (n - y) = true
    · simp only [if_pos c]
      exact Evl.ret _
    · simp only [if_neg c]
      exact ih (i + 1) hs
theorem CountTwo_l0 (n : Int) (hn : 0 ≤ n ∧ n ≤ 10000) (xs : List Int) (hl : xs.length ≤ 100000) (hx : ∀ x ∈ xs, 0 ≤ x ∧ x ≤ 100000) : ∀ (s : List Int) (i c : Nat), xs.drop i = s → c + s.length ≤ 100000 → Evl (fun k => impl_CountTwoPrimes.l0 k n (c : Int) xs (xs.length : Int) (i : Int)) (((c + (s.filter fun q => isPI (n - q)).length : Nat) : Int), true) := by
  intro s
  induction s with
  | nil =>
    intro i c h _
    have hi := drop_nil h
    refine Evl.succ ?_
    simp only [impl_CountTwoPrimes.l0, if_neg (show ¬ (i : Int) < (xs.length : Int) by omega)]
    exact Evl.ret _
  | cons y s ih =>
    intro i c h hc
    obtain ⟨hi, hy, hs⟩ := drop_cons h
    rw [List.length_cons] at hc
    have hyr := hx y (List.mem_of_getElem? hy)
    have hw : wrap64 ((i : Int) + 1) = ((i + 1 : Nat) : Int) := by rw [w64 (by omega) (by omega)]; rfl
    have hwc : wrap64 ((c : Int) + 1) = ((c + 1 : Nat) : Int) := by rw [w64 (by omega) (by omega)]; rfl
    have hw2 : wrap64 (n - y) = n - y := w64 (by omega) (by omega)
    refine Evl.succ ?_
    simp only [impl_CountTwoPrimes.l0, if_pos (show (i : Int) < (xs.length : Int) by omega), if_pos (show (0 : Int) ≤ (i : Int) by omega), rd_of hy, hw, hw2, hwc]
    refine Evl.bind (impl_isPrime_ev (n - y) (by omega)) ?_
    rw [List.filter_cons]
    by_cases d : isPI (n - y) = true
    · simp only [if_pos d]
      refine (ih (i + 1) (c + 1) hs (by omega)).cast ?_
      rw [List.length_cons]
      congr 2
      omega
    · simp only [if_neg d]
      exact ih (i + 1) c hs (by omega)
/-- What both tell of a number's sums. -/
def fstA (a : Int) : Int × Int × Bool := if 4 ≤ a ∧ a ≤ 10000 then fst2 a (pr a.toNat) else (0, 0, false)
def cntA (a : Int) : Int × Bool := if 4 ≤ a ∧ a ≤ 10000 then (((pr a.toNat).length : Int), true) else (0, false)
theorem impl_First_ev (a : Int) : Evl (fun k => impl_FirstTwoPrimes.f k a) (fstA a) := by
  have no : Evl (fun k => impl_FirstTwoPrimes.j0 k a true) (0, 0, false) := by
    refine Evl.succ ?_
    simp only [impl_FirstTwoPrimes.j0, if_true]
    exact Evl.ret _
  unfold fstA
  by_cases g : 4 ≤ a ∧ a ≤ 10000
  · rw [if_pos g]
    obtain ⟨n, rfl⟩ := Int.eq_ofNat_of_zero_le (show 0 ≤ a by omega)
    simp only [impl_FirstTwoPrimes.f, if_neg (show ¬ (n : Int) < 4 by omega), decide_eq_false (show ¬ (n : Int) > 10000 by omega)]
    refine Evl.succ ?_
    simp only [impl_FirstTwoPrimes.j0, Bool.false_eq_true, if_false]
    refine Evl.bind (impl_primesBetween_ev 0 (n : Int) (by omega) (by omega)) ?_
    rw [show ((n : Int) + 1 - 0).toNat = n + 1 by omega, pl_zero, Int.toNat_natCast, ← fst2_all (by omega)]
    have hl := pl_length (n - 1) 2
    exact FirstTwo_l0 (n : Int) (by omega) _ (by omega) (fun x hx => by have := pl_mem _ _ _ hx; omega) _ 0 rfl
  · rw [if_neg g]
    simp only [impl_FirstTwoPrimes.f]
    by_cases c : a < 4
    · simp only [if_pos c]
      exact no
    · simp only [if_neg c, decide_eq_true (show a > 10000 by omega)]
      exact no
theorem spec_First_ev (a : Int) : Evl (fun k => spec_FirstTwoPrimes.f k a) (fstA a) := by
  simp only [spec_FirstTwoPrimes.f, l1In_eq, Option.bind_some]
  unfold fstA
  by_cases g : 4 ≤ a ∧ a ≤ 10000
  · rw [if_pos g]
    obtain ⟨n, rfl⟩ := Int.eq_ofNat_of_zero_le (show 0 ≤ a by omega)
    have hw : ∀ p ∈ pr n, wrap64 ((n : Int) - p) = (n : Int) - p := fun p hp => by have := pr_mem.1 hp; exact w64 (by omega) (by omega)
    simp only [decide_eq_true g, if_true]
    refine Evl.bind (prPairs_ev n (by omega) (by omega)) ?_
    rw [Int.toNat_natCast]
    cases h : pr n with
    | nil =>
      simp only [List.length_nil, if_pos (show ((0 : Nat) : Int) = 0 from rfl)]
      exact Evl.ret _
    | cons p s =>
      have e : rd (p :: s) 0 = p := rfl
      rw [h] at hw
      have hl : (((p :: s).length : Nat) : Int) = (s.length : Int) + 1 := by rw [List.length_cons]; rfl
      simp only [hl, if_neg (show ¬ (s.length : Int) + 1 = 0 by omega), if_pos (show (0 : Int) < (s.length : Int) + 1 by omega), e, hw p (List.mem_cons_self ..)]
      exact Evl.ret _
  · rw [if_neg g]
    simp only [decide_eq_false g, Bool.false_eq_true, if_false]
    exact Evl.ret _
theorem impl_Count_ev (a : Int) : Evl (fun k => impl_CountTwoPrimes.f k a) (cntA a) := by
  have no : Evl (fun k => impl_CountTwoPrimes.j0 k a true) (0, false) := by
    refine Evl.succ ?_
    simp only [impl_CountTwoPrimes.j0, if_true]
    exact Evl.ret _
  unfold cntA
  by_cases g : 4 ≤ a ∧ a ≤ 10000
  · rw [if_pos g]
    obtain ⟨n, rfl⟩ := Int.eq_ofNat_of_zero_le (show 0 ≤ a by omega)
    have hd : Int.tdiv (n : Int) 2 = ((n / 2 : Nat) : Int) := rfl
    simp only [impl_CountTwoPrimes.f, if_neg (show ¬ (n : Int) < 4 by omega), decide_eq_false (show ¬ (n : Int) > 10000 by omega)]
    refine Evl.succ ?_
    simp only [impl_CountTwoPrimes.j0, Bool.false_eq_true, if_false, hd]
    have hh : n / 2 ≤ 5000 := by omega
    have hpr : pr n = (pl (n / 2 - 1) 2).filter fun p => isPI ((n : Int) - p) := rfl
    rw [Int.toNat_natCast, hpr]
    generalize n / 2 = h at hh ⊢
    rw [w64 (by omega) (by omega)]
    refine Evl.bind (impl_primesBetween_ev 0 (h : Int) (by omega) (by omega)) ?_
    rw [show ((h : Int) + 1 - 0).toNat = h + 1 by omega, pl_zero]
    have hl := pl_length (h - 1) 2
    refine (CountTwo_l0 (n : Int) (by omega) (pl (h - 1) 2) (by omega) (fun x hx => by have := pl_mem _ _ _ hx; omega) (pl (h - 1) 2) 0 0 rfl (by omega)).cast ?_
    rw [Nat.zero_add]
  · rw [if_neg g]
    simp only [impl_CountTwoPrimes.f]
    by_cases c : a < 4
    · simp only [if_pos c]
      exact no
    · simp only [if_neg c, decide_eq_true (show a > 10000 by omega)]
      exact no
theorem spec_Count_ev (a : Int) : Evl (fun k => spec_CountTwoPrimes.f k a) (cntA a) := by
  simp only [spec_CountTwoPrimes.f, l1In_eq, Option.bind_some]
  unfold cntA
  by_cases g : 4 ≤ a ∧ a ≤ 10000
  · rw [if_pos g]
    obtain ⟨n, rfl⟩ := Int.eq_ofNat_of_zero_le (show 0 ≤ a by omega)
    simp only [decide_eq_true g, if_true]
    refine Evl.bind (prPairs_ev n (by omega) (by omega)) ?_
    rw [Int.toNat_natCast]
    exact Evl.ret _
  · rw [if_neg g]
    simp only [decide_eq_false g, Bool.false_eq_true, if_false]
    exact Evl.ret _
theorem IsPrime_ev (a : Int) (h0 : 0 ≤ a) (hb : a ≤ 1000000000) : Evl (fun k => impl_IsPrime.f k a) (isPI a, true) := by
  simp only [impl_IsPrime.f, if_neg (show ¬ a < 0 by omega), if_neg (show ¬ a > 1000000000 by omega)]
  exact Evl.bind (impl_isPrime_ev a (by omega)) (Evl.ret _)
theorem IsSmooth_ev (n : Nat) (b : Int) (hn : 1 ≤ n) (hb : n ≤ 1000000000) (h1 : 1 ≤ b) : Evl (fun k => impl_IsSmooth.f k (n : Int) b) (smooth n b, true) := by
  simp only [impl_IsSmooth.f, isFactored_eq, decide_eq_true (show 1 ≤ (n : Int) ∧ (n : Int) ≤ 1000000000 by omega), Option.bind_some, if_true, if_neg (show ¬ b < 1 by omega)]
  exact Evl.bind (isSmooth_ev n b (by omega)) (Evl.ret _)
theorem gSame_l0 (a : List Int) (hl : a.length ≤ 1099511627776) : ∀ (s : List Int) (i : Nat), a.drop i = s → Evl (fun k => laws_gSame.l0 k a a (a.length : Int) (i : Int)) true := by
  intro s
  induction s with
  | nil =>
    intro i h
    have hi := drop_nil h
    refine Evl.succ ?_
    simp only [laws_gSame.l0, if_neg (show ¬ (i : Int) < (a.length : Int) by omega)]
    exact Evl.ret _
  | cons x s ih =>
    intro i h
    obtain ⟨hi, hx, hs⟩ := drop_cons h
    have hw : wrap64 ((i : Int) + 1) = ((i + 1 : Nat) : Int) := by rw [w64 (by omega) (by omega)]; rfl
    refine Evl.succ ?_
    simp only [laws_gSame.l0, if_pos (show (i : Int) < (a.length : Int) by omega), if_pos (show (0 : Int) ≤ (i : Int) by omega), if_true, hw]
    exact ih (i + 1) hs
theorem gSame_self (a : List Int) (hl : a.length ≤ 1099511627776) : Evl (fun k => laws_gSame.f k a a) true := by
  simp only [laws_gSame.f, if_true]
  exact gSame_l0 a hl a 0 rfl
theorem gHas_l0 (l : List Int) (hl : l.length ≤ 1099511627776) (x : Int) : ∀ (s : List Int) (i : Nat), l.drop i = s → Evl (fun k => laws_gHas.l0 k x l (l.length : Int) (i : Int)) (decide (x ∈ s)) := by
  intro s
  induction s with
  | nil =>
    intro i h
    have hi := drop_nil h
    refine Evl.succ ?_
    simp only [laws_gHas.l0, if_neg (show ¬ (i : Int) < (l.length : Int) by omega)]
    refine (Evl.ret _).cast ?_
    simp
  | cons y s ih =>
    intro i h
    obtain ⟨hi, hx, hs⟩ := drop_cons h
    have hw : wrap64 ((i : Int) + 1) = ((i + 1 : Nat) : Int) := by rw [w64 (by omega) (by omega)]; rfl
    refine Evl.succ ?_
    simp only [laws_gHas.l0, if_pos (show (i : Int) < (l.length : Int) by omega), if_pos (show (0 : Int) ≤ (i : Int) by omega), rd_of hx, hw]
    by_cases e : y = x
    · simp only [if_pos e]
      refine (Evl.ret _).cast ?_
      rw [e]
      simp
    · simp only [if_neg e]
      refine (ih (i + 1) hs).cast ?_
      have : (x ∈ y :: s) ↔ x ∈ s := by rw [List.mem_cons]; exact ⟨fun h => h.resolve_left fun c => e c.symm, .inr⟩
      exact decide_eq_decide.2 this.symm
theorem gHas_ev (l : List Int) (hl : l.length ≤ 1099511627776) (x : Int) : Evl (fun k => laws_gHas.f k l x) (decide (x ∈ l)) := by
  simp only [laws_gHas.f]
  exact gHas_l0 l hl x l 0 rfl
/-! ### twins, crossers, smooth numbers, as both tell them -/
def twinA (a : Int) : List Int × Bool := if 0 ≤ a ∧ a ≤ 600 then ((pl (a.toNat - 1) 2).filter fun x => isPI (x + 2), true) else ([], false)
def crsA (a : Int) : List Int × Bool := if 0 ≤ a ∧ a ≤ 600 then (crs a (pl (a.toNat - 1) 2), true) else ([], false)
def smA (a b : Int) : List Int × Bool := if (0 ≤ a ∧ a ≤ 600) ∧ 1 ≤ b ∧ b ≤ 600 then (sml b a.toNat 1, true) else ([], false)
theorem evl_uniq {α : Type} {g : Nat → Option α} {a b : α} (h : Evl g a) (h' : Evl g b) : a = b := by
  obtain ⟨K, hK⟩ := h
  obtain ⟨K2, hK2⟩ := h'
  have h1 := hK (max K K2) (Nat.le_max_left _ _)
  have h2 := hK2 (max K K2) (Nat.le_max_right _ _)
  rw [h1] at h2
  injection h2
theorem impl_twin_ev (a : Int) : Evl (fun k => impl_TwinsUpTo.f k a) (twinA a) := by
  unfold twinA
  by_cases g : 0 ≤ a ∧ a ≤ 600
  · rw [if_pos g]
    obtain ⟨n, rfl⟩ := Int.eq_ofNat_of_zero_le g.1
    simp only [impl_TwinsUpTo.f, isMost_eq, decide_eq_true g, Option.bind_some, if_true]
    refine Evl.bind (impl_primesBetween_ev 0 (n : Int) (by omega) (by omega)) ?_
    rw [show ((n : Int) + 1 - 0).toNat = n + 1 by omega, pl_zero, Int.toNat_natCast]
    refine Evl.bind (twins_flt _ fun x hx => by have := pl_mem _ _ _ hx; omega) ?_
    exact Evl.ret _
  · rw [if_neg g]
    simp only [impl_TwinsUpTo.f, isMost_eq, decide_eq_false g, Option.bind_some, Bool.false_eq_true, if_false]
    exact Evl.ret _
theorem spec_twin_ev (a : Int) (h : (Lit.int .i64 a).wf = true) : Evl (fun k => spec_TwinsUpTo.f k a) (twinA a) := by
  obtain ⟨r, b, h1, h2, _⟩ := FnExactTwinsUpTo_main a h
  rw [evl_uniq (impl_twin_ev a) h2]
  exact h1
theorem impl_crs_ev (a : Int) : Evl (fun k => impl_CrossersUpTo.f k a) (crsA a) := by
  unfold crsA
  by_cases g : 0 ≤ a ∧ a ≤ 600
  · rw [if_pos g]
    obtain ⟨n, rfl⟩ := Int.eq_ofNat_of_zero_le g.1
    simp only [impl_CrossersUpTo.f, isMost_eq, decide_eq_true g, Option.bind_some, if_true]
    refine Evl.bind (impl_primesBetween_ev 0 (n : Int) (by omega) (by omega)) ?_
    rw [show ((n : Int) + 1 - 0).toNat = n + 1 by omega, pl_zero, Int.toNat_natCast]
    refine (Evl.ret _).cast ?_
    congr 1
    refine List.filter_congr fun x hx => ?_
    have hm := pl_mem _ _ _ hx
    have hsq : x * x ≤ 700 * 700 := Int.mul_le_mul (by omega) (by omega) (by omega) (by omega)
    have hsq0 : 0 ≤ x * x := Int.mul_nonneg (by omega) (by omega)
    unfold impl_CrossersUpTo.p
    rw [w64 (by omega) (by omega)]
    by_cases c : x * x ≤ (n : Int)
    · rw [decide_eq_true c, decide_eq_false (by omega)]; rfl
    · rw [decide_eq_false c, decide_eq_true (by omega)]; rfl
  · rw [if_neg g]
    simp only [impl_CrossersUpTo.f, isMost_eq, decide_eq_false g, Option.bind_some, Bool.false_eq_true, if_false]
    exact Evl.ret _
theorem spec_crs_ev (a : Int) (h : (Lit.int .i64 a).wf = true) : Evl (fun k => spec_CrossersUpTo.f k a) (crsA a) := by
  obtain ⟨r, b, h1, h2, _⟩ := FnExactCrossersUpTo_main a h
  rw [evl_uniq (impl_crs_ev a) h2]
  exact h1
theorem impl_sm_ev (a b : Int) : Evl (fun k => impl_SmoothUpTo.f k a b) (smA a b) := by
  unfold smA
  by_cases g0 : 0 ≤ a ∧ a ≤ 600
  · by_cases g1 : 1 ≤ b ∧ b ≤ 600
    · rw [if_pos ⟨g0, g1⟩]
      obtain ⟨n, rfl⟩ := Int.eq_ofNat_of_zero_le g0.1
      rw [Int.toNat_natCast]
      simp only [impl_SmoothUpTo.f, isMost_eq, decide_eq_true g0, Option.bind_some, if_true, if_neg (show ¬ b < 1 by omega), decide_eq_false (show ¬ b > 600 by omega)]
      exact impl_SmoothUpTo_yes n b (by omega)
    · rw [if_neg fun c => g1 c.2]
      by_cases i1 : b < 1
      · simp only [impl_SmoothUpTo.f, isMost_eq, decide_eq_true g0, Option.bind_some, if_true, if_pos i1]
        exact impl_SmoothUpTo_no a b
      · simp only [impl_SmoothUpTo.f, isMost_eq, decide_eq_true g0, Option.bind_some, if_true, if_neg i1, decide_eq_true (show b > 600 by omega)]
        exact impl_SmoothUpTo_no a b
  · rw [if_neg fun c => g0 c.1]
    simp only [impl_SmoothUpTo.f, isMost_eq, decide_eq_false g0, Option.bind_some, Bool.false_eq_true, if_false]
    exact impl_SmoothUpTo_no a b
theorem spec_sm_ev (a b : Int) (h : (Lit.int .i64 a).wf = true) (h' : (Lit.int .i64 b).wf = true) : Evl (fun k => spec_SmoothUpTo.f k a b) (smA a b) := by
  obtain ⟨r, q, h1, h2, _⟩ := FnExactSmoothUpTo_main a b h h'
  rw [evl_uniq (impl_sm_ev a b) h2]
  exact h1
theorem sml_mem (b : Int) : ∀ (m n : Nat) (k : Nat), (k : Int) ∈ sml b m n ↔ n ≤ k ∧ k < n + m ∧ smooth k b = true
  | 0, n, k => by
    unfold sml
    exact ⟨fun h => absurd h (by simp), fun h => by omega⟩
  | m + 1, n, k => by
    unfold sml
    have ih := sml_mem b m (n + 1) k
    by_cases c : smooth n b = true
    · rw [if_pos c, List.mem_cons, ih]
      constructor
      · rintro (h | ⟨h1, h2, h3⟩)
        · obtain rfl : k = n := by omega
          exact ⟨Nat.le_refl _, by omega, c⟩
        · exact ⟨by omega, by omega, h3⟩
      · rintro ⟨h1, h2, h3⟩
        by_cases e : k = n
        · exact .inl (by rw [e])
        · exact .inr ⟨by omega, by omega, h3⟩
    · rw [if_neg c, ih]
      constructor
      · rintro ⟨h1, h2, h3⟩; exact ⟨by omega, by omega, h3⟩
      · rintro ⟨h1, h2, h3⟩
        have e : k ≠ n := fun e => c (e ▸ h3)
        exact ⟨by omega, by omega, h3⟩
theorem twin6 {t : Nat} (h3 : 3 < t) (h1 : isP t = true) (h2 : isP (t + 2) = true) : t % 6 = 5 := by
  have e1 := isP_no h1 (d := 2) (by omega) (by omega)
  have e2 := isP_no h1 (d := 3) (by omega) (by omega)
  have e3 := isP_no h2 (d := 3) (by omega) (by omega)
  have a1 : t % 3 = 2 := by omega
  have a2 : t % 2 = 1 := by omega
  clear e1 e2 e3
  omega
theorem twinA_len (a : Int) : (twinA a).1.length ≤ 1000 := by
  unfold twinA
  split
  · rename_i g
    have h1 := List.length_filter_le (fun x => isPI (x + 2)) (pl (a.toNat - 1) 2)
    have h2 := pl_length (a.toNat - 1) 2
    simp only
    omega
  · simp
theorem twinA_mem {a x : Int} (h : x ∈ (twinA a).1) : 2 ≤ x ∧ x ≤ a ∧ a ≤ 600 ∧ isPI x = true ∧ isPI (x + 2) = true := by
  unfold twinA at h
  by_cases g : 0 ≤ a ∧ a ≤ 600
  · rw [if_pos g] at h
    obtain ⟨h1, h2⟩ := List.mem_filter.1 h
    have := pl_mem _ _ _ h1
    exact ⟨this.1, by omega, g.2, this.2.2, h2⟩
  · rw [if_neg g] at h
    cases h
theorem twinA_sorted (a : Int) : (twinA a).1.Pairwise (· < ·) := by
  unfold twinA
  split
  · exact (pl_sorted _ _).sublist List.filter_sublist
  · exact List.Pairwise.nil
theorem crsA_len (a : Int) : (crsA a).1.length ≤ 1000 := by
  unfold crsA
  split
  · rename_i g
    have h1 : (crs a (pl (a.toNat - 1) 2)).length ≤ (pl (a.toNat - 1) 2).length := List.length_filter_le _ _
    have h2 := pl_length (a.toNat - 1) 2
    simp only
    omega
  · simp
theorem crsA_mem {a x : Int} (h : x ∈ (crsA a).1) : 2 ≤ x ∧ x ≤ 1000 ∧ x * x ≤ a ∧ isPI x = true := by
  unfold crsA at h
  by_cases g : 0 ≤ a ∧ a ≤ 600
  · rw [if_pos g] at h
    obtain ⟨h1, h2⟩ := List.mem_filter.1 h
    have := pl_mem _ _ _ h1
    exact ⟨this.1, by omega, of_decide_eq_true h2, this.2.2⟩
  · rw [if_neg g] at h
    cases h
theorem smA_len (a b : Int) : (smA a b).1.length ≤ 1000 := by
  unfold smA
  split
  · rename_i g
    have := sml_length b a.toNat 1
    simp only
    omega
  · simp
theorem twinA_crsA (a : Int) : (twinA a).2 = (crsA a).2 := by
  unfold twinA crsA
  split <;> rfl
theorem prev_lt {l : List Int} (hs : l.Pairwise (· < ·)) {i : Nat} {x : Int} (hx : l[i]? = some x) (hi : 0 < i) : rd l ((i - 1 : Nat) : Int) < x := by
  have hil : i < l.length := (List.getElem?_eq_some_iff.1 hx).1
  have h1 : l[i - 1]? = some (l[i - 1]'(by omega)) := List.getElem?_eq_getElem (by omega)
  rw [rd_of h1]
  have := List.pairwise_iff_getElem.1 hs (i - 1) i (by omega) hil (by omega)
  rw [List.getElem?_eq_getElem hil] at hx
  injection hx with hx
  rw [← hx]
  exact this

end Go.Proofs.Ytjonkpeoiecchaa.L

/-! ## E12 -/
namespace Go.Proofs.Ytjonkpeoiecchaa.L
open Go.RowKit Go.Proofs.YtjonkpeoiecchaaW.PrintWords Go.Proofs.Ytjonkpeoiecchaa.P
set_option linter.unusedVariables false
set_option linter.unusedSimpArgs false

def Rg (v : Int) : Prop := -9223372036854775808 ≤ v ∧ v ≤ 9223372036854775807
theorem Rg.wf {v : Int} (h : Rg v) : (Lit.int .i64 v).wf = true := by
  have := wrap64_wf v
  rwa [w64 h.1 h.2] at this
theorem Rg.wrap (n : Int) : Rg (wrap64 n) := by unfold Rg wrap64; omega
theorem u8_range {x : Int} (h : (Lit.int .u8 x).wf = true) : 0 ≤ x ∧ x ≤ 255 := by
  simp [Lit.wf, IntKind.min, IntKind.max, IntKind.signed, IntKind.bits] at h
  omega
theorem bits255 (s : Int) : 0 ≤ wrap64 (Go.bits .and .u64 (IntKind.u64.wrap s / 1099511627776) 255) ∧ wrap64 (Go.bits .and .u64 (IntKind.u64.wrap s / 1099511627776) 255) ≤ 255 := by
  have h0 : 0 ≤ IntKind.u64.wrap s ∧ IntKind.u64.wrap s < 18446744073709551616 := by rw [IntKind.wrap_u64]; omega
  generalize IntKind.u64.wrap s = z at *
  obtain ⟨n, hn⟩ := Int.eq_ofNat_of_zero_le (show 0 ≤ z / 1099511627776 by omega)
  have hb : Go.bits .and .u64 (n : Int) 255 = ((n &&& 255 : Nat) : Int) := Go.bits_and_u64_nat n 255 (by omega) (by omega)
  have hle : n &&& 255 ≤ 255 := Nat.and_le_right
  rw [hn, hb]
  generalize n &&& 255 = y at *
  rw [w64 (by omega) (by omega)]
  omega
theorem next_some (l : List Int) (hl : ∀ x ∈ l, 0 ≤ x ∧ x ≤ 255) (p s : Int) (h0 : 0 ≤ p) (h1 : p ≤ 1000000) : ∃ b s', spec_l1Cur_next.f l p s = some (b, p + 1, s') ∧ 0 ≤ b ∧ b ≤ 255 := by
  have hw : wrap64 (p + 1) = p + 1 := w64 (by omega) (by omega)
  simp only [spec_l1Cur_next.f, hw, if_pos h0]
  by_cases g : p < (l.length : Int)
  · have hr : 0 ≤ rd l p ∧ rd l p ≤ 255 := by
      obtain ⟨i, rfl⟩ := Int.eq_ofNat_of_zero_le h0
      rw [rd_nat (by omega)]
      exact hl _ (List.getElem_mem _)
    have hwr : wrap64 (rd l p) = rd l p := w64 (by omega) (by omega)
    simp only [if_pos g, if_pos (show p + 1 ≤ (l.length : Int) by omega), hwr]
    exact ⟨_, _, rfl, hr⟩
  · simp only [if_neg g, if_neg (show ¬ p + 1 ≤ (l.length : Int) by omega)]
    exact ⟨_, _, rfl, bits255 _⟩
theorem pick_some (l : List Int) (hl : ∀ x ∈ l, 0 ≤ x ∧ x ≤ 255) (p s n : Int) (h0 : 0 ≤ p) (h1 : p ≤ 100000) (hn : 1 ≤ n) (hn2 : n ≤ 60000) : ∃ r p' s', spec_l1Cur_pick.f l p s n = some (r, p', s') ∧ 0 ≤ r ∧ r < n ∧ p ≤ p' ∧ p' ≤ p + 2 := by
  simp only [spec_l1Cur_pick.f]
  by_cases g : n ≤ 1
  · simp only [if_pos g]
    exact ⟨_, _, _, rfl, by omega, by omega, by omega, by omega⟩
  · obtain ⟨b, s1, e1, b0, b1⟩ := next_some l hl p s h0 (by omega)
    obtain ⟨c, s2, e2, c0, c1⟩ := next_some l hl (p + 1) s1 (by omega) (by omega)
    have hz : ¬ n = 0 := by omega
    simp only [if_neg g, e1, Option.bind_some, if_neg hz]
    by_cases g2 : n > 200
    · have w1 : wrap64 (b * 256) = b * 256 := w64 (by omega) (by omega)
      have w2 : wrap64 (b * 256 + c) = b * 256 + c := w64 (by omega) (by omega)
      simp only [if_pos g2, e2, Option.bind_some, w1, w2]
      exact ⟨_, _, _, rfl, Int.tmod_nonneg _ (by omega), Int.tmod_lt_of_pos _ (by omega), by omega, by omega⟩
    · simp only [if_neg g2]
      exact ⟨_, _, _, rfl, Int.tmod_nonneg _ (by omega), Int.tmod_lt_of_pos _ (by omega), by omega, by omega⟩
theorem among_some (l : List Int) (hl : ∀ x ∈ l, 0 ≤ x ∧ x ≤ 255) (p s : Int) (xs : List Int) (h0 : 0 ≤ p) (h1 : p ≤ 100000) (hn : 1 ≤ xs.length) (hn2 : xs.length ≤ 60000) : ∃ v p' s', spec_l1Cur_among.f l p s xs = some (v, p', s') ∧ v ∈ xs ∧ p ≤ p' ∧ p' ≤ p + 2 := by
  obtain ⟨r, p', s', e, r0, r1, q0, q1⟩ := pick_some l hl p s (xs.length : Int) h0 h1 (by omega) (by omega)
  simp only [spec_l1Cur_among.f, e, Option.bind_some, if_pos r0, if_pos r1]
  refine ⟨_, _, _, rfl, ?_, q0, q1⟩
  obtain ⟨i, rfl⟩ := Int.eq_ofNat_of_zero_le r0
  rw [rd_nat (by omega)]
  exact List.getElem_mem _
theorem big_some (a b : List Int) : ∃ t, laws_big.f a b = some t := by
  simp only [laws_big.f]
  split
  · exact ⟨_, rfl⟩
  · exact ⟨_, rfl⟩
theorem upTo_some (l : List Int) (hl : ∀ x ∈ l, 0 ≤ x ∧ x ≤ 255) (p s : Int) (h0 : 0 ≤ p) (h1 : p ≤ 10000) : ∃ v p' s', spec_l1Cur_upTo.f l p s = some (v, p', s') ∧ Rg v ∧ p ≤ p' ∧ p' ≤ p + 4 := by
  obtain ⟨r, p1, s1, e, r0, r1, q0, q1⟩ := pick_some l hl p s 12 h0 (by omega) (by omega) (by omega)
  simp only [spec_l1Cur_upTo.f, spec_l1Cur_one.f, e, Option.bind_some]
  by_cases g : (r == 0) = true
  · obtain ⟨v, p2, s2, e2, hv, q2, q3⟩ := among_some l hl p1 s1 [-1, 0, 600, 601, 4611686018427387904] (by omega) (by omega) (by decide) (by decide)
    simp only [if_pos g, e2, Option.bind_some]
    refine ⟨_, _, _, rfl, ?_, by omega, by omega⟩
    simp only [List.mem_cons, List.not_mem_nil, or_false] at hv
    unfold Rg
    omega
  · obtain ⟨v, p2, s2, e2, v0, v1, q2, q3⟩ := pick_some l hl p1 s1 120 (by omega) (by omega) (by omega) (by omega)
    simp only [if_neg g, e2, Option.bind_some]
    refine ⟨_, _, _, rfl, ?_, by omega, by omega⟩
    unfold Rg
    omega
theorem drawFirst_some (l : List Int) (hl : ∀ x ∈ l, 0 ≤ x ∧ x ≤ 255) : ∃ v, spec_DrawFirstTwoPrimes.f l = some v ∧ Rg v := by
  obtain ⟨r, p1, s1, e, r0, r1, q0, q1⟩ := pick_some l hl 0 0 300 (by omega) (by omega) (by omega) (by omega)
  obtain ⟨r', p2, s2, e2, r2, r3, q2, q3⟩ := pick_some l hl p1 s1 300 (by omega) (by omega) (by omega) (by omega)
  obtain ⟨v, p3, s3, e3, hv, q4, q5⟩ := among_some l hl p2 s2 [4, 5, 6, 11, 30, 100, 128, 3, 0, 10000, 10001, r, r'] (by omega) (by omega) (by simp) (by simp)
  simp only [spec_DrawFirstTwoPrimes.f, e, e2, e3, Option.bind_some]
  refine ⟨_, rfl, ?_⟩
  simp only [List.mem_cons, List.not_mem_nil, or_false] at hv
  unfold Rg
  omega
theorem drawTwins_some (l : List Int) (hl : ∀ x ∈ l, 0 ≤ x ∧ x ≤ 255) : ∃ v, spec_DrawTwinsUpTo.f l = some v ∧ Rg v := by
  obtain ⟨v, p, s, e, hv, q0, q1⟩ := upTo_some l hl 0 0 (by omega) (by omega)
  simp only [spec_DrawTwinsUpTo.f, e, Option.bind_some]
  exact ⟨_, rfl, hv⟩
theorem drawSmooth_some (l : List Int) (hl : ∀ x ∈ l, 0 ≤ x ∧ x ≤ 255) : ∃ v u, spec_DrawSmoothUpTo.f l = some (v, u) ∧ Rg v ∧ Rg u := by
  obtain ⟨v, p, s, e, hv, q0, q1⟩ := upTo_some l hl 0 0 (by omega) (by omega)
  obtain ⟨u, p2, s2, e2, hu, q2, q3⟩ := among_some l hl p s [1, 2, 3, 5, 7, 600, 601, 0, -1] (by omega) (by omega) (by decide) (by decide)
  simp only [spec_DrawSmoothUpTo.f, e, e2, Option.bind_some]
  refine ⟨_, _, rfl, hv, ?_⟩
  simp only [List.mem_cons, List.not_mem_nil, or_false] at hu
  unfold Rg
  omega

end Go.Proofs.Ytjonkpeoiecchaa.L

/-! ## X19 -/
namespace Go.Proofs.Ytjonkpeoiecchaa.L
open Go.RowKit Go.Proofs.YtjonkpeoiecchaaW.PrintWords Go.Proofs.Ytjonkpeoiecchaa.P Go.Proofs.Ytjonkpeoiecchaa.M
set_option linter.unusedVariables false
set_option linter.unusedSimpArgs false

theorem SUMD_l2 (up bd : Int) (hu : 0 ≤ up ∧ up ≤ 600) (hb : 1 ≤ bd ∧ bd ≤ 600) (sm : List Int) (hsm : sm = sml bd up.toNat 1) (hl : sm.length ≤ 1000) : ∀ (m n : Nat), (n : Int) + m = up + 1 → 1 ≤ n → Evl (fun k => laws_FnSumsOfPrimes.l2 k up bd sm true (n : Int)) true := by
  intro m
  induction m with
  | zero =>
    intro n h h1
    refine Evl.succ ?_
    simp only [laws_FnSumsOfPrimes.l2, if_true, decide_eq_false (show ¬ (n : Int) ≤ up by omega)]
    refine Evl.succ ?_
    simp only [laws_FnSumsOfPrimes.j6, Bool.false_eq_true, if_false]
    exact Evl.ret _
  | succ m ih =>
    intro n h h1
    have hw : wrap64 ((n : Int) + 1) = ((n + 1 : Nat) : Int) := by rw [w64 (by omega) (by omega)]; rfl
    refine Evl.succ ?_
    simp only [laws_FnSumsOfPrimes.l2, if_true, decide_eq_true (show (n : Int) ≤ up by omega)]
    refine Evl.succ ?_
    simp only [laws_FnSumsOfPrimes.j6, if_true]
    refine Evl.bind (IsSmooth_ev n bd h1 (by omega) hb.1) ?_
    simp only [if_true]
    refine Evl.bind (gHas_ev sm (by omega) (n : Int)) ?_
    have e : decide ((n : Int) ∈ sm) = smooth n bd := by
      rw [hsm]
      have := sml_mem bd up.toNat 1 n
      by_cases c : smooth n bd = true
      · rw [c]; exact decide_eq_true (this.2 ⟨h1, by omega, c⟩)
      · rw [Bool.eq_false_iff.2 c]; exact decide_eq_false fun d => c (this.1 d).2.2
    rw [e]
    simp only [bne_self_eq_false, Bool.false_eq_true, if_false, hw]
    exact ih (n + 1) (by omega) (by omega)
theorem SUMD_l2_all (up bd : Int) : Evl (fun k => laws_FnSumsOfPrimes.l2 k up bd (smA up bd).1 (smA up bd).2 1) true := by
  by_cases g : (0 ≤ up ∧ up ≤ 600) ∧ 1 ≤ bd ∧ bd ≤ 600
  · have hl := smA_len up bd
    unfold smA at hl ⊢
    rw [if_pos g] at hl ⊢
    exact SUMD_l2 up bd g.1 g.2 _ rfl hl up.toNat 1 (by omega) (by omega)
  · unfold smA
    rw [if_neg g]
    refine Evl.succ ?_
    simp only [laws_FnSumsOfPrimes.l2, Bool.false_eq_true, if_false]
    refine Evl.succ ?_
    simp only [laws_FnSumsOfPrimes.j6, Bool.false_eq_true, if_false]
    exact Evl.ret _
theorem SUMD_l1 (most up bd : Int) (sm : List Int) (sv : Bool) (hR : Evl (fun k => laws_FnSumsOfPrimes.l2 k up bd sm sv 1) true) (xs : List Int) (hl : xs.length ≤ 1000) (hx : ∀ x ∈ xs, 2 ≤ x ∧ x ≤ 1000 ∧ x * x ≤ most ∧ isPI x = true) : ∀ (s : List Int) (i : Nat), xs.drop i = s → Evl (fun k => laws_FnSumsOfPrimes.l1 k most up bd sm sv xs (xs.length : Int) (i : Int)) true := by
  intro s
  induction s with
  | nil =>
    intro i h
    have hi := drop_nil h
    refine Evl.succ ?_
    simp only [laws_FnSumsOfPrimes.l1, if_neg (show ¬ (i : Int) < (xs.length : Int) by omega)]
    exact hR
  | cons y s ih =>
    intro i h
    obtain ⟨hi, hy, hs⟩ := drop_cons h
    obtain ⟨g1, g2, g3, g4⟩ := hx y (List.mem_of_getElem? hy)
    have hsq : y * y ≤ 1000 * 1000 := Int.mul_le_mul g2 g2 (by omega) (by omega)
    have hsq0 : 0 ≤ y * y := Int.mul_nonneg (by omega) (by omega)
    have hw : wrap64 ((i : Int) + 1) = ((i + 1 : Nat) : Int) := by rw [w64 (by omega) (by omega)]; rfl
    have hw2 : wrap64 (y * y) = y * y := w64 (by omega) (by omega)
    refine Evl.succ ?_
    simp only [laws_FnSumsOfPrimes.l1, if_pos (show (i : Int) < (xs.length : Int) by omega), if_pos (show (0 : Int) ≤ (i : Int) by omega), rd_of hy, hw, hw2]
    refine Evl.bind (IsPrime_ev y (by omega) (by omega)) ?_
    simp only [g4, if_true, if_neg (show ¬ y * y > most by omega)]
    exact ih (i + 1) hs
theorem SUMD_l0 (most up bd : Int) (hmost : most ≤ 600) (tw cr sm : List Int) (sv : Bool) (hR : Evl (fun k => laws_FnSumsOfPrimes.l1 k most up bd sm sv cr (cr.length : Int) 0) true) (hl : tw.length ≤ 1000) (hx : ∀ x ∈ tw, 2 ≤ x ∧ x ≤ most ∧ isPI x = true ∧ isPI (x + 2) = true) (hsort : tw.Pairwise (· < ·)) : ∀ (s : List Int) (i : Nat), tw.drop i = s → Evl (fun k => laws_FnSumsOfPrimes.l0 k most tw cr up bd sm sv tw (tw.length : Int) (i : Int)) true := by
  intro s
  induction s with
  | nil =>
    intro i h
    have hi := drop_nil h
    refine Evl.succ ?_
    simp only [laws_FnSumsOfPrimes.l0, if_neg (show ¬ (i : Int) < (tw.length : Int) by omega)]
    exact hR
  | cons y s ih =>
    intro i h
    obtain ⟨hi, hy, hs⟩ := drop_cons h
    obtain ⟨g1, g2, g3, g4⟩ := hx y (List.mem_of_getElem? hy)
    have hw : wrap64 ((i : Int) + 1) = ((i + 1 : Nat) : Int) := by rw [w64 (by omega) (by omega)]; rfl
    have hw2 : wrap64 (y + 2) = y + 2 := w64 (by omega) (by omega)
    have six5 : y > 3 → Int.tmod y 6 = 5 := fun h3 => by
      obtain ⟨t, rfl⟩ := Int.eq_ofNat_of_zero_le (show 0 ≤ y by omega)
      rw [isPI_nat] at g3
      rw [show (t : Int) + 2 = ((t + 2 : Nat) : Int) from rfl, isPI_nat] at g4
      have := twin6 (by omega) g3 g4
      have ht : Int.tmod (t : Int) 6 = ((t % 6 : Nat) : Int) := rfl
      rw [ht, this]
      rfl
    have go := ih (i + 1) hs
    refine Evl.succ ?_
    simp only [laws_FnSumsOfPrimes.l0, if_pos (show (i : Int) < (tw.length : Int) by omega), if_pos (show (0 : Int) ≤ (i : Int) by omega), rd_of hy, hw, hw2]
    refine Evl.bind (IsPrime_ev y (by omega) (by omega)) ?_
    refine Evl.bind (IsPrime_ev (y + 2) (by omega) (by omega)) ?_
    simp only [g3, g4, if_true, if_neg (show ¬ y > most by omega)]
    by_cases c : i = 0
    · subst c
      simp only [if_neg (show ¬ ((0 : Nat) : Int) > 0 by omega)]
      by_cases d : y > 3
      · simp only [if_pos d, six5 d, if_true]
        exact go
      · simp only [if_neg d]
        exact go
    · have hp := prev_lt hsort hy (by omega)
      have hwm : wrap64 ((i : Int) - 1) = ((i - 1 : Nat) : Int) := by clear hp; rw [w64 (by omega) (by omega)]; omega
      simp only [if_pos (show (i : Int) > 0 by omega), hwm, if_pos (show (0 : Int) ≤ ((i - 1 : Nat) : Int) by omega), if_pos (show ((i - 1 : Nat) : Int) < (tw.length : Int) by omega), if_neg (show ¬ rd tw ((i - 1 : Nat) : Int) ≥ y by omega)]
      by_cases d : y > 3
      · simp only [if_pos d, six5 d, if_true]
        exact go
      · simp only [if_neg d]
        exact go
theorem SUMD_j2 (most up bd : Int) : Evl (fun k => laws_FnSumsOfPrimes.j2 k most (twinA most).1 (crsA most).1 up bd (smA up bd).1 (smA up bd).2 false) true := by
  refine Evl.succ ?_
  simp only [laws_FnSumsOfPrimes.j2, Bool.false_eq_true, if_false]
  have h1 := SUMD_l1 most up bd (smA up bd).1 (smA up bd).2 (SUMD_l2_all up bd) (crsA most).1 (crsA_len most) (fun x hx => crsA_mem hx) (crsA most).1 0 rfl
  by_cases g : most ≤ 600
  · exact SUMD_l0 most up bd g (twinA most).1 (crsA most).1 (smA up bd).1 (smA up bd).2 h1 (twinA_len most) (fun x hx => by have := twinA_mem hx; exact ⟨this.1, this.2.1, this.2.2.2⟩) (twinA_sorted most) (twinA most).1 0 rfl
  · have e : (twinA most).1 = [] := by unfold twinA; rw [if_neg fun c => g c.2]
    rw [e]
    refine Evl.succ ?_
    simp only [laws_FnSumsOfPrimes.l0, List.length_nil, if_neg (show ¬ (0 : Int) < ((0 : Nat) : Int) by omega)]
    exact h1
theorem SUMD_j1 (z : List Int) (most up bd : Int) (d1 : spec_DrawTwinsUpTo.f z = some most) (d2 : spec_DrawSmoothUpTo.f z = some (up, bd)) (hm : (Lit.int .i64 most).wf = true) (hu : (Lit.int .i64 up).wf = true) (hb : (Lit.int .i64 bd).wf = true) : Evl (fun k => laws_FnSumsOfPrimes.j1 k z) true := by
  refine Evl.succ ?_
  simp only [laws_FnSumsOfPrimes.j1]
  simp only [d1, d2, Option.bind_some]
  refine Evl.bind (impl_twin_ev most) ?_
  refine Evl.bind (spec_twin_ev most hm) ?_
  refine Evl.bind (impl_crs_ev most) ?_
  refine Evl.bind (spec_crs_ev most hm) ?_
  refine Evl.bind (impl_sm_ev up bd) ?_
  refine Evl.bind (spec_sm_ev up bd hu hb) ?_
  have e0 : ((twinA most).2 != (twinA most).2) = false := bne_self_eq_false _
  have e1 : ((crsA most).2 != (crsA most).2) = false := bne_self_eq_false _
  have e2 : ((smA up bd).2 != (smA up bd).2) = false := bne_self_eq_false _
  have e3 : ((twinA most).2 != (crsA most).2) = false := by rw [twinA_crsA]; exact bne_self_eq_false _
  simp only [e0, Bool.false_eq_true, if_false]
  refine Evl.bind (gSame_self (twinA most).1 (by have := twinA_len most; omega)) ?_
  simp only [if_true, e1, Bool.false_eq_true, if_false]
  refine Evl.bind (gSame_self (crsA most).1 (by have := crsA_len most; omega)) ?_
  simp only [if_true, e2, Bool.false_eq_true, if_false]
  refine Evl.bind (gSame_self (smA up bd).1 (by have := smA_len up bd; omega)) ?_
  simp only [if_true, e3]
  exact SUMD_j2 most up bd

theorem SUMD_head (z : List Int) (a : Int) (hj : Evl (fun k => laws_FnSumsOfPrimes.j1 k z) true) : Evl (fun k => (impl_FirstTwoPrimes.f k a).bind fun bt193 => ((spec_FirstTwoPrimes.f k a).bind fun bt196 => ((impl_CountTwoPrimes.f k a).bind fun bt199 => ((spec_CountTwoPrimes.f k a).bind fun bt201 => (if (bt193.2.2 != bt196.2.2) = true then (laws_FnSumsOfPrimes.j0 k z a bt193.1 bt193.2.1 bt193.2.2 bt199.1 true) else (if bt193.1 = bt196.1 then (if bt193.2.1 = bt196.2.1 then (if (bt199.2 != bt201.2) = true then (laws_FnSumsOfPrimes.j0 k z a bt193.1 bt193.2.1 bt193.2.2 bt199.1 true) else (if bt199.1 = bt201.1 then (if bt199.2 = true then (if (bt193.2.2 != (decide (bt199.1 > 0))) = true then (laws_FnSumsOfPrimes.j0 k z a bt193.1 bt193.2.1 bt193.2.2 bt199.1 true) else (if (Int.tmod a 2) = 0 then (laws_FnSumsOfPrimes.j0 k z a bt193.1 bt193.2.1 bt193.2.2 bt199.1 (bt199.1 == 0)) else (laws_FnSumsOfPrimes.j0 k z a bt193.1 bt193.2.1 bt193.2.2 bt199.1 false))) else (if (bt193.2.2 != false) = true then (laws_FnSumsOfPrimes.j0 k z a bt193.1 bt193.2.1 bt193.2.2 bt199.1 true) else (laws_FnSumsOfPrimes.j0 k z a bt193.1 bt193.2.1 bt193.2.2 bt199.1 false))) else (laws_FnSumsOfPrimes.j0 k z a bt193.1 bt193.2.1 bt193.2.2 bt199.1 true))) else (laws_FnSumsOfPrimes.j0 k z a bt193.1 bt193.2.1 bt193.2.2 bt199.1 true)) else (laws_FnSumsOfPrimes.j0 k z a bt193.1 bt193.2.1 bt193.2.2 bt199.1 true))))))) true := by
  refine Evl.bind (impl_First_ev a) ?_
  refine Evl.bind (spec_First_ev a) ?_
  refine Evl.bind (impl_Count_ev a) ?_
  refine Evl.bind (spec_Count_ev a) ?_
  have n0 : ((fstA a).2.2 != (fstA a).2.2) = false := bne_self_eq_false _
  have n1 : ((cntA a).2 != (cntA a).2) = false := bne_self_eq_false _
  simp only [n0, n1, Bool.false_eq_true, if_false, if_true]
  by_cases g : 4 ≤ a ∧ a ≤ 10000
  · obtain ⟨n, rfl⟩ := Int.eq_ofNat_of_zero_le (show 0 ≤ a by omega)
    have ef : fstA (n : Int) = fst2 (n : Int) (pr n) := by unfold fstA; rw [if_pos g, Int.toNat_natCast]
    have ec : cntA (n : Int) = (((pr n).length : Int), true) := by unfold cntA; rw [if_pos g, Int.toNat_natCast]
    have hmem := @pr_mem n
    have hodd : n % 2 = 1 → pr n ≠ [] → pr n = [2] := fun h1 h2 => pr_one (by omega) h1 h2
    have heven : n % 2 = 0 → pr n ≠ [] := fun h => pr_even (by omega) (by omega) h
    have ht : Int.tmod (n : Int) 2 = ((n % 2 : Nat) : Int) := rfl
    rw [ef, ec]
    simp only [if_true, ht]
    cases hp : pr n with
    | nil =>
      have ho : n % 2 = 1 := by
        rcases Nat.mod_two_eq_zero_or_one n with h | h
        · exact absurd hp (heven h)
        · exact h
      simp only [fst2, List.length_nil, decide_eq_false (show ¬ ((0 : Nat) : Int) > 0 by omega), bne_self_eq_false, Bool.false_eq_true, if_false, if_neg (show ¬ ((n % 2 : Nat) : Int) = 0 by omega)]
      refine Evl.succ ?_
      simp only [laws_FnSumsOfPrimes.j0, Bool.false_eq_true, if_false]
      exact hj
    | cons p s =>
      have hpm := hmem.1 (by rw [hp]; exact List.mem_cons_self ..)
      have hlen : (((p :: s).length : Nat) : Int) = (s.length : Int) + 1 := by rw [List.length_cons]; rfl
      have hz : (((p :: s).length : Nat) : Int) > 0 := by rw [hlen]; omega
      have hbz : ((((p :: s).length : Nat) : Int) == 0) = false := beq_eq_false_iff_ne.2 (by omega)
      have hw : wrap64 (p + ((n : Int) - p)) = (n : Int) := by rw [show p + ((n : Int) - p) = (n : Int) by omega]; exact w64 (by omega) (by omega)
      have hgood : Evl (fun k => laws_FnSumsOfPrimes.j0 k z (n : Int) p ((n : Int) - p) true (((p :: s).length : Nat) : Int) false) true := by
        refine Evl.succ ?_
        simp only [laws_FnSumsOfPrimes.j0, Bool.false_eq_true, if_false, if_true]
        refine Evl.bind (IsPrime_ev p (by omega) (by omega)) ?_
        refine Evl.bind (IsPrime_ev ((n : Int) - p) (by omega) (by omega)) ?_
        simp only [hw, if_true, if_neg (show ¬ p > (n : Int) - p by omega), hpm.2.2.1, hpm.2.2.2, ht]
        by_cases ho : n % 2 = 1
        · have h1 := hodd ho (by rw [hp]; simp)
          rw [hp] at h1
          injection h1 with h1 h2
          subst h1
          subst h2
          simp only [ho, if_true, List.length_singleton, if_pos (show ((1 : Nat) : Int) = 1 from rfl)]
          exact hj
        · simp only [if_neg (show ¬ ((n % 2 : Nat) : Int) = 1 by omega)]
          exact hj
      simp only [fst2, decide_eq_true hz, bne_self_eq_false, Bool.false_eq_true, if_false, hbz]
      by_cases he : ((n % 2 : Nat) : Int) = 0
      · simp only [if_pos he]
        exact hgood
      · simp only [if_neg he]
        exact hgood
  · have ef : fstA a = (0, 0, false) := by unfold fstA; rw [if_neg g]
    have ec : cntA a = (0, false) := by unfold cntA; rw [if_neg g]
    rw [ef, ec]
    simp only [Bool.false_eq_true, if_false, bne_self_eq_false]
    refine Evl.succ ?_
    simp only [laws_FnSumsOfPrimes.j0, Bool.false_eq_true, if_false]
    exact hj

theorem FnSumsOfPrimes_law (l0 l1 : List Int) (hm0 : l0.length ≤ maxLen) (hl0 : l0.length * 1 ≤ 140737488351232) (hw0 : ∀ x ∈ l0, (Lit.int .u8 x).wf = true) (hm1 : l1.length ≤ maxLen) (hl1 : l1.length * 1 ≤ 140737488351232) (hw1 : ∀ x ∈ l1, (Lit.int .u8 x).wf = true) : Evl (fun k => laws_FnSumsOfPrimes.f k l0 l1) true := by
  obtain ⟨t, ht⟩ := big_some l0 l1
  obtain ⟨a, ea, ha⟩ := drawFirst_some l0 fun x hx => u8_range (hw0 x hx)
  obtain ⟨m, em, hm⟩ := drawTwins_some l1 fun x hx => u8_range (hw1 x hx)
  obtain ⟨u, b, eu, hu, hb⟩ := drawSmooth_some l1 fun x hx => u8_range (hw1 x hx)
  simp only [laws_FnSumsOfPrimes.f, ht, ea, Option.bind_some]
  by_cases g : t = true
  · simp only [if_pos g]
    exact Evl.ret _
  · simp only [if_neg g]
    exact SUMD_head l1 a (SUMD_j1 l1 m u b em eu hm.wf hu.wf hb.wf)

end Go.Proofs.Ytjonkpeoiecchaa.L
