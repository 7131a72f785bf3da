/- the law of factors, radicals and least factors, for all that is drawn: what both functions compute. No condition beyond 64 bits and the lengths that the statement's guards give. -/
import Derived.Test.YtgoldeagghadhaaPx0
import Derived.Test.YtgoldeagghadhaaPx1
import Derived.Test.YtgoldeagghadhaaPx2
import Derived.Test.YtgoldeagghadhaaPx3
import Derived.Test.YtgoldeagghadhaaPx5
import Derived.Test.YtgoldeagghadhaaPx7
import Derived.Test.YtgoldeagghadhaaPx8
import Derived.Test.YtgoldeagghadhaaPx11
import Derived.Test.YtgoldeagghadhaaPx12
import Derived.Test.YtgoldeagghadhaaPx4
import Derived.Test.YtgoldeagghadhaaPx6
import Derived.Test.YtgoldeagghadhaaPx9
import Derived.Test.YtgoldeagghadhaaPx10
import Derived.Test.YtgoldeagghadhaaPx13
import Derived.Laws.Bits64b
import Derived.Test.YtgoldeagghadhaaPx14
import Derived.Test.YtgoldeagghadhaaPx15
import Derived.Test.YtgoldeagghadhaaPx16
/-! ## L0 -/
namespace Go.Proofs.Ytgoldeagghadhaa.L
open Go.RowKit Go.Proofs.YtgoldeagghadhaaW.PrintWords
set_option linter.unusedVariables false
set_option linter.unusedSimpArgs false

/-- With enough rounds g tells r. -/
def Evl {α : Type} (g : Nat → Option α) (r : α) : Prop := ∃ K, ∀ k, K ≤ k → g k = some r
theorem Evl.ret {α : Type} (r : α) : Evl (fun _ => some r) r := ⟨0, fun _ _ => rfl⟩
theorem Evl.bind {α β : Type} {g : Nat → Option α} {f : Nat → α → Option β} {a : α} {r : β} (h : Evl g a) (h2 : Evl (fun k => f k a) r) : Evl (fun k => (g k).bind (f k)) r := by
  obtain ⟨K, hK⟩ := h
  obtain ⟨K2, hK2⟩ := h2
  refine ⟨max K K2, fun k hk => ?_⟩
  show (g k).bind (f k) = some r
  rw [hK k (Nat.le_trans (Nat.le_max_left _ _) hk), Option.bind_some]
  exact hK2 k (Nat.le_trans (Nat.le_max_right _ _) hk)
theorem Evl.succ {α : Type} {g : Nat → Option α} {r : α} (h : Evl (fun k => g (k + 1)) r) : Evl g r := by
  obtain ⟨K, hK⟩ := h
  refine ⟨K + 1, fun k hk => ?_⟩
  obtain ⟨m, rfl⟩ : ∃ m, k = m + 1 := ⟨k - 1, by omega⟩
  exact hK m (by omega)
theorem Evl.get {α : Type} {g : Nat → Option α} {r : α} (h : Evl g r) : ∃ k, g k = some r := by
  obtain ⟨K, hK⟩ := h
  exact ⟨K, hK K (Nat.le_refl _)⟩
theorem Evl.cast {α : Type} {g : Nat → Option α} {r r' : α} (h : Evl g r) (e : r = r') : Evl g r' := e ▸ h

theorem w64 {x : Int} (h0 : -9223372036854775808 ≤ x) (h1 : x ≤ 9223372036854775807) : wrap64 x = x := by
  unfold wrap64
  omega
theorem drop_nil {α : Type} {xs : List α} {i : Nat} (h : xs.drop i = []) : xs.length ≤ i := by
  simpa using h
theorem drop_cons {α : Type} {xs s : List α} {x : α} {i : Nat} (h : xs.drop i = x :: s) : i < xs.length ∧ xs[i]? = some x ∧ xs.drop (i + 1) = s := by
  have hl : i < xs.length := by
    rcases Nat.lt_or_ge i xs.length with h1 | h1
    · exact h1
    · rw [List.drop_of_length_le h1] at h
      cases h
  rw [List.drop_eq_getElem_cons hl] at h
  injection h with h1 h2
  exact ⟨hl, by rw [List.getElem?_eq_getElem hl, h1], h2⟩
theorem rd_of {xs : List Int} {i : Nat} {x : Int} (h : xs[i]? = some x) : rd xs (i : Int) = x := by
  unfold rd
  rw [Int.toNat_natCast, List.getD_eq_getElem?_getD, h]
  rfl
theorem rd_nat {xs : List Int} {i : Nat} (h : i < xs.length) : rd xs (i : Int) = xs[i] := rd_of (List.getElem?_eq_getElem h)

end Go.Proofs.Ytgoldeagghadhaa.L

/-! ## M1 -/
namespace Go.Proofs.Ytgoldeagghadhaa.M
set_option linter.unusedVariables false
set_option linter.unusedSimpArgs false

def lfAux : Nat → Nat → Nat → Nat
  | 0, _, n => n
  | f + 1, d, n => if n % d = 0 then d else lfAux f (d + 1) n
/-- The least divisor of at least 2. -/
def lf (n : Nat) : Nat := lfAux n 2 n
def isP (n : Nat) : Bool := decide (2 ≤ n) && decide (lf n = n)

structure Least (n r : Nat) : Prop where
  two : 2 ≤ r
  le : r ≤ n
  div : n % r = 0
  least : ∀ d, 2 ≤ d → d < r → n % d ≠ 0

theorem lfAux_least : ∀ (f d n : Nat), 2 ≤ d → d ≤ n → n < d + f → (∀ e, 2 ≤ e → e < d → n % e ≠ 0) → Least n (lfAux f d n)
  | 0, d, n, _, h1, h2, _ => by omega
  | f + 1, d, n, h0, h1, h2, h3 => by
    unfold lfAux
    by_cases h : n % d = 0
    · rw [if_pos h]
      exact ⟨h0, h1, h, h3⟩
    · rw [if_neg h]
      have hne : d ≠ n := fun e => h (by rw [e]; exact Nat.mod_self n)
      refine lfAux_least f (d + 1) n (by omega) (by omega) (by omega) (fun e he hl => ?_)
      by_cases hed : e = d
      · rw [hed]; exact h
      · exact h3 e he (by omega)
theorem lf_least {n : Nat} (h : 2 ≤ n) : Least n (lf n) := lfAux_least n 2 n (by omega) h (by omega) (fun e h1 h2 => by omega)
theorem Least.uniq {n r s : Nat} (h : Least n r) (h' : Least n s) : r = s := by
  rcases Nat.lt_trichotomy r s with h1 | h1 | h1
  · exact absurd h.div (h'.least r h.two h1)
  · exact h1
  · exact absurd h'.div (h.least s h'.two h1)
theorem lf_eq {n r : Nat} (hn : 2 ≤ n) (h : Least n r) : lf n = r := (lf_least hn).uniq h

theorem split_mod {n r : Nat} (h : n % r = 0) : n = r * (n / r) := by
  have := Nat.div_add_mod n r
  rw [h] at this
  omega

/-- No divisor up to the root: the number itself. -/
theorem lf_root {n d : Nat} (hn : 2 ≤ n) (hd : ∀ e, 2 ≤ e → e < d → n % e ≠ 0) (hr : n < d * d) : lf n = n := by
  have h := lf_least hn
  rcases Nat.lt_or_ge (lf n) n with hl | hl
  · exfalso
    have hq := split_mod h.div
    generalize hqe : n / lf n = q at hq
    have hq2 : 2 ≤ q := by
      rcases Nat.lt_or_ge q 2 with h1 | h1
      · have : q = 0 ∨ q = 1 := by omega
        rcases this with rfl | rfl
        · omega
        · omega
      · exact h1
    have hqm : n % q = 0 := by
      have e : n % q = (lf n * q) % q := by rw [← hq]
      rw [e]; exact Nat.mul_mod_left _ _
    have hlq : lf n ≤ q := by
      rcases Nat.lt_or_ge q (lf n) with h1 | h1
      · exact absurd hqm (h.least q hq2 h1)
      · exact h1
    have hdl : d ≤ lf n := by
      rcases Nat.lt_or_ge (lf n) d with h1 | h1
      · exact absurd h.div (hd _ h.two h1)
      · exact h1
    have : d * d ≤ lf n * q := Nat.mul_le_mul hdl (Nat.le_trans hdl hlq)
    omega
  · have := h.le
    omega

theorem isP_iff {n : Nat} : isP n = true ↔ 2 ≤ n ∧ lf n = n := by
  simp [isP]
theorem isP_two {n : Nat} (h : isP n = true) : 2 ≤ n := (isP_iff.1 h).1
theorem isP_of {n : Nat} (h2 : 2 ≤ n) (h : ∀ d, 2 ≤ d → d < n → n % d ≠ 0) : isP n = true :=
  isP_iff.2 ⟨h2, lf_eq h2 ⟨h2, Nat.le_refl _, Nat.mod_self n, h⟩⟩
theorem isP_least {n : Nat} (h : isP n = true) : Least n n := by
  obtain ⟨h2, he⟩ := isP_iff.1 h
  have := lf_least h2
  rwa [he] at this
theorem isP_no {n d : Nat} (h : isP n = true) (h2 : 2 ≤ d) (hl : d < n) : n % d ≠ 0 := (isP_least h).least d h2 hl
/-- Of a divisor of a prime there are two. -/
theorem isP_dvd {p d : Nat} (h : isP p = true) (hd : d ∣ p) : d = 1 ∨ d = p := by
  have hp := isP_two h
  have hm := Nat.mod_eq_zero_of_dvd hd
  rcases Nat.lt_or_ge d 2 with h1 | h1
  · have : d = 0 ∨ d = 1 := by omega
    rcases this with rfl | rfl
    · rw [Nat.mod_zero] at hm; omega
    · exact .inl rfl
  · rcases Nat.lt_or_ge d p with h3 | h3
    · exact absurd hm (isP_no h h1 h3)
    · exact .inr (Nat.le_antisymm (Nat.le_of_dvd (by omega) hd) h3)
theorem isP_lf {n : Nat} (hn : 2 ≤ n) : isP (lf n) = true := by
  have h := lf_least hn
  refine isP_of h.two fun d h2 hl hm => ?_
  refine h.least d h2 hl (Nat.mod_eq_zero_of_dvd ?_)
  exact Nat.dvd_trans (Nat.dvd_of_mod_eq_zero hm) (Nat.dvd_of_mod_eq_zero h.div)
theorem isP_euclid {p a b : Nat} (h : isP p = true) (hd : p ∣ a * b) : p ∣ a ∨ p ∣ b := by
  rcases isP_dvd h (Nat.gcd_dvd_left p a) with hg | hg
  · exact .inr (Nat.Coprime.dvd_of_dvd_mul_left hg hd)
  · exact .inl (hg ▸ Nat.gcd_dvd_right p a)
theorem isP_pow {p q : Nat} (h : isP p = true) (hq : isP q = true) : ∀ k, p ∣ q ^ k → p = q
  | 0, hd => by
    have h1 := isP_two h
    rw [Nat.pow_zero] at hd
    have := Nat.le_of_dvd (by omega) hd
    omega
  | k + 1, hd => by
    rw [Nat.pow_succ] at hd
    rcases isP_euclid h hd with h1 | h1
    · exact isP_pow h hq k h1
    · rcases isP_dvd hq h1 with h2 | h2
      · have := isP_two h; omega
      · exact h2

/-! ### factors -/
/-- How often p divides n, and what is left. -/
def strip : Nat → Nat → Nat → Nat × Nat
  | 0, _, n => (0, n)
  | f + 1, p, n => if n % p = 0 then ((strip f p (n / p)).1 + 1, (strip f p (n / p)).2) else (0, n)
theorem div_lt_of {n p : Nat} (hp : 2 ≤ p) (hn : 1 ≤ n) : n / p < n := Nat.div_lt_self hn hp
theorem div_pos_of {n p : Nat} (hp : 2 ≤ p) (hn : 1 ≤ n) (h : n % p = 0) : 1 ≤ n / p := by
  have := split_mod h
  rcases Nat.eq_zero_or_pos (n / p) with h1 | h1
  · rw [h1] at this; omega
  · exact h1
structure Strip (p n : Nat) (r : Nat × Nat) : Prop where
  mul : n = p ^ r.1 * r.2
  pos : 1 ≤ r.2
  le : r.2 ≤ n
  no : r.2 % p ≠ 0
  few : r.1 ≤ n
theorem strip_spec : ∀ (f p n : Nat), 2 ≤ p → 1 ≤ n → n ≤ f → Strip p n (strip f p n)
  | 0, p, n, _, h1, h2 => by omega
  | f + 1, p, n, hp, hn, hf => by
    unfold strip
    by_cases h : n % p = 0
    · rw [if_pos h]
      have hlt := div_lt_of hp hn
      have ih := strip_spec f p (n / p) hp (div_pos_of hp hn h) (by omega)
      refine ⟨?_, ih.pos, by have := ih.le; omega, ih.no, by have := ih.few; show _ + 1 ≤ n; omega⟩
      have h1 := split_mod h
      have h2 := ih.mul
      show n = p ^ ((strip f p (n / p)).1 + 1) * (strip f p (n / p)).2
      rw [Nat.pow_succ, Nat.mul_comm (p ^ _) p, Nat.mul_assoc, ← h2]
      exact h1
    · rw [if_neg h]
      exact ⟨by simp, hn, Nat.le_refl _, h, by simp⟩
theorem strip_uniq {p n a b c d : Nat} (hp : 2 ≤ p) (h1 : n = p ^ a * b) (h2 : n = p ^ c * d) (hb : b % p ≠ 0) (hd : d % p ≠ 0) : a = c ∧ b = d := by
  have key : ∀ {a b c d : Nat}, p ^ a * b = p ^ c * d → b % p ≠ 0 → a < c → False := by
    intro a b c d h hb hac
    obtain ⟨m, rfl⟩ : ∃ m, c = a + (m + 1) := ⟨c - a - 1, by omega⟩
    rw [Nat.pow_add, Nat.mul_assoc] at h
    have h3 : b = p ^ (m + 1) * d := Nat.eq_of_mul_eq_mul_left (Nat.pow_pos (by omega)) h
    refine hb ?_
    rw [h3, Nat.pow_succ, Nat.mul_comm (p ^ m) p, Nat.mul_assoc]
    exact Nat.mul_mod_right _ _
  have e := h1.symm.trans h2
  have hac : a = c := by
    rcases Nat.lt_trichotomy a c with h | h | h
    · exact (key e hb h).elim
    · exact h
    · exact (key e.symm hd h).elim
  subst hac
  exact ⟨rfl, Nat.eq_of_mul_eq_mul_left (Nat.pow_pos (by omega)) e⟩
theorem strip_fst_pos {f p n : Nat} (hf : n ≤ f) (hn : 1 ≤ n) (h : n % p = 0) : 1 ≤ (strip f p n).1 := by
  obtain ⟨m, rfl⟩ : ∃ m, f = m + 1 := ⟨f - 1, by omega⟩
  unfold strip
  rw [if_pos h]
  show 1 ≤ _ + 1
  omega
theorem strip_lt {p n : Nat} (hp : 2 ≤ p) (hn : 1 ≤ n) (h : n % p = 0) : (strip n p n).2 < n := by
  have hs := strip_spec n p n hp hn (Nat.le_refl _)
  rcases Nat.lt_or_ge (strip n p n).2 n with h1 | h1
  · exact h1
  · exact absurd (by have := hs.le; rw [show (strip n p n).2 = n by omega]; exact h) hs.no

def facsF : Nat → Nat → List (Nat × Nat)
  | 0, _ => []
  | f + 1, n => if n ≤ 1 then [] else (lf n, (strip n (lf n) n).1) :: facsF f (strip n (lf n) n).2
/-- The primes that divide a number, rising, and how often. -/
def facs (n : Nat) : List (Nat × Nat) := facsF n n
theorem rest_lt {n : Nat} (hn : 2 ≤ n) : (strip n (lf n) n).2 < n := strip_lt (lf_least hn).two (by omega) (lf_least hn).div
theorem facsF_eq : ∀ (f g n : Nat), n ≤ f → n ≤ g → facsF f n = facsF g n
  | 0, 0, _, _, _ => rfl
  | 0, g + 1, n, h, _ => by
    unfold facsF
    rw [if_pos (by omega)]
  | f + 1, 0, n, _, h => by
    unfold facsF
    rw [if_pos (by omega)]
  | f + 1, g + 1, n, h1, h2 => by
    unfold facsF
    by_cases h : n ≤ 1
    · rw [if_pos h, if_pos h]
    · rw [if_neg h, if_neg h]
      have := rest_lt (n := n) (by omega)
      rw [facsF_eq f g _ (by omega) (by omega)]
theorem facs_one {n : Nat} (h : n ≤ 1) : facs n = [] := by
  unfold facs
  cases n with
  | zero => rfl
  | succ n => unfold facsF; rw [if_pos h]
theorem facs_more {n : Nat} (h : 2 ≤ n) : facs n = (lf n, (strip n (lf n) n).1) :: facs (strip n (lf n) n).2 := by
  obtain ⟨m, rfl⟩ : ∃ m, n = m + 1 := ⟨n - 1, by omega⟩
  have hr := rest_lt h
  unfold facs
  rw [facsF, if_neg (by omega), facsF_eq m _ _ (by omega) (Nat.le_refl _)]

theorem facs_mem : ∀ (m n : Nat), n ≤ m → 1 ≤ n → ∀ pe, pe ∈ facs n → isP pe.1 = true ∧ 1 ≤ pe.2 ∧ pe.1 ∣ n
  | 0, n, h, h1 => by omega
  | m + 1, n, h, h1 => by
    intro pe hpe
    rcases Nat.lt_or_ge n 2 with h2 | h2
    · rw [facs_one (by omega)] at hpe
      cases hpe
    · have hl := lf_least h2
      have hs := strip_spec n (lf n) n hl.two h1 (Nat.le_refl _)
      rw [facs_more h2] at hpe
      rcases List.mem_cons.1 hpe with rfl | hpe
      · exact ⟨isP_lf h2, strip_fst_pos (Nat.le_refl _) h1 hl.div, Nat.dvd_of_mod_eq_zero hl.div⟩
      · have hr := rest_lt h2
        obtain ⟨g1, g2, g3⟩ := facs_mem m _ (by omega) hs.pos pe hpe
        refine ⟨g1, g2, Nat.dvd_trans g3 ?_⟩
        refine ⟨lf n ^ (strip n (lf n) n).1, ?_⟩
        rw [Nat.mul_comm]
        exact hs.mul
theorem facs_prop {n : Nat} (h : 1 ≤ n) {pe : Nat × Nat} (hm : pe ∈ facs n) : isP pe.1 = true ∧ 1 ≤ pe.2 ∧ pe.1 ∣ n := facs_mem n n (Nat.le_refl _) h pe hm
theorem facs_sorted_aux : ∀ (m n : Nat), n ≤ m → (facs n).Pairwise (fun a b => a.1 < b.1)
  | 0, n, h => by rw [facs_one (by omega)]; exact List.Pairwise.nil
  | m + 1, n, h => by
    rcases Nat.lt_or_ge n 2 with h2 | h2
    · rw [facs_one (by omega)]; exact List.Pairwise.nil
    · have hl := lf_least h2
      have hs := strip_spec n (lf n) n hl.two (by omega) (Nat.le_refl _)
      have hr := rest_lt h2
      rw [facs_more h2]
      refine List.Pairwise.cons (fun pe hpe => ?_) (facs_sorted_aux m _ (by omega))
      obtain ⟨g1, g2, g3⟩ := facs_prop hs.pos hpe
      have hd : pe.1 ∣ n := by
        refine Nat.dvd_trans g3 ⟨lf n ^ (strip n (lf n) n).1, ?_⟩
        rw [Nat.mul_comm]
        exact hs.mul
      have hne : pe.1 ≠ lf n := fun e => hs.no (Nat.mod_eq_zero_of_dvd (e ▸ g3))
      show lf n < pe.1
      rcases Nat.lt_or_ge pe.1 (lf n) with h3 | h3
      · exact absurd (Nat.mod_eq_zero_of_dvd hd) (hl.least _ (isP_two g1) h3)
      · omega
theorem facs_sorted (n : Nat) : (facs n).Pairwise (fun a b => a.1 < b.1) := facs_sorted_aux n n (Nat.le_refl _)
theorem facs_length : ∀ (m n : Nat), n ≤ m → (facs n).length ≤ n
  | 0, n, h => by rw [facs_one (by omega)]; exact Nat.zero_le _
  | m + 1, n, h => by
    rcases Nat.lt_or_ge n 2 with h2 | h2
    · rw [facs_one (by omega)]; exact Nat.zero_le _
    · have hr := rest_lt h2
      rw [facs_more h2, List.length_cons]
      have := facs_length m _ (show (strip n (lf n) n).2 ≤ m by omega)
      omega

end Go.Proofs.Ytgoldeagghadhaa.M

/-! ## E1 -/
namespace Go.Proofs.Ytgoldeagghadhaa.L
open Go.RowKit Go.Proofs.YtgoldeagghadhaaW.PrintWords Go.Proofs.Ytgoldeagghadhaa.P Go.Proofs.Ytgoldeagghadhaa.M
set_option linter.unusedVariables false
set_option linter.unusedSimpArgs false

/-- The same of whatever whole number. -/
def isPI (a : Int) : Bool := isP a.toNat
theorem isPI_nat (n : Nat) : isPI (n : Int) = isP n := by unfold isPI; rw [Int.toNat_natCast]
theorem isPI_neg {a : Int} (h : a < 2) : isPI a = false := by
  unfold isPI isP
  rw [decide_eq_false (by omega)]
  rfl

theorem spec_prLeast_l0 (n : Nat) (hn : 2 ≤ n) (hb : n ≤ 2000000000) : ∀ (m d : Nat), m + d = 50000 → 2 ≤ d → (∀ e, 2 ≤ e → e < d → n % e ≠ 0) → Evl (fun k => spec_prLeast.l0 k (n : Int) (d : Int)) (lf n : Int) := by
  intro m
  induction m with
  | zero =>
    intro d hd h2 hno
    obtain rfl : d = 50000 := by omega
    refine Evl.succ ?_
    have h1 : ¬ wrap64 (((50000 : Nat) : Int) * ((50000 : Nat) : Int)) ≤ (n : Int) := by rw [w64 (by omega) (by omega)]; omega
    simp only [spec_prLeast.l0, if_neg h1]
    rw [lf_root hn hno (by omega)]
    exact Evl.ret _
  | succ m ih =>
    intro d hd h2 hno
    have hdd : d * d ≤ 50000 * 50000 := Nat.mul_le_mul (by omega) (by omega)
    have hw : wrap64 ((d : Int) * (d : Int)) = ((d * d : Nat) : Int) := by rw [← Int.natCast_mul]; exact w64 (by omega) (by omega)
    have hw1 : wrap64 ((d : Int) + 1) = ((d + 1 : Nat) : Int) := by rw [w64 (by omega) (by omega)]; rfl
    refine Evl.succ ?_
    by_cases hr : d * d ≤ n
    · have h1 : ((d * d : Nat) : Int) ≤ (n : Int) := Int.ofNat_le.2 hr
      have h3 : ¬ (d : Int) = 0 := by omega
      have ht : Int.tmod (n : Int) (d : Int) = ((n % d : Nat) : Int) := rfl
      by_cases hm : n % d = 0
      · have h4 : ((n % d : Nat) : Int) = 0 := by rw [hm]; rfl
        simp only [spec_prLeast.l0, hw, if_pos h1, if_neg h3, ht, if_pos h4]
        rw [lf_eq hn ⟨h2, Nat.le_trans (Nat.le_mul_self d) hr, hm, hno⟩]
        exact Evl.ret _
      · have h4 : ¬ ((n % d : Nat) : Int) = 0 := by omega
        simp only [spec_prLeast.l0, hw, if_pos h1, if_neg h3, ht, if_neg h4, hw1]
        refine ih (d + 1) (by omega) (by omega) (fun e he hl => ?_)
        by_cases hed : e = d
        · rw [hed]; exact hm
        · exact hno e he (by omega)
    · have h1 : ¬ ((d * d : Nat) : Int) ≤ (n : Int) := fun h => hr (Int.ofNat_le.1 h)
      simp only [spec_prLeast.l0, hw, if_neg h1]
      rw [lf_root hn hno (by omega)]
      exact Evl.ret _
theorem spec_prLeast_ev (n : Nat) (hn : 2 ≤ n) (hb : n ≤ 2000000000) : Evl (fun k => spec_prLeast.f k (n : Int)) (lf n : Int) := by
  simp only [spec_prLeast.f]
  exact spec_prLeast_l0 n hn hb 49998 2 rfl (by omega) (fun e h1 h2 => by omega)
theorem spec_prIs_ev (a : Int) (hb : a ≤ 2000000000) : Evl (fun k => spec_prIs.f k a) (isPI a) := by
  by_cases h : a ≥ 2
  · obtain ⟨n, rfl⟩ := Int.eq_ofNat_of_zero_le (show 0 ≤ a by omega)
    simp only [spec_prIs.f, if_pos h]
    refine Evl.bind (spec_prLeast_ev n (by omega) (by omega)) ?_
    refine (Evl.ret _).cast ?_
    rw [isPI_nat]
    unfold isP
    rw [decide_eq_true (show 2 ≤ n by omega), Bool.true_and]
    by_cases e : lf n = n
    · rw [decide_eq_true e, e]
      exact beq_self_eq_true _
    · rw [decide_eq_false e]
      exact beq_eq_false_iff_ne.2 (by omega)
  · simp only [spec_prIs.f, if_neg h]
    rw [isPI_neg (by omega)]
    exact Evl.ret _

theorem impl_leastFactor_l0 (n : Nat) (hn : 2 ≤ n) (hb : n ≤ 2000000000) : ∀ (m d : Nat), m + d = 50000 → 2 ≤ d → (∀ e, 2 ≤ e → e < d → n % e ≠ 0) → Evl (fun k => impl_leastFactor.l0 k (n : Int) (d : Int)) (lf n : Int) := by
  intro m
  induction m with
  | zero =>
    intro d hd h2 hno
    obtain rfl : d = 50000 := by omega
    refine Evl.succ ?_
    have h1 : ¬ wrap64 (((50000 : Nat) : Int) * ((50000 : Nat) : Int)) ≤ (n : Int) := by rw [w64 (by omega) (by omega)]; omega
    simp only [impl_leastFactor.l0, if_neg h1]
    rw [lf_root hn hno (by omega)]
    exact Evl.ret _
  | succ m ih =>
    intro d hd h2 hno
    have hdd : d * d ≤ 50000 * 50000 := Nat.mul_le_mul (by omega) (by omega)
    have hw : wrap64 ((d : Int) * (d : Int)) = ((d * d : Nat) : Int) := by rw [← Int.natCast_mul]; exact w64 (by omega) (by omega)
    have hw1 : wrap64 ((d : Int) + 1) = ((d + 1 : Nat) : Int) := by rw [w64 (by omega) (by omega)]; rfl
    refine Evl.succ ?_
    by_cases hr : d * d ≤ n
    · have h1 : ((d * d : Nat) : Int) ≤ (n : Int) := Int.ofNat_le.2 hr
      have h3 : ¬ (d : Int) = 0 := by omega
      have ht : Int.tmod (n : Int) (d : Int) = ((n % d : Nat) : Int) := rfl
      by_cases hm : n % d = 0
      · have h4 : ((n % d : Nat) : Int) = 0 := by rw [hm]; rfl
        simp only [impl_leastFactor.l0, hw, if_pos h1, if_neg h3, ht, if_pos h4]
        rw [lf_eq hn ⟨h2, Nat.le_trans (Nat.le_mul_self d) hr, hm, hno⟩]
        exact Evl.ret _
      · have h4 : ¬ ((n % d : Nat) : Int) = 0 := by omega
        simp only [impl_leastFactor.l0, hw, if_pos h1, if_neg h3, ht, if_neg h4, hw1]
        refine ih (d + 1) (by omega) (by omega) (fun e he hl => ?_)
        by_cases hed : e = d
        · rw [hed]; exact hm
        · exact hno e he (by omega)
    · have h1 : ¬ ((d * d : Nat) : Int) ≤ (n : Int) := fun h => hr (Int.ofNat_le.1 h)
      simp only [impl_leastFactor.l0, hw, if_neg h1]
      rw [lf_root hn hno (by omega)]
      exact Evl.ret _
theorem impl_leastFactor_ev (n : Nat) (hn : 2 ≤ n) (hb : n ≤ 2000000000) : Evl (fun k => impl_leastFactor.f k (n : Int)) (lf n : Int) := by
  simp only [impl_leastFactor.f]
  exact impl_leastFactor_l0 n hn hb 49998 2 rfl (by omega) (fun e h1 h2 => by omega)
theorem impl_isPrime_ev (a : Int) (hb : a ≤ 2000000000) : Evl (fun k => impl_isPrime.f k a) (isPI a) := by
  by_cases h : a ≥ 2
  · obtain ⟨n, rfl⟩ := Int.eq_ofNat_of_zero_le (show 0 ≤ a by omega)
    simp only [impl_isPrime.f, if_pos h]
    refine Evl.bind (impl_leastFactor_ev n (by omega) (by omega)) ?_
    refine (Evl.ret _).cast ?_
    rw [isPI_nat]
    unfold isP
    rw [decide_eq_true (show 2 ≤ n by omega), Bool.true_and]
    by_cases e : lf n = n
    · rw [decide_eq_true e, e]
      exact beq_self_eq_true _
    · rw [decide_eq_false e]
      exact beq_eq_false_iff_ne.2 (by omega)
  · simp only [impl_isPrime.f, if_neg h]
    rw [isPI_neg (by omega)]
    exact Evl.ret _

end Go.Proofs.Ytgoldeagghadhaa.L

/-! ## E2 -/

namespace Go.Proofs.Ytgoldeagghadhaa.L
open Go.RowKit Go.Proofs.YtgoldeagghadhaaW.PrintWords Go.Proofs.Ytgoldeagghadhaa.P Go.Proofs.Ytgoldeagghadhaa.M
set_option linter.unusedVariables false
set_option linter.unusedSimpArgs false

end Go.Proofs.Ytgoldeagghadhaa.L

/-! ## E3 -/
namespace Go.Proofs.Ytgoldeagghadhaa.L
open Go.RowKit Go.Proofs.YtgoldeagghadhaaW.PrintWords Go.Proofs.Ytgoldeagghadhaa.P Go.Proofs.Ytgoldeagghadhaa.M
set_option linter.unusedVariables false
set_option linter.unusedSimpArgs false

/-- Factors as the program lays them. -/
def fL (l : List (Nat × Nat)) : List (List Int) := l.map fun pe => [(pe.1 : Int), (pe.2 : Int)]

theorem spec_prFactors_l1 : ∀ (f n : Nat) (xs : List (List Int)) (p e : Nat) (R : List (List Int)), 2 ≤ p → 1 ≤ n → n ≤ f → n ≤ 2000000000 → e + n ≤ 4000000000 → xs.length < 5000000000 →
    Evl (fun k => spec_prFactors.l0 k ((strip f p n).2 : Int) (xs ++ [[(p : Int), ((e + (strip f p n).1 : Nat) : Int)]])) R → Evl (fun k => spec_prFactors.l1 k (n : Int) xs (p : Int) (e : Int)) R := by
  intro f
  induction f with
  | zero => intro n xs p e R _ h1 h2; omega
  | succ f ih =>
    intro n xs p e R hp hn hf hb he hl h
    refine Evl.succ ?_
    have h1 : ¬ (p : Int) = 0 := by omega
    have ht : Int.tmod (n : Int) (p : Int) = ((n % p : Nat) : Int) := rfl
    have hq : Int.tdiv (n : Int) (p : Int) = ((n / p : Nat) : Int) := rfl
    unfold strip at h
    by_cases hm : n % p = 0
    · rw [if_pos hm] at h
      have hlt := div_lt_of hp hn
      have hpos := div_pos_of hp hn hm
      have h2 : ((n % p : Nat) : Int) = 0 := by rw [hm]; rfl
      generalize n / p = q at h hq hlt hpos
      have hw : wrap64 (q : Int) = (q : Int) := w64 (by omega) (by omega)
      have hw1 : wrap64 ((e : Int) + 1) = ((e + 1 : Nat) : Int) := by rw [w64 (by omega) (by omega)]; rfl
      simp only [spec_prFactors.l1, if_neg h1, ht, if_pos h2, hq, hw, hw1]
      have e1 : e + 1 + (strip f p q).1 = e + ((strip f p q).1 + 1) := by rw [Nat.add_assoc, Nat.add_comm 1]
      clear ht hq h2 hw hw1 hm h1
      refine ih q xs p (e + 1) R hp hpos ?_ ?_ ?_ hl ?_
      · omega
      · omega
      · clear h e1 ih
        omega
      · rw [e1]
        exact h
    · rw [if_neg hm] at h
      have h2 : ¬ ((n % p : Nat) : Int) = 0 := fun c => hm (Int.ofNat_eq_zero.1 c)
      have h3 : xs.length < 5864062014805 := by omega
      simp only [spec_prFactors.l1, if_neg h1, ht, if_neg h2, if_pos h3]
      simpa using h
theorem spec_prFactors_l0 : ∀ (m n : Nat) (xs : List (List Int)), n ≤ m → n ≤ 2000000000 → xs.length + n ≤ 4000000000 → Evl (fun k => spec_prFactors.l0 k (n : Int) xs) (xs ++ fL (facs n)) := by
  intro m
  induction m with
  | zero =>
    intro n xs h _ _
    refine Evl.succ ?_
    have h1 : ¬ (n : Int) > 1 := by omega
    simp only [spec_prFactors.l0, if_neg h1]
    rw [facs_one (by omega)]
    refine (Evl.ret _).cast ?_
    simp [fL]
  | succ m ih =>
    intro n xs h hb hl
    refine Evl.succ ?_
    rcases Nat.lt_or_ge n 2 with h2 | h2
    · have h1 : ¬ (n : Int) > 1 := by omega
      simp only [spec_prFactors.l0, if_neg h1]
      rw [facs_one (by omega)]
      refine (Evl.ret _).cast ?_
      simp [fL]
    · have h1 : (n : Int) > 1 := by omega
      have hr := rest_lt h2
      simp only [spec_prFactors.l0, if_pos h1]
      refine Evl.bind (spec_prLeast_ev n h2 hb) ?_
      refine spec_prFactors_l1 n n xs (lf n) 0 _ (lf_least h2).two (by omega) (Nat.le_refl _) hb (by omega) (by omega) ?_
      rw [Nat.zero_add]
      refine (ih _ _ (by omega) (by omega) (by rw [List.length_append, List.length_singleton]; omega)).cast ?_
      rw [facs_more h2]
      simp [fL]
theorem spec_prFactors_ev (n : Nat) (hb : n ≤ 2000000000) : Evl (fun k => spec_prFactors.f k (n : Int)) (fL (facs n)) := by
  simp only [spec_prFactors.f]
  exact spec_prFactors_l0 n n [] (Nat.le_refl _) hb (by simp; omega)

theorem impl_factors_l1 : ∀ (f n : Nat) (xs : List (List Int)) (p e : Nat) (R : List (List Int)), 2 ≤ p → 1 ≤ n → n ≤ f → n ≤ 2000000000 → e + n ≤ 4000000000 → xs.length < 5000000000 →
    Evl (fun k => impl_factors.l0 k ((strip f p n).2 : Int) (xs ++ [[(p : Int), ((e + (strip f p n).1 : Nat) : Int)]])) R → Evl (fun k => impl_factors.l1 k (n : Int) xs (p : Int) (e : Int)) R := by
  intro f
  induction f with
  | zero => intro n xs p e R _ h1 h2; omega
  | succ f ih =>
    intro n xs p e R hp hn hf hb he hl h
    refine Evl.succ ?_
    have h1 : ¬ (p : Int) = 0 := by omega
    have ht : Int.tmod (n : Int) (p : Int) = ((n % p : Nat) : Int) := rfl
    have hq : Int.tdiv (n : Int) (p : Int) = ((n / p : Nat) : Int) := rfl
    unfold strip at h
    by_cases hm : n % p = 0
    · rw [if_pos hm] at h
      have hlt := div_lt_of hp hn
      have hpos := div_pos_of hp hn hm
      have h2 : ((n % p : Nat) : Int) = 0 := by rw [hm]; rfl
      generalize n / p = q at h hq hlt hpos
      have hw : wrap64 (q : Int) = (q : Int) := w64 (by omega) (by omega)
      have hw1 : wrap64 ((e : Int) + 1) = ((e + 1 : Nat) : Int) := by rw [w64 (by omega) (by omega)]; rfl
      simp only [impl_factors.l1, if_neg h1, ht, if_pos h2, hq, hw, hw1]
      have e1 : e + 1 + (strip f p q).1 = e + ((strip f p q).1 + 1) := by rw [Nat.add_assoc, Nat.add_comm 1]
      clear ht hq h2 hw hw1 hm h1
      refine ih q xs p (e + 1) R hp hpos ?_ ?_ ?_ hl ?_
      · omega
      · omega
      · clear h e1 ih
        omega
      · rw [e1]
        exact h
    · rw [if_neg hm] at h
      have h2 : ¬ ((n % p : Nat) : Int) = 0 := fun c => hm (Int.ofNat_eq_zero.1 c)
      have h3 : xs.length < 5864062014805 := by omega
      simp only [impl_factors.l1, if_neg h1, ht, if_neg h2, if_pos h3]
      simpa using h
theorem impl_factors_l0 : ∀ (m n : Nat) (xs : List (List Int)), n ≤ m → n ≤ 2000000000 → xs.length + n ≤ 4000000000 → Evl (fun k => impl_factors.l0 k (n : Int) xs) (xs ++ fL (facs n)) := by
  intro m
  induction m with
  | zero =>
    intro n xs h _ _
    refine Evl.succ ?_
    have h1 : ¬ (n : Int) > 1 := by omega
    simp only [impl_factors.l0, if_neg h1]
    rw [facs_one (by omega)]
    refine (Evl.ret _).cast ?_
    simp [fL]
  | succ m ih =>
    intro n xs h hb hl
    refine Evl.succ ?_
    rcases Nat.lt_or_ge n 2 with h2 | h2
    · have h1 : ¬ (n : Int) > 1 := by omega
      simp only [impl_factors.l0, if_neg h1]
      rw [facs_one (by omega)]
      refine (Evl.ret _).cast ?_
      simp [fL]
    · have h1 : (n : Int) > 1 := by omega
      have hr := rest_lt h2
      simp only [impl_factors.l0, if_pos h1]
      refine Evl.bind (impl_leastFactor_ev n h2 hb) ?_
      refine impl_factors_l1 n n xs (lf n) 0 _ (lf_least h2).two (by omega) (Nat.le_refl _) hb (by omega) (by omega) ?_
      rw [Nat.zero_add]
      refine (ih _ _ (by omega) (by omega) (by rw [List.length_append, List.length_singleton]; omega)).cast ?_
      rw [facs_more h2]
      simp [fL]
theorem impl_factors_ev (n : Nat) (hb : n ≤ 2000000000) : Evl (fun k => impl_factors.f k (n : Int)) (fL (facs n)) := by
  simp only [impl_factors.f]
  exact impl_factors_l0 n n [] (Nat.le_refl _) hb (by simp; omega)

end Go.Proofs.Ytgoldeagghadhaa.L

/-! ## E4 -/
namespace Go.Proofs.Ytgoldeagghadhaa.L
open Go.RowKit Go.Proofs.YtgoldeagghadhaaW.PrintWords Go.Proofs.Ytgoldeagghadhaa.P Go.Proofs.Ytgoldeagghadhaa.M
set_option linter.unusedVariables false
set_option linter.unusedSimpArgs false

theorem l1In_eq (a lo hi : Int) : spec_l1In.f a lo hi = some (decide (lo ≤ a ∧ a ≤ hi)) := by
  unfold spec_l1In.f
  by_cases h : a ≥ lo
  · rw [if_pos h]
    by_cases h2 : a ≤ hi
    · rw [decide_eq_true h2, decide_eq_true ⟨h, h2⟩]
    · rw [decide_eq_false h2, decide_eq_false (fun c => h2 c.2)]
  · rw [if_neg h, decide_eq_false (fun c => h c.1)]
theorem prFactored_eq (a : Int) : spec_prFactored.f a = some (decide (1 ≤ a ∧ a ≤ 1000000000)) := by
  unfold spec_prFactored.f
  rw [l1In_eq]
  rfl
theorem isFactored_eq (a : Int) : impl_isFactored.f a = some (decide (1 ≤ a ∧ a ≤ 1000000000)) := by
  unfold impl_isFactored.f
  by_cases h : a ≥ 1
  · rw [if_pos h]
    by_cases h2 : a ≤ 1000000000
    · rw [decide_eq_true h2, decide_eq_true ⟨h, h2⟩]
    · rw [decide_eq_false h2, decide_eq_false (fun c => h2 c.2)]
  · rw [if_neg h, decide_eq_false (fun c => h c.1)]

theorem rdL_of {xs : List (List Int)} {i : Nat} {x : List Int} (h : xs[i]? = some x) : rd_L1 xs (i : Int) = x := by
  unfold rd_L1
  rw [Int.toNat_natCast, List.getD_eq_getElem?_getD, h]
  rfl
theorem fL_two {l : List (Nat × Nat)} {f : List Int} (h : f ∈ fL l) : f.length = 2 := by
  unfold fL at h
  obtain ⟨pe, _, rfl⟩ := List.mem_map.1 h
  rfl
theorem fL_length (l : List (Nat × Nat)) : (fL l).length = l.length := by unfold fL; exact List.length_map ..

/-- The product of the first ones of rows, as the program makes it. -/
def radW : Int → List (List Int) → Int
  | a, [] => a
  | a, f :: fs => radW (wrap64 (a * rd f 0)) fs
theorem spec_prRadical_l0 (xs : List (List Int)) (h2 : ∀ f ∈ xs, f.length = 2) (hl : xs.length ≤ 4000000000) : ∀ (s : List (List Int)) (i : Nat) (a : Int), xs.drop i = s → Evl (fun k => spec_prRadical.l0 k a xs (xs.length : Int) (i : Int)) (radW a s) := by
  intro s
  induction s with
  | nil =>
    intro i a h
    have hi := drop_nil h
    refine Evl.succ ?_
    have h1 : ¬ (i : Int) < (xs.length : Int) := by omega
    simp only [spec_prRadical.l0, if_neg h1]
    exact Evl.ret _
  | cons f s ih =>
    intro i a h
    obtain ⟨hi, hx, hs⟩ := drop_cons h
    have hw : wrap64 ((i : Int) + 1) = ((i + 1 : Nat) : Int) := by rw [w64 (by omega) (by omega)]; rfl
    have h1 : (i : Int) < (xs.length : Int) := by omega
    have h0 : (0 : Int) ≤ (i : Int) := by omega
    have hf := h2 f (List.mem_of_getElem? hx)
    have h3 : (0 : Int) < (f.length : Int) := by omega
    refine Evl.succ ?_
    simp only [spec_prRadical.l0, if_pos h1, if_pos h0, rdL_of hx, if_pos h3, hw]
    exact ih (i + 1) _ hs
theorem spec_prRadical_ev (n : Nat) (hb : n ≤ 2000000000) : Evl (fun k => spec_prRadical.f k (n : Int)) (radW 1 (fL (facs n))) := by
  simp only [spec_prRadical.f]
  refine Evl.bind (spec_prFactors_ev n hb) ?_
  refine spec_prRadical_l0 (fL (facs n)) (fun f hf => fL_two hf) ?_ _ 0 1 rfl
  rw [fL_length]
  have := facs_length n n (Nat.le_refl _)
  omega
theorem impl_radical_l0 (xs : List (List Int)) (h2 : ∀ f ∈ xs, f.length = 2) (hl : xs.length ≤ 4000000000) : ∀ (s : List (List Int)) (i : Nat) (a : Int), xs.drop i = s → Evl (fun k => impl_radical.l0 k a xs (xs.length : Int) (i : Int)) (radW a s) := by
  intro s
  induction s with
  | nil =>
    intro i a h
    have hi := drop_nil h
    refine Evl.succ ?_
    have h1 : ¬ (i : Int) < (xs.length : Int) := by omega
    simp only [impl_radical.l0, if_neg h1]
    exact Evl.ret _
  | cons f s ih =>
    intro i a h
    obtain ⟨hi, hx, hs⟩ := drop_cons h
    have hw : wrap64 ((i : Int) + 1) = ((i + 1 : Nat) : Int) := by rw [w64 (by omega) (by omega)]; rfl
    have h1 : (i : Int) < (xs.length : Int) := by omega
    have h0 : (0 : Int) ≤ (i : Int) := by omega
    have hf := h2 f (List.mem_of_getElem? hx)
    have h3 : (0 : Int) < (f.length : Int) := by omega
    refine Evl.succ ?_
    simp only [impl_radical.l0, if_pos h1, if_pos h0, rdL_of hx, if_pos h3, hw]
    exact ih (i + 1) _ hs
theorem impl_radical_ev (n : Nat) (hb : n ≤ 2000000000) : Evl (fun k => impl_radical.f k (n : Int)) (radW 1 (fL (facs n))) := by
  simp only [impl_radical.f]
  refine Evl.bind (impl_factors_ev n hb) ?_
  refine impl_radical_l0 (fL (facs n)) (fun f hf => fL_two hf) ?_ _ 0 1 rfl
  rw [fL_length]
  have := facs_length n n (Nat.le_refl _)
  omega

/-- Smooth: no prime factor is greater than the bound. -/
def smooth (n : Nat) (b : Int) : Bool := (facs n).all fun pe => decide ((pe.1 : Int) ≤ b)
theorem prSmooth_l0 (b : Int) (l : List (Nat × Nat)) (hl : l.length ≤ 4000000000) : ∀ (s : List (Nat × Nat)) (i : Nat), l.drop i = s → Evl (fun k => spec_prSmooth.l0 k b (fL l) ((fL l).length : Int) (i : Int)) (s.all fun pe => decide ((pe.1 : Int) ≤ b)) := by
  intro s
  induction s with
  | nil =>
    intro i h
    have hi := drop_nil h
    refine Evl.succ ?_
    have h1 : ¬ (i : Int) < ((fL l).length : Int) := by rw [fL_length]; omega
    simp only [spec_prSmooth.l0, if_neg h1]
    exact Evl.ret _
  | cons f s ih =>
    intro i h
    obtain ⟨hi, hx, hs⟩ := drop_cons h
    have hw : wrap64 ((i : Int) + 1) = ((i + 1 : Nat) : Int) := by rw [w64 (by omega) (by omega)]; rfl
    have h1 : (i : Int) < ((fL l).length : Int) := by rw [fL_length]; omega
    have h0 : (0 : Int) ≤ (i : Int) := by omega
    have hr : rd_L1 (fL l) (i : Int) = [(f.1 : Int), (f.2 : Int)] := rdL_of (by unfold fL; rw [List.getElem?_map, hx]; rfl)
    have h3 : (0 : Int) < (([(f.1 : Int), (f.2 : Int)] : List Int).length : Int) := by simp
    have h4 : rd [(f.1 : Int), (f.2 : Int)] 0 = (f.1 : Int) := rfl
    refine Evl.succ ?_
    simp only [spec_prSmooth.l0, if_pos h1, if_pos h0, hr, if_pos h3, h4, hw]
    by_cases h5 : (f.1 : Int) > b
    · simp only [if_pos h5]
      refine (Evl.ret _).cast ?_
      rw [List.all_cons, decide_eq_false (by omega)]
      rfl
    · simp only [if_neg h5]
      refine (ih (i + 1) hs).cast ?_
      rw [List.all_cons, decide_eq_true (by omega)]
      rfl
theorem prSmooth_ev (n : Nat) (b : Int) (hb : n ≤ 2000000000) : Evl (fun k => spec_prSmooth.f k (n : Int) b) (smooth n b) := by
  simp only [spec_prSmooth.f]
  refine Evl.bind (spec_prFactors_ev n hb) ?_
  have := facs_length n n (Nat.le_refl _)
  exact prSmooth_l0 b (facs n) (by omega) (facs n) 0 rfl
theorem smooth_last (n : Nat) (b : Int) {l : List (Nat × Nat)} {pe : Nat × Nat} (h : facs n = l ++ [pe]) : smooth n b = decide ((pe.1 : Int) ≤ b) := by
  have hs := facs_sorted n
  unfold smooth
  rw [h] at hs ⊢
  rw [List.pairwise_append] at hs
  by_cases hb : (pe.1 : Int) ≤ b
  · rw [decide_eq_true hb, List.all_eq_true]
    intro q hq
    rcases List.mem_append.1 hq with hq | hq
    · have := hs.2.2 q hq pe (List.mem_singleton.2 rfl)
      exact decide_eq_true (by omega)
    · rw [List.mem_singleton.1 hq]; exact decide_eq_true hb
  · rw [decide_eq_false hb, List.all_append]
    simp [hb]
theorem isSmooth_ev (n : Nat) (b : Int) (hb : n ≤ 2000000000) : Evl (fun k => impl_isSmooth.f k (n : Int) b) (smooth n b) := by
  simp only [impl_isSmooth.f]
  refine Evl.bind (impl_factors_ev n hb) ?_
  have hlen := facs_length n n (Nat.le_refl _)
  rcases List.eq_nil_or_concat (facs n) with h | ⟨l, pe, h⟩
  · have h1 : (((fL (facs n)).length : Nat) : Int) = 0 := by rw [fL_length, h]; rfl
    simp only [if_pos h1]
    refine (Evl.ret _).cast ?_
    unfold smooth
    rw [h]
    rfl
  · rw [List.concat_eq_append] at h
    rw [smooth_last n b h]
    have hl2 : l.length ≤ n := by rw [h] at hlen; simp at hlen; omega
    have hll : (fL (facs n)).length = l.length + 1 := by rw [fL_length, h]; simp
    have h1 : ¬ (((fL (facs n)).length : Nat) : Int) = 0 := by omega
    have hw : wrap64 (((fL (facs n)).length : Int) - 1) = ((l.length : Nat) : Int) := by rw [hll, w64 (by omega) (by omega)]; omega
    have h2 : (0 : Int) ≤ ((l.length : Nat) : Int) := by omega
    have h3 : ((l.length : Nat) : Int) < ((fL (facs n)).length : Int) := by omega
    have hr : rd_L1 (fL (facs n)) ((l.length : Nat) : Int) = [(pe.1 : Int), (pe.2 : Int)] := rdL_of (by unfold fL; rw [h]; simp)
    have h4 : (0 : Int) < (([(pe.1 : Int), (pe.2 : Int)] : List Int).length : Int) := by simp
    have h5 : rd [(pe.1 : Int), (pe.2 : Int)] 0 = (pe.1 : Int) := rfl
    simp only [if_neg h1, hw, if_pos h2, if_pos h3, hr, if_pos h4, h5]
    exact Evl.ret _

end Go.Proofs.Ytgoldeagghadhaa.L

/-! ## M3 -/
namespace Go.Proofs.Ytgoldeagghadhaa.M
set_option linter.unusedVariables false
set_option linter.unusedSimpArgs false

/-- The number that factors make. -/
def prodF : List (Nat × Nat) → Nat
  | [] => 1
  | pe :: l => pe.1 ^ pe.2 * prodF l
theorem prodF_facs_aux : ∀ (m n : Nat), n ≤ m → 1 ≤ n → prodF (facs n) = n
  | 0, n, h, h1 => by omega
  | m + 1, n, h, h1 => by
    rcases Nat.lt_or_ge n 2 with h2 | h2
    · rw [facs_one (by omega)]
      show 1 = n
      omega
    · have hl := lf_least h2
      have hs := strip_spec n (lf n) n hl.two h1 (Nat.le_refl _)
      have hr := rest_lt h2
      rw [facs_more h2]
      show lf n ^ (strip n (lf n) n).1 * prodF (facs (strip n (lf n) n).2) = n
      rw [prodF_facs_aux m _ (by omega) hs.pos]
      exact hs.mul.symm
theorem prodF_facs {n : Nat} (h : 1 ≤ n) : prodF (facs n) = n := prodF_facs_aux n n (Nat.le_refl _) h
/-- Primes that rise, each at least once. -/
structure Facs (l : List (Nat × Nat)) : Prop where
  pr : ∀ pe ∈ l, isP pe.1 = true ∧ 1 ≤ pe.2
  up : l.Pairwise (fun a b => a.1 < b.1)
theorem Facs.tail {pe : Nat × Nat} {l : List (Nat × Nat)} (h : Facs (pe :: l)) : Facs l :=
  ⟨fun q hq => h.pr q (List.mem_cons_of_mem _ hq), (List.pairwise_cons.1 h.up).2⟩
theorem facs_Facs {n : Nat} (h : 1 ≤ n) : Facs (facs n) := ⟨fun pe hp => ⟨(facs_prop h hp).1, (facs_prop h hp).2.1⟩, facs_sorted n⟩
theorem prodF_pos : ∀ (l : List (Nat × Nat)), (∀ pe ∈ l, 1 ≤ pe.1) → 1 ≤ prodF l
  | [], _ => Nat.le_refl _
  | pe :: l, h => by
    have h1 := prodF_pos l fun q hq => h q (List.mem_cons_of_mem _ hq)
    have h2 : 1 ≤ pe.1 ^ pe.2 := Nat.pow_pos (h pe (List.mem_cons_self ..))
    exact Nat.mul_le_mul h2 h1
theorem Facs.pos {l : List (Nat × Nat)} (h : Facs l) : 1 ≤ prodF l := prodF_pos l fun pe hp => by have := isP_two (h.pr pe hp).1; omega
theorem dvd_prodF : ∀ {l : List (Nat × Nat)}, (∀ pe ∈ l, isP pe.1 = true) → ∀ {q : Nat}, isP q = true → q ∣ prodF l → ∃ pe ∈ l, pe.1 = q
  | [], _, q, hq, hd => by
    have h1 := isP_two hq
    have := Nat.le_of_dvd (Nat.zero_lt_one) hd
    omega
  | pe :: l, h, q, hq, hd => by
    rcases isP_euclid hq hd with h1 | h1
    · exact ⟨pe, List.mem_cons_self .., (isP_pow hq (h pe (List.mem_cons_self ..)) _ h1).symm⟩
    · obtain ⟨r, hr, e⟩ := dvd_prodF (fun q hq => h q (List.mem_cons_of_mem _ hq)) hq h1
      exact ⟨r, List.mem_cons_of_mem _ hr, e⟩
theorem facs_prodF : ∀ {l : List (Nat × Nat)}, Facs l → facs (prodF l) = l
  | [], _ => facs_one (Nat.le_refl _)
  | pe :: l, h => by
    obtain ⟨p, e⟩ := pe
    obtain ⟨hp, he⟩ := h.pr (p, e) (List.mem_cons_self ..)
    have hup := (List.pairwise_cons.1 h.up).1
    have ht := h.tail
    have hM := ht.pos
    have hp2 : 2 ≤ p := isP_two hp
    have hpe : p ≤ p ^ e := by
      obtain ⟨k, hk⟩ : ∃ k, e = k + 1 := ⟨e - 1, by simp at he; omega⟩
      rw [hk, Nat.pow_succ]
      exact Nat.le_mul_of_pos_left _ (Nat.pow_pos (by omega))
    have hm2 : p ≤ prodF ((p, e) :: l) := Nat.le_trans hpe (Nat.le_mul_of_pos_right _ hM)
    have hpd : p ∣ prodF ((p, e) :: l) := by
      obtain ⟨k, hk⟩ : ∃ k, e = k + 1 := ⟨e - 1, by simp at he; omega⟩
      refine Nat.dvd_trans ?_ (Nat.dvd_mul_right _ _)
      show p ∣ p ^ e
      rw [hk, Nat.pow_succ]
      exact Nat.dvd_mul_left _ _
    have hlf : lf (prodF ((p, e) :: l)) = p := by
      refine lf_eq (by omega) ⟨hp2, hm2, Nat.mod_eq_zero_of_dvd hpd, fun d h2 hd hm => ?_⟩
      have hl := lf_least h2
      have hq := isP_lf h2
      obtain ⟨r, hr, e1⟩ := dvd_prodF (fun q hq => (h.pr q hq).1) hq (Nat.dvd_trans (Nat.dvd_of_mod_eq_zero hl.div) (Nat.dvd_of_mod_eq_zero hm))
      have hle := hl.le
      rcases List.mem_cons.1 hr with h3 | h3
      · subst h3; simp only at e1; omega
      · have := hup r h3; simp only at this; omega
    have hno : prodF l % p ≠ 0 := fun c => by
      obtain ⟨r, hr, e1⟩ := dvd_prodF (fun q hq => (ht.pr q hq).1) hp (Nat.dvd_of_mod_eq_zero c)
      have := hup r hr
      simp only at this
      omega
    have hs := strip_spec (prodF ((p, e) :: l)) p (prodF ((p, e) :: l)) hp2 (by omega) (Nat.le_refl _)
    obtain ⟨e1, e2⟩ := strip_uniq hp2 hs.mul (show prodF ((p, e) :: l) = p ^ e * prodF l from rfl) hs.no hno
    rw [facs_more (by omega), hlf, e1, e2, facs_prodF ht]

/-- The product of the primes of factors. -/
def radF : List (Nat × Nat) → Nat
  | [] => 1
  | pe :: l => pe.1 * radF l
theorem radF_dvd : ∀ {l : List (Nat × Nat)}, (∀ pe ∈ l, 1 ≤ pe.2) → radF l ∣ prodF l
  | [], _ => Nat.dvd_refl _
  | pe :: l, h => by
    refine Nat.mul_dvd_mul ?_ (radF_dvd fun q hq => h q (List.mem_cons_of_mem _ hq))
    obtain ⟨k, hk⟩ : ∃ k, pe.2 = k + 1 := ⟨pe.2 - 1, by have := h pe (List.mem_cons_self ..); omega⟩
    rw [hk, Nat.pow_succ]
    exact Nat.dvd_mul_left _ _

/-! ### Legendre's recursion -/
end Go.Proofs.Ytgoldeagghadhaa.M

/-! ## E0 -/

namespace Go.Proofs.Ytgoldeagghadhaa.L
open Go.RowKit Go.Proofs.YtgoldeagghadhaaW.PrintWords Go.Proofs.Ytgoldeagghadhaa.P
set_option linter.unusedVariables false
set_option linter.unusedSimpArgs false

end Go.Proofs.Ytgoldeagghadhaa.L

/-! ## E10 -/

namespace Go.Proofs.Ytgoldeagghadhaa.L
open Go.RowKit Go.Proofs.YtgoldeagghadhaaW.PrintWords Go.Proofs.Ytgoldeagghadhaa.P Go.Proofs.Ytgoldeagghadhaa.M
set_option linter.unusedVariables false
set_option linter.unusedSimpArgs false

end Go.Proofs.Ytgoldeagghadhaa.L

/-! ## X11 -/
namespace Go.Proofs.Ytgoldeagghadhaa.L
open Go.RowKit Go.Proofs.YtgoldeagghadhaaW.PrintWords Go.Proofs.Ytgoldeagghadhaa.P Go.Proofs.Ytgoldeagghadhaa.M
set_option linter.unusedVariables false
set_option linter.unusedSimpArgs false

/-- Whether a row is a prime of at most 10^9 and how often, rising. -/
def fOk (prev : Option Int) (f : List Int) : Bool := decide (f.length = 2 ∧ 1 ≤ rd f 0 ∧ rd f 0 ≤ 1000000000 ∧ 1 ≤ rd f 1) && isPI (rd f 0) && (match prev with | some q => decide (q < rd f 0) | none => true)
/-- n times p, as often as told, at most 10^9. -/
def mulE : Nat → Nat → Nat → Option Nat
  | 0, _, n => some n
  | e + 1, p, n => if n * p ≤ 1000000000 then mulE e p (n * p) else none
theorem mulE_eq : ∀ (e p n : Nat), 1 ≤ p → n ≤ 1000000000 → mulE e p n = if n * p ^ e ≤ 1000000000 then some (n * p ^ e) else none
  | 0, p, n, hp, h => by rw [Nat.pow_zero, Nat.mul_one, if_pos h]; rfl
  | e + 1, p, n, hp, h => by
    unfold mulE
    have e1 : n * p ^ (e + 1) = n * p * p ^ e := by rw [Nat.pow_succ, Nat.mul_assoc, Nat.mul_comm (p ^ e) p]
    by_cases c : n * p ≤ 1000000000
    · rw [if_pos c, mulE_eq e p (n * p) hp c, e1]
    · rw [if_neg c, if_neg]
      rw [e1]
      have : n * p ≤ n * p * p ^ e := Nat.le_mul_of_pos_right _ (Nat.pow_pos (by omega))
      omega
theorem mulE_le : ∀ {e p n m : Nat}, mulE e p n = some m → n ≤ 1000000000 → m ≤ 1000000000
  | 0, p, n, m, h, hn => by injection h with h; omega
  | e + 1, p, n, m, h, hn => by
    unfold mulE at h
    by_cases c : n * p ≤ 1000000000
    · rw [if_pos c] at h; exact mulE_le h c
    · rw [if_neg c] at h; cases h
/-- More than thirty times at least 2 is too much. -/
theorem mulE_many : ∀ (e p n : Nat), 2 ≤ p → 1 ≤ n → 30 < e → mulE e p n = none := by
  have key : ∀ (e p n : Nat), 2 ≤ p → 2 ^ (31 - e) ≤ n * 2 ∨ True := fun _ _ _ _ => .inr trivial
  have step : ∀ (d e p n : Nat), 2 ≤ p → d ≤ e → 2 ^ (30 - d) ≤ n → d ≤ 30 → mulE e p n = none ∨ d = 0 := by
    intro d
    induction d with
    | zero => intro e p n _ _ _ _; exact .inr rfl
    | succ d ih =>
      intro e p n hp hd hn h30
      refine .inl ?_
      obtain ⟨e', rfl⟩ : ∃ k, e = k + 1 := ⟨e - 1, by omega⟩
      unfold mulE
      by_cases c : n * p ≤ 1000000000
      · rw [if_pos c]
        have h1 : 2 ^ (30 - d) ≤ n * p := by
          have e1 : 30 - d = (30 - (d + 1)) + 1 := by omega
          rw [e1, Nat.pow_succ]
          exact Nat.mul_le_mul hn hp
        rcases ih e' p (n * p) hp (by omega) h1 (by omega) with h | h
        · exact h
        · subst h
          exfalso
          have : (2 : Nat) ^ (30 - 0) = 1073741824 := by decide
          omega
      · rw [if_neg c]
  intro e p n hp hn he
  rcases step 30 e p n hp (by omega) (by simpa using hn) (by omega) with h | h
  · exact h
  · omega
def prevOf (f : List Int) : Option Int := some (rd f 0)
/-- The number that rows make, if they are factors and it is at most 10^9. -/
def nof : Option Int → Nat → List (List Int) → Option Nat
  | _, n, [] => some n
  | prev, n, f :: s => if fOk prev f = true then (match mulE (rd f 1).toNat (rd f 0).toNat n with | some m => nof (prevOf f) m s | none => none) else none
def nofR (o : Option Nat) : Int × Bool := match o with | some n => ((n : Int), true) | none => (0, false)

theorem spec_NOF_l1 (l : List (List Int)) (f : List Int) (xs : List (List Int)) (m i : Int) (p : Nat) (hp : 2 ≤ p) (hf : rd f 0 = (p : Int)) (hfl : 0 < f.length) (hp2 : p ≤ 1000000000) {R : Option Nat → Int × Bool} (hno : R none = (0, false)) (hw : wrap64 (i + 1) = i + 1) :
    ∀ (e n : Nat), n ≤ 1000000000 → e ≤ 30 → (∀ q, mulE e p n = some q → Evl (fun k => spec_NumberOfFactors.l0 k l (q : Int) xs m (i + 1)) (R (some q))) → Evl (fun k => spec_NumberOfFactors.l1 k l (n : Int) f (e : Int) xs m i) (R (mulE e p n)) := by
  intro e
  induction e with
  | zero =>
    intro n hn _ h
    refine Evl.succ ?_
    simp only [spec_NumberOfFactors.l1, if_neg (show ¬ ((0 : Nat) : Int) > 0 by omega), hw]
    exact h n rfl
  | succ e ih =>
    intro n hn he h
    have hnp : n * p ≤ 1000000000 * 1000000000 := Nat.mul_le_mul hn hp2
    have hw1 : wrap64 ((n : Int) * (p : Int)) = ((n * p : Nat) : Int) := by rw [← Int.natCast_mul]; exact w64 (by omega) (by omega)
    have hw2 : wrap64 (((e + 1 : Nat) : Int) - 1) = (e : Int) := by rw [w64 (by omega) (by omega)]; omega
    refine Evl.succ ?_
    simp only [spec_NumberOfFactors.l1, if_pos (show ((e + 1 : Nat) : Int) > 0 by omega), if_pos (show (0 : Int) < (f.length : Int) by omega), hf, hw1, hw2]
    unfold mulE at h ⊢
    by_cases c : n * p ≤ 1000000000
    · rw [if_pos c] at h ⊢
      simp only [if_neg (show ¬ ((n * p : Nat) : Int) > 1000000000 by omega)]
      exact ih (n * p) c (by omega) h
    · rw [if_neg c, hno]
      simp only [if_pos (show ((n * p : Nat) : Int) > 1000000000 by omega)]
      exact Evl.ret _
theorem impl_NOF_l1 (l : List (List Int)) (f : List Int) (xs : List (List Int)) (m i : Int) (p : Nat) (hp : 2 ≤ p) (hf : rd f 0 = (p : Int)) (hfl : 0 < f.length) (hp2 : p ≤ 1000000000) {R : Option Nat → Int × Bool} (hno : R none = (0, false)) (hw : wrap64 (i + 1) = i + 1) :
    ∀ (e n j : Nat), n ≤ 1000000000 → ((e + j : Nat) : Int) ≤ 9223372036854775807 → (∀ q, mulE e p n = some q → Evl (fun k => impl_numberOf.l0 k l (q : Int) xs m (i + 1)) (R (some q))) → Evl (fun k => impl_numberOf.l1 k l (n : Int) f xs m i ((e + j : Nat) : Int) (j : Int)) (R (mulE e p n)) := by
  intro e
  induction e with
  | zero =>
    intro n j hn _ h
    refine Evl.succ ?_
    simp only [impl_numberOf.l1, if_neg (show ¬ (j : Int) < ((0 + j : Nat) : Int) by omega), hw]
    exact h n rfl
  | succ e ih =>
    intro n j hn he h
    have hnp : n * p ≤ 1000000000 * 1000000000 := Nat.mul_le_mul hn hp2
    have hw1 : wrap64 ((n : Int) * (p : Int)) = ((n * p : Nat) : Int) := by rw [← Int.natCast_mul]; exact w64 (by omega) (by omega)
    have hw2 : wrap64 ((j : Int) + 1) = ((j + 1 : Nat) : Int) := by rw [w64 (by omega) (by omega)]; rfl
    refine Evl.succ ?_
    simp only [impl_numberOf.l1, if_pos (show (j : Int) < ((e + 1 + j : Nat) : Int) by omega), if_pos (show (0 : Int) < (f.length : Int) by omega), hf, hw1, hw2]
    unfold mulE at h ⊢
    by_cases c : n * p ≤ 1000000000
    · rw [if_pos c] at h ⊢
      simp only [if_neg (show ¬ ((n * p : Nat) : Int) > 1000000000 by omega)]
      have ej : e + (j + 1) = e + 1 + j := by rw [Nat.add_comm j 1, ← Nat.add_assoc]
      have := ih (n * p) (j + 1) c (by rw [ej]; exact he) h
      rw [ej] at this
      exact this
    · rw [if_neg c, hno]
      simp only [if_pos (show ((n * p : Nat) : Int) > 1000000000 by omega)]
      exact Evl.ret _
/-- What a loop over the rows holds of the row ahead. -/
def ahead (l : List (List Int)) (i : Nat) : Option Int := if i = 0 then none else some (rd (rd_L1 l ((i - 1 : Nat) : Int)) 0)
theorem nat_of {x : Int} (h : 0 ≤ x) : ((x.toNat : Nat) : Int) = x := Int.toNat_of_nonneg h
theorem spec_NOF_j1_no (l : List (List Int)) (n : Int) (f : List Int) (xs : List (List Int)) (m i : Int) : Evl (fun k => spec_NumberOfFactors.j1 k l n f xs m i true) (0, false) := by
  refine Evl.succ ?_
  simp only [spec_NumberOfFactors.j1, if_true]
  exact Evl.ret _
theorem spec_NOF_l0 (l : List (List Int)) (hl : l.length ≤ 30) (hb : ∀ f ∈ l, ∀ x ∈ f, x ≤ 9223372036854775807) : ∀ (s : List (List Int)) (i n : Nat), l.drop i = s → n ≤ 1000000000 → 1 ≤ n → (∀ j, j < i → 1 ≤ (rd_L1 l (j : Int)).length) →
    Evl (fun k => spec_NumberOfFactors.l0 k l (n : Int) l (l.length : Int) (i : Int)) (nofR (nof (ahead l i) n s)) := by
  intro s
  induction s with
  | nil =>
    intro i n hd hn h1 hpre
    have hi := drop_nil hd
    refine Evl.succ ?_
    simp only [spec_NumberOfFactors.l0, if_neg (show ¬ (i : Int) < (l.length : Int) by omega)]
    exact Evl.ret _
  | cons f s ih =>
    intro i n hd hn h1 hpre
    obtain ⟨hi, hx, hs⟩ := drop_cons hd
    have hw : wrap64 ((i : Int) + 1) = (i : Int) + 1 := by rw [w64 (by omega) (by omega)]
    have hwm : 0 < i → wrap64 ((i : Int) - 1) = ((i - 1 : Nat) : Int) := fun h => by rw [w64 (by omega) (by omega)]; omega
    have hno : ∀ (c : fOk (ahead l i) f = false), nofR (nof (ahead l i) n (f :: s)) = (0, false) := fun c => by unfold nof; rw [if_neg (by rw [c]; simp)]; rfl
    refine Evl.succ ?_
    simp only [spec_NumberOfFactors.l0, if_pos (show (i : Int) < (l.length : Int) by omega), if_pos (show (0 : Int) ≤ (i : Int) by omega), rdL_of hx]
    by_cases c1 : f.length = 2
    · have g0 : (0 : Int) < (f.length : Int) := by omega
      have g1 : (1 : Int) < (f.length : Int) := by omega
      simp only [if_pos (show (f.length : Int) = 2 by omega), if_pos g0, if_pos g1, prFactored_eq, Option.bind_some]
      by_cases c2 : 1 ≤ rd f 0 ∧ rd f 0 ≤ 1000000000
      · simp only [decide_eq_true c2, if_true]
        refine Evl.bind (spec_prIs_ev (rd f 0) (by omega)) ?_
        cases c3 : isPI (rd f 0) with
        | false =>
          simp only [Bool.false_eq_true, if_false]
          rw [hno (by unfold fOk; rw [c3]; simp)]
          exact spec_NOF_j1_no ..
        | true =>
          have hp2 : 2 ≤ rd f 0 := by
            rcases Int.lt_or_le (rd f 0) 2 with h | h
            · rw [isPI_neg h] at c3; cases c3
            · exact h
          simp only [if_true, l1In_eq, Option.bind_some]
          by_cases c4 : 1 ≤ rd f 1 ∧ rd f 1 ≤ 30
          · simp only [decide_eq_true c4, if_true]
            have fin : ∀ b : Bool, (fOk (ahead l i) f = !b) → Evl (fun k => spec_NumberOfFactors.j1 k l (n : Int) f l (l.length : Int) (i : Int) b) (nofR (nof (ahead l i) n (f :: s))) := by
              intro b hb2
              cases b with
              | true => rw [hno hb2]; exact spec_NOF_j1_no ..
              | false =>
                have hok : fOk (ahead l i) f = true := hb2
                refine Evl.succ ?_
                simp only [spec_NumberOfFactors.j1, Bool.false_eq_true, if_false, if_pos g1]
                have hnof : nof (ahead l i) n (f :: s) = (match mulE (rd f 1).toNat (rd f 0).toNat n with | some m => nof (prevOf f) m s | none => none) := by conv => lhs; unfold nof; rw [if_pos hok]
                rw [hnof]
                have := spec_NOF_l1 l f l (l.length : Int) (i : Int) (rd f 0).toNat (by omega) (nat_of (by omega)).symm (by omega) (by omega) (R := fun o => nofR (match o with | some m => nof (prevOf f) m s | none => none)) rfl hw (rd f 1).toNat n hn (by omega) (fun q hq => by
                  have h2 := ih (i + 1) q hs (mulE_le hq hn) (by
                    rw [mulE_eq _ _ _ (by omega) hn] at hq
                    by_cases c : n * (rd f 0).toNat ^ (rd f 1).toNat ≤ 1000000000
                    · rw [if_pos c] at hq
                      injection hq with hq
                      rw [← hq]
                      exact Nat.mul_le_mul h1 (Nat.pow_pos (n := (rd f 1).toNat) (show 0 < (rd f 0).toNat by omega))
                    · rw [if_neg c] at hq; cases hq) (fun j hj => by
                    rcases Nat.lt_or_ge j i with h | h
                    · exact hpre j h
                    · obtain rfl : j = i := by omega
                      rw [rdL_of hx]; omega)
                  have e1 : ahead l (i + 1) = prevOf f := by unfold ahead prevOf; rw [if_neg (by omega), Nat.add_sub_cancel, rdL_of hx]
                  rw [e1] at h2
                  exact h2)
                rw [nat_of (show 0 ≤ rd f 1 by omega)] at this
                exact this
            by_cases c5 : i = 0
            · subst c5
              simp only [if_neg (show ¬ ((0 : Nat) : Int) > 0 by omega)]
              refine fin false ?_
              unfold fOk ahead
              rw [if_pos rfl, c3, decide_eq_true ⟨c1, c2.1, c2.2, c4.1⟩]
              rfl
            · have hi1 : (((i - 1 : Nat) : Nat) : Int) < (l.length : Int) := by omega
              have hpl := hpre (i - 1) (by omega)
              simp only [if_pos (show (i : Int) > 0 by omega), hwm (by omega), if_pos (show (0 : Int) ≤ ((i - 1 : Nat) : Int) by omega), if_pos hi1, if_pos (show (0 : Int) < ((rd_L1 l ((i - 1 : Nat) : Int)).length : Int) by omega)]
              refine fin _ ?_
              unfold fOk ahead
              rw [if_neg c5, c3, decide_eq_true ⟨c1, c2.1, c2.2, c4.1⟩]
              simp only [Bool.true_and]
              by_cases c6 : rd (rd_L1 l ((i - 1 : Nat) : Int)) 0 < rd f 0
              · rw [decide_eq_true c6, decide_eq_false (by omega)]; rfl
              · rw [decide_eq_false c6, decide_eq_true (by omega)]; rfl
          · simp only [decide_eq_false c4, Bool.false_eq_true, if_false]
            by_cases c7 : 1 ≤ rd f 1
            · have : nofR (nof (ahead l i) n (f :: s)) = (0, false) := by
                unfold nof
                by_cases hok : fOk (ahead l i) f = true
                · rw [if_pos hok, mulE_many _ _ _ (by omega) h1 (by omega)]; rfl
                · rw [if_neg hok]; rfl
              rw [this]
              exact spec_NOF_j1_no ..
            · rw [hno (by unfold fOk; rw [decide_eq_false (fun c => c7 c.2.2.2)]; simp)]
              exact spec_NOF_j1_no ..
      · simp only [decide_eq_false c2, Bool.false_eq_true, if_false]
        rw [hno (by unfold fOk; rw [decide_eq_false (fun c => c2 ⟨c.2.1, c.2.2.1⟩)]; simp)]
        exact spec_NOF_j1_no ..
    · simp only [if_neg (show ¬ (f.length : Int) = 2 by omega)]
      rw [hno (by unfold fOk; rw [decide_eq_false (fun c => c1 c.1)]; simp)]
      exact spec_NOF_j1_no ..
theorem impl_NOF_j1_no (l : List (List Int)) (n : Int) (f : List Int) (xs : List (List Int)) (m i : Int) : Evl (fun k => impl_numberOf.j1 k l n f xs m i true) (0, false) := by
  refine Evl.succ ?_
  simp only [impl_numberOf.j1, if_true]
  exact Evl.ret _
theorem impl_NOF_l0 (l : List (List Int)) (hl : l.length ≤ 1099511627776) (hb : ∀ f ∈ l, ∀ x ∈ f, x ≤ 9223372036854775807) : ∀ (s : List (List Int)) (i n : Nat), l.drop i = s → n ≤ 1000000000 → 1 ≤ n → (∀ j, j < i → 1 ≤ (rd_L1 l (j : Int)).length) →
    Evl (fun k => impl_numberOf.l0 k l (n : Int) l (l.length : Int) (i : Int)) (nofR (nof (ahead l i) n s)) := by
  intro s
  induction s with
  | nil =>
    intro i n hd hn h1 hpre
    have hi := drop_nil hd
    refine Evl.succ ?_
    simp only [impl_numberOf.l0, if_neg (show ¬ (i : Int) < (l.length : Int) by omega)]
    exact Evl.ret _
  | cons f s ih =>
    intro i n hd hn h1 hpre
    obtain ⟨hi, hx, hs⟩ := drop_cons hd
    have hw : wrap64 ((i : Int) + 1) = (i : Int) + 1 := by rw [w64 (by omega) (by omega)]
    have hwm : 0 < i → wrap64 ((i : Int) - 1) = ((i - 1 : Nat) : Int) := fun h => by rw [w64 (by omega) (by omega)]; omega
    have hno : ∀ (c : fOk (ahead l i) f = false), nofR (nof (ahead l i) n (f :: s)) = (0, false) := fun c => by unfold nof; rw [if_neg (by rw [c]; simp)]; rfl
    refine Evl.succ ?_
    simp only [impl_numberOf.l0, if_pos (show (i : Int) < (l.length : Int) by omega), if_pos (show (0 : Int) ≤ (i : Int) by omega), rdL_of hx]
    by_cases c1 : f.length = 2
    · have g0 : (0 : Int) < (f.length : Int) := by omega
      have g1 : (1 : Int) < (f.length : Int) := by omega
      simp only [if_pos (show (f.length : Int) = 2 by omega), if_pos g0, if_pos g1]
      by_cases c4 : rd f 1 < 1
      · simp only [if_pos c4]
        rw [hno (by unfold fOk; rw [decide_eq_false (fun c => by omega)]; simp)]
        exact impl_NOF_j1_no ..
      · simp only [if_neg c4]
        by_cases c2 : rd f 0 > 1000000000
        · simp only [if_pos c2]
          rw [hno (by unfold fOk; rw [decide_eq_false (fun c => by omega)]; simp)]
          exact impl_NOF_j1_no ..
        · simp only [if_neg c2]
          refine Evl.bind (impl_isPrime_ev (rd f 0) (by omega)) ?_
          cases c3 : isPI (rd f 0) with
          | false =>
            simp only [Bool.false_eq_true, if_false]
            rw [hno (by unfold fOk; rw [c3]; simp)]
            exact impl_NOF_j1_no ..
          | true =>
            have hp2 : 2 ≤ rd f 0 := by
              rcases Int.lt_or_le (rd f 0) 2 with h | h
              · rw [isPI_neg h] at c3; cases c3
              · exact h
            simp only [if_true]
            have hrb : rd f 1 ≤ 9223372036854775807 := by
              have hg : f[1]? = some (f[1]'(by omega)) := List.getElem?_eq_getElem (by omega)
              rw [show rd f 1 = f[1]'(by omega) from rd_of (i := 1) hg]
              exact hb f (List.mem_of_getElem? hx) _ (List.getElem_mem _)
            have fin : ∀ b : Bool, (fOk (ahead l i) f = !b) → Evl (fun k => impl_numberOf.j1 k l (n : Int) f l (l.length : Int) (i : Int) b) (nofR (nof (ahead l i) n (f :: s))) := by
              intro b hb2
              cases b with
              | true => rw [hno hb2]; exact impl_NOF_j1_no ..
              | false =>
                have hok : fOk (ahead l i) f = true := hb2
                refine Evl.succ ?_
                simp only [impl_numberOf.j1, Bool.false_eq_true, if_false, if_pos g1]
                have hnof : nof (ahead l i) n (f :: s) = (match mulE (rd f 1).toNat (rd f 0).toNat n with | some m => nof (prevOf f) m s | none => none) := by conv => lhs; unfold nof; rw [if_pos hok]
                rw [hnof]
                have := impl_NOF_l1 l f l (l.length : Int) (i : Int) (rd f 0).toNat (by omega) (nat_of (by omega)).symm (by omega) (by omega) (R := fun o => nofR (match o with | some m => nof (prevOf f) m s | none => none)) rfl hw (rd f 1).toNat n 0 hn (by omega) (fun q hq => by
                  have h2 := ih (i + 1) q hs (mulE_le hq hn) (by
                    rw [mulE_eq _ _ _ (by omega) hn] at hq
                    by_cases c : n * (rd f 0).toNat ^ (rd f 1).toNat ≤ 1000000000
                    · rw [if_pos c] at hq
                      injection hq with hq
                      rw [← hq]
                      exact Nat.mul_le_mul h1 (Nat.pow_pos (n := (rd f 1).toNat) (show 0 < (rd f 0).toNat by omega))
                    · rw [if_neg c] at hq; cases hq) (fun j hj => by
                    rcases Nat.lt_or_ge j i with h | h
                    · exact hpre j h
                    · obtain rfl : j = i := by omega
                      rw [rdL_of hx]; omega)
                  have e1 : ahead l (i + 1) = prevOf f := by unfold ahead prevOf; rw [if_neg (by omega), Nat.add_sub_cancel, rdL_of hx]
                  rw [e1] at h2
                  exact h2)
                rw [Nat.add_zero, nat_of (show 0 ≤ rd f 1 by omega)] at this
                exact this
            by_cases c5 : i = 0
            · subst c5
              simp only [if_neg (show ¬ ((0 : Nat) : Int) > 0 by omega)]
              refine fin false ?_
              unfold fOk ahead
              rw [if_pos rfl, c3, decide_eq_true ⟨c1, by omega, by omega, by omega⟩]
              rfl
            · have hi1 : (((i - 1 : Nat) : Nat) : Int) < (l.length : Int) := by omega
              have hpl := hpre (i - 1) (by omega)
              simp only [if_pos (show (i : Int) > 0 by omega), hwm (by omega), if_pos (show (0 : Int) ≤ ((i - 1 : Nat) : Int) by omega), if_pos hi1, if_pos (show (0 : Int) < ((rd_L1 l ((i - 1 : Nat) : Int)).length : Int) by omega)]
              refine fin _ ?_
              unfold fOk ahead
              rw [if_neg c5, c3, decide_eq_true ⟨c1, by omega, by omega, by omega⟩]
              simp only [Bool.true_and]
              by_cases c6 : rd (rd_L1 l ((i - 1 : Nat) : Int)) 0 < rd f 0
              · rw [decide_eq_true c6, decide_eq_false (by omega)]; rfl
              · rw [decide_eq_false c6, decide_eq_true (by omega)]; rfl
    · simp only [if_neg (show ¬ (f.length : Int) = 2 by omega)]
      rw [hno (by unfold fOk; rw [decide_eq_false (fun c => c1 c.1)]; simp)]
      exact impl_NOF_j1_no ..
/-- What NumberOfFactors of both tells. -/
def nofA (l : List (List Int)) : Int × Bool := if l.length ≤ 30 then nofR (nof none 1 l) else (0, false)
theorem spec_NumberOfFactors_ev (l : List (List Int)) (hb : ∀ f ∈ l, ∀ x ∈ f, x ≤ 9223372036854775807) : Evl (fun k => spec_NumberOfFactors.f k l) (nofA l) := by
  simp only [spec_NumberOfFactors.f]
  unfold nofA
  by_cases c : l.length ≤ 30
  · rw [if_pos c]
    simp only [if_neg (show ¬ (l.length : Int) > 30 by omega)]
    exact spec_NOF_l0 l c hb l 0 1 rfl (by omega) (by omega) (fun j hj => absurd hj (Nat.not_lt_zero _))
  · rw [if_neg c]
    simp only [if_pos (show (l.length : Int) > 30 by omega)]
    exact Evl.ret _
theorem impl_NumberOfFactors_ev (l : List (List Int)) (hb : ∀ f ∈ l, ∀ x ∈ f, x ≤ 9223372036854775807) : Evl (fun k => impl_NumberOfFactors.f k l) (nofA l) := by
  simp only [impl_NumberOfFactors.f]
  unfold nofA
  by_cases c : l.length ≤ 30
  · rw [if_pos c]
    simp only [if_neg (show ¬ (l.length : Int) > 30 by omega)]
    have h := impl_NOF_l0 l (by omega) hb l 0 1 rfl (by omega) (by omega) (fun j hj => absurd hj (Nat.not_lt_zero _))
    refine Evl.bind (a := nofR (nof none 1 l)) ?_ (Evl.ret _)
    simp only [impl_numberOf.f]
    exact h
  · rw [if_neg c]
    simp only [if_pos (show (l.length : Int) > 30 by omega)]
    exact Evl.ret _
end Go.Proofs.Ytgoldeagghadhaa.L

/-! ## X28 -/
namespace Go.Proofs.Ytgoldeagghadhaa.L
open Go.RowKit Go.Proofs.YtgoldeagghadhaaW.PrintWords Go.Proofs.Ytgoldeagghadhaa.P Go.Proofs.Ytgoldeagghadhaa.M
set_option linter.unusedVariables false
set_option linter.unusedSimpArgs false

def foA (n : Int) : List (List Int) × Bool := if 1 ≤ n ∧ n ≤ 1000000000 then (fL (facs n.toNat), true) else ([], false)
def raA (n : Int) : Int × Bool := if 1 ≤ n ∧ n ≤ 1000000000 then (radW 1 (fL (facs n.toNat)), true) else (0, false)
def leA (n : Int) : Int × Bool := if 2 ≤ n ∧ n ≤ 1000000000 then ((lf n.toNat : Int), true) else (0, false)
def ipA (n : Int) : Bool × Bool := if 0 ≤ n ∧ n ≤ 1000000000 then (isPI n, true) else (false, false)
def soA (n b : Int) : Bool × Bool := if (1 ≤ n ∧ n ≤ 1000000000) ∧ 1 ≤ b then (smooth n.toNat b, true) else (false, false)
theorem impl_fo_ev (n : Int) : Evl (fun k => impl_FactorsOf.f k n) (foA n) := by
  simp only [impl_FactorsOf.f, isFactored_eq, Option.bind_some]
  unfold foA
  by_cases g : 1 ≤ n ∧ n ≤ 1000000000
  · rw [if_pos g]
    simp only [decide_eq_true g, if_true]
    obtain ⟨m, rfl⟩ := Int.eq_ofNat_of_zero_le (show 0 ≤ n by omega)
    rw [Int.toNat_natCast]
    exact Evl.bind (impl_factors_ev m (by omega)) (Evl.ret _)
  · rw [if_neg g]
    simp only [decide_eq_false g, Bool.false_eq_true, if_false]
    exact Evl.ret _
theorem spec_fo_ev (n : Int) : Evl (fun k => spec_FactorsOf.f k n) (foA n) := by
  simp only [spec_FactorsOf.f, prFactored_eq, Option.bind_some]
  unfold foA
  by_cases g : 1 ≤ n ∧ n ≤ 1000000000
  · rw [if_pos g]
    simp only [decide_eq_true g, if_true]
    obtain ⟨m, rfl⟩ := Int.eq_ofNat_of_zero_le (show 0 ≤ n by omega)
    rw [Int.toNat_natCast]
    exact Evl.bind (spec_prFactors_ev m (by omega)) (Evl.ret _)
  · rw [if_neg g]
    simp only [decide_eq_false g, Bool.false_eq_true, if_false]
    exact Evl.ret _
theorem impl_ra_ev (n : Int) : Evl (fun k => impl_RadicalOf.f k n) (raA n) := by
  simp only [impl_RadicalOf.f, isFactored_eq, Option.bind_some]
  unfold raA
  by_cases g : 1 ≤ n ∧ n ≤ 1000000000
  · rw [if_pos g]
    simp only [decide_eq_true g, if_true]
    obtain ⟨m, rfl⟩ := Int.eq_ofNat_of_zero_le (show 0 ≤ n by omega)
    rw [Int.toNat_natCast]
    exact Evl.bind (impl_radical_ev m (by omega)) (Evl.ret _)
  · rw [if_neg g]
    simp only [decide_eq_false g, Bool.false_eq_true, if_false]
    exact Evl.ret _
theorem spec_ra_ev (n : Int) : Evl (fun k => spec_RadicalOf.f k n) (raA n) := by
  simp only [spec_RadicalOf.f, prFactored_eq, Option.bind_some]
  unfold raA
  by_cases g : 1 ≤ n ∧ n ≤ 1000000000
  · rw [if_pos g]
    simp only [decide_eq_true g, if_true]
    obtain ⟨m, rfl⟩ := Int.eq_ofNat_of_zero_le (show 0 ≤ n by omega)
    rw [Int.toNat_natCast]
    exact Evl.bind (spec_prRadical_ev m (by omega)) (Evl.ret _)
  · rw [if_neg g]
    simp only [decide_eq_false g, Bool.false_eq_true, if_false]
    exact Evl.ret _
theorem impl_le_ev (n : Int) : Evl (fun k => impl_LeastFactor.f k n) (leA n) := by
  simp only [impl_LeastFactor.f]
  unfold leA
  by_cases g : 2 ≤ n ∧ n ≤ 1000000000
  · rw [if_pos g]
    simp only [if_neg (show ¬ n < 2 by omega), if_neg (show ¬ n > 1000000000 by omega)]
    obtain ⟨m, rfl⟩ := Int.eq_ofNat_of_zero_le (show 0 ≤ n by omega)
    rw [Int.toNat_natCast]
    exact Evl.bind (impl_leastFactor_ev m (by omega) (by omega)) (Evl.ret _)
  · rw [if_neg g]
    by_cases c : n < 2
    · simp only [if_pos c]
      exact Evl.ret _
    · simp only [if_neg c, if_pos (show n > 1000000000 by omega)]
      exact Evl.ret _
theorem spec_le_ev (n : Int) : Evl (fun k => spec_LeastFactor.f k n) (leA n) := by
  simp only [spec_LeastFactor.f, prFactored_eq, Option.bind_some]
  unfold leA
  by_cases g : 2 ≤ n ∧ n ≤ 1000000000
  · rw [if_pos g]
    simp only [decide_eq_true (show 1 ≤ n ∧ n ≤ 1000000000 by omega), if_true, if_neg (show ¬ n < 2 by omega)]
    obtain ⟨m, rfl⟩ := Int.eq_ofNat_of_zero_le (show 0 ≤ n by omega)
    rw [Int.toNat_natCast]
    exact Evl.bind (spec_prLeast_ev m (by omega) (by omega)) (Evl.ret _)
  · rw [if_neg g]
    by_cases c : 1 ≤ n ∧ n ≤ 1000000000
    · simp only [decide_eq_true c, if_true, if_pos (show n < 2 by omega)]
      exact Evl.ret _
    · simp only [decide_eq_false c, Bool.false_eq_true, if_false]
      exact Evl.ret _
theorem impl_ip_ev (n : Int) : Evl (fun k => impl_IsPrime.f k n) (ipA n) := by
  simp only [impl_IsPrime.f]
  unfold ipA
  by_cases g : 0 ≤ n ∧ n ≤ 1000000000
  · rw [if_pos g]
    simp only [if_neg (show ¬ n < 0 by omega), if_neg (show ¬ n > 1000000000 by omega)]
    exact Evl.bind (impl_isPrime_ev n (by omega)) (Evl.ret _)
  · rw [if_neg g]
    by_cases c : n < 0
    · simp only [if_pos c]
      exact Evl.ret _
    · simp only [if_neg c, if_pos (show n > 1000000000 by omega)]
      exact Evl.ret _
theorem spec_ip_ev (n : Int) : Evl (fun k => spec_IsPrime.f k n) (ipA n) := by
  simp only [spec_IsPrime.f, l1In_eq, Option.bind_some]
  unfold ipA
  by_cases g : 0 ≤ n ∧ n ≤ 1000000000
  · rw [if_pos g]
    simp only [decide_eq_true g, if_true]
    exact Evl.bind (spec_prIs_ev n (by omega)) (Evl.ret _)
  · rw [if_neg g]
    simp only [decide_eq_false g, Bool.false_eq_true, if_false]
    exact Evl.ret _
theorem impl_so_ev (n b : Int) : Evl (fun k => impl_IsSmooth.f k n b) (soA n b) := by
  simp only [impl_IsSmooth.f, isFactored_eq, Option.bind_some]
  unfold soA
  by_cases g : 1 ≤ n ∧ n ≤ 1000000000
  · simp only [decide_eq_true g, if_true]
    by_cases c : 1 ≤ b
    · rw [if_pos ⟨g, c⟩]
      simp only [if_neg (show ¬ b < 1 by omega)]
      obtain ⟨m, rfl⟩ := Int.eq_ofNat_of_zero_le (show 0 ≤ n by omega)
      rw [Int.toNat_natCast]
      exact Evl.bind (isSmooth_ev m b (by omega)) (Evl.ret _)
    · rw [if_neg fun d => c d.2]
      simp only [if_pos (show b < 1 by omega)]
      exact Evl.ret _
  · rw [if_neg fun d => g d.1]
    simp only [decide_eq_false g, Bool.false_eq_true, if_false]
    exact Evl.ret _
theorem spec_so_ev (n b : Int) : Evl (fun k => spec_IsSmooth.f k n b) (soA n b) := by
  simp only [spec_IsSmooth.f, prFactored_eq, Option.bind_some]
  unfold soA
  by_cases g : 1 ≤ n ∧ n ≤ 1000000000
  · simp only [decide_eq_true g, if_true]
    by_cases c : 1 ≤ b
    · rw [if_pos ⟨g, c⟩]
      simp only [if_neg (show ¬ b < 1 by omega)]
      obtain ⟨m, rfl⟩ := Int.eq_ofNat_of_zero_le (show 0 ≤ n by omega)
      rw [Int.toNat_natCast]
      exact Evl.bind (prSmooth_ev m b (by omega)) (Evl.ret _)
    · rw [if_neg fun d => c d.2]
      simp only [if_pos (show b < 1 by omega)]
      exact Evl.ret _
  · rw [if_neg fun d => g d.1]
    simp only [decide_eq_false g, Bool.false_eq_true, if_false]
    exact Evl.ret _
theorem fSame_l0 (a : List Int) (hl : a.length ≤ 1099511627776) : ∀ (s : List Int) (i : Nat), a.drop i = s → Evl (fun k => laws_gSame.l0 k a a (a.length : Int) (i : Int)) true := by
  intro s
  induction s with
  | nil =>
    intro i h
    have hi := drop_nil h
    refine Evl.succ ?_
    simp only [laws_gSame.l0, if_neg (show ¬ (i : Int) < (a.length : Int) by omega)]
    exact Evl.ret _
  | cons x s ih =>
    intro i h
    obtain ⟨hi, hx, hs⟩ := drop_cons h
    have hw : wrap64 ((i : Int) + 1) = ((i + 1 : Nat) : Int) := by rw [w64 (by omega) (by omega)]; rfl
    refine Evl.succ ?_
    simp only [laws_gSame.l0, if_pos (show (i : Int) < (a.length : Int) by omega), if_pos (show (0 : Int) ≤ (i : Int) by omega), if_true, hw]
    exact ih (i + 1) hs
theorem fSame_self (a : List Int) (hl : a.length ≤ 1099511627776) : Evl (fun k => laws_gSame.f k a a) true := by
  simp only [laws_gSame.f, if_true]
  exact fSame_l0 a hl a 0 rfl
theorem fLists_l0 (a : List (List Int)) (hl : a.length ≤ 1099511627776) (h2 : ∀ f ∈ a, f.length ≤ 1099511627776) : ∀ (s : List (List Int)) (i : Nat), a.drop i = s → Evl (fun k => laws_gLists.l0 k a a (a.length : Int) (i : Int)) true := by
  intro s
  induction s with
  | nil =>
    intro i h
    have hi := drop_nil h
    refine Evl.succ ?_
    simp only [laws_gLists.l0, if_neg (show ¬ (i : Int) < (a.length : Int) by omega)]
    exact Evl.ret _
  | cons x s ih =>
    intro i h
    obtain ⟨hi, hx, hs⟩ := drop_cons h
    have hw : wrap64 ((i : Int) + 1) = ((i + 1 : Nat) : Int) := by rw [w64 (by omega) (by omega)]; rfl
    refine Evl.succ ?_
    simp only [laws_gLists.l0, if_pos (show (i : Int) < (a.length : Int) by omega), if_pos (show (0 : Int) ≤ (i : Int) by omega), hw]
    refine Evl.bind (fSame_self _ ?_) ?_
    · rw [rdL_of hx]
      exact h2 x (List.mem_of_getElem? hx)
    simp only [if_true]
    exact ih (i + 1) hs
theorem fLists_self (a : List (List Int)) (hl : a.length ≤ 1099511627776) (h2 : ∀ f ∈ a, f.length ≤ 1099511627776) : Evl (fun k => laws_gLists.f k a a) true := by
  simp only [laws_gLists.f, if_true]
  exact fLists_l0 a hl h2 a 0 rfl

/-! ### factors and numbers -/
theorem prodF_two : ∀ (q : List (Nat × Nat)), (∀ pe ∈ q, 2 ≤ pe.1 ∧ 1 ≤ pe.2) → 2 ^ q.length ≤ prodF q
  | [], _ => Nat.le_refl _
  | pe :: q, h => by
    have h1 := prodF_two q fun x hx => h x (List.mem_cons_of_mem _ hx)
    have h2 := h pe (List.mem_cons_self ..)
    have h3 : 2 ≤ pe.1 ^ pe.2 := by
      have : pe.1 ^ 1 ≤ pe.1 ^ pe.2 := Nat.pow_le_pow_right (by omega) h2.2
      rw [Nat.pow_one] at this
      exact Nat.le_trans h2.1 this
    rw [List.length_cons, Nat.pow_succ, Nat.mul_comm]
    exact Nat.mul_le_mul h3 h1
theorem facs_short {n : Nat} (h1 : 1 ≤ n) (hb : n ≤ 1000000000) : (facs n).length ≤ 30 := by
  have h := prodF_two (facs n) fun pe hp => ⟨isP_two (facs_prop h1 hp).1, (facs_prop h1 hp).2.1⟩
  rw [prodF_facs h1] at h
  refine Nat.le_of_lt_succ (Nat.lt_of_not_le fun c => ?_)
  have h2 : 2 ^ 31 ≤ 2 ^ (facs n).length := Nat.pow_le_pow_right (by omega) c
  have h3 : (2 : Nat) ^ 31 = 2147483648 := by decide
  rw [h3] at h2
  have := Nat.le_trans h2 h
  omega
def ahd (prev : Option Int) (q : List (Nat × Nat)) : Prop := ∀ x, prev = some x → ∀ pe ∈ q, x < (pe.1 : Int)
theorem nof_fL : ∀ (q : List (Nat × Nat)) (prev : Option Int) (n : Nat), Facs q → ahd prev q → 1 ≤ n → n * prodF q ≤ 1000000000 → nof prev n (fL q) = some (n * prodF q)
  | [], prev, n, _, _, _, _ => by rw [prodF, Nat.mul_one]; rfl
  | pe :: q, prev, n, hF, hA, h1, hb => by
    have hpe := hF.pr pe (List.mem_cons_self ..)
    have hp2 := isP_two hpe.1
    have hq1 := hF.tail.pos
    have hpp : pe.1 ≤ pe.1 ^ pe.2 := by
      have : pe.1 ^ 1 ≤ pe.1 ^ pe.2 := Nat.pow_le_pow_right (by omega) hpe.2
      rw [Nat.pow_one] at this
      exact this
    have e : n * prodF (pe :: q) = n * pe.1 ^ pe.2 * prodF q := by
      show n * (pe.1 ^ pe.2 * prodF q) = _
      rw [Nat.mul_assoc]
    rw [e] at hb ⊢
    have hm : n * pe.1 ^ pe.2 ≤ 1000000000 := Nat.le_trans (Nat.le_mul_of_pos_right _ hq1) hb
    have hn1 : n ≤ 1000000000 := Nat.le_trans (Nat.le_mul_of_pos_right _ (Nat.pow_pos (by omega))) hm
    have hp9 : pe.1 ≤ 1000000000 := Nat.le_trans hpp (Nat.le_trans (Nat.le_mul_of_pos_left _ h1) hm)
    have hok : fOk prev [(pe.1 : Int), (pe.2 : Int)] = true := by
      unfold fOk
      rw [decide_eq_true (show [(pe.1 : Int), (pe.2 : Int)].length = 2 ∧ 1 ≤ rd [(pe.1 : Int), (pe.2 : Int)] 0 ∧ rd [(pe.1 : Int), (pe.2 : Int)] 0 ≤ 1000000000 ∧ 1 ≤ rd [(pe.1 : Int), (pe.2 : Int)] 1 from ⟨rfl, by show (1 : Int) ≤ (pe.1 : Int); omega, by show (pe.1 : Int) ≤ 1000000000; omega, by show (1 : Int) ≤ (pe.2 : Int); omega⟩), Bool.true_and, show rd [(pe.1 : Int), (pe.2 : Int)] 0 = (pe.1 : Int) from rfl, isPI_nat, hpe.1, Bool.true_and]
      cases prev with
      | none => rfl
      | some x => exact decide_eq_true (hA x rfl pe (List.mem_cons_self ..))
    show nof prev n ([(pe.1 : Int), (pe.2 : Int)] :: fL q) = _
    rw [nof, if_pos hok, show (rd [(pe.1 : Int), (pe.2 : Int)] 1).toNat = pe.2 from rfl, show (rd [(pe.1 : Int), (pe.2 : Int)] 0).toNat = pe.1 from rfl, mulE_eq _ _ _ (by omega) hn1, if_pos hm]
    refine nof_fL q _ _ hF.tail (fun x hx r hr => ?_) (Nat.mul_pos h1 (Nat.pow_pos (by omega))) hb
    have hx' : (pe.1 : Int) = x := by injection hx
    have := (List.pairwise_cons.1 hF.up).1 r hr
    omega
theorem two_of {f : List Int} (h : f.length = 2) : f = [rd f 0, rd f 1] := by
  match f, h with
  | [a, b], _ => rfl
theorem nof_back : ∀ (l : List (List Int)) (prev : Option Int) (n m : Nat), 1 ≤ n → n ≤ 1000000000 → nof prev n l = some m → ∃ q, l = fL q ∧ Facs q ∧ ahd prev q ∧ m = n * prodF q ∧ m ≤ 1000000000
  | [], prev, n, m, h1, hb, h => by
    unfold nof at h
    injection h with h
    exact ⟨[], rfl, ⟨fun _ hp => absurd hp List.not_mem_nil, List.Pairwise.nil⟩, fun _ _ _ hp => absurd hp List.not_mem_nil, by rw [prodF, Nat.mul_one, h], by omega⟩
  | f :: s, prev, n, m, h1, hb, h => by
    unfold nof at h
    by_cases c : fOk prev f = true
    · rw [if_pos c] at h
      unfold fOk at c
      rw [Bool.and_eq_true, Bool.and_eq_true] at c
      obtain ⟨⟨c1, c2⟩, c3⟩ := c
      obtain ⟨d1, d2, d3, d4⟩ := of_decide_eq_true c1
      have ef := two_of d1
      generalize rd f 0 = a at *
      generalize rd f 1 = b at *
      obtain ⟨p, rfl⟩ := Int.eq_ofNat_of_zero_le (show 0 ≤ a by omega)
      obtain ⟨e, rfl⟩ := Int.eq_ofNat_of_zero_le (show 0 ≤ b by omega)
      rw [isPI_nat] at c2
      rw [Int.toNat_natCast, Int.toNat_natCast, mulE_eq _ _ _ (by omega) hb] at h
      by_cases c4 : n * p ^ e ≤ 1000000000
      · rw [if_pos c4] at h
        have hp := isP_two c2
        obtain ⟨q, e1, e2, e3, e4, e5⟩ := nof_back s _ _ m (Nat.mul_pos h1 (Nat.pow_pos (by omega))) c4 h
        have hpf : prevOf f = some (p : Int) := by rw [ef]; rfl
        refine ⟨(p, e) :: q, by rw [ef, e1]; rfl, ⟨fun r hr => ?_, List.pairwise_cons.2 ⟨fun r hr => ?_, e2.up⟩⟩, fun x hx r hr => ?_, ?_, e5⟩
        · rcases List.mem_cons.1 hr with rfl | hr
          · exact ⟨c2, by show 1 ≤ e; omega⟩
          · exact e2.pr r hr
        · have := e3 (p : Int) hpf r hr
          show p < r.1
          omega
        · subst hx
          have hxp : x < (p : Int) := of_decide_eq_true c3
          rcases List.mem_cons.1 hr with rfl | hr
          · exact hxp
          · have := e3 (p : Int) hpf r hr
            omega
        · rw [e4]
          show n * p ^ e * prodF q = n * (p ^ e * prodF q)
          rw [Nat.mul_assoc]
      · rw [if_neg c4] at h
        cases h
    · rw [if_neg c] at h
      cases h
theorem nofA_fo {n : Nat} (h1 : 1 ≤ n) (hb : n ≤ 1000000000) : nofA (fL (facs n)) = ((n : Int), true) := by
  unfold nofA
  rw [if_pos (by rw [fL_length]; exact facs_short h1 hb), nof_fL (facs n) none 1 (facs_Facs h1) (fun _ h => by cases h) (Nat.le_refl _) (by rw [Nat.one_mul, prodF_facs h1]; exact hb), Nat.one_mul, prodF_facs h1]
  rfl
theorem nofA_true {l : List (List Int)} (h : (nofA l).2 = true) : ∃ n : Nat, 1 ≤ n ∧ n ≤ 1000000000 ∧ nofA l = ((n : Int), true) ∧ l = fL (facs n) := by
  unfold nofA at h ⊢
  by_cases c : l.length ≤ 30
  · rw [if_pos c] at h ⊢
    cases e : nof none 1 l with
    | none => rw [e] at h; cases h
    | some m =>
      obtain ⟨q, e1, e2, _, e4, e5⟩ := nof_back l none 1 m (Nat.le_refl _) (by omega) e
      rw [Nat.one_mul] at e4
      have := e2.pos
      exact ⟨m, by omega, e5, rfl, by rw [e4, facs_prodF e2]; exact e1⟩
  · rw [if_neg c] at h
    cases h
theorem radF_pos : ∀ (q : List (Nat × Nat)), (∀ pe ∈ q, 1 ≤ pe.1) → 1 ≤ radF q
  | [], _ => Nat.le_refl _
  | pe :: q, h => Nat.mul_le_mul (h pe (List.mem_cons_self ..)) (radF_pos q fun x hx => h x (List.mem_cons_of_mem _ hx))
theorem radW_fL : ∀ (q : List (Nat × Nat)) (a : Nat), (∀ pe ∈ q, 1 ≤ pe.1) → a * radF q ≤ 1000000000 → radW (a : Int) (fL q) = ((a * radF q : Nat) : Int)
  | [], a, _, _ => by
    show (a : Int) = ((a * 1 : Nat) : Int)
    rw [Nat.mul_one]
  | pe :: q, a, h, hb => by
    have hq := radF_pos q fun x hx => h x (List.mem_cons_of_mem _ hx)
    have e : a * radF (pe :: q) = a * pe.1 * radF q := by
      show a * (pe.1 * radF q) = _
      rw [Nat.mul_assoc]
    rw [e] at hb ⊢
    have hm : a * pe.1 ≤ 1000000000 := Nat.le_trans (Nat.le_mul_of_pos_right _ hq) hb
    show radW (wrap64 ((a : Int) * (pe.1 : Int))) (fL q) = _
    have hw : wrap64 ((a : Int) * (pe.1 : Int)) = ((a * pe.1 : Nat) : Int) := by
      rw [← Int.natCast_mul]
      generalize a * pe.1 = z at *
      exact w64 (by omega) (by omega)
    rw [hw]
    exact radW_fL q _ (fun x hx => h x (List.mem_cons_of_mem _ hx)) hb
theorem rad_of {n : Nat} (h1 : 1 ≤ n) (hb : n ≤ 1000000000) : ∃ r : Nat, radW 1 (fL (facs n)) = (r : Int) ∧ 1 ≤ r ∧ n % r = 0 := by
  have hF := facs_Facs h1
  have hd : radF (facs n) ∣ n := by
    have := radF_dvd (l := facs n) fun pe hp => (hF.pr pe hp).2
    rw [prodF_facs h1] at this
    exact this
  have hp : ∀ pe ∈ facs n, 1 ≤ pe.1 := fun pe hp => by have := isP_two (hF.pr pe hp).1; omega
  have hle := Nat.le_of_dvd (by omega) hd
  refine ⟨radF (facs n), ?_, radF_pos _ hp, Nat.mod_eq_zero_of_dvd hd⟩
  have := radW_fL (facs n) 1 hp (by rw [Nat.one_mul]; omega)
  rw [Nat.one_mul] at this
  exact this
theorem smooth_at {n i : Nat} {pe : Nat × Nat} (hx : (facs n)[i]? = some pe) : smooth n (pe.1 : Int) = decide (i + 1 = (facs n).length) := by
  obtain ⟨hi, he⟩ := List.getElem?_eq_some_iff.1 hx
  have hs := List.pairwise_iff_getElem.1 (facs_sorted n)
  unfold smooth
  by_cases c : i + 1 = (facs n).length
  · rw [decide_eq_true c, List.all_eq_true]
    intro q hq
    obtain ⟨j, hj, rfl⟩ := List.mem_iff_getElem.1 hq
    rcases Nat.lt_or_ge j i with g | g
    · have := hs j i hj hi g
      rw [he] at this
      exact decide_eq_true (by omega)
    · obtain rfl : j = i := by omega
      rw [he]
      exact decide_eq_true (Int.le_refl _)
  · rw [decide_eq_false c]
    refine Bool.eq_false_iff.2 fun h => ?_
    have hj : i + 1 < (facs n).length := by omega
    have h1 := of_decide_eq_true (List.all_eq_true.1 h _ (List.getElem_mem hj))
    have h2 := hs i (i + 1) hi hj (by omega)
    rw [he] at h2
    omega
theorem first_lf {n : Nat} (h : 2 ≤ n) : ∃ e s, facs n = (lf n, e) :: s := ⟨_, _, facs_more h⟩
/-- A prime is the number that has itself alone, once. -/
theorem prime_one {n : Nat} (h1 : 1 ≤ n) : (∃ p e, facs n = [(p, e)] ∧ (isP n = true ↔ e = 1)) ∨ ((facs n).length ≠ 1 ∧ isP n = false) := by
  have hF := facs_Facs h1
  have hpr := prodF_facs h1
  rcases Nat.lt_or_ge n 2 with h | h
  · refine .inr ⟨by rw [facs_one (by omega)]; decide, ?_⟩
    have : isP n ≠ true := fun c => by have := isP_two c; omega
    exact Bool.eq_false_iff.2 this
  obtain ⟨e, s, hs⟩ := first_lf h
  rw [hs] at hF hpr
  have hl := hF.pr _ (List.mem_cons_self ..)
  have hl2 := lf_least h
  cases s with
  | nil =>
    refine .inl ⟨lf n, e, hs, ?_⟩
    have hpr' : lf n ^ e * 1 = n := hpr
    rw [Nat.mul_one] at hpr'
    constructor
    · intro c
      have h3 := (isP_iff.1 c).2
      rw [h3] at hpr'
      have h4 : n ^ e = n ^ 1 := by rw [Nat.pow_one]; exact hpr'
      exact (Nat.pow_right_inj (by omega)).1 h4
    · rintro rfl
      rw [Nat.pow_one] at hpr'
      exact isP_iff.2 ⟨h, hpr'⟩
  | cons q s =>
    refine .inr ⟨by rw [hs]; simp, Bool.eq_false_iff.2 fun c => ?_⟩
    have h3 := (isP_iff.1 c).2
    have hq := hF.pr q (List.mem_cons_of_mem _ (List.mem_cons_self ..))
    have hup := (List.pairwise_cons.1 hF.up).1 q (List.mem_cons_self ..)
    have hqn : q.1 ∣ n := by
      have := facs_prop h1 (pe := q) (by rw [hs]; exact List.mem_cons_of_mem _ (List.mem_cons_self ..))
      exact this.2.2
    have := Nat.le_of_dvd (by omega) hqn
    have h5 : lf n < q.1 := hup
    omega

theorem fac_at {n i : Nat} (h1 : 1 ≤ n) (hb : n ≤ 1000000000) {pe : Nat × Nat} (hx : (facs n)[i]? = some pe) : ∃ f, (fL (facs n))[i]? = some f ∧ rd f 0 = (pe.1 : Int) ∧ rd f 1 = (pe.2 : Int) ∧ (0 : Int) < (f.length : Int) ∧ (1 : Int) < (f.length : Int) ∧ (f.length : Int) = 2 ∧ ¬ (pe.2 : Int) < 1 ∧ ipA (pe.1 : Int) = (true, true) ∧ soA (n : Int) (pe.1 : Int) = (smooth n (pe.1 : Int), true) ∧ smooth n (pe.1 : Int) = ((i : Int) == wrap64 (((fL (facs n)).length : Int) - 1)) ∧ (i : Int) < ((fL (facs n)).length : Int) ∧ wrap64 ((i : Int) + 1) = ((i + 1 : Nat) : Int) ∧ (0 < i → ∃ g, (fL (facs n))[i - 1]? = some g ∧ (i : Int) > 0 ∧ wrap64 ((i : Int) - 1) = ((i - 1 : Nat) : Int) ∧ (0 : Int) ≤ ((i - 1 : Nat) : Int) ∧ ((i - 1 : Nat) : Int) < ((fL (facs n)).length : Int) ∧ (0 : Int) < (g.length : Int) ∧ ¬ rd g 0 ≥ (pe.1 : Int)) := by
  have hi : i < (facs n).length := (List.getElem?_eq_some_iff.1 hx).1
  have he : (facs n)[i] = pe := (List.getElem?_eq_some_iff.1 hx).2
  have hpe := List.mem_of_getElem? hx
  have hpr := facs_prop h1 hpe
  have hp2 := isP_two hpr.1
  have hpn := Nat.le_of_dvd (by omega) hpr.2.2
  have hlen := fL_length (facs n)
  have hshort := facs_short h1 hb
  have he2 := hpr.2.1
  refine ⟨[(pe.1 : Int), (pe.2 : Int)], by unfold fL; rw [List.getElem?_map, hx]; rfl, rfl, rfl, by simp, by simp, by simp, by omega, ?_, ?_, ?_, by rw [hlen]; omega, by rw [w64 (by omega) (by omega)]; rfl, fun hi0 => ?_⟩
  · unfold ipA
    rw [if_pos (by omega), isPI_nat, hpr.1]
  · unfold soA
    rw [if_pos (by omega), Int.toNat_natCast]
  · rw [smooth_at hx, hlen, w64 (by omega) (by omega)]
    by_cases c : i + 1 = (facs n).length
    · rw [decide_eq_true c]
      exact (beq_iff_eq.2 (by omega)).symm
    · rw [decide_eq_false c]
      exact (beq_eq_false_iff_ne.2 (by omega)).symm
  · have hj : i - 1 < (facs n).length := by omega
    have hup := List.pairwise_iff_getElem.1 (facs_sorted n) (i - 1) i hj hi (by omega)
    rw [he] at hup
    refine ⟨[((facs n)[i - 1].1 : Int), ((facs n)[i - 1].2 : Int)], ?_, by omega, by rw [w64 (by omega) (by omega)]; omega, by omega, by rw [hlen]; omega, by simp, ?_⟩
    · unfold fL
      rw [List.getElem?_map, List.getElem?_eq_getElem hj]
      rfl
    · show ¬ ((facs n)[i - 1].1 : Int) ≥ (pe.1 : Int)
      omega
theorem mul_step {a p z r : Nat} (h : a * (p * z) = r) (hz : 1 ≤ z) (hr : r ≤ 1000000000) : a * p * z = r ∧ wrap64 ((a : Int) * (p : Int)) = ((a * p : Nat) : Int) := by
  have h2 : a * p * z = r := by rw [Nat.mul_assoc]; exact h
  have hap : a * p ≤ 1000000000 := Nat.le_trans (Nat.le_mul_of_pos_right _ hz) (by rw [h2]; exact hr)
  refine ⟨h2, ?_⟩
  rw [← Int.natCast_mul]
  clear h h2
  generalize a * p = y at *
  exact w64 (by omega) (by omega)
theorem pow_dvd_prodF : ∀ {l : List (Nat × Nat)} {pe : Nat × Nat}, pe ∈ l → pe.1 ^ pe.2 ∣ prodF l
  | q :: l, pe, h => by
    rcases List.mem_cons.1 h with rfl | h
    · exact Nat.dvd_mul_right _ _
    · exact Nat.dvd_trans (pow_dvd_prodF h) (Nat.dvd_mul_left _ _)
theorem fL_small {m : Nat} (h1 : 1 ≤ m) (hb : m ≤ 1000000000) : ∀ f ∈ fL (facs m), ∀ x ∈ f, x ≤ 9223372036854775807 := by
  intro f hf x hx
  unfold fL at hf
  obtain ⟨pe, hp, rfl⟩ := List.mem_map.1 hf
  have hpr := facs_prop h1 hp
  have hpn := Nat.le_of_dvd (by omega) hpr.2.2
  have hd := Nat.le_of_dvd (by omega) (by rw [← prodF_facs h1]; exact pow_dvd_prodF hp : pe.1 ^ pe.2 ∣ m)
  have hle : pe.2 < 2 ^ pe.2 := Nat.lt_two_pow_self
  have h3 := Nat.le_trans (Nat.pow_le_pow_left (isP_two hpr.1) pe.2) hd
  have h4 : pe.2 ≤ 1000000000 := Nat.le_trans (Nat.le_of_lt hle) (Nat.le_trans h3 hb)
  clear hle h3 hd
  rcases List.mem_cons.1 hx with rfl | hx
  · omega
  · rw [List.mem_singleton.1 hx]
    omega
theorem rad_le {n : Nat} (h1 : 1 ≤ n) (hb : n ≤ 1000000000) : radF (facs n) ≤ 1000000000 ∧ radW 1 (fL (facs n)) = ((radF (facs n) : Nat) : Int) := by
  have hF := facs_Facs h1
  have hp1 : ∀ pe ∈ facs n, 1 ≤ pe.1 := fun pe hp => Nat.le_of_succ_le (isP_two (hF.pr pe hp).1)
  have hd := radF_dvd (l := facs n) fun pe hp => (hF.pr pe hp).2
  rw [prodF_facs h1] at hd
  have hrd := Nat.le_trans (Nat.le_of_dvd h1 hd) hb
  have := radW_fL (facs n) 1 hp1 (by rw [Nat.one_mul]; exact hrd)
  rw [Nat.one_mul] at this
  exact ⟨hrd, this⟩

end Go.Proofs.Ytgoldeagghadhaa.L

/-! ## E12 -/
namespace Go.Proofs.Ytgoldeagghadhaa.L
open Go.RowKit Go.Proofs.YtgoldeagghadhaaW.PrintWords Go.Proofs.Ytgoldeagghadhaa.P
set_option linter.unusedVariables false
set_option linter.unusedSimpArgs false

def Rg (v : Int) : Prop := -9223372036854775808 ≤ v ∧ v ≤ 9223372036854775807
theorem Rg.wf {v : Int} (h : Rg v) : (Lit.int .i64 v).wf = true := by
  have := wrap64_wf v
  rwa [w64 h.1 h.2] at this
theorem Rg.wrap (n : Int) : Rg (wrap64 n) := by unfold Rg wrap64; omega
theorem u8_range {x : Int} (h : (Lit.int .u8 x).wf = true) : 0 ≤ x ∧ x ≤ 255 := by
  simp [Lit.wf, IntKind.min, IntKind.max, IntKind.signed, IntKind.bits] at h
  omega
theorem bits255 (s : Int) : 0 ≤ wrap64 (Go.bits .and .u64 (IntKind.u64.wrap s / 1099511627776) 255) ∧ wrap64 (Go.bits .and .u64 (IntKind.u64.wrap s / 1099511627776) 255) ≤ 255 := by
  have h0 : 0 ≤ IntKind.u64.wrap s ∧ IntKind.u64.wrap s < 18446744073709551616 := by rw [IntKind.wrap_u64]; omega
  generalize IntKind.u64.wrap s = z at *
  obtain ⟨n, hn⟩ := Int.eq_ofNat_of_zero_le (show 0 ≤ z / 1099511627776 by omega)
  have hb : Go.bits .and .u64 (n : Int) 255 = ((n &&& 255 : Nat) : Int) := Go.bits_and_u64_nat n 255 (by omega) (by omega)
  have hle : n &&& 255 ≤ 255 := Nat.and_le_right
  rw [hn, hb]
  generalize n &&& 255 = y at *
  rw [w64 (by omega) (by omega)]
  omega
theorem next_some (l : List Int) (hl : ∀ x ∈ l, 0 ≤ x ∧ x ≤ 255) (p s : Int) (h0 : 0 ≤ p) (h1 : p ≤ 1000000) : ∃ b s', spec_l1Cur_next.f l p s = some (b, p + 1, s') ∧ 0 ≤ b ∧ b ≤ 255 := by
  have hw : wrap64 (p + 1) = p + 1 := w64 (by omega) (by omega)
  simp only [spec_l1Cur_next.f, hw, if_pos h0]
  by_cases g : p < (l.length : Int)
  · have hr : 0 ≤ rd l p ∧ rd l p ≤ 255 := by
      obtain ⟨i, rfl⟩ := Int.eq_ofNat_of_zero_le h0
      rw [rd_nat (by omega)]
      exact hl _ (List.getElem_mem _)
    have hwr : wrap64 (rd l p) = rd l p := w64 (by omega) (by omega)
    simp only [if_pos g, if_pos (show p + 1 ≤ (l.length : Int) by omega), hwr]
    exact ⟨_, _, rfl, hr⟩
  · simp only [if_neg g, if_neg (show ¬ p + 1 ≤ (l.length : Int) by omega)]
    exact ⟨_, _, rfl, bits255 _⟩
theorem pick_some (l : List Int) (hl : ∀ x ∈ l, 0 ≤ x ∧ x ≤ 255) (p s n : Int) (h0 : 0 ≤ p) (h1 : p ≤ 100000) (hn : 1 ≤ n) (hn2 : n ≤ 60000) : ∃ r p' s', spec_l1Cur_pick.f l p s n = some (r, p', s') ∧ 0 ≤ r ∧ r < n ∧ p ≤ p' ∧ p' ≤ p + 2 := by
  simp only [spec_l1Cur_pick.f]
  by_cases g : n ≤ 1
  · simp only [if_pos g]
    exact ⟨_, _, _, rfl, by omega, by omega, by omega, by omega⟩
  · obtain ⟨b, s1, e1, b0, b1⟩ := next_some l hl p s h0 (by omega)
    obtain ⟨c, s2, e2, c0, c1⟩ := next_some l hl (p + 1) s1 (by omega) (by omega)
    have hz : ¬ n = 0 := by omega
    simp only [if_neg g, e1, Option.bind_some, if_neg hz]
    by_cases g2 : n > 200
    · have w1 : wrap64 (b * 256) = b * 256 := w64 (by omega) (by omega)
      have w2 : wrap64 (b * 256 + c) = b * 256 + c := w64 (by omega) (by omega)
      simp only [if_pos g2, e2, Option.bind_some, w1, w2]
      exact ⟨_, _, _, rfl, Int.tmod_nonneg _ (by omega), Int.tmod_lt_of_pos _ (by omega), by omega, by omega⟩
    · simp only [if_neg g2]
      exact ⟨_, _, _, rfl, Int.tmod_nonneg _ (by omega), Int.tmod_lt_of_pos _ (by omega), by omega, by omega⟩
theorem among_some (l : List Int) (hl : ∀ x ∈ l, 0 ≤ x ∧ x ≤ 255) (p s : Int) (xs : List Int) (h0 : 0 ≤ p) (h1 : p ≤ 100000) (hn : 1 ≤ xs.length) (hn2 : xs.length ≤ 60000) : ∃ v p' s', spec_l1Cur_among.f l p s xs = some (v, p', s') ∧ v ∈ xs ∧ p ≤ p' ∧ p' ≤ p + 2 := by
  obtain ⟨r, p', s', e, r0, r1, q0, q1⟩ := pick_some l hl p s (xs.length : Int) h0 h1 (by omega) (by omega)
  simp only [spec_l1Cur_among.f, e, Option.bind_some, if_pos r0, if_pos r1]
  refine ⟨_, _, _, rfl, ?_, q0, q1⟩
  obtain ⟨i, rfl⟩ := Int.eq_ofNat_of_zero_le r0
  rw [rd_nat (by omega)]
  exact List.getElem_mem _
theorem big_some (a b : List Int) : ∃ t, laws_big.f a b = some t := by
  simp only [laws_big.f]
  split
  · exact ⟨_, rfl⟩
  · exact ⟨_, rfl⟩

end Go.Proofs.Ytgoldeagghadhaa.L

/-! ## E14 -/
namespace Go.Proofs.Ytgoldeagghadhaa.L
open Go.RowKit Go.Proofs.YtgoldeagghadhaaW.PrintWords Go.Proofs.Ytgoldeagghadhaa.P Go.Proofs.Ytgoldeagghadhaa.M
set_option linter.unusedVariables false
set_option linter.unusedSimpArgs false

theorem factored_some (l : List Int) (hl : ∀ x ∈ l, 0 ≤ x ∧ x ≤ 255) (p s : Int) (h0 : 0 ≤ p) (h1 : p ≤ 10000) : ∃ v p' s', spec_l1Cur_factored.f l p s = some (v, p', s') ∧ p ≤ p' ∧ p' ≤ p + 4 := by
  obtain ⟨r, p1, s1, e, r0, r1, q0, q1⟩ := pick_some l hl p s 8 h0 (by omega) (by omega) (by omega)
  simp only [spec_l1Cur_factored.f, e, Option.bind_some]
  by_cases g : r = 0
  · obtain ⟨v, p2, s2, e2, hv, q2, q3⟩ := among_some l hl p1 s1 [0, (-1), 1, 1000000000, 1000000001, 999999937, 999950884, 4611686018427387904] (by omega) (by omega) (by decide) (by decide)
    simp only [if_pos g, e2, Option.bind_some]
    exact ⟨_, _, _, rfl, by omega, by omega⟩
  · by_cases g2 : r = 1
    · obtain ⟨v, p2, s2, e2, hv, q2, q3⟩ := among_some l hl p1 s1 [360, 1024, 59049, 30030, 510510, 9699690, 223092870, 65537, 99991] (by omega) (by omega) (by decide) (by decide)
      simp only [if_neg g, if_pos g2, e2, Option.bind_some]
      exact ⟨_, _, _, rfl, by omega, by omega⟩
    · obtain ⟨v, p2, s2, e2, v0, v1, q2, q3⟩ := pick_some l hl p1 s1 700 (by omega) (by omega) (by omega) (by omega)
      simp only [if_neg g, if_neg g2, e2, Option.bind_some]
      exact ⟨_, _, _, rfl, by omega, by omega⟩
theorem drawFactors_some (l : List Int) (hl : ∀ x ∈ l, 0 ≤ x ∧ x ≤ 255) : ∃ n, spec_DrawFactorsOf.f l = some n := by
  obtain ⟨v, p, s, e, _⟩ := factored_some l hl 0 0 (by omega) (by omega)
  exact ⟨v, by simp only [spec_DrawFactorsOf.f, spec_DrawIsPrime.f, e, Option.bind_some]⟩
theorem drawSmooth_some (l : List Int) (hl : ∀ x ∈ l, 0 ≤ x ∧ x ≤ 255) : ∃ m b, spec_DrawIsSmooth.f l = some (m, b) := by
  obtain ⟨v, p, s, e, h0, h1⟩ := factored_some l hl 0 0 (by omega) (by omega)
  obtain ⟨u, p2, s2, e2, _⟩ := among_some l hl p s [1, 2, 3, 5, 7, 13, 1000, 4611686018427387904, 0, (-1)] (by omega) (by omega) (by decide) (by decide)
  exact ⟨v, u, by simp only [spec_DrawIsSmooth.f, e, e2, Option.bind_some]⟩
theorem small_more {a : List (List Int)} (ha : ∀ f ∈ a, ∀ x ∈ f, x ≤ 9223372036854775807) {u v : Int} (hu : u ≤ 9223372036854775807) (hv : v ≤ 9223372036854775807) : ∀ f ∈ a ++ [[u, v]], ∀ x ∈ f, x ≤ 9223372036854775807 := by
  intro f hf x hx
  rcases List.mem_append.1 hf with h | h
  · exact ha f h x hx
  · rw [List.mem_singleton.1 h] at hx
    rcases List.mem_cons.1 hx with rfl | hx
    · exact hu
    · rw [List.mem_singleton.1 hx]; exact hv
theorem drawNumber_some (l : List Int) (hl : ∀ x ∈ l, 0 ≤ x ∧ x ≤ 255) : ∃ a, Evl (fun k => spec_DrawNumberOfFactors.f k l) a ∧ ∀ f ∈ a, ∀ x ∈ f, x ≤ 9223372036854775807 := by
  obtain ⟨n, p, s, e, h0, h1⟩ := factored_some l hl 0 0 (by omega) (by omega)
  simp only [spec_DrawNumberOfFactors.f, e, Option.bind_some, prFactored_eq]
  by_cases g : 1 ≤ n ∧ n ≤ 1000000000
  case neg =>
    refine ⟨[[2, 1], [4, 1]], ?_, ?_⟩
    · simp only [decide_eq_false g, Bool.false_eq_true, if_false]
      exact Evl.ret _
    · exact small_more (a := [[2, 1]]) (small_more (a := []) (fun f hf => absurd hf List.not_mem_nil) (by omega) (by omega)) (by omega) (by omega)
  simp only [decide_eq_true g, if_true]
  obtain ⟨m, rfl⟩ := Int.eq_ofNat_of_zero_le (show 0 ≤ n by omega)
  have hev := spec_prFactors_ev m (by omega)
  have hsm := fL_small (m := m) (by omega) (by omega)
  have hsh := facs_short (n := m) (by omega) (by omega)
  have hlen : (fL (facs m)).length < 5864062014805 := by rw [fL_length]; omega
  obtain ⟨r, p1, s1, e1, r0, r1, q0, q1⟩ := pick_some l hl p s 12 (by omega) (by omega) (by omega) (by omega)
  by_cases c0 : r = 0
  · refine ⟨fL (facs m) ++ [[2, 1]], ?_, small_more hsm (by omega) (by omega)⟩
    refine Evl.bind hev ?_
    simp only [e1, Option.bind_some, if_pos c0, if_pos hlen]
    exact Evl.ret _
  by_cases c1 : r = 1
  · obtain ⟨u, p2, s2, e2, u0, u1, _⟩ := pick_some l hl p1 s1 3 (by omega) (by omega) (by omega) (by omega)
    refine ⟨fL (facs m) ++ [[999999937, u]], ?_, small_more hsm (by omega) (by omega)⟩
    refine Evl.bind hev ?_
    simp only [e1, e2, Option.bind_some, if_neg c0, if_pos c1, if_pos hlen]
    exact Evl.ret _
  by_cases c2 : r = 2
  · obtain ⟨u, p2, s2, e2, hu, _⟩ := among_some l hl p1 s1 [0, 1, (-3), 4611686018427387904] (by omega) (by omega) (by decide) (by decide)
    have hu2 : u ≤ 9223372036854775807 := by
      have : ∀ x ∈ ([0, 1, (-3), 4611686018427387904] : List Int), x ≤ 9223372036854775807 := by decide
      exact this u hu
    refine ⟨fL (facs m) ++ [[u, 1]], ?_, small_more hsm hu2 (by omega)⟩
    refine Evl.bind hev ?_
    simp only [e1, e2, Option.bind_some, if_neg c0, if_neg c1, if_pos c2, if_pos hlen]
    exact Evl.ret _
  by_cases c3 : r = 3
  · obtain ⟨u, p2, s2, e2, hu, _⟩ := among_some l hl p1 s1 [29, 30, 31, 0, 4611686018427387904] (by omega) (by omega) (by decide) (by decide)
    have hu2 : u ≤ 9223372036854775807 := by
      have : ∀ x ∈ ([29, 30, 31, 0, 4611686018427387904] : List Int), x ≤ 9223372036854775807 := by decide
      exact this u hu
    refine ⟨[[2, u]], ?_, small_more (a := []) (fun f hf => absurd hf List.not_mem_nil) (by omega) hu2⟩
    refine Evl.bind hev ?_
    simp only [e1, e2, Option.bind_some, if_neg c0, if_neg c1, if_neg c2, if_pos c3]
    exact Evl.ret _
  · refine ⟨fL (facs m), ?_, hsm⟩
    refine Evl.bind hev ?_
    simp only [e1, Option.bind_some, if_neg c0, if_neg c1, if_neg c2, if_neg c3]
    exact Evl.ret _

end Go.Proofs.Ytgoldeagghadhaa.L

/-! ## X30 -/
namespace Go.Proofs.Ytgoldeagghadhaa.L
open Go.RowKit Go.Proofs.YtgoldeagghadhaaW.PrintWords Go.Proofs.Ytgoldeagghadhaa.P Go.Proofs.Ytgoldeagghadhaa.M
set_option linter.unusedVariables false
set_option linter.unusedSimpArgs false

theorem FTD_l0 (z : List Int) (n : Nat) (h1 : 1 ≤ n) (hb : n ≤ 1000000000) (hR : Evl (fun k => laws_FnFactorsTold.j3 k z) true) : ∀ (s : List (Nat × Nat)) (i a : Nat), (facs n).drop i = s → a * radF s = radF (facs n) → Evl (fun k => laws_FnFactorsTold.l0 k z (n : Int) (fL (facs n)) (radW 1 (fL (facs n))) (a : Int) (fL (facs n)) ((fL (facs n)).length : Int) (i : Int)) true := by
  obtain ⟨hrd, hrw⟩ := rad_le h1 hb
  have hp1 : ∀ pe ∈ facs n, 1 ≤ pe.1 := fun pe hp => Nat.le_of_succ_le (isP_two (facs_prop h1 hp).1)
  intro s
  induction s with
  | nil =>
    intro i a h ha
    have hi := drop_nil h
    have ha' : a = radF (facs n) := by rw [← ha]; exact (Nat.mul_one a).symm
    clear ha hrd
    refine Evl.succ ?_
    simp only [laws_FnFactorsTold.l0, if_neg (show ¬ (i : Int) < ((fL (facs n)).length : Int) by rw [fL_length]; omega), if_pos (show (a : Int) = radW 1 (fL (facs n)) by rw [hrw, ha'])]
    exact hR
  | cons pe s ih =>
    intro i a h ha
    obtain ⟨hi, hx, hs⟩ := drop_cons h
    obtain ⟨f, hfx, hf0, hf1, g3, g4, g5, g6, hip, hso, hsm, g1, hw, hprev⟩ := fac_at h1 hb hx
    have g2 : (0 : Int) ≤ (i : Int) := Int.natCast_nonneg _
    have hsp : 1 ≤ radF s := radF_pos s fun q hq => hp1 q (by rw [← hs] at hq; exact List.mem_of_mem_drop hq)
    obtain ⟨ha2, hwp⟩ := mul_step (p := pe.1) (z := radF s) ha hsp hrd
    have ih' := ih (i + 1) (a * pe.1) hs ha2
    refine Evl.succ ?_
    simp only [laws_FnFactorsTold.l0, if_pos g1, if_pos g2, rdL_of hfx, if_pos g3, hf0, hf1]
    refine Evl.bind (impl_ip_ev (pe.1 : Int)) ?_
    refine Evl.bind (impl_so_ev (n : Int) (pe.1 : Int)) ?_
    rw [hip, hso]
    simp only [if_pos g5, if_true, if_pos g4, if_neg g6, ← hsm, bne_self_eq_false, Bool.false_eq_true, if_false, hwp, hw]
    by_cases c : 0 < i
    · obtain ⟨g, q1, g7, hw1, g8, g9, g10, g11⟩ := hprev c
      simp only [if_pos g7, hw1, if_pos g8, if_pos g9, rdL_of q1, if_pos g10, if_neg g11]
      exact ih'
    · have g7 : ¬ (i : Int) > 0 := fun d => c (Int.ofNat_lt.1 d)
      simp only [if_neg g7]
      exact ih'
theorem FTD_j1 (z : List Int) (n : Nat) (h1 : 1 ≤ n) (hb : n ≤ 1000000000) (hR : Evl (fun k => laws_FnFactorsTold.j3 k z) true) : Evl (fun k => laws_FnFactorsTold.j1 k z (n : Int) (fL (facs n)) (radW 1 (fL (facs n))) false) true := by
  refine Evl.succ ?_
  simp only [laws_FnFactorsTold.j1, Bool.false_eq_true, if_false]
  have := FTD_l0 z n h1 hb hR (facs n) 0 1 rfl (Nat.one_mul _)
  exact this
theorem FTD_j0 (z : List Int) (n : Int) (hR : Evl (fun k => laws_FnFactorsTold.j3 k z) true) : Evl (fun k => laws_FnFactorsTold.j0 k z n (foA n).1 (foA n).2 (raA n).1 (leA n).1 (leA n).2 (ipA n).1 false) true := by
  refine Evl.succ ?_
  simp only [laws_FnFactorsTold.j0, Bool.false_eq_true, if_false]
  by_cases g : 1 ≤ n ∧ n ≤ 1000000000
  case neg =>
    have e : foA n = ([], false) := by unfold foA; rw [if_neg g]
    rw [e]
    simp only [Bool.false_eq_true, if_false]
    exact hR
  obtain ⟨m, rfl⟩ := Int.eq_ofNat_of_zero_le (show 0 ≤ n by omega)
  have h1 : 1 ≤ m := by omega
  have hb : m ≤ 1000000000 := by omega
  have e1 : foA (m : Int) = (fL (facs m), true) := by unfold foA; rw [if_pos g, Int.toNat_natCast]
  have e2 : (raA (m : Int)).1 = radW 1 (fL (facs m)) := by unfold raA; rw [if_pos g, Int.toNat_natCast]
  have e3 : (ipA (m : Int)).1 = isP m := by unfold ipA; rw [if_pos (by omega), isPI_nat]
  have hj := FTD_j1 z m h1 hb hR
  obtain ⟨r, hr, hr1, hrm⟩ := rad_of h1 hb
  have hnz : ¬ radW 1 (fL (facs m)) = 0 := by rw [hr]; omega
  have hmod : Int.tmod (m : Int) (radW 1 (fL (facs m))) = 0 := by
    rw [hr]
    show ((m % r : Nat) : Int) = 0
    rw [hrm]
    rfl
  rw [e1, e2, e3]
  simp only [if_true]
  refine Evl.bind (impl_NumberOfFactors_ev (fL (facs m)) (fL_small h1 hb)) ?_
  rw [nofA_fo h1 hb]
  simp only [if_true]
  rcases prime_one h1 with ⟨p, e, hf, hpe⟩ | ⟨hl, hnp⟩
  · have h2 : 2 ≤ m := by
      rcases Nat.lt_or_ge m 2 with c | c
      · rw [facs_one (by omega)] at hf; cases hf
      · exact c
    obtain ⟨e', s', hs'⟩ := first_lf h2
    have hlf : lf m = p := by rw [hf] at hs'; injection hs' with q _; injection q with q _; exact q.symm
    have e4 : leA (m : Int) = ((p : Int), true) := by unfold leA; rw [if_pos (by omega), Int.toNat_natCast, hlf]
    have hll := lf_least h2
    rw [hlf] at hll
    have hmodp : Int.tmod (m : Int) (p : Int) = 0 := by
      show ((m % p : Nat) : Int) = 0
      rw [hll.div]
      rfl
    have hlen : ((fL (facs m)).length : Int) = 1 := by rw [fL_length, hf]; rfl
    have hrow : rd_L1 (fL (facs m)) 0 = [(p : Int), (e : Int)] := rdL_of (i := 0) (by rw [hf]; rfl)
    have g0 : (0 : Int) < ((fL (facs m)).length : Int) := by omega
    have g1 : (1 : Int) < ([(p : Int), (e : Int)].length : Int) := by simp
    have g2 : (0 : Int) < ([(p : Int), (e : Int)].length : Int) := by simp
    have hv0 : rd [(p : Int), (e : Int)] 0 = (p : Int) := rfl
    have hv1 : rd [(p : Int), (e : Int)] 1 = (e : Int) := rfl
    have hbe : isP m = ((e : Int) == 1) := by
      by_cases c : e = 1
      · rw [hpe.2 c]; exact (beq_iff_eq.2 (by omega)).symm
      · rw [Bool.eq_false_iff.2 fun d => c (hpe.1 d)]; exact (beq_eq_false_iff_ne.2 (by omega)).symm
    have hp0 : ¬ (p : Int) = 0 := by have := hll.two; omega
    rw [e4]
    simp only [if_pos hlen, if_pos g0, hrow, if_pos g1, if_pos g2, hv0, hv1, ← hbe, bne_self_eq_false, Bool.false_eq_true, if_false, if_neg hnz, if_pos hmod, if_true, if_neg hp0, hmodp, show ((0 : Int) != 0) = false from rfl]
    exact hj
  · have hlen : ¬ ((fL (facs m)).length : Int) = 1 := by rw [fL_length]; omega
    simp only [if_neg hlen, hnp, bne_self_eq_false, Bool.false_eq_true, if_false, if_neg hnz, if_pos hmod]
    rcases Nat.lt_or_ge m 2 with c | c
    · have e4 : leA (m : Int) = (0, false) := by unfold leA; rw [if_neg (by omega)]
      rw [e4]
      simp only [Bool.false_eq_true, if_false]
      exact hj
    · obtain ⟨e', s', hs'⟩ := first_lf c
      have hll := lf_least c
      have e4 : leA (m : Int) = ((lf m : Int), true) := by unfold leA; rw [if_pos (by omega), Int.toNat_natCast]
      have hmodp : Int.tmod (m : Int) (lf m : Int) = 0 := by
        show ((m % lf m : Nat) : Int) = 0
        rw [hll.div]
        rfl
      have g0 : (0 : Int) < ((fL (facs m)).length : Int) := by rw [fL_length, hs', List.length_cons]; omega
      have hrow : rd_L1 (fL (facs m)) 0 = [(lf m : Int), (e' : Int)] := rdL_of (i := 0) (by rw [hs']; rfl)
      have g2 : (0 : Int) < ([(lf m : Int), (e' : Int)].length : Int) := by simp
      have hv0 : rd [(lf m : Int), (e' : Int)] 0 = (lf m : Int) := rfl
      have hp0 : ¬ (lf m : Int) = 0 := by have := hll.two; omega
      rw [e4]
      simp only [if_true, if_pos g0, hrow, if_pos g2, hv0, if_neg hp0, hmodp, show ((0 : Int) != 0) = false from rfl]
      exact hj
theorem FTD_told (z : List Int) (n : Int) (hR : Evl (fun k => laws_FnFactorsTold.j3 k z) true) : Evl (fun k => (impl_FactorsOf.f k n).bind fun bt192 => ((spec_FactorsOf.f k n).bind fun bt196 => ((impl_RadicalOf.f k n).bind fun bt200 => ((spec_RadicalOf.f k n).bind fun bt202 => ((impl_LeastFactor.f k n).bind fun bt204 => ((spec_LeastFactor.f k n).bind fun bt206 => ((impl_IsPrime.f k n).bind fun bt208 => ((spec_IsPrime.f k n).bind fun bt210 => (if (bt192.2 != bt196.2) = true then (none) else ((laws_gLists.f k bt192.1 bt196.1).bind fun t212 => (if t212 = true then (if (bt200.2 != bt202.2) = true then (none) else (if bt200.1 = bt202.1 then (if (bt204.2 != bt206.2) = true then (none) else (if bt204.1 = bt206.1 then (if (bt208.2 != bt210.2) = true then (none) else (if (bt208.1 != bt210.1) = true then (none) else (if (bt200.2 != bt192.2) = true then (none) else (if bt192.2 = true then (if (bt204.2 != (decide (n > 1))) = true then (none) else (laws_FnFactorsTold.j0 k z n bt192.1 bt192.2 bt200.1 bt204.1 bt204.2 bt208.1 (!bt208.2))) else (if (bt204.2 != false) = true then (none) else (laws_FnFactorsTold.j0 k z n bt192.1 bt192.2 bt200.1 bt204.1 bt204.2 bt208.1 false)))))) else (none))) else (none))) else (none)))))))))))) true := by
  refine Evl.bind (impl_fo_ev n) ?_
  refine Evl.bind (spec_fo_ev n) ?_
  refine Evl.bind (impl_ra_ev n) ?_
  refine Evl.bind (spec_ra_ev n) ?_
  refine Evl.bind (impl_le_ev n) ?_
  refine Evl.bind (spec_le_ev n) ?_
  refine Evl.bind (impl_ip_ev n) ?_
  refine Evl.bind (spec_ip_ev n) ?_
  simp only [bne_self_eq_false, Bool.false_eq_true, if_false]
  refine Evl.bind (fLists_self (foA n).1 ?_ ?_) ?_
  · unfold foA
    split
    · rename_i g
      have := facs_short (n := n.toNat) (by omega) (by omega)
      show (fL (facs n.toNat)).length ≤ 1099511627776
      rw [fL_length]
      omega
    · exact Nat.zero_le _
  · unfold foA
    split
    · intro f hf
      have := fL_two hf
      omega
    · intro f hf
      cases hf
  have hj := FTD_j0 z n hR
  have er : (raA n).2 = (foA n).2 := by unfold raA foA; split <;> rfl
  simp only [if_true, er, bne_self_eq_false, Bool.false_eq_true, if_false]
  by_cases g : (foA n).2 = true
  · have hg : 1 ≤ n ∧ n ≤ 1000000000 := by
      unfold foA at g
      split at g
      · assumption
      · cases g
    have e4 : (leA n).2 = decide (n > 1) := by
      unfold leA
      by_cases c : n > 1
      · rw [if_pos (by omega), decide_eq_true c]
      · rw [if_neg (by omega), decide_eq_false c]
    have e5 : (ipA n).2 = true := by unfold ipA; rw [if_pos (by omega)]
    simp only [if_pos g, ← e4, bne_self_eq_false, Bool.false_eq_true, if_false, e5, Bool.not_true]
    exact hj
  · have hg : ¬ (1 ≤ n ∧ n ≤ 1000000000) := fun c => g (by unfold foA; rw [if_pos c])
    have e4 : (leA n).2 = false := by unfold leA; rw [if_neg (by omega)]
    simp only [if_neg g, e4, bne_self_eq_false, Bool.false_eq_true, if_false]
    rw [e4] at hj
    exact hj

theorem FTD_j3 (z : List Int) (l : List (List Int)) (hb : ∀ f ∈ l, ∀ x ∈ f, x ≤ 9223372036854775807) (m b : Int) (d1 : Evl (fun k => spec_DrawNumberOfFactors.f k z) l) (d2 : spec_DrawIsSmooth.f z = some (m, b)) : Evl (fun k => laws_FnFactorsTold.j3 k z) true := by
  refine Evl.succ ?_
  simp only [laws_FnFactorsTold.j3]
  refine Evl.bind d1 ?_
  refine Evl.bind (impl_NumberOfFactors_ev l hb) ?_
  refine Evl.bind (spec_NumberOfFactors_ev l hb) ?_
  simp only [d2, Option.bind_some]
  refine Evl.bind (impl_so_ev m b) ?_
  refine Evl.bind (spec_so_ev m b) ?_
  simp only [bne_self_eq_false, Bool.false_eq_true, if_false, if_true]
  by_cases g : (nofA l).2 = true
  · obtain ⟨n, h1, h2, e, el⟩ := nofA_true g
    simp only [if_pos g]
    refine Evl.bind (impl_fo_ev _) ?_
    have e1 : foA (nofA l).1 = (l, true) := by
      rw [e]
      unfold foA
      rw [if_pos (by omega), Int.toNat_natCast, ← el]
    rw [e1]
    simp only [if_true]
    refine Evl.bind (fLists_self l ?_ ?_) (Evl.ret _)
    · rw [el, fL_length]
      have := facs_short h1 h2
      omega
    · intro f hf
      rw [el] at hf
      have := fL_two hf
      omega
  · simp only [if_neg g]
    exact Evl.ret _

theorem FnFactorsTold_law (l0 l1 : List Int) (hm0 : l0.length ≤ maxLen) (hl0 : l0.length * 1 ≤ 140737488351232) (hw0 : ∀ x ∈ l0, (Lit.int .u8 x).wf = true) (hm1 : l1.length ≤ maxLen) (hl1 : l1.length * 1 ≤ 140737488351232) (hw1 : ∀ x ∈ l1, (Lit.int .u8 x).wf = true) : Evl (fun k => laws_FnFactorsTold.f k l0 l1) true := by
  have b0 := fun x hx => u8_range (hw0 x hx)
  have b1 := fun x hx => u8_range (hw1 x hx)
  obtain ⟨t, ht⟩ := big_some l0 l1
  obtain ⟨n, en⟩ := drawFactors_some l0 b0
  obtain ⟨l, el, hb⟩ := drawNumber_some l1 b1
  obtain ⟨m, b, em⟩ := drawSmooth_some l1 b1
  simp only [laws_FnFactorsTold.f, ht, Option.bind_some]
  by_cases gt : t = true
  · simp only [if_pos gt]
    exact Evl.ret _
  simp only [if_neg gt, en, Option.bind_some]
  exact FTD_told l1 n (FTD_j3 l1 l hb m b el em)

end Go.Proofs.Ytgoldeagghadhaa.L
