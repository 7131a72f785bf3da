/- Least divisors, primes and factors of whole numbers, in plain Lean, no program in sight. No condition. -/
namespace Go.Proofs.Ytgnoijgknjehfaa.M
set_option linter.unusedVariables false
set_option linter.unusedSimpArgs false

def lfAux : Nat → Nat → Nat → Nat
  | 0, _, n => n
  | f + 1, d, n => if n % d = 0 then d else lfAux f (d + 1) n
/-- The least divisor of at least 2. -/
def lf (n : Nat) : Nat := lfAux n 2 n
def isP (n : Nat) : Bool := decide (2 ≤ n) && decide (lf n = n)

structure Least (n r : Nat) : Prop where
  two : 2 ≤ r
  le : r ≤ n
  div : n % r = 0
  least : ∀ d, 2 ≤ d → d < r → n % d ≠ 0

theorem lfAux_least : ∀ (f d n : Nat), 2 ≤ d → d ≤ n → n < d + f → (∀ e, 2 ≤ e → e < d → n % e ≠ 0) → Least n (lfAux f d n)
  | 0, d, n, _, h1, h2, _ => by omega
  | f + 1, d, n, h0, h1, h2, h3 => by
    unfold lfAux
    by_cases h : n % d = 0
    · rw [if_pos h]
      exact ⟨h0, h1, h, h3⟩
    · rw [if_neg h]
      have hne : d ≠ n := fun e => h (by rw [e]; exact Nat.mod_self n)
      refine lfAux_least f (d + 1) n (by omega) (by omega) (by omega) (fun e he hl => ?_)
      by_cases hed : e = d
      · rw [hed]; exact h
      · exact h3 e he (by omega)
theorem lf_least {n : Nat} (h : 2 ≤ n) : Least n (lf n) := lfAux_least n 2 n (by omega) h (by omega) (fun e h1 h2 => by omega)
theorem Least.uniq {n r s : Nat} (h : Least n r) (h' : Least n s) : r = s := by
  rcases Nat.lt_trichotomy r s with h1 | h1 | h1
  · exact absurd h.div (h'.least r h.two h1)
  · exact h1
  · exact absurd h'.div (h.least s h'.two h1)
theorem lf_eq {n r : Nat} (hn : 2 ≤ n) (h : Least n r) : lf n = r := (lf_least hn).uniq h

theorem split_mod {n r : Nat} (h : n % r = 0) : n = r * (n / r) := by
  have := Nat.div_add_mod n r
  rw [h] at this
  omega

/-- No divisor up to the root: the number itself. -/
theorem lf_root {n d : Nat} (hn : 2 ≤ n) (hd : ∀ e, 2 ≤ e → e < d → n % e ≠ 0) (hr : n < d * d) : lf n = n := by
  have h := lf_least hn
  rcases Nat.lt_or_ge (lf n) n with hl | hl
  · exfalso
    have hq := split_mod h.div
    generalize hqe : n / lf n = q at hq
    have hq2 : 2 ≤ q := by
      rcases Nat.lt_or_ge q 2 with h1 | h1
      · have : q = 0 ∨ q = 1 := by omega
        rcases this with rfl | rfl
        · omega
        · omega
      · exact h1
    have hqm : n % q = 0 := by
      have e : n % q = (lf n * q) % q := by rw [← hq]
      rw [e]; exact Nat.mul_mod_left _ _
    have hlq : lf n ≤ q := by
      rcases Nat.lt_or_ge q (lf n) with h1 | h1
      · exact absurd hqm (h.least q hq2 h1)
      · exact h1
    have hdl : d ≤ lf n := by
      rcases Nat.lt_or_ge (lf n) d with h1 | h1
      · exact absurd h.div (hd _ h.two h1)
      · exact h1
    have : d * d ≤ lf n * q := Nat.mul_le_mul hdl (Nat.le_trans hdl hlq)
    omega
  · have := h.le
    omega

theorem isP_iff {n : Nat} : isP n = true ↔ 2 ≤ n ∧ lf n = n := by
  simp [isP]
theorem isP_two {n : Nat} (h : isP n = true) : 2 ≤ n := (isP_iff.1 h).1
theorem isP_of {n : Nat} (h2 : 2 ≤ n) (h : ∀ d, 2 ≤ d → d < n → n % d ≠ 0) : isP n = true :=
  isP_iff.2 ⟨h2, lf_eq h2 ⟨h2, Nat.le_refl _, Nat.mod_self n, h⟩⟩
theorem isP_least {n : Nat} (h : isP n = true) : Least n n := by
  obtain ⟨h2, he⟩ := isP_iff.1 h
  have := lf_least h2
  rwa [he] at this
theorem isP_no {n d : Nat} (h : isP n = true) (h2 : 2 ≤ d) (hl : d < n) : n % d ≠ 0 := (isP_least h).least d h2 hl
/-- Of a divisor of a prime there are two. -/
theorem isP_dvd {p d : Nat} (h : isP p = true) (hd : d ∣ p) : d = 1 ∨ d = p := by
  have hp := isP_two h
  have hm := Nat.mod_eq_zero_of_dvd hd
  rcases Nat.lt_or_ge d 2 with h1 | h1
  · have : d = 0 ∨ d = 1 := by omega
    rcases this with rfl | rfl
    · rw [Nat.mod_zero] at hm; omega
    · exact .inl rfl
  · rcases Nat.lt_or_ge d p with h3 | h3
    · exact absurd hm (isP_no h h1 h3)
    · exact .inr (Nat.le_antisymm (Nat.le_of_dvd (by omega) hd) h3)
theorem isP_lf {n : Nat} (hn : 2 ≤ n) : isP (lf n) = true := by
  have h := lf_least hn
  refine isP_of h.two fun d h2 hl hm => ?_
  refine h.least d h2 hl (Nat.mod_eq_zero_of_dvd ?_)
  exact Nat.dvd_trans (Nat.dvd_of_mod_eq_zero hm) (Nat.dvd_of_mod_eq_zero h.div)
theorem isP_euclid {p a b : Nat} (h : isP p = true) (hd : p ∣ a * b) : p ∣ a ∨ p ∣ b := by
  rcases isP_dvd h (Nat.gcd_dvd_left p a) with hg | hg
  · exact .inr (Nat.Coprime.dvd_of_dvd_mul_left hg hd)
  · exact .inl (hg ▸ Nat.gcd_dvd_right p a)
theorem isP_pow {p q : Nat} (h : isP p = true) (hq : isP q = true) : ∀ k, p ∣ q ^ k → p = q
  | 0, hd => by
    have h1 := isP_two h
    rw [Nat.pow_zero] at hd
    have := Nat.le_of_dvd (by omega) hd
    omega
  | k + 1, hd => by
    rw [Nat.pow_succ] at hd
    rcases isP_euclid h hd with h1 | h1
    · exact isP_pow h hq k h1
    · rcases isP_dvd hq h1 with h2 | h2
      · have := isP_two h; omega
      · exact h2

/-! ### factors -/
/-- How often p divides n, and what is left. -/
def strip : Nat → Nat → Nat → Nat × Nat
  | 0, _, n => (0, n)
  | f + 1, p, n => if n % p = 0 then ((strip f p (n / p)).1 + 1, (strip f p (n / p)).2) else (0, n)
theorem div_lt_of {n p : Nat} (hp : 2 ≤ p) (hn : 1 ≤ n) : n / p < n := Nat.div_lt_self hn hp
theorem div_pos_of {n p : Nat} (hp : 2 ≤ p) (hn : 1 ≤ n) (h : n % p = 0) : 1 ≤ n / p := by
  have := split_mod h
  rcases Nat.eq_zero_or_pos (n / p) with h1 | h1
  · rw [h1] at this; omega
  · exact h1
structure Strip (p n : Nat) (r : Nat × Nat) : Prop where
  mul : n = p ^ r.1 * r.2
  pos : 1 ≤ r.2
  le : r.2 ≤ n
  no : r.2 % p ≠ 0
  few : r.1 ≤ n
theorem strip_spec : ∀ (f p n : Nat), 2 ≤ p → 1 ≤ n → n ≤ f → Strip p n (strip f p n)
  | 0, p, n, _, h1, h2 => by omega
  | f + 1, p, n, hp, hn, hf => by
    unfold strip
    by_cases h : n % p = 0
    · rw [if_pos h]
      have hlt := div_lt_of hp hn
      have ih := strip_spec f p (n / p) hp (div_pos_of hp hn h) (by omega)
      refine ⟨?_, ih.pos, by have := ih.le; omega, ih.no, by have := ih.few; show _ + 1 ≤ n; omega⟩
      have h1 := split_mod h
      have h2 := ih.mul
      show n = p ^ ((strip f p (n / p)).1 + 1) * (strip f p (n / p)).2
      rw [Nat.pow_succ, Nat.mul_comm (p ^ _) p, Nat.mul_assoc, ← h2]
      exact h1
    · rw [if_neg h]
      exact ⟨by simp, hn, Nat.le_refl _, h, by simp⟩
theorem strip_uniq {p n a b c d : Nat} (hp : 2 ≤ p) (h1 : n = p ^ a * b) (h2 : n = p ^ c * d) (hb : b % p ≠ 0) (hd : d % p ≠ 0) : a = c ∧ b = d := by
  have key : ∀ {a b c d : Nat}, p ^ a * b = p ^ c * d → b % p ≠ 0 → a < c → False := by
    intro a b c d h hb hac
    obtain ⟨m, rfl⟩ : ∃ m, c = a + (m + 1) := ⟨c - a - 1, by omega⟩
    rw [Nat.pow_add, Nat.mul_assoc] at h
    have h3 : b = p ^ (m + 1) * d := Nat.eq_of_mul_eq_mul_left (Nat.pow_pos (by omega)) h
    refine hb ?_
    rw [h3, Nat.pow_succ, Nat.mul_comm (p ^ m) p, Nat.mul_assoc]
    exact Nat.mul_mod_right _ _
  have e := h1.symm.trans h2
  have hac : a = c := by
    rcases Nat.lt_trichotomy a c with h | h | h
    · exact (key e hb h).elim
    · exact h
    · exact (key e.symm hd h).elim
  subst hac
  exact ⟨rfl, Nat.eq_of_mul_eq_mul_left (Nat.pow_pos (by omega)) e⟩
theorem strip_fst_pos {f p n : Nat} (hf : n ≤ f) (hn : 1 ≤ n) (h : n % p = 0) : 1 ≤ (strip f p n).1 := by
  obtain ⟨m, rfl⟩ : ∃ m, f = m + 1 := ⟨f - 1, by omega⟩
  unfold strip
  rw [if_pos h]
  show 1 ≤ _ + 1
  omega
theorem strip_lt {p n : Nat} (hp : 2 ≤ p) (hn : 1 ≤ n) (h : n % p = 0) : (strip n p n).2 < n := by
  have hs := strip_spec n p n hp hn (Nat.le_refl _)
  rcases Nat.lt_or_ge (strip n p n).2 n with h1 | h1
  · exact h1
  · exact absurd (by have := hs.le; rw [show (strip n p n).2 = n by omega]; exact h) hs.no

def facsF : Nat → Nat → List (Nat × Nat)
  | 0, _ => []
  | f + 1, n => if n ≤ 1 then [] else (lf n, (strip n (lf n) n).1) :: facsF f (strip n (lf n) n).2
/-- The primes that divide a number, rising, and how often. -/
def facs (n : Nat) : List (Nat × Nat) := facsF n n
theorem rest_lt {n : Nat} (hn : 2 ≤ n) : (strip n (lf n) n).2 < n := strip_lt (lf_least hn).two (by omega) (lf_least hn).div
theorem facsF_eq : ∀ (f g n : Nat), n ≤ f → n ≤ g → facsF f n = facsF g n
  | 0, 0, _, _, _ => rfl
  | 0, g + 1, n, h, _ => by
    unfold facsF
    rw [if_pos (by omega)]
  | f + 1, 0, n, _, h => by
    unfold facsF
    rw [if_pos (by omega)]
  | f + 1, g + 1, n, h1, h2 => by
    unfold facsF
    by_cases h : n ≤ 1
    · rw [if_pos h, if_pos h]
    · rw [if_neg h, if_neg h]
      have := rest_lt (n := n) (by omega)
      rw [facsF_eq f g _ (by omega) (by omega)]
theorem facs_one {n : Nat} (h : n ≤ 1) : facs n = [] := by
  unfold facs
  cases n with
  | zero => rfl
  | succ n => unfold facsF; rw [if_pos h]
theorem facs_more {n : Nat} (h : 2 ≤ n) : facs n = (lf n, (strip n (lf n) n).1) :: facs (strip n (lf n) n).2 := by
  obtain ⟨m, rfl⟩ : ∃ m, n = m + 1 := ⟨n - 1, by omega⟩
  have hr := rest_lt h
  unfold facs
  rw [facsF, if_neg (by omega), facsF_eq m _ _ (by omega) (Nat.le_refl _)]

theorem facs_mem : ∀ (m n : Nat), n ≤ m → 1 ≤ n → ∀ pe, pe ∈ facs n → isP pe.1 = true ∧ 1 ≤ pe.2 ∧ pe.1 ∣ n
  | 0, n, h, h1 => by omega
  | m + 1, n, h, h1 => by
    intro pe hpe
    rcases Nat.lt_or_ge n 2 with h2 | h2
    · rw [facs_one (by omega)] at hpe
      cases hpe
    · have hl := lf_least h2
      have hs := strip_spec n (lf n) n hl.two h1 (Nat.le_refl _)
      rw [facs_more h2] at hpe
      rcases List.mem_cons.1 hpe with rfl | hpe
      · exact ⟨isP_lf h2, strip_fst_pos (Nat.le_refl _) h1 hl.div, Nat.dvd_of_mod_eq_zero hl.div⟩
      · have hr := rest_lt h2
        obtain ⟨g1, g2, g3⟩ := facs_mem m _ (by omega) hs.pos pe hpe
        refine ⟨g1, g2, Nat.dvd_trans g3 ?_⟩
        refine ⟨lf n ^ (strip n (lf n) n).1, ?_⟩
        rw [Nat.mul_comm]
        exact hs.mul
theorem facs_prop {n : Nat} (h : 1 ≤ n) {pe : Nat × Nat} (hm : pe ∈ facs n) : isP pe.1 = true ∧ 1 ≤ pe.2 ∧ pe.1 ∣ n := facs_mem n n (Nat.le_refl _) h pe hm
theorem facs_sorted_aux : ∀ (m n : Nat), n ≤ m → (facs n).Pairwise (fun a b => a.1 < b.1)
  | 0, n, h => by rw [facs_one (by omega)]; exact List.Pairwise.nil
  | m + 1, n, h => by
    rcases Nat.lt_or_ge n 2 with h2 | h2
    · rw [facs_one (by omega)]; exact List.Pairwise.nil
    · have hl := lf_least h2
      have hs := strip_spec n (lf n) n hl.two (by omega) (Nat.le_refl _)
      have hr := rest_lt h2
      rw [facs_more h2]
      refine List.Pairwise.cons (fun pe hpe => ?_) (facs_sorted_aux m _ (by omega))
      obtain ⟨g1, g2, g3⟩ := facs_prop hs.pos hpe
      have hd : pe.1 ∣ n := by
        refine Nat.dvd_trans g3 ⟨lf n ^ (strip n (lf n) n).1, ?_⟩
        rw [Nat.mul_comm]
        exact hs.mul
      have hne : pe.1 ≠ lf n := fun e => hs.no (Nat.mod_eq_zero_of_dvd (e ▸ g3))
      show lf n < pe.1
      rcases Nat.lt_or_ge pe.1 (lf n) with h3 | h3
      · exact absurd (Nat.mod_eq_zero_of_dvd hd) (hl.least _ (isP_two g1) h3)
      · omega
theorem facs_sorted (n : Nat) : (facs n).Pairwise (fun a b => a.1 < b.1) := facs_sorted_aux n n (Nat.le_refl _)
theorem facs_nil {n : Nat} (h : facs n = []) : n ≤ 1 := by
  rcases Nat.lt_or_ge n 2 with h2 | h2
  · omega
  · rw [facs_more h2] at h; cases h
theorem facs_length : ∀ (m n : Nat), n ≤ m → (facs n).length ≤ n
  | 0, n, h => by rw [facs_one (by omega)]; exact Nat.zero_le _
  | m + 1, n, h => by
    rcases Nat.lt_or_ge n 2 with h2 | h2
    · rw [facs_one (by omega)]; exact Nat.zero_le _
    · have hr := rest_lt h2
      rw [facs_more h2, List.length_cons]
      have := facs_length m _ (show (strip n (lf n) n).2 ≤ m by omega)
      omega

end Go.Proofs.Ytgnoijgknjehfaa.M
