/- FactorsOf of the program tells what the reference's tells, for all arguments: what both functions compute. No condition beyond 64 bits and the lengths that the statement's guards give. -/
import Derived.Test.YtgoldeagghadhaaPx0
import Derived.Test.YtgoldeagghadhaaPx14
import Derived.Test.YtgoldeagghadhaaPx15
import Derived.Test.YtgoldeagghadhaaPx1
import Derived.Test.YtgoldeagghadhaaPx2
import Derived.Test.YtgoldeagghadhaaPx25
import Derived.Test.YtgoldeagghadhaaPx26
import Derived.Test.YtgoldeagghadhaaPx27
import Derived.Test.YtgoldeagghadhaaPx28
import Derived.Test.YtgoldeagghadhaaFF
/-! ## L0 -/
namespace Go.Proofs.Ytgoldeagghadhaa.L
open Go.RowKit Go.Proofs.YtgoldeagghadhaaW.PrintWords
set_option linter.unusedVariables false
set_option linter.unusedSimpArgs false

/-- With enough rounds g tells r. -/
def Evl {α : Type} (g : Nat → Option α) (r : α) : Prop := ∃ K, ∀ k, K ≤ k → g k = some r
theorem Evl.ret {α : Type} (r : α) : Evl (fun _ => some r) r := ⟨0, fun _ _ => rfl⟩
theorem Evl.bind {α β : Type} {g : Nat → Option α} {f : Nat → α → Option β} {a : α} {r : β} (h : Evl g a) (h2 : Evl (fun k => f k a) r) : Evl (fun k => (g k).bind (f k)) r := by
  obtain ⟨K, hK⟩ := h
  obtain ⟨K2, hK2⟩ := h2
  refine ⟨max K K2, fun k hk => ?_⟩
  show (g k).bind (f k) = some r
  rw [hK k (Nat.le_trans (Nat.le_max_left _ _) hk), Option.bind_some]
  exact hK2 k (Nat.le_trans (Nat.le_max_right _ _) hk)
theorem Evl.succ {α : Type} {g : Nat → Option α} {r : α} (h : Evl (fun k => g (k + 1)) r) : Evl g r := by
  obtain ⟨K, hK⟩ := h
  refine ⟨K + 1, fun k hk => ?_⟩
  obtain ⟨m, rfl⟩ : ∃ m, k = m + 1 := ⟨k - 1, by omega⟩
  exact hK m (by omega)
theorem Evl.get {α : Type} {g : Nat → Option α} {r : α} (h : Evl g r) : ∃ k, g k = some r := by
  obtain ⟨K, hK⟩ := h
  exact ⟨K, hK K (Nat.le_refl _)⟩
theorem Evl.cast {α : Type} {g : Nat → Option α} {r r' : α} (h : Evl g r) (e : r = r') : Evl g r' := e ▸ h

theorem w64 {x : Int} (h0 : -9223372036854775808 ≤ x) (h1 : x ≤ 9223372036854775807) : wrap64 x = x := by
  unfold wrap64
  omega
theorem drop_nil {α : Type} {xs : List α} {i : Nat} (h : xs.drop i = []) : xs.length ≤ i := by
  simpa using h
theorem drop_cons {α : Type} {xs s : List α} {x : α} {i : Nat} (h : xs.drop i = x :: s) : i < xs.length ∧ xs[i]? = some x ∧ xs.drop (i + 1) = s := by
  have hl : i < xs.length := by
    rcases Nat.lt_or_ge i xs.length with h1 | h1
    · exact h1
    · rw [List.drop_of_length_le h1] at h
      cases h
  rw [List.drop_eq_getElem_cons hl] at h
  injection h with h1 h2
  exact ⟨hl, by rw [List.getElem?_eq_getElem hl, h1], h2⟩
theorem rd_of {xs : List Int} {i : Nat} {x : Int} (h : xs[i]? = some x) : rd xs (i : Int) = x := by
  unfold rd
  rw [Int.toNat_natCast, List.getD_eq_getElem?_getD, h]
  rfl
end Go.Proofs.Ytgoldeagghadhaa.L

/-! ## E0 -/
namespace Go.Proofs.Ytgoldeagghadhaa.L
open Go.RowKit Go.Proofs.YtgoldeagghadhaaW.PrintWords Go.Proofs.Ytgoldeagghadhaa.P
set_option linter.unusedVariables false
set_option linter.unusedSimpArgs false

/-- n numbers from v on. -/
def iot : Int → Nat → List Int
  | _, 0 => []
  | v, n + 1 => v :: iot (v + 1) n
theorem iot_length : ∀ (n : Nat) (v : Int), (iot v n).length = n
  | 0, _ => rfl
  | n + 1, v => by rw [iot, List.length_cons, iot_length n]

theorem eqIntS_l0 (a : List Int) (hl : a.length ≤ 1099511627776) : ∀ (s : List Int) (i : Nat), a.drop i = s → Evl (fun k => laws_eqIntS.l0 k a a (i : Int)) true := by
  intro s
  induction s with
  | nil =>
    intro i h
    have hi := drop_nil h
    refine Evl.succ ?_
    have h1 : ¬ (i : Int) < (a.length : Int) := by omega
    simp only [laws_eqIntS.l0, if_neg h1]
    exact Evl.ret _
  | cons x s ih =>
    intro i h
    obtain ⟨hi, hx, hs⟩ := drop_cons h
    have hw : wrap64 ((i : Int) + 1) = ((i + 1 : Nat) : Int) := by rw [w64 (by omega) (by omega)]; rfl
    refine Evl.succ ?_
    have h1 : (i : Int) < (a.length : Int) := by omega
    have h2 : (0 : Int) ≤ (i : Int) := by omega
    simp only [laws_eqIntS.l0, if_pos h1, if_pos h2, if_true, hw]
    exact ih (i + 1) hs
theorem eqIntS_self (a : List Int) (hl : a.length ≤ 1099511627776) : Evl (fun k => laws_eqIntS.f k a a) true := by
  simp only [laws_eqIntS.f, if_true]
  exact eqIntS_l0 a hl a 0 rfl

theorem markIntS_l0 : ∀ (s pre : List Int) (v : Int) (i : Nat), pre.length = i → pre.length + s.length ≤ 1099511627776 → 0 ≤ v → v + s.length ≤ 1099511627800 → Evl (fun k => laws_markIntS.l0 k (pre ++ s) v (i : Int)) (v + s.length, pre ++ iot v s.length) := by
  intro s
  induction s with
  | nil =>
    intro pre v i hi _ _ _
    refine Evl.succ ?_
    have h1 : ¬ (i : Int) < ((pre ++ []).length : Int) := by rw [List.append_nil]; omega
    simp only [laws_markIntS.l0, if_neg h1]
    refine (Evl.ret _).cast ?_
    simp [iot]
  | cons x s ih =>
    intro pre v i hi hb hv hvb
    rw [List.length_cons] at hb hvb
    have hw : wrap64 ((i : Int) + 1) = ((i + 1 : Nat) : Int) := by rw [w64 (by omega) (by omega)]; rfl
    have hw2 : wrap64 (v + 1) = v + 1 := w64 (by omega) (by omega)
    refine Evl.succ ?_
    have h1 : (i : Int) < ((pre ++ x :: s).length : Int) := by rw [List.length_append, List.length_cons]; omega
    have h2 : (0 : Int) ≤ (i : Int) := by omega
    have hset : (pre ++ x :: s).set (i : Int).toNat v = (pre ++ [v]) ++ s := by
      rw [Int.toNat_natCast, ← hi, List.set_append_right _ _ (Nat.le_refl _), Nat.sub_self, List.set_cons_zero, List.append_assoc]
      rfl
    simp only [laws_markIntS.l0, if_pos h1, if_pos h2, hw, hw2, hset]
    have := ih (pre ++ [v]) (v + 1) (i + 1) (by rw [List.length_append, hi]; rfl) (by rw [List.length_append, List.length_singleton]; omega) (by omega) (by omega)
    refine this.cast ?_
    rw [List.length_cons, iot, List.append_assoc]
    refine Prod.ext ?_ rfl
    show v + 1 + (s.length : Int) = v + ((s.length + 1 : Nat) : Int)
    omega
theorem heldIntS_l0 (a : List Int) (hl : a.length ≤ 1099511627776) : ∀ (n : Nat) (v : Int) (i : Nat), a.drop i = iot v n → 0 ≤ v → v + n ≤ 1099511627800 → Evl (fun k => laws_heldIntS.l0 k a v (i : Int)) (v + n) := by
  intro n
  induction n with
  | zero =>
    intro v i h _ _
    have hi := drop_nil h
    refine Evl.succ ?_
    have h1 : ¬ (i : Int) < (a.length : Int) := by omega
    simp only [laws_heldIntS.l0, if_neg h1]
    refine (Evl.ret _).cast ?_
    omega
  | succ n ih =>
    intro v i h hv hb
    obtain ⟨hi, hx, hs⟩ := drop_cons h
    have hw : wrap64 ((i : Int) + 1) = ((i + 1 : Nat) : Int) := by rw [w64 (by omega) (by omega)]; rfl
    have hw2 : wrap64 (v + 1) = v + 1 := w64 (by omega) (by omega)
    have hr : rd a (i : Int) = v := rd_of hx
    refine Evl.succ ?_
    have h1 : (i : Int) < (a.length : Int) := by omega
    have h2 : (0 : Int) ≤ (i : Int) := by omega
    simp only [laws_heldIntS.l0, if_pos h1, if_pos h2, hr, if_true, hw, hw2]
    refine (ih (v + 1) (i + 1) hs (by omega) (by omega)).cast ?_
    omega
end Go.Proofs.Ytgoldeagghadhaa.L

/-! ## M1 -/
namespace Go.Proofs.Ytgoldeagghadhaa.M
set_option linter.unusedVariables false
set_option linter.unusedSimpArgs false

def lfAux : Nat → Nat → Nat → Nat
  | 0, _, n => n
  | f + 1, d, n => if n % d = 0 then d else lfAux f (d + 1) n
/-- The least divisor of at least 2. -/
def lf (n : Nat) : Nat := lfAux n 2 n
structure Least (n r : Nat) : Prop where
  two : 2 ≤ r
  le : r ≤ n
  div : n % r = 0
  least : ∀ d, 2 ≤ d → d < r → n % d ≠ 0

theorem lfAux_least : ∀ (f d n : Nat), 2 ≤ d → d ≤ n → n < d + f → (∀ e, 2 ≤ e → e < d → n % e ≠ 0) → Least n (lfAux f d n)
  | 0, d, n, _, h1, h2, _ => by omega
  | f + 1, d, n, h0, h1, h2, h3 => by
    unfold lfAux
    by_cases h : n % d = 0
    · rw [if_pos h]
      exact ⟨h0, h1, h, h3⟩
    · rw [if_neg h]
      have hne : d ≠ n := fun e => h (by rw [e]; exact Nat.mod_self n)
      refine lfAux_least f (d + 1) n (by omega) (by omega) (by omega) (fun e he hl => ?_)
      by_cases hed : e = d
      · rw [hed]; exact h
      · exact h3 e he (by omega)
theorem lf_least {n : Nat} (h : 2 ≤ n) : Least n (lf n) := lfAux_least n 2 n (by omega) h (by omega) (fun e h1 h2 => by omega)
theorem Least.uniq {n r s : Nat} (h : Least n r) (h' : Least n s) : r = s := by
  rcases Nat.lt_trichotomy r s with h1 | h1 | h1
  · exact absurd h.div (h'.least r h.two h1)
  · exact h1
  · exact absurd h'.div (h.least s h'.two h1)
theorem lf_eq {n r : Nat} (hn : 2 ≤ n) (h : Least n r) : lf n = r := (lf_least hn).uniq h

theorem split_mod {n r : Nat} (h : n % r = 0) : n = r * (n / r) := by
  have := Nat.div_add_mod n r
  rw [h] at this
  omega

/-- No divisor up to the root: the number itself. -/
theorem lf_root {n d : Nat} (hn : 2 ≤ n) (hd : ∀ e, 2 ≤ e → e < d → n % e ≠ 0) (hr : n < d * d) : lf n = n := by
  have h := lf_least hn
  rcases Nat.lt_or_ge (lf n) n with hl | hl
  · exfalso
    have hq := split_mod h.div
    generalize hqe : n / lf n = q at hq
    have hq2 : 2 ≤ q := by
      rcases Nat.lt_or_ge q 2 with h1 | h1
      · have : q = 0 ∨ q = 1 := by omega
        rcases this with rfl | rfl
        · omega
        · omega
      · exact h1
    have hqm : n % q = 0 := by
      have e : n % q = (lf n * q) % q := by rw [← hq]
      rw [e]; exact Nat.mul_mod_left _ _
    have hlq : lf n ≤ q := by
      rcases Nat.lt_or_ge q (lf n) with h1 | h1
      · exact absurd hqm (h.least q hq2 h1)
      · exact h1
    have hdl : d ≤ lf n := by
      rcases Nat.lt_or_ge (lf n) d with h1 | h1
      · exact absurd h.div (hd _ h.two h1)
      · exact h1
    have : d * d ≤ lf n * q := Nat.mul_le_mul hdl (Nat.le_trans hdl hlq)
    omega
  · have := h.le
    omega

/-! ### factors -/
/-- How often p divides n, and what is left. -/
def strip : Nat → Nat → Nat → Nat × Nat
  | 0, _, n => (0, n)
  | f + 1, p, n => if n % p = 0 then ((strip f p (n / p)).1 + 1, (strip f p (n / p)).2) else (0, n)
theorem div_lt_of {n p : Nat} (hp : 2 ≤ p) (hn : 1 ≤ n) : n / p < n := Nat.div_lt_self hn hp
theorem div_pos_of {n p : Nat} (hp : 2 ≤ p) (hn : 1 ≤ n) (h : n % p = 0) : 1 ≤ n / p := by
  have := split_mod h
  rcases Nat.eq_zero_or_pos (n / p) with h1 | h1
  · rw [h1] at this; omega
  · exact h1
structure Strip (p n : Nat) (r : Nat × Nat) : Prop where
  mul : n = p ^ r.1 * r.2
  pos : 1 ≤ r.2
  le : r.2 ≤ n
  no : r.2 % p ≠ 0
  few : r.1 ≤ n
theorem strip_spec : ∀ (f p n : Nat), 2 ≤ p → 1 ≤ n → n ≤ f → Strip p n (strip f p n)
  | 0, p, n, _, h1, h2 => by omega
  | f + 1, p, n, hp, hn, hf => by
    unfold strip
    by_cases h : n % p = 0
    · rw [if_pos h]
      have hlt := div_lt_of hp hn
      have ih := strip_spec f p (n / p) hp (div_pos_of hp hn h) (by omega)
      refine ⟨?_, ih.pos, by have := ih.le; omega, ih.no, by have := ih.few; show _ + 1 ≤ n; omega⟩
      have h1 := split_mod h
      have h2 := ih.mul
      show n = p ^ ((strip f p (n / p)).1 + 1) * (strip f p (n / p)).2
      rw [Nat.pow_succ, Nat.mul_comm (p ^ _) p, Nat.mul_assoc, ← h2]
      exact h1
    · rw [if_neg h]
      exact ⟨by simp, hn, Nat.le_refl _, h, by simp⟩
theorem strip_lt {p n : Nat} (hp : 2 ≤ p) (hn : 1 ≤ n) (h : n % p = 0) : (strip n p n).2 < n := by
  have hs := strip_spec n p n hp hn (Nat.le_refl _)
  rcases Nat.lt_or_ge (strip n p n).2 n with h1 | h1
  · exact h1
  · exact absurd (by have := hs.le; rw [show (strip n p n).2 = n by omega]; exact h) hs.no

def facsF : Nat → Nat → List (Nat × Nat)
  | 0, _ => []
  | f + 1, n => if n ≤ 1 then [] else (lf n, (strip n (lf n) n).1) :: facsF f (strip n (lf n) n).2
/-- The primes that divide a number, rising, and how often. -/
def facs (n : Nat) : List (Nat × Nat) := facsF n n
theorem rest_lt {n : Nat} (hn : 2 ≤ n) : (strip n (lf n) n).2 < n := strip_lt (lf_least hn).two (by omega) (lf_least hn).div
theorem facsF_eq : ∀ (f g n : Nat), n ≤ f → n ≤ g → facsF f n = facsF g n
  | 0, 0, _, _, _ => rfl
  | 0, g + 1, n, h, _ => by
    unfold facsF
    rw [if_pos (by omega)]
  | f + 1, 0, n, _, h => by
    unfold facsF
    rw [if_pos (by omega)]
  | f + 1, g + 1, n, h1, h2 => by
    unfold facsF
    by_cases h : n ≤ 1
    · rw [if_pos h, if_pos h]
    · rw [if_neg h, if_neg h]
      have := rest_lt (n := n) (by omega)
      rw [facsF_eq f g _ (by omega) (by omega)]
theorem facs_one {n : Nat} (h : n ≤ 1) : facs n = [] := by
  unfold facs
  cases n with
  | zero => rfl
  | succ n => unfold facsF; rw [if_pos h]
theorem facs_more {n : Nat} (h : 2 ≤ n) : facs n = (lf n, (strip n (lf n) n).1) :: facs (strip n (lf n) n).2 := by
  obtain ⟨m, rfl⟩ : ∃ m, n = m + 1 := ⟨n - 1, by omega⟩
  have hr := rest_lt h
  unfold facs
  rw [facsF, if_neg (by omega), facsF_eq m _ _ (by omega) (Nat.le_refl _)]

theorem facs_length : ∀ (m n : Nat), n ≤ m → (facs n).length ≤ n
  | 0, n, h => by rw [facs_one (by omega)]; exact Nat.zero_le _
  | m + 1, n, h => by
    rcases Nat.lt_or_ge n 2 with h2 | h2
    · rw [facs_one (by omega)]; exact Nat.zero_le _
    · have hr := rest_lt h2
      rw [facs_more h2, List.length_cons]
      have := facs_length m _ (show (strip n (lf n) n).2 ≤ m by omega)
      omega

end Go.Proofs.Ytgoldeagghadhaa.M

/-! ## E1 -/
namespace Go.Proofs.Ytgoldeagghadhaa.L
open Go.RowKit Go.Proofs.YtgoldeagghadhaaW.PrintWords Go.Proofs.Ytgoldeagghadhaa.P Go.Proofs.Ytgoldeagghadhaa.M
set_option linter.unusedVariables false
set_option linter.unusedSimpArgs false

theorem spec_prLeast_l0 (n : Nat) (hn : 2 ≤ n) (hb : n ≤ 2000000000) : ∀ (m d : Nat), m + d = 50000 → 2 ≤ d → (∀ e, 2 ≤ e → e < d → n % e ≠ 0) → Evl (fun k => spec_prLeast.l0 k (n : Int) (d : Int)) (lf n : Int) := by
  intro m
  induction m with
  | zero =>
    intro d hd h2 hno
    obtain rfl : d = 50000 := by omega
    refine Evl.succ ?_
    have h1 : ¬ wrap64 (((50000 : Nat) : Int) * ((50000 : Nat) : Int)) ≤ (n : Int) := by rw [w64 (by omega) (by omega)]; omega
    simp only [spec_prLeast.l0, if_neg h1]
    rw [lf_root hn hno (by omega)]
    exact Evl.ret _
  | succ m ih =>
    intro d hd h2 hno
    have hdd : d * d ≤ 50000 * 50000 := Nat.mul_le_mul (by omega) (by omega)
    have hw : wrap64 ((d : Int) * (d : Int)) = ((d * d : Nat) : Int) := by rw [← Int.natCast_mul]; exact w64 (by omega) (by omega)
    have hw1 : wrap64 ((d : Int) + 1) = ((d + 1 : Nat) : Int) := by rw [w64 (by omega) (by omega)]; rfl
    refine Evl.succ ?_
    by_cases hr : d * d ≤ n
    · have h1 : ((d * d : Nat) : Int) ≤ (n : Int) := Int.ofNat_le.2 hr
      have h3 : ¬ (d : Int) = 0 := by omega
      have ht : Int.tmod (n : Int) (d : Int) = ((n % d : Nat) : Int) := rfl
      by_cases hm : n % d = 0
      · have h4 : ((n % d : Nat) : Int) = 0 := by rw [hm]; rfl
        simp only [spec_prLeast.l0, hw, if_pos h1, if_neg h3, ht, if_pos h4]
        rw [lf_eq hn ⟨h2, Nat.le_trans (Nat.le_mul_self d) hr, hm, hno⟩]
        exact Evl.ret _
      · have h4 : ¬ ((n % d : Nat) : Int) = 0 := by omega
        simp only [spec_prLeast.l0, hw, if_pos h1, if_neg h3, ht, if_neg h4, hw1]
        refine ih (d + 1) (by omega) (by omega) (fun e he hl => ?_)
        by_cases hed : e = d
        · rw [hed]; exact hm
        · exact hno e he (by omega)
    · have h1 : ¬ ((d * d : Nat) : Int) ≤ (n : Int) := fun h => hr (Int.ofNat_le.1 h)
      simp only [spec_prLeast.l0, hw, if_neg h1]
      rw [lf_root hn hno (by omega)]
      exact Evl.ret _
theorem spec_prLeast_ev (n : Nat) (hn : 2 ≤ n) (hb : n ≤ 2000000000) : Evl (fun k => spec_prLeast.f k (n : Int)) (lf n : Int) := by
  simp only [spec_prLeast.f]
  exact spec_prLeast_l0 n hn hb 49998 2 rfl (by omega) (fun e h1 h2 => by omega)
theorem impl_leastFactor_l0 (n : Nat) (hn : 2 ≤ n) (hb : n ≤ 2000000000) : ∀ (m d : Nat), m + d = 50000 → 2 ≤ d → (∀ e, 2 ≤ e → e < d → n % e ≠ 0) → Evl (fun k => impl_leastFactor.l0 k (n : Int) (d : Int)) (lf n : Int) := by
  intro m
  induction m with
  | zero =>
    intro d hd h2 hno
    obtain rfl : d = 50000 := by omega
    refine Evl.succ ?_
    have h1 : ¬ wrap64 (((50000 : Nat) : Int) * ((50000 : Nat) : Int)) ≤ (n : Int) := by rw [w64 (by omega) (by omega)]; omega
    simp only [impl_leastFactor.l0, if_neg h1]
    rw [lf_root hn hno (by omega)]
    exact Evl.ret _
  | succ m ih =>
    intro d hd h2 hno
    have hdd : d * d ≤ 50000 * 50000 := Nat.mul_le_mul (by omega) (by omega)
    have hw : wrap64 ((d : Int) * (d : Int)) = ((d * d : Nat) : Int) := by rw [← Int.natCast_mul]; exact w64 (by omega) (by omega)
    have hw1 : wrap64 ((d : Int) + 1) = ((d + 1 : Nat) : Int) := by rw [w64 (by omega) (by omega)]; rfl
    refine Evl.succ ?_
    by_cases hr : d * d ≤ n
    · have h1 : ((d * d : Nat) : Int) ≤ (n : Int) := Int.ofNat_le.2 hr
      have h3 : ¬ (d : Int) = 0 := by omega
      have ht : Int.tmod (n : Int) (d : Int) = ((n % d : Nat) : Int) := rfl
      by_cases hm : n % d = 0
      · have h4 : ((n % d : Nat) : Int) = 0 := by rw [hm]; rfl
        simp only [impl_leastFactor.l0, hw, if_pos h1, if_neg h3, ht, if_pos h4]
        rw [lf_eq hn ⟨h2, Nat.le_trans (Nat.le_mul_self d) hr, hm, hno⟩]
        exact Evl.ret _
      · have h4 : ¬ ((n % d : Nat) : Int) = 0 := by omega
        simp only [impl_leastFactor.l0, hw, if_pos h1, if_neg h3, ht, if_neg h4, hw1]
        refine ih (d + 1) (by omega) (by omega) (fun e he hl => ?_)
        by_cases hed : e = d
        · rw [hed]; exact hm
        · exact hno e he (by omega)
    · have h1 : ¬ ((d * d : Nat) : Int) ≤ (n : Int) := fun h => hr (Int.ofNat_le.1 h)
      simp only [impl_leastFactor.l0, hw, if_neg h1]
      rw [lf_root hn hno (by omega)]
      exact Evl.ret _
theorem impl_leastFactor_ev (n : Nat) (hn : 2 ≤ n) (hb : n ≤ 2000000000) : Evl (fun k => impl_leastFactor.f k (n : Int)) (lf n : Int) := by
  simp only [impl_leastFactor.f]
  exact impl_leastFactor_l0 n hn hb 49998 2 rfl (by omega) (fun e h1 h2 => by omega)

end Go.Proofs.Ytgoldeagghadhaa.L

/-! ## E2 -/

namespace Go.Proofs.Ytgoldeagghadhaa.L
open Go.RowKit Go.Proofs.YtgoldeagghadhaaW.PrintWords Go.Proofs.Ytgoldeagghadhaa.P Go.Proofs.Ytgoldeagghadhaa.M
set_option linter.unusedVariables false
set_option linter.unusedSimpArgs false

end Go.Proofs.Ytgoldeagghadhaa.L

/-! ## E3 -/
namespace Go.Proofs.Ytgoldeagghadhaa.L
open Go.RowKit Go.Proofs.YtgoldeagghadhaaW.PrintWords Go.Proofs.Ytgoldeagghadhaa.P Go.Proofs.Ytgoldeagghadhaa.M
set_option linter.unusedVariables false
set_option linter.unusedSimpArgs false

/-- Factors as the program lays them. -/
def fL (l : List (Nat × Nat)) : List (List Int) := l.map fun pe => [(pe.1 : Int), (pe.2 : Int)]

theorem spec_prFactors_l1 : ∀ (f n : Nat) (xs : List (List Int)) (p e : Nat) (R : List (List Int)), 2 ≤ p → 1 ≤ n → n ≤ f → n ≤ 2000000000 → e + n ≤ 4000000000 → xs.length < 5000000000 →
    Evl (fun k => spec_prFactors.l0 k ((strip f p n).2 : Int) (xs ++ [[(p : Int), ((e + (strip f p n).1 : Nat) : Int)]])) R → Evl (fun k => spec_prFactors.l1 k (n : Int) xs (p : Int) (e : Int)) R := by
  intro f
  induction f with
  | zero => intro n xs p e R _ h1 h2; omega
  | succ f ih =>
    intro n xs p e R hp hn hf hb he hl h
    refine Evl.succ ?_
    have h1 : ¬ (p : Int) = 0 := by omega
    have ht : Int.tmod (n : Int) (p : Int) = ((n % p : Nat) : Int) := rfl
    have hq : Int.tdiv (n : Int) (p : Int) = ((n / p : Nat) : Int) := rfl
    unfold strip at h
    by_cases hm : n % p = 0
    · rw [if_pos hm] at h
      have hlt := div_lt_of hp hn
      have hpos := div_pos_of hp hn hm
      have h2 : ((n % p : Nat) : Int) = 0 := by rw [hm]; rfl
      generalize n / p = q at h hq hlt hpos
      have hw : wrap64 (q : Int) = (q : Int) := w64 (by omega) (by omega)
      have hw1 : wrap64 ((e : Int) + 1) = ((e + 1 : Nat) : Int) := by rw [w64 (by omega) (by omega)]; rfl
      simp only [spec_prFactors.l1, if_neg h1, ht, if_pos h2, hq, hw, hw1]
      have e1 : e + 1 + (strip f p q).1 = e + ((strip f p q).1 + 1) := by rw [Nat.add_assoc, Nat.add_comm 1]
      clear ht hq h2 hw hw1 hm h1
      refine ih q xs p (e + 1) R hp hpos ?_ ?_ ?_ hl ?_
      · omega
      · omega
      · clear h e1 ih
        omega
      · rw [e1]
        exact h
    · rw [if_neg hm] at h
      have h2 : ¬ ((n % p : Nat) : Int) = 0 := fun c => hm (Int.ofNat_eq_zero.1 c)
      have h3 : xs.length < 5864062014805 := by omega
      simp only [spec_prFactors.l1, if_neg h1, ht, if_neg h2, if_pos h3]
      simpa using h
theorem spec_prFactors_l0 : ∀ (m n : Nat) (xs : List (List Int)), n ≤ m → n ≤ 2000000000 → xs.length + n ≤ 4000000000 → Evl (fun k => spec_prFactors.l0 k (n : Int) xs) (xs ++ fL (facs n)) := by
  intro m
  induction m with
  | zero =>
    intro n xs h _ _
    refine Evl.succ ?_
    have h1 : ¬ (n : Int) > 1 := by omega
    simp only [spec_prFactors.l0, if_neg h1]
    rw [facs_one (by omega)]
    refine (Evl.ret _).cast ?_
    simp [fL]
  | succ m ih =>
    intro n xs h hb hl
    refine Evl.succ ?_
    rcases Nat.lt_or_ge n 2 with h2 | h2
    · have h1 : ¬ (n : Int) > 1 := by omega
      simp only [spec_prFactors.l0, if_neg h1]
      rw [facs_one (by omega)]
      refine (Evl.ret _).cast ?_
      simp [fL]
    · have h1 : (n : Int) > 1 := by omega
      have hr := rest_lt h2
      simp only [spec_prFactors.l0, if_pos h1]
      refine Evl.bind (spec_prLeast_ev n h2 hb) ?_
      refine spec_prFactors_l1 n n xs (lf n) 0 _ (lf_least h2).two (by omega) (Nat.le_refl _) hb (by omega) (by omega) ?_
      rw [Nat.zero_add]
      refine (ih _ _ (by omega) (by omega) (by rw [List.length_append, List.length_singleton]; omega)).cast ?_
      rw [facs_more h2]
      simp [fL]
theorem spec_prFactors_ev (n : Nat) (hb : n ≤ 2000000000) : Evl (fun k => spec_prFactors.f k (n : Int)) (fL (facs n)) := by
  simp only [spec_prFactors.f]
  exact spec_prFactors_l0 n n [] (Nat.le_refl _) hb (by simp; omega)

theorem impl_factors_l1 : ∀ (f n : Nat) (xs : List (List Int)) (p e : Nat) (R : List (List Int)), 2 ≤ p → 1 ≤ n → n ≤ f → n ≤ 2000000000 → e + n ≤ 4000000000 → xs.length < 5000000000 →
    Evl (fun k => impl_factors.l0 k ((strip f p n).2 : Int) (xs ++ [[(p : Int), ((e + (strip f p n).1 : Nat) : Int)]])) R → Evl (fun k => impl_factors.l1 k (n : Int) xs (p : Int) (e : Int)) R := by
  intro f
  induction f with
  | zero => intro n xs p e R _ h1 h2; omega
  | succ f ih =>
    intro n xs p e R hp hn hf hb he hl h
    refine Evl.succ ?_
    have h1 : ¬ (p : Int) = 0 := by omega
    have ht : Int.tmod (n : Int) (p : Int) = ((n % p : Nat) : Int) := rfl
    have hq : Int.tdiv (n : Int) (p : Int) = ((n / p : Nat) : Int) := rfl
    unfold strip at h
    by_cases hm : n % p = 0
    · rw [if_pos hm] at h
      have hlt := div_lt_of hp hn
      have hpos := div_pos_of hp hn hm
      have h2 : ((n % p : Nat) : Int) = 0 := by rw [hm]; rfl
      generalize n / p = q at h hq hlt hpos
      have hw : wrap64 (q : Int) = (q : Int) := w64 (by omega) (by omega)
      have hw1 : wrap64 ((e : Int) + 1) = ((e + 1 : Nat) : Int) := by rw [w64 (by omega) (by omega)]; rfl
      simp only [impl_factors.l1, if_neg h1, ht, if_pos h2, hq, hw, hw1]
      have e1 : e + 1 + (strip f p q).1 = e + ((strip f p q).1 + 1) := by rw [Nat.add_assoc, Nat.add_comm 1]
      clear ht hq h2 hw hw1 hm h1
      refine ih q xs p (e + 1) R hp hpos ?_ ?_ ?_ hl ?_
      · omega
      · omega
      · clear h e1 ih
        omega
      · rw [e1]
        exact h
    · rw [if_neg hm] at h
      have h2 : ¬ ((n % p : Nat) : Int) = 0 := fun c => hm (Int.ofNat_eq_zero.1 c)
      have h3 : xs.length < 5864062014805 := by omega
      simp only [impl_factors.l1, if_neg h1, ht, if_neg h2, if_pos h3]
      simpa using h
theorem impl_factors_l0 : ∀ (m n : Nat) (xs : List (List Int)), n ≤ m → n ≤ 2000000000 → xs.length + n ≤ 4000000000 → Evl (fun k => impl_factors.l0 k (n : Int) xs) (xs ++ fL (facs n)) := by
  intro m
  induction m with
  | zero =>
    intro n xs h _ _
    refine Evl.succ ?_
    have h1 : ¬ (n : Int) > 1 := by omega
    simp only [impl_factors.l0, if_neg h1]
    rw [facs_one (by omega)]
    refine (Evl.ret _).cast ?_
    simp [fL]
  | succ m ih =>
    intro n xs h hb hl
    refine Evl.succ ?_
    rcases Nat.lt_or_ge n 2 with h2 | h2
    · have h1 : ¬ (n : Int) > 1 := by omega
      simp only [impl_factors.l0, if_neg h1]
      rw [facs_one (by omega)]
      refine (Evl.ret _).cast ?_
      simp [fL]
    · have h1 : (n : Int) > 1 := by omega
      have hr := rest_lt h2
      simp only [impl_factors.l0, if_pos h1]
      refine Evl.bind (impl_leastFactor_ev n h2 hb) ?_
      refine impl_factors_l1 n n xs (lf n) 0 _ (lf_least h2).two (by omega) (Nat.le_refl _) hb (by omega) (by omega) ?_
      rw [Nat.zero_add]
      refine (ih _ _ (by omega) (by omega) (by rw [List.length_append, List.length_singleton]; omega)).cast ?_
      rw [facs_more h2]
      simp [fL]
theorem impl_factors_ev (n : Nat) (hb : n ≤ 2000000000) : Evl (fun k => impl_factors.f k (n : Int)) (fL (facs n)) := by
  simp only [impl_factors.f]
  exact impl_factors_l0 n n [] (Nat.le_refl _) hb (by simp; omega)

end Go.Proofs.Ytgoldeagghadhaa.L

/-! ## E4 -/
namespace Go.Proofs.Ytgoldeagghadhaa.L
open Go.RowKit Go.Proofs.YtgoldeagghadhaaW.PrintWords Go.Proofs.Ytgoldeagghadhaa.P Go.Proofs.Ytgoldeagghadhaa.M
set_option linter.unusedVariables false
set_option linter.unusedSimpArgs false

theorem l1In_eq (a lo hi : Int) : spec_l1In.f a lo hi = some (decide (lo ≤ a ∧ a ≤ hi)) := by
  unfold spec_l1In.f
  by_cases h : a ≥ lo
  · rw [if_pos h]
    by_cases h2 : a ≤ hi
    · rw [decide_eq_true h2, decide_eq_true ⟨h, h2⟩]
    · rw [decide_eq_false h2, decide_eq_false (fun c => h2 c.2)]
  · rw [if_neg h, decide_eq_false (fun c => h c.1)]
theorem prFactored_eq (a : Int) : spec_prFactored.f a = some (decide (1 ≤ a ∧ a ≤ 1000000000)) := by
  unfold spec_prFactored.f
  rw [l1In_eq]
  rfl
theorem isFactored_eq (a : Int) : impl_isFactored.f a = some (decide (1 ≤ a ∧ a ≤ 1000000000)) := by
  unfold impl_isFactored.f
  by_cases h : a ≥ 1
  · rw [if_pos h]
    by_cases h2 : a ≤ 1000000000
    · rw [decide_eq_true h2, decide_eq_true ⟨h, h2⟩]
    · rw [decide_eq_false h2, decide_eq_false (fun c => h2 c.2)]
  · rw [if_neg h, decide_eq_false (fun c => h c.1)]

theorem rdL_of {xs : List (List Int)} {i : Nat} {x : List Int} (h : xs[i]? = some x) : rd_L3 xs (i : Int) = x := by
  unfold rd_L3
  rw [Int.toNat_natCast, List.getD_eq_getElem?_getD, h]
  rfl
theorem fL_length (l : List (Nat × Nat)) : (fL l).length = l.length := by unfold fL; exact List.length_map ..

end Go.Proofs.Ytgoldeagghadhaa.L

/-! ## E10 -/
namespace Go.Proofs.Ytgoldeagghadhaa.L
open Go.RowKit Go.Proofs.YtgoldeagghadhaaW.PrintWords Go.Proofs.Ytgoldeagghadhaa.P Go.Proofs.Ytgoldeagghadhaa.M
set_option linter.unusedVariables false
set_option linter.unusedSimpArgs false

/-- How many numbers rows have together, and one more a row. -/
def wt : List (List Int) → Nat
  | [] => 0
  | x :: s => x.length + wt s
theorem wt_le {x : List Int} : ∀ {l : List (List Int)}, x ∈ l → x.length ≤ wt l
  | [], h => absurd h (by simp)
  | y :: l, h => by
    rcases List.mem_cons.1 h with rfl | h
    · exact Nat.le_add_right _ _
    · exact Nat.le_trans (wt_le h) (Nat.le_add_left _ _)
theorem eqIntSS_l0 (a : List (List Int)) (hl : a.length ≤ 1099511627776) (hw : wt a ≤ 1099511627776) : ∀ (s : List (List Int)) (i : Nat), a.drop i = s → Evl (fun k => laws_eqIntSS.l0 k a a (i : Int)) true := by
  intro s
  induction s with
  | nil =>
    intro i h
    have hi := drop_nil h
    refine Evl.succ ?_
    simp only [laws_eqIntSS.l0, if_neg (show ¬ (i : Int) < (a.length : Int) by omega)]
    exact Evl.ret _
  | cons x s ih =>
    intro i h
    obtain ⟨hi, hx, hs⟩ := drop_cons h
    have hwr : wrap64 ((i : Int) + 1) = ((i + 1 : Nat) : Int) := by rw [w64 (by omega) (by omega)]; rfl
    refine Evl.succ ?_
    simp only [laws_eqIntSS.l0, if_pos (show (i : Int) < (a.length : Int) by omega), if_pos (show (0 : Int) ≤ (i : Int) by omega), rdL_of hx, hwr]
    refine Evl.bind (eqIntS_self x (Nat.le_trans (wt_le (List.mem_of_getElem? hx)) hw)) ?_
    simp only [if_true]
    exact ih (i + 1) hs
theorem eqIntSS_self (a : List (List Int)) (hl : a.length ≤ 1099511627776) (hw : wt a ≤ 1099511627776) : Evl (fun k => laws_eqIntSS.f k a a) true := by
  simp only [laws_eqIntSS.f, if_true]
  exact eqIntSS_l0 a hl hw a 0 rfl
end Go.Proofs.Ytgoldeagghadhaa.L

/-! ## X17 -/
namespace Go.Proofs.Ytgoldeagghadhaa.L
open Go.RowKit Go.Proofs.YtgoldeagghadhaaW.PrintWords Go.Proofs.Ytgoldeagghadhaa.P Go.Proofs.Ytgoldeagghadhaa.M
set_option linter.unusedVariables false
set_option linter.unusedSimpArgs false

/-- Rows that hold the numbers from v on. -/
def mkL : Int → List (List Int) → List (List Int)
  | _, [] => []
  | v, x :: s => iot v x.length :: mkL (v + x.length) s
theorem mkL_length : ∀ (l : List (List Int)) (v : Int), (mkL v l).length = l.length
  | [], _ => rfl
  | x :: s, v => by rw [mkL, List.length_cons, List.length_cons, mkL_length s]
theorem markSS_go : ∀ (l : List (List Int)) (v : Int), 0 ≤ v → v + wt l ≤ 1099511627776 → Evl (fun k => laws_markIntSS.go k l v) (v + wt l, mkL v l)
  | [], v, h0, _ => by
    refine (Evl.ret _).cast ?_
    simp [wt, mkL]
  | x :: s, v, h0, h => by
    unfold wt at h
    have h1 : v + (x.length : Int) + (wt s : Int) ≤ 1099511627776 := by omega
    simp only [laws_markIntSS.go]
    have hx : Evl (fun k => laws_markIntS.f k x v) (v + x.length, iot v x.length) := by
      simp only [laws_markIntS.f]
      exact markIntS_l0 x [] v 0 rfl (by simp; omega) h0 (by omega)
    refine Evl.bind hx ?_
    refine Evl.bind (markSS_go s (v + x.length) (by omega) h1) ?_
    refine (Evl.ret _).cast ?_
    rw [mkL]
    refine Prod.ext ?_ rfl
    show v + (x.length : Int) + (wt s : Int) = v + ((x.length + wt s : Nat) : Int)
    omega
theorem heldSS_l0 (a : List (List Int)) (hl : a.length ≤ 1099511627776) : ∀ (s : List (List Int)) (v : Int) (i : Nat), a.drop i = mkL v s → 0 ≤ v → v + wt s ≤ 1099511627776 → Evl (fun k => laws_heldIntSS.l0 k a v (i : Int)) (v + wt s) := by
  intro s
  induction s with
  | nil =>
    intro v i h _ _
    have hi := drop_nil h
    refine Evl.succ ?_
    simp only [laws_heldIntSS.l0, if_neg (show ¬ (i : Int) < (a.length : Int) by omega)]
    refine (Evl.ret _).cast ?_
    simp [wt]
  | cons x s ih =>
    intro v i h h0 hb
    obtain ⟨hi, hx, hs⟩ := drop_cons h
    unfold wt at hb
    have hw : wrap64 ((i : Int) + 1) = ((i + 1 : Nat) : Int) := by rw [w64 (by omega) (by omega)]; rfl
    have hh : Evl (fun k => laws_heldIntS.f k (iot v x.length) v) (v + x.length) := by
      simp only [laws_heldIntS.f]
      exact heldIntS_l0 (iot v x.length) (by rw [iot_length]; omega) x.length v 0 rfl h0 (by omega)
    refine Evl.succ ?_
    simp only [laws_heldIntSS.l0, if_pos (show (i : Int) < (a.length : Int) by omega), if_pos (show (0 : Int) ≤ (i : Int) by omega), rdL_of hx, hw]
    refine Evl.bind hh ?_
    simp only [if_neg (show ¬ v + (x.length : Int) < 0 by omega)]
    refine (ih (v + x.length) (i + 1) hs (by omega) (by omega)).cast ?_
    show v + (x.length : Int) + (wt s : Int) = v + ((x.length + wt s : Nat) : Int)
    omega
theorem heldSS_ev (l : List (List Int)) (hl : l.length ≤ 1099511627776) (hw : wt l ≤ 1000000000000) : Evl (fun k => laws_heldIntSS.f k (mkL 1 l) 1) (1 + wt l) := by
  simp only [laws_heldIntSS.f]
  exact heldSS_l0 (mkL 1 l) (by rw [mkL_length]; exact hl) l 1 0 rfl (by omega) (by omega)
theorem wt_fL : ∀ l : List (Nat × Nat), wt (fL l) = 2 * l.length
  | [] => rfl
  | x :: s => by
    have e : fL (x :: s) = [(x.1 : Int), (x.2 : Int)] :: fL s := rfl
    rw [e, wt, wt_fL s, List.length_cons, List.length_cons, List.length_cons, List.length_nil]
    omega
theorem FnExactFactorsOf_main (a0 : Int) : ∃ r b, Evl (fun k => spec_FactorsOf.f k a0) (r, b) ∧ Evl (fun k => impl_FactorsOf.f k a0) (r, b) ∧ r.length ≤ 10000000000 ∧ wt r ≤ 100000000000 := by
  by_cases g : 1 ≤ a0 ∧ a0 ≤ 1000000000
  · obtain ⟨n, rfl⟩ := Int.eq_ofNat_of_zero_le (show 0 ≤ a0 by omega)
    have hl := facs_length n n (Nat.le_refl _)
    refine ⟨fL (facs n), true, ?_, ?_, by rw [fL_length]; omega, by rw [wt_fL]; omega⟩
    · simp only [spec_FactorsOf.f, prFactored_eq, decide_eq_true g, Option.bind_some, if_true]
      exact Evl.bind (spec_prFactors_ev n (by omega)) (Evl.ret _)
    · simp only [impl_FactorsOf.f, isFactored_eq, decide_eq_true g, Option.bind_some, if_true]
      exact Evl.bind (impl_factors_ev n (by omega)) (Evl.ret _)
  · refine ⟨[], false, ?_, ?_, by simp, by simp [wt]⟩
    · simp only [spec_FactorsOf.f, prFactored_eq, decide_eq_false g, Option.bind_some, Bool.false_eq_true, if_false]
      exact Evl.ret _
    · simp only [impl_FactorsOf.f, isFactored_eq, decide_eq_false g, Option.bind_some, Bool.false_eq_true, if_false]
      exact Evl.ret _
theorem FnExactFactorsOf_law (a0 : Int) : Evl (fun k => laws_FnExactFactorsOf.f k a0) true := by
  obtain ⟨r, b, hs, hi, h1, h2⟩ := FnExactFactorsOf_main a0
  have heq := eqIntSS_self r (by omega) (by omega)
  have hm : Evl (fun k => laws_markIntSS.f k r 1) (1 + wt r, mkL 1 r) := markSS_go r 1 (by omega) (by omega)
  have hh := heldSS_ev r (by omega) (by omega)
  simp only [laws_FnExactFactorsOf.f]
  refine Evl.bind hs ?_
  refine Evl.bind hi ?_
  refine Evl.bind heq ?_
  simp only [and_self, if_true]
  refine Evl.bind hm ?_
  refine Evl.bind hh ?_
  simp only [and_true, if_pos (show (0 : Int) ≤ 1 + (wt r : Int) by omega)]
  refine Evl.bind hi ?_
  refine Evl.bind heq ?_
  simp only [and_self, if_true]
  refine Evl.bind hh ?_
  simp only [and_true, if_pos (show (0 : Int) ≤ 1 + (wt r : Int) by omega)]
  exact Evl.ret _

end Go.Proofs.Ytgoldeagghadhaa.L
