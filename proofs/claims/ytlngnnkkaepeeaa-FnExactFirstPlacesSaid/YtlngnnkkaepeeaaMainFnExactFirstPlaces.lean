/- FirstPlaces of the program tells what the reference's tells, for all arguments: what both functions compute. No condition beyond 64 bits and the lengths that the statement's guards give. -/
import Derived.Test.YtlngnnkkaepeeaaPx0
import Derived.Test.YtlngnnkkaepeeaaPx1
import Derived.Test.YtlngnnkkaepeeaaPx37
import Derived.Test.YtlngnnkkaepeeaaPx5
import Derived.Test.YtlngnnkkaepeeaaPx20
import Derived.Test.YtlngnnkkaepeeaaPx24
import Derived.Lib.SlicesCompact
import Derived.Lib.RowBridge
import Derived.Test.YtlngnnkkaepeeaaPx13
import Derived.Test.YtlngnnkkaepeeaaPx16
import Derived.Test.YtlngnnkkaepeeaaPx17
import Derived.Test.YtlngnnkkaepeeaaPx22
import Derived.Test.YtlngnnkkaepeeaaPx19
import Derived.Test.YtlngnnkkaepeeaaPx23
import Derived.Test.YtlngnnkkaepeeaaPx2
import Derived.Test.YtlngnnkkaepeeaaPx3
import Derived.Test.YtlngnnkkaepeeaaPx8
import Derived.Test.YtlngnnkkaepeeaaPx9
import Derived.Test.YtlngnnkkaepeeaaPx4
import Derived.Test.YtlngnnkkaepeeaaPx10
import Derived.Test.YtlngnnkkaepeeaaPx11
import Derived.Test.YtlngnnkkaepeeaaPx28
import Derived.Test.YtlngnnkkaepeeaaPx36
import Derived.Test.YtlngnnkkaepeeaaPx38
import Derived.Test.YtlngnnkkaepeeaaPx39
/-! ## L0 -/
namespace Go.Proofs.Ytlngnnkkaepeeaa.L
open Go.RowKit Go.Proofs.YtlngnnkkaepeeaaW.PrintWords
set_option linter.unusedVariables false
set_option linter.unusedSimpArgs false

/-- With enough rounds g tells r. -/
def Evl {α : Type} (g : Nat → Option α) (r : α) : Prop := ∃ K, ∀ k, K ≤ k → g k = some r
theorem Evl.ret {α : Type} (r : α) : Evl (fun _ => some r) r := ⟨0, fun _ _ => rfl⟩
theorem Evl.bind {α β : Type} {g : Nat → Option α} {f : Nat → α → Option β} {a : α} {r : β} (h : Evl g a) (h2 : Evl (fun k => f k a) r) : Evl (fun k => (g k).bind (f k)) r := by
  obtain ⟨K, hK⟩ := h
  obtain ⟨K2, hK2⟩ := h2
  refine ⟨max K K2, fun k hk => ?_⟩
  show (g k).bind (f k) = some r
  rw [hK k (Nat.le_trans (Nat.le_max_left _ _) hk), Option.bind_some]
  exact hK2 k (Nat.le_trans (Nat.le_max_right _ _) hk)
theorem Evl.succ {α : Type} {g : Nat → Option α} {r : α} (h : Evl (fun k => g (k + 1)) r) : Evl g r := by
  obtain ⟨K, hK⟩ := h
  refine ⟨K + 1, fun k hk => ?_⟩
  obtain ⟨m, rfl⟩ : ∃ m, k = m + 1 := ⟨k - 1, by omega⟩
  exact hK m (by omega)
theorem Evl.congr {α : Type} {g g' : Nat → Option α} {r : α} (h : ∀ k, g k = g' k) (h2 : Evl g' r) : Evl g r := by
  obtain ⟨K, hK⟩ := h2
  exact ⟨K, fun k hk => (h k).trans (hK k hk)⟩
theorem Evl.get {α : Type} {g : Nat → Option α} {r : α} (h : Evl g r) : ∃ k, g k = some r := by
  obtain ⟨K, hK⟩ := h
  exact ⟨K, hK K (Nat.le_refl _)⟩
theorem Evl.cast {α : Type} {g : Nat → Option α} {r r' : α} (h : Evl g r) (e : r = r') : Evl g r' := e ▸ h

theorem w64 {x : Int} (h0 : -9223372036854775808 ≤ x) (h1 : x ≤ 9223372036854775807) : wrap64 x = x := by
  unfold wrap64
  omega
theorem drop_nil {α : Type} {xs : List α} {i : Nat} (h : xs.drop i = []) : xs.length ≤ i := by
  simpa using h
theorem drop_cons {α : Type} {xs s : List α} {x : α} {i : Nat} (h : xs.drop i = x :: s) : i < xs.length ∧ xs[i]? = some x ∧ xs.drop (i + 1) = s := by
  have hl : i < xs.length := by
    rcases Nat.lt_or_ge i xs.length with h1 | h1
    · exact h1
    · rw [List.drop_of_length_le h1] at h
      cases h
  rw [List.drop_eq_getElem_cons hl] at h
  injection h with h1 h2
  exact ⟨hl, by rw [List.getElem?_eq_getElem hl, h1], h2⟩
theorem rd_of {xs : List Int} {i : Nat} {x : Int} (h : xs[i]? = some x) : rd xs (i : Int) = x := by
  unfold rd
  rw [Int.toNat_natCast, List.getD_eq_getElem?_getD, h]
  rfl
end Go.Proofs.Ytlngnnkkaepeeaa.L

/-! ## M1 -/
namespace Go.Proofs.Ytlngnnkkaepeeaa.M
set_option linter.unusedVariables false
set_option linter.unusedSimpArgs false

def lfAux : Nat → Nat → Nat → Nat
  | 0, _, n => n
  | f + 1, d, n => if n % d = 0 then d else lfAux f (d + 1) n
/-- The least divisor of at least 2. -/
def lf (n : Nat) : Nat := lfAux n 2 n
def isP (n : Nat) : Bool := decide (2 ≤ n) && decide (lf n = n)

structure Least (n r : Nat) : Prop where
  two : 2 ≤ r
  le : r ≤ n
  div : n % r = 0
  least : ∀ d, 2 ≤ d → d < r → n % d ≠ 0

theorem Least.uniq {n r s : Nat} (h : Least n r) (h' : Least n s) : r = s := by
  rcases Nat.lt_trichotomy r s with h1 | h1 | h1
  · exact absurd h.div (h'.least r h.two h1)
  · exact h1
  · exact absurd h'.div (h.least s h'.two h1)
/-! ### factors -/
end Go.Proofs.Ytlngnnkkaepeeaa.M

/-! ## E1 -/

namespace Go.Proofs.Ytlngnnkkaepeeaa.L
open Go.RowKit Go.Proofs.YtlngnnkkaepeeaaW.PrintWords Go.Proofs.Ytlngnnkkaepeeaa.P Go.Proofs.Ytlngnnkkaepeeaa.M
set_option linter.unusedVariables false
set_option linter.unusedSimpArgs false

end Go.Proofs.Ytlngnnkkaepeeaa.L

/-! ## E2 -/

namespace Go.Proofs.Ytlngnnkkaepeeaa.L
open Go.RowKit Go.Proofs.YtlngnnkkaepeeaaW.PrintWords Go.Proofs.Ytlngnnkkaepeeaa.P Go.Proofs.Ytlngnnkkaepeeaa.M
set_option linter.unusedVariables false
set_option linter.unusedSimpArgs false

end Go.Proofs.Ytlngnnkkaepeeaa.L

/-! ## E3 -/

namespace Go.Proofs.Ytlngnnkkaepeeaa.L
open Go.RowKit Go.Proofs.YtlngnnkkaepeeaaW.PrintWords Go.Proofs.Ytlngnnkkaepeeaa.P Go.Proofs.Ytlngnnkkaepeeaa.M
set_option linter.unusedVariables false
set_option linter.unusedSimpArgs false

end Go.Proofs.Ytlngnnkkaepeeaa.L

/-! ## E4 -/
namespace Go.Proofs.Ytlngnnkkaepeeaa.L
open Go.RowKit Go.Proofs.YtlngnnkkaepeeaaW.PrintWords Go.Proofs.Ytlngnnkkaepeeaa.P Go.Proofs.Ytlngnnkkaepeeaa.M
set_option linter.unusedVariables false
set_option linter.unusedSimpArgs false

theorem l1In_eq (a lo hi : Int) : spec_l1In.f a lo hi = some (decide (lo ≤ a ∧ a ≤ hi)) := by
  unfold spec_l1In.f
  by_cases h : a ≥ lo
  · rw [if_pos h]
    by_cases h2 : a ≤ hi
    · rw [decide_eq_true h2, decide_eq_true ⟨h, h2⟩]
    · rw [decide_eq_false h2, decide_eq_false (fun c => h2 c.2)]
  · rw [if_neg h, decide_eq_false (fun c => h c.1)]
theorem isMost_eq (a : Int) : impl_isMost.f a = some (decide (0 ≤ a ∧ a ≤ 600)) := by
  unfold impl_isMost.f
  by_cases h : a ≥ 0
  · rw [if_pos h]
    by_cases h2 : a ≤ 600
    · rw [decide_eq_true h2, decide_eq_true ⟨h, h2⟩]
    · rw [decide_eq_false h2, decide_eq_false (fun c => h2 c.2)]
  · rw [if_neg h, decide_eq_false (fun c => h c.1)]

end Go.Proofs.Ytlngnnkkaepeeaa.L

/-! ## M4 -/
namespace Go.Proofs.Ytlngnnkkaepeeaa.M
set_option linter.unusedVariables false
set_option linter.unusedSimpArgs false

/-- The first six primes. -/
def six : List Nat := [2, 3, 5, 7, 11, 13]
/-- m has the remainders asked for. -/
def Sol (l : List (Nat × Nat)) (m : Nat) : Prop := ∀ q ∈ l, m % q.1 = q.2
structure Crt (l : List (Nat × Nat)) (n P : Nat) : Prop where
  lt : n < P
  dv : ∀ q ∈ l, q.1 ∣ P
  sol : Sol l n
  uniq : ∀ m, Sol l m → ∃ j, m = n + j * P
  co : ∀ p, isP p = true → (∀ q ∈ l, q.1 ≠ p) → P % p ≠ 0
theorem Crt.least {l : List (Nat × Nat)} {n P : Nat} (h : Crt l n P) : ∀ m, Sol l m → n ≤ m := fun m hm => by
  obtain ⟨j, rfl⟩ := h.uniq m hm
  exact Nat.le_add_right _ _

end Go.Proofs.Ytlngnnkkaepeeaa.M

/-! ## E9 -/
namespace Go.Proofs.Ytlngnnkkaepeeaa.L
open Go.RowKit Go.Proofs.YtlngnnkkaepeeaaW.PrintWords Go.Proofs.Ytlngnnkkaepeeaa.P Go.Proofs.Ytlngnnkkaepeeaa.M
set_option linter.unusedVariables false
set_option linter.unusedSimpArgs false

/-- The first six primes. -/
def p6 : List Int := [2, 3, 5, 7, 11, 13]
def has : List Int → Int → Bool
  | [], _ => false
  | y :: s, x => if y = x then true else has s x
theorem rePrime_eq {i : Nat} (h : i < 6) : spec_rePrime.f (i : Int) = some (rd p6 (i : Int)) := by
  unfold spec_rePrime.f
  rw [if_pos (by omega), if_pos (by omega)]
  rfl
end Go.Proofs.Ytlngnnkkaepeeaa.L

/-! ## M5 -/
namespace Go.Proofs.Ytlngnnkkaepeeaa.M
open Go
set_option linter.unusedVariables false
set_option linter.unusedSimpArgs false

theorem compactUpTo_spec (d : Array Int) (hd : ∀ i j, i ≤ j → j < d.size → d[i]! ≤ d[j]!) : ∀ m, m ≤ d.size → (Lib.compactUpTo d m).Pairwise (· < ·) ∧ ∀ x, x ∈ Lib.compactUpTo d m ↔ ∃ j, j < m ∧ d[j]! = x
  | 0, _ => ⟨List.Pairwise.nil, fun x => ⟨fun h => absurd h (by simp [Lib.compactUpTo]), fun ⟨j, hj, _⟩ => absurd hj (Nat.not_lt_zero _)⟩⟩
  | m + 1, hm => by
    obtain ⟨h1, h2⟩ := compactUpTo_spec d hd m (by omega)
    rw [Lib.compactUpTo_succ]
    by_cases hk : Lib.keeps d m = true
    · rw [if_pos hk]
      constructor
      · refine List.pairwise_append.2 ⟨h1, List.pairwise_singleton _ _, fun x hx y hy => ?_⟩
        rw [List.mem_singleton.1 hy]
        obtain ⟨j, hj, rfl⟩ := (h2 x).1 hx
        have hle := hd j (m - 1) (by omega) (by omega)
        have hle2 := hd (m - 1) m (by omega) (by omega)
        have : m = 0 ∨ d[m]! ≠ d[m - 1]! := of_decide_eq_true hk
        rcases this with h | h
        · omega
        · omega
      · intro x
        rw [List.mem_append, h2, List.mem_singleton]
        constructor
        · rintro (⟨j, hj, e⟩ | e)
          · exact ⟨j, by omega, e⟩
          · exact ⟨m, by omega, e.symm⟩
        · rintro ⟨j, hj, e⟩
          rcases Nat.lt_or_ge j m with h | h
          · exact .inl ⟨j, h, e⟩
          · obtain rfl : j = m := by omega
            exact .inr e.symm
    · rw [if_neg hk, List.append_nil]
      refine ⟨h1, fun x => (h2 x).trans ?_⟩
      have hk2 : ¬ (m = 0 ∨ d[m]! ≠ d[m - 1]!) := fun c => hk (decide_eq_true c)
      constructor
      · rintro ⟨j, hj, e⟩
        exact ⟨j, by omega, e⟩
      · rintro ⟨j, hj, e⟩
        rcases Nat.lt_or_ge j m with h | h
        · exact ⟨j, h, e⟩
        · obtain rfl : j = m := by omega
          refine ⟨j - 1, by omega, ?_⟩
          rw [← e]
          exact (Classical.not_not.1 fun c => hk2 (.inr c)).symm
/-- The members of a list, rising, each once. -/
def srt (l : List Int) : List Int := Lib.compact (l.mergeSort fun x y => decide (x ≤ y))
theorem srt_spec (l : List Int) : (srt l).Pairwise (· < ·) ∧ ∀ x, x ∈ srt l ↔ x ∈ l := by
  have hs : (l.mergeSort fun x y => decide (x ≤ y)).Pairwise fun x y => decide (x ≤ y) := List.pairwise_mergeSort (by intro a b c h1 h2; simp at *; omega) (by intro a b; simp; omega) l
  have hm : ∀ x, x ∈ (l.mergeSort fun x y => decide (x ≤ y)) ↔ x ∈ l := fun x => List.mem_mergeSort
  unfold srt
  generalize (l.mergeSort fun x y => decide (x ≤ y)) = s at hs hm
  have hd : ∀ i j, i ≤ j → j < s.toArray.size → s.toArray[i]! ≤ s.toArray[j]! := by
    intro i j hij hj
    rw [List.size_toArray] at hj
    rw [getElem!_pos s.toArray i (by rw [List.size_toArray]; omega), getElem!_pos s.toArray j (by rw [List.size_toArray]; omega), List.getElem_toArray, List.getElem_toArray]
    rcases Nat.lt_or_ge i j with h | h
    · have := List.pairwise_iff_getElem.1 hs i j (by omega) hj h
      exact of_decide_eq_true this
    · obtain rfl : i = j := by omega
      exact Int.le_refl _
  obtain ⟨h1, h2⟩ := compactUpTo_spec s.toArray hd s.length (by simp)
  refine ⟨h1, fun x => ?_⟩
  unfold Lib.compact
  rw [h2, ← hm]
  constructor
  · rintro ⟨j, hj, e⟩
    rw [getElem!_pos s.toArray j (by rw [List.size_toArray]; omega), List.getElem_toArray] at e
    exact e ▸ List.getElem_mem _
  · intro h
    obtain ⟨j, hj, e⟩ := List.getElem_of_mem h
    refine ⟨j, hj, ?_⟩
    rw [getElem!_pos s.toArray j (by rw [List.size_toArray]; omega), List.getElem_toArray]
    exact e
theorem srt_mem {l : List Int} {x : Int} : x ∈ srt l ↔ x ∈ l := (srt_spec l).2 x
theorem srt_length (l : List Int) : (srt l).length ≤ l.length := by
  unfold srt
  refine Nat.le_trans (Lib.compact_length_le _) ?_
  rw [List.length_mergeSort]
  exact Nat.le_refl _
end Go.Proofs.Ytlngnnkkaepeeaa.M

/-! ## E0 -/
namespace Go.Proofs.Ytlngnnkkaepeeaa.L
open Go.RowKit Go.Proofs.YtlngnnkkaepeeaaW.PrintWords Go.Proofs.Ytlngnnkkaepeeaa.P
set_option linter.unusedVariables false
set_option linter.unusedSimpArgs false

/-- n numbers from v on. -/
def iot : Int → Nat → List Int
  | _, 0 => []
  | v, n + 1 => v :: iot (v + 1) n
theorem iot_length : ∀ (n : Nat) (v : Int), (iot v n).length = n
  | 0, _ => rfl
  | n + 1, v => by rw [iot, List.length_cons, iot_length n]

theorem eqIntS_l0 (a : List Int) (hl : a.length ≤ 1099511627776) : ∀ (s : List Int) (i : Nat), a.drop i = s → Evl (fun k => laws_eqIntS.l0 k a a (i : Int)) true := by
  intro s
  induction s with
  | nil =>
    intro i h
    have hi := drop_nil h
    refine Evl.succ ?_
    have h1 : ¬ (i : Int) < (a.length : Int) := by omega
    simp only [laws_eqIntS.l0, if_neg h1]
    exact Evl.ret _
  | cons x s ih =>
    intro i h
    obtain ⟨hi, hx, hs⟩ := drop_cons h
    have hw : wrap64 ((i : Int) + 1) = ((i + 1 : Nat) : Int) := by rw [w64 (by omega) (by omega)]; rfl
    refine Evl.succ ?_
    have h1 : (i : Int) < (a.length : Int) := by omega
    have h2 : (0 : Int) ≤ (i : Int) := by omega
    simp only [laws_eqIntS.l0, if_pos h1, if_pos h2, if_true, hw]
    exact ih (i + 1) hs
theorem eqIntS_self (a : List Int) (hl : a.length ≤ 1099511627776) : Evl (fun k => laws_eqIntS.f k a a) true := by
  simp only [laws_eqIntS.f, if_true]
  exact eqIntS_l0 a hl a 0 rfl

theorem markIntS_l0 : ∀ (s pre : List Int) (v : Int) (i : Nat), pre.length = i → pre.length + s.length ≤ 1099511627776 → 0 ≤ v → v + s.length ≤ 1099511627800 → Evl (fun k => laws_markIntS.l0 k (pre ++ s) v (i : Int)) (v + s.length, pre ++ iot v s.length) := by
  intro s
  induction s with
  | nil =>
    intro pre v i hi _ _ _
    refine Evl.succ ?_
    have h1 : ¬ (i : Int) < ((pre ++ []).length : Int) := by rw [List.append_nil]; omega
    simp only [laws_markIntS.l0, if_neg h1]
    refine (Evl.ret _).cast ?_
    simp [iot]
  | cons x s ih =>
    intro pre v i hi hb hv hvb
    rw [List.length_cons] at hb hvb
    have hw : wrap64 ((i : Int) + 1) = ((i + 1 : Nat) : Int) := by rw [w64 (by omega) (by omega)]; rfl
    have hw2 : wrap64 (v + 1) = v + 1 := w64 (by omega) (by omega)
    refine Evl.succ ?_
    have h1 : (i : Int) < ((pre ++ x :: s).length : Int) := by rw [List.length_append, List.length_cons]; omega
    have h2 : (0 : Int) ≤ (i : Int) := by omega
    have hset : (pre ++ x :: s).set (i : Int).toNat v = (pre ++ [v]) ++ s := by
      rw [Int.toNat_natCast, ← hi, List.set_append_right _ _ (Nat.le_refl _), Nat.sub_self, List.set_cons_zero, List.append_assoc]
      rfl
    simp only [laws_markIntS.l0, if_pos h1, if_pos h2, hw, hw2, hset]
    have := ih (pre ++ [v]) (v + 1) (i + 1) (by rw [List.length_append, hi]; rfl) (by rw [List.length_append, List.length_singleton]; omega) (by omega) (by omega)
    refine this.cast ?_
    rw [List.length_cons, iot, List.append_assoc]
    refine Prod.ext ?_ rfl
    show v + 1 + (s.length : Int) = v + ((s.length + 1 : Nat) : Int)
    omega
theorem markIntS_ev (a : List Int) (hl : a.length ≤ 1099511627776) : Evl (fun k => laws_markIntS.f k a 1) (1 + a.length, iot 1 a.length) := by
  simp only [laws_markIntS.f]
  exact markIntS_l0 a [] 1 0 rfl (by simpa using hl) (by omega) (by omega)

theorem heldIntS_l0 (a : List Int) (hl : a.length ≤ 1099511627776) : ∀ (n : Nat) (v : Int) (i : Nat), a.drop i = iot v n → 0 ≤ v → v + n ≤ 1099511627800 → Evl (fun k => laws_heldIntS.l0 k a v (i : Int)) (v + n) := by
  intro n
  induction n with
  | zero =>
    intro v i h _ _
    have hi := drop_nil h
    refine Evl.succ ?_
    have h1 : ¬ (i : Int) < (a.length : Int) := by omega
    simp only [laws_heldIntS.l0, if_neg h1]
    refine (Evl.ret _).cast ?_
    omega
  | succ n ih =>
    intro v i h hv hb
    obtain ⟨hi, hx, hs⟩ := drop_cons h
    have hw : wrap64 ((i : Int) + 1) = ((i + 1 : Nat) : Int) := by rw [w64 (by omega) (by omega)]; rfl
    have hw2 : wrap64 (v + 1) = v + 1 := w64 (by omega) (by omega)
    have hr : rd a (i : Int) = v := rd_of hx
    refine Evl.succ ?_
    have h1 : (i : Int) < (a.length : Int) := by omega
    have h2 : (0 : Int) ≤ (i : Int) := by omega
    simp only [laws_heldIntS.l0, if_pos h1, if_pos h2, hr, if_true, hw, hw2]
    refine (ih (v + 1) (i + 1) hs (by omega) (by omega)).cast ?_
    omega
theorem heldIntS_ev (n : Nat) (hl : n ≤ 1099511627776) : Evl (fun k => laws_heldIntS.f k (iot 1 n) 1) (1 + n) := by
  simp only [laws_heldIntS.f]
  exact heldIntS_l0 (iot 1 n) (by rw [iot_length]; exact hl) n 1 0 rfl (by omega) (by omega)
theorem toIntS_l0 (a : List Int) (hl : a.length ≤ 1099511627776) : ∀ (s pre t : List Int) (i : Nat), pre.length = i → a = pre ++ s → t.length = s.length → Evl (fun k => laws_toIntS.l0 k a (pre ++ t) (i : Int)) a := by
  intro s
  induction s with
  | nil =>
    intro pre t i hi ha ht
    obtain rfl : t = [] := List.eq_nil_of_length_eq_zero ht
    refine Evl.succ ?_
    have h1 : ¬ (i : Int) < (a.length : Int) := by rw [ha, List.append_nil]; omega
    simp only [laws_toIntS.l0, if_neg h1]
    rw [← ha]
    exact Evl.ret _
  | cons x s ih =>
    intro pre t i hi ha ht
    obtain ⟨y, t, rfl⟩ : ∃ y t', t = y :: t' := by
      cases t with
      | nil => cases ht
      | cons y t => exact ⟨y, t, rfl⟩
    have hal : a.length = i + (s.length + 1) := by rw [ha, List.length_append, hi, List.length_cons]
    have h1 : (i : Int) < (a.length : Int) := by omega
    have h0 : (0 : Int) ≤ (i : Int) := by omega
    have h2 : (i : Int) < ((pre ++ y :: t).length : Int) := by rw [List.length_append, List.length_cons]; omega
    have hx : rd a (i : Int) = x := rd_of (by rw [ha, List.getElem?_append_right (by omega), hi, Nat.sub_self]; rfl)
    have hw : wrap64 ((i : Int) + 1) = ((i + 1 : Nat) : Int) := by rw [w64 (by omega) (by omega)]; rfl
    have hset : (pre ++ y :: t).set (i : Int).toNat x = (pre ++ [x]) ++ t := by
      rw [Int.toNat_natCast, ← hi, List.set_append_right _ _ (Nat.le_refl _), Nat.sub_self, List.set_cons_zero, List.append_assoc]
      rfl
    refine Evl.succ ?_
    simp only [laws_toIntS.l0, if_pos h1, if_pos h0, if_pos h2, hx, hw, hset]
    refine ih (pre ++ [x]) t (i + 1) (by rw [List.length_append, hi]; rfl) (by rw [ha, List.append_assoc]; rfl) ?_
    rw [List.length_cons, List.length_cons] at ht
    omega
theorem toIntS_ev (a : List Int) (hl : a.length ≤ 1099511627776) : Evl (fun k => laws_toIntS.f k a) a := by
  have h0 : (0 : Int) ≤ (a.length : Int) := by omega
  have h1 : ((a.length : Int)).toNat ≤ 35184372088832 := by omega
  simp only [laws_toIntS.f, if_pos h0, if_pos h1]
  exact toIntS_l0 a hl a [] (List.replicate _ 0) 0 rfl rfl (by rw [List.length_replicate]; exact Int.toNat_natCast _)

end Go.Proofs.Ytlngnnkkaepeeaa.L

/-! ## X2 -/
namespace Go.Proofs.Ytlngnnkkaepeeaa.L
open Go.RowKit Go.Proofs.YtlngnnkkaepeeaaW.PrintWords Go.Proofs.Ytlngnnkkaepeeaa.P Go.Proofs.Ytlngnnkkaepeeaa.M
set_option linter.unusedVariables false
set_option linter.unusedSimpArgs false

/-- From the second offset on: rising, at most 60. -/
def chk : Int → List Int → Bool
  | _, [] => true
  | p, x :: s => decide (p < x) && (decide (x ≤ 60) && chk x s)
def pat : List Int → Bool
  | [] => false
  | x :: s => decide (s.length ≤ 7) && (decide (x = 0) && chk x s)
theorem pat_len {l : List Int} (h : pat l = true) : 1 ≤ l.length ∧ l.length ≤ 8 := by
  cases l with
  | nil => cases h
  | cons x s =>
    simp only [pat, Bool.and_eq_true, decide_eq_true_eq] at h
    rw [List.length_cons]
    omega

theorem isPattern_l0 (l : List Int) (hl : l.length ≤ 1099511627776) : ∀ (s : List Int) (i : Nat) (p : Int), 1 ≤ i → l[i - 1]? = some p → l.drop i = s →
    Evl (fun k => impl_isPattern.l0 k l l (l.length : Int) (i : Int)) (chk p s && decide (l.length ≤ 8)) := by
  intro s
  induction s with
  | nil =>
    intro i p h1 hp h
    have hi := drop_nil h
    refine Evl.succ ?_
    have c1 : ¬ (i : Int) < (l.length : Int) := by omega
    have c2 : (l.length : Int) ≥ 1 := by
      have := (List.getElem?_eq_some_iff.1 hp).1
      omega
    simp only [impl_isPattern.l0, if_neg c1, if_pos c2]
    refine (Evl.ret _).cast ?_
    simp only [chk, Bool.true_and]
    by_cases c : l.length ≤ 8
    · rw [decide_eq_true c, decide_eq_true (by omega)]
    · rw [decide_eq_false c, decide_eq_false (by omega)]
  | cons x s ih =>
    intro i p h1 hp h
    obtain ⟨hi, hx, hs⟩ := drop_cons h
    have c1 : (i : Int) < (l.length : Int) := by omega
    have c2 : (0 : Int) ≤ (i : Int) := by omega
    have c3 : ¬ (i : Int) = 0 := by omega
    have c4 : (i : Int) > 0 := by omega
    have hw0 : wrap64 ((i : Int) - 1) = ((i - 1 : Nat) : Int) := by rw [w64 (by omega) (by omega)]; omega
    have c5 : (0 : Int) ≤ ((i - 1 : Nat) : Int) := by omega
    have c6 : ((i - 1 : Nat) : Int) < (l.length : Int) := by omega
    have hrp : rd l ((i - 1 : Nat) : Int) = p := rd_of hp
    have hrx : rd l (i : Int) = x := rd_of hx
    have hw : wrap64 ((i : Int) + 1) = ((i + 1 : Nat) : Int) := by rw [w64 (by omega) (by omega)]; rfl
    refine Evl.succ ?_
    simp only [impl_isPattern.l0, if_pos c1, if_pos c2, if_neg c3, if_pos c4, hw0, if_pos c5, if_pos c6, hrp, hrx, hw]
    by_cases c7 : p ≥ x
    · simp only [if_pos c7]
      refine (Evl.ret _).cast ?_
      simp only [chk]
      rw [decide_eq_false (by omega)]
      rfl
    · simp only [if_neg c7]
      by_cases c8 : x > 60
      · simp only [if_pos c8]
        refine (Evl.ret _).cast ?_
        simp only [chk]
        rw [decide_eq_true (show p < x by omega), decide_eq_false (show ¬ x ≤ 60 by omega)]
        rfl
      · simp only [if_neg c8]
        refine (ih (i + 1) x (by omega) (by rw [Nat.add_sub_cancel]; exact hx) hs).cast ?_
        simp only [chk]
        rw [decide_eq_true (show p < x by omega), decide_eq_true (show x ≤ 60 by omega), Bool.true_and, Bool.true_and]
theorem isPattern_ev (l : List Int) (hl : l.length ≤ 1099511627776) : Evl (fun k => impl_isPattern.f k l) (pat l) := by
  simp only [impl_isPattern.f]
  cases l with
  | nil =>
    refine Evl.succ ?_
    have c1 : ¬ (0 : Int) < (([] : List Int).length : Int) := by simp
    have c2 : ¬ (([] : List Int).length : Int) ≥ 1 := by simp
    simp only [impl_isPattern.l0, if_neg c1, if_neg c2]
    exact Evl.ret _
  | cons x s =>
    have c1 : (0 : Int) < ((x :: s).length : Int) := by rw [List.length_cons]; omega
    have hrx : rd (x :: s) 0 = x := rfl
    have hw : wrap64 (0 + 1) = ((1 : Nat) : Int) := by rw [w64 (by omega) (by omega)]; rfl
    refine Evl.succ ?_
    simp only [impl_isPattern.l0, if_pos c1, if_pos (show (0 : Int) ≤ 0 by omega), if_true, hrx, if_neg (show ¬ (0 : Int) > 0 by omega), hw]
    by_cases c2 : x = 0
    · have c3 : ¬ x > 60 := by omega
      simp only [if_pos c2, if_neg c3]
      refine (isPattern_l0 (x :: s) hl s 1 x (by omega) rfl rfl).cast ?_
      simp only [pat, List.length_cons]
      rw [decide_eq_true c2, Bool.true_and, Bool.and_comm]
      by_cases c : s.length ≤ 7
      · rw [decide_eq_true c, decide_eq_true (by omega)]
      · rw [decide_eq_false c, decide_eq_false (by omega)]
    · simp only [if_neg c2]
      refine (Evl.ret _).cast ?_
      simp only [pat]
      rw [decide_eq_false c2, Bool.false_and, Bool.and_false]

/-- The reference's way: the bound is asked of the last one alone. -/
def sp : Int → List Int → Bool
  | p, [] => decide (p ≤ 60)
  | p, x :: s => if x ≤ p then false else sp x s
theorem sp_chk : ∀ (s : List Int) (p : Int), sp p s = (decide (p ≤ 60) && chk p s)
  | [], p => by simp [sp, chk]
  | x :: s, p => by
    unfold sp chk
    rw [sp_chk s x]
    by_cases c : x ≤ p
    · rw [if_pos c, decide_eq_false (show ¬ p < x by omega), Bool.false_and, Bool.and_false]
    · rw [if_neg c, decide_eq_true (show p < x by omega), Bool.true_and]
      by_cases c2 : x ≤ 60
      · simp [c2, show p ≤ 60 by omega]
      · rw [decide_eq_false c2, Bool.false_and, Bool.and_false]
theorem reGood_l0 (l : List Int) (hl : l.length ≤ 1099511627776) : ∀ (s : List Int) (i : Nat) (p : Int), 1 ≤ i → l[i - 1]? = some p → l.drop i = s →
    Evl (fun k => spec_reGood.l0 k l (i : Int)) (sp p s) := by
  intro s
  induction s with
  | nil =>
    intro i p h1 hp h
    have hi := drop_nil h
    have hlt := (List.getElem?_eq_some_iff.1 hp).1
    have hw : wrap64 ((l.length : Int) - 1) = ((i - 1 : Nat) : Int) := by rw [w64 (by omega) (by omega)]; omega
    have hrp : rd l ((i - 1 : Nat) : Int) = p := rd_of hp
    refine Evl.succ ?_
    simp only [spec_reGood.l0, if_neg (show ¬ (i : Int) < (l.length : Int) by omega), hw, if_pos (show (0 : Int) ≤ ((i - 1 : Nat) : Int) by omega), if_pos (show ((i - 1 : Nat) : Int) < (l.length : Int) by omega), hrp]
    exact Evl.ret _
  | cons x s ih =>
    intro i p h1 hp h
    obtain ⟨hi, hx, hs⟩ := drop_cons h
    have hw0 : wrap64 ((i : Int) - 1) = ((i - 1 : Nat) : Int) := by rw [w64 (by omega) (by omega)]; omega
    have hrp : rd l ((i - 1 : Nat) : Int) = p := rd_of hp
    have hrx : rd l (i : Int) = x := rd_of hx
    have hw : wrap64 ((i : Int) + 1) = ((i + 1 : Nat) : Int) := by rw [w64 (by omega) (by omega)]; rfl
    refine Evl.succ ?_
    simp only [spec_reGood.l0, if_pos (show (i : Int) < (l.length : Int) by omega), if_pos (show (0 : Int) ≤ (i : Int) by omega), hw0, if_pos (show (0 : Int) ≤ ((i - 1 : Nat) : Int) by omega), if_pos (show ((i - 1 : Nat) : Int) < (l.length : Int) by omega), hrp, hrx, hw]
    unfold sp
    by_cases c : x ≤ p
    · simp only [if_pos c]
      exact Evl.ret _
    · simp only [if_neg c]
      exact ih (i + 1) x (by omega) (by rw [Nat.add_sub_cancel]; exact hx) hs
theorem reGood_no (l : List Int) : Evl (fun k => spec_reGood.j0 k l true) false := by
  refine Evl.succ ?_
  simp only [spec_reGood.j0, if_true]
  exact Evl.ret _
theorem reGood_ev (l : List Int) (hl : l.length ≤ 1099511627776) : Evl (fun k => spec_reGood.f k l) (pat l) := by
  simp only [spec_reGood.f, l1In_eq, Option.bind_some]
  cases l with
  | nil =>
    rw [show decide (1 ≤ ((([] : List Int).length : Nat) : Int) ∧ ((([] : List Int).length : Nat) : Int) ≤ 8) = false from rfl]
    simp only [Bool.false_eq_true, if_false]
    exact reGood_no []
  | cons x s =>
    by_cases c : s.length ≤ 7
    · simp only [decide_eq_true (show 1 ≤ (((x :: s).length : Nat) : Int) ∧ (((x :: s).length : Nat) : Int) ≤ 8 by rw [List.length_cons]; omega), if_true, if_pos (show (0 : Int) < (((x :: s).length : Nat) : Int) by rw [List.length_cons]; omega)]
      have hrx : rd (x :: s) 0 = x := rfl
      rw [hrx]
      by_cases c2 : x = 0
      · subst c2
        refine Evl.succ ?_
        simp only [spec_reGood.j0, bne_self_eq_false, Bool.false_eq_true, if_false]
        refine (reGood_l0 (0 :: s) hl s 1 0 (by omega) rfl rfl).cast ?_
        rw [sp_chk]
        simp only [pat]
        rw [decide_eq_true c]
        rfl
      · rw [bne_iff_ne.2 c2]
        refine (reGood_no _).cast ?_
        simp only [pat]
        rw [decide_eq_false c2, Bool.false_and, Bool.and_false]
    · simp only [decide_eq_false (show ¬ (1 ≤ (((x :: s).length : Nat) : Int) ∧ (((x :: s).length : Nat) : Int) ≤ 8) by rw [List.length_cons]; omega), Bool.false_eq_true, if_false]
      refine (reGood_no _).cast ?_
      simp only [pat]
      rw [decide_eq_false c, Bool.false_and]


end Go.Proofs.Ytlngnnkkaepeeaa.L

/-! ## E11 -/
namespace Go.Proofs.Ytlngnnkkaepeeaa.L
open Go.RowKit Go.Proofs.YtlngnnkkaepeeaaW.PrintWords Go.Proofs.Ytlngnnkkaepeeaa.P Go.Proofs.Ytlngnnkkaepeeaa.M
set_option linter.unusedVariables false
set_option linter.unusedSimpArgs false

theorem chk_range : ∀ (s : List Int) (p : Int), chk p s = true → ∀ x ∈ s, p < x ∧ x ≤ 60
  | [], p, _, x, hx => absurd hx (by simp)
  | y :: s, p, h, x, hx => by
    simp only [chk, Bool.and_eq_true, decide_eq_true_eq] at h
    rcases List.mem_cons.1 hx with rfl | hx
    · exact ⟨h.1, h.2.1⟩
    · have := chk_range s y h.2.2 x hx
      omega
theorem pat_range {l : List Int} (h : pat l = true) : ∀ x ∈ l, 0 ≤ x ∧ x ≤ 60 := by
  cases l with
  | nil => cases h
  | cons y s =>
    simp only [pat, Bool.and_eq_true, decide_eq_true_eq] at h
    intro x hx
    rcases List.mem_cons.1 hx with rfl | hx
    · omega
    · have := chk_range s y h.2.2 x hx
      omega
theorem pat_ne {l : List Int} (h : pat l = true) : l ≠ [] := fun e => by rw [e] at h; cases h
theorem tmod_nn {a b : Int} (h : 0 ≤ a) : Int.tmod a b = a % b := Int.tmod_eq_emod_of_nonneg h
theorem SortCompact (l : List Int) (h : l ≠ []) (hl : l.length < 1000000000000) : ∃ s, slices_Sort_int_int.f l = some s ∧ slices_Compact_int_int.f s = some (srt l) := by
  have h0 : ¬ l.length = 0 := fun c => h (List.eq_nil_of_length_eq_zero c)
  refine ⟨l.mergeSort fun x y => decide (x ≤ y), ?_, ?_⟩
  · unfold slices_Sort_int_int.f
    rw [if_neg h0, if_pos (by omega)]
  · unfold slices_Compact_int_int.f
    rw [if_neg (by rw [List.length_mergeSort]; exact h0)]
    rfl
end Go.Proofs.Ytlngnnkkaepeeaa.L

/-! ## M2 -/
namespace Go.Proofs.Ytlngnnkkaepeeaa.M
set_option linter.unusedVariables false
set_option linter.unusedSimpArgs false

/-- A rule: every, rest. -/
abbrev Ru := Int × Int
def okR (r : Ru) : Bool := decide (2 ≤ r.1 ∧ r.1 ≤ 60 ∧ 0 ≤ r.2 ∧ r.2 < r.1)
def good (rs : List Ru) : Bool := decide (rs.length ≤ 12) && rs.all okR
def left (rs : List Ru) (n : Int) : Bool := rs.all fun r => decide (n % r.1 ≠ r.2)
theorem good_ok {rs : List Ru} (h : good rs = true) {r : Ru} (hr : r ∈ rs) : 2 ≤ r.1 ∧ r.1 ≤ 60 ∧ 0 ≤ r.2 ∧ r.2 < r.1 := by
  unfold good at h
  rw [Bool.and_eq_true] at h
  exact of_decide_eq_true (List.all_eq_true.1 h.2 r hr)
theorem left_iff {rs : List Ru} {n : Int} : left rs n = true ↔ ∀ r ∈ rs, n % r.1 ≠ r.2 := by
  unfold left
  rw [List.all_eq_true]
  exact ⟨fun h r hr => of_decide_eq_true (h r hr), fun h r hr => decide_eq_true (h r hr)⟩

/-- The numbers among m from n on that are left. -/
def lb (rs : List Ru) : Nat → Int → List Int
  | 0, _ => []
  | m + 1, n => if left rs n = true then n :: lb rs m (n + 1) else lb rs m (n + 1)
theorem lb_length (rs : List Ru) : ∀ (m : Nat) (n : Int), (lb rs m n).length ≤ m
  | 0, _ => Nat.le_refl _
  | m + 1, n => by
    unfold lb
    have := lb_length rs m (n + 1)
    split
    · rw [List.length_cons]; omega
    · omega
/-- The period of rules, if it is not too great. -/
def per : Nat → List Ru → Option Nat
  | p, [] => some p
  | p, r :: rs => if 100000 < p / Nat.gcd p r.1.toNat * r.1.toNat then none else per (p / Nat.gcd p r.1.toNat * r.1.toNat) rs
theorem left_add {rs : List Ru} {P : Nat} (hd : ∀ r ∈ rs, r.1.toNat ∣ P) (hp : ∀ r ∈ rs, 1 ≤ r.1) (n k : Int) : left rs (n + P * k) = left rs n := by
  unfold left
  have : ∀ (q : List Ru), (∀ r ∈ q, r ∈ rs) → (q.all fun r => decide ((n + P * k) % r.1 ≠ r.2)) = q.all fun r => decide (n % r.1 ≠ r.2) := by
    intro q
    induction q with
    | nil => intro _; rfl
    | cons r q ih =>
      intro hq
      have hr := hq r (by simp)
      obtain ⟨c, hc⟩ := hd r hr
      have h1 := hp r hr
      have e : (P : Int) = r.1 * (c : Int) := by
        rw [hc, Int.natCast_mul, Int.toNat_of_nonneg (by omega)]
      have e2 : (n + P * k) % r.1 = n % r.1 := by
        rw [e, Int.mul_assoc, Int.add_mul_emod_self_left]
      rw [List.all_cons, List.all_cons, ih (fun r hr => hq r (by simp [hr])), e2]
  exact this rs (fun r hr => hr)

structure Wheel (rs : List Ru) (P : Nat) : Prop where
  good : good rs = true
  per : per 1 rs = some P
  pos : 1 ≤ P
  most : P ≤ 5000
  dvd : ∀ r ∈ rs, r.1.toNat ∣ P
  some : lb rs P 1 ≠ []
theorem Wheel.one {rs : List Ru} {P : Nat} (h : Wheel rs P) : ∀ r ∈ rs, 1 ≤ r.1 := fun r hr => by have := good_ok h.good hr; omega
theorem Wheel.add {rs : List Ru} {P : Nat} (h : Wheel rs P) (n k : Int) : left rs (n + P * k) = left rs n := left_add h.dvd h.one n k
theorem Wheel.on {rs : List Ru} {P : Nat} (h : Wheel rs P) (n : Int) : left rs (n + P) = left rs n := by
  have := h.add n 1
  rw [Int.mul_one] at this
  exact this

end Go.Proofs.Ytlngnnkkaepeeaa.M

/-! ## E5 -/
namespace Go.Proofs.Ytlngnnkkaepeeaa.L
open Go.RowKit Go.Proofs.YtlngnnkkaepeeaaW.PrintWords Go.Proofs.Ytlngnnkkaepeeaa.P Go.Proofs.Ytlngnnkkaepeeaa.M
set_option linter.unusedVariables false
set_option linter.unusedSimpArgs false

/-- A rule as a pair. -/
def ru (x : S60) : Ru := (x.f0, x.f1)
def rs (l : List S60) : List Ru := l.map ru
/-- All numbers of rules at least 1 and at most 60. -/
def Sane (l : List S60) : Prop := ∀ x ∈ l, 1 ≤ x.f0 ∧ x.f0 ≤ 60

theorem tmod_range {a b : Int} (hb : 1 ≤ b) : -b < Int.tmod a b ∧ Int.tmod a b < b := by
  rcases Int.le_total 0 a with h | h
  · rw [Int.tmod_eq_emod_of_nonneg h]
    exact ⟨by have := Int.emod_nonneg a (show b ≠ 0 by omega); omega, Int.emod_lt_of_pos a (by omega)⟩
  · obtain ⟨c, rfl⟩ : ∃ c, a = -c := ⟨-a, by omega⟩
    rw [Int.neg_tmod, Int.tmod_eq_emod_of_nonneg (show 0 ≤ c by omega)]
    have h1 := Int.emod_nonneg c (show b ≠ 0 by omega)
    have h2 := Int.emod_lt_of_pos c (show 0 < b by omega)
    exact ⟨by omega, by omega⟩
theorem rest_eq {a b : Int} (hb : 1 ≤ b) (hb2 : b ≤ 1000000) : Int.tmod (wrap64 (Int.tmod a b + b)) b = a % b := by
  have hr := tmod_range (a := a) hb
  rw [w64 (by omega) (by omega), Int.tmod_eq_emod_of_nonneg (by omega), Int.tmod_def]
  rw [show a - b * Int.tdiv a b + b = a + b * (1 - Int.tdiv a b) by rw [Int.mul_sub, Int.mul_one]; omega, Int.add_mul_emod_self_left]
theorem impl_mod_eq {a b : Int} (hb : 1 ≤ b) (hb2 : b ≤ 1000000) : impl_mod.f a b = some (a % b) := by
  simp only [impl_mod.f, if_neg (show ¬ b = 0 by omega)]
  rw [rest_eq hb hb2]
/-- The first rule that crosses a number out, told from index i on; -1: none. -/
def fiFrom : List Ru → Int → Int → Int
  | [], _, _ => -1
  | r :: q, n, i => if n % r.1 = r.2 then i else fiFrom q n (i + 1)
theorem fiFrom_neg : ∀ (q : List Ru) (n i : Int), 0 ≤ i → decide (fiFrom q n i < 0) = left q n
  | [], n, i, h => rfl
  | r :: q, n, i, h => by
    unfold fiFrom
    have ih := fiFrom_neg q n (i + 1) (by omega)
    unfold left at ih ⊢
    rw [List.all_cons]
    by_cases c : n % r.1 = r.2
    · rw [if_pos c, decide_eq_false (show ¬ i < 0 by omega), decide_eq_false (by simp [c]), Bool.false_and]
    · rw [if_neg c, ih, decide_eq_true (show n % r.1 ≠ r.2 from c), Bool.true_and]
theorem firstRule_go : ∀ (l : List S60) (n i : Int), Sane l → impl_firstRule.go l n i = some (fiFrom (rs l) n i)
  | [], n, i, _ => rfl
  | x :: l, n, i, h => by
    have hx := h x (by simp)
    have ih := firstRule_go l n (i + 1) (fun y hy => h y (by simp [hy]))
    simp only [impl_firstRule.go, impl_mod_eq (a := n) hx.1 (show x.f0 ≤ 1000000 by omega), Option.bind_some, ih]
    unfold rs
    rw [List.map_cons, fiFrom]
    unfold ru
    by_cases c : n % x.f0 = x.f1
    · rw [if_pos c, if_pos c]
    · rw [if_neg c, if_neg c]
theorem isLeft_eq {l : List S60} (h : Sane l) (n : Int) : impl_isLeft.f l n = some (left (rs l) n) := by
  simp only [impl_isLeft.f, impl_firstRule.f, firstRule_go l n 0 h, Option.bind_some]
  rw [fiFrom_neg _ _ _ (Int.le_refl 0)]
/-! ### valid rules -/
end Go.Proofs.Ytlngnnkkaepeeaa.L

/-! ## E6 -/
namespace Go.Proofs.Ytlngnnkkaepeeaa.L
open Go.RowKit Go.Proofs.YtlngnnkkaepeeaaW.PrintWords Go.Proofs.Ytlngnnkkaepeeaa.P Go.Proofs.Ytlngnnkkaepeeaa.M
set_option linter.unusedVariables false
set_option linter.unusedSimpArgs false

theorem leftBetween_l0 (l : List S60) (h : Sane l) (hi : Int) (hh : hi ≤ 2000000000) : ∀ (m : Nat) (n : Int) (acc : List Int), -2000000000 ≤ n → (m : Int) = hi + 1 - n → acc.length + m ≤ 10000000000 → Evl (fun k => impl_leftBetween.l0 k l hi acc n) (acc ++ lb (rs l) m n) := by
  intro m
  induction m with
  | zero =>
    intro n acc h0 hm hb
    refine Evl.succ ?_
    simp only [impl_leftBetween.l0, if_neg (show ¬ n ≤ hi by omega)]
    refine (Evl.ret _).cast ?_
    simp [lb]
  | succ m ih =>
    intro n acc h0 hm hb
    have hw : wrap64 (n + 1) = n + 1 := w64 (by omega) (by omega)
    refine Evl.succ ?_
    simp only [impl_leftBetween.l0, if_pos (show n ≤ hi by omega), isLeft_eq h, Option.bind_some, hw]
    unfold lb
    by_cases hp : left (rs l) n = true
    · simp only [if_pos hp, if_pos (show acc.length < 17592186044416 by omega)]
      refine (ih (n + 1) (acc ++ [n]) (by omega) (by omega) (by rw [List.length_append]; simp; omega)).cast ?_
      simp
    · simp only [if_neg hp]
      exact ih (n + 1) acc (by omega) (by omega) (by omega)
theorem leftBetween_ev {l : List S60} (h : Sane l) (lo hi : Int) (h0 : -2000000000 ≤ lo) (hh : hi ≤ 2000000000) : Evl (fun k => impl_leftBetween.f k l lo hi) (lb (rs l) (hi + 1 - lo).toNat lo) := by
  simp only [impl_leftBetween.f]
  rcases Int.lt_or_le hi lo with c | c
  · refine Evl.succ ?_
    simp only [impl_leftBetween.l0, if_neg (show ¬ lo ≤ hi by omega)]
    rw [show (hi + 1 - lo).toNat = 0 by omega]
    exact Evl.ret _
  · exact leftBetween_l0 l h hi hh (hi + 1 - lo).toNat lo [] h0 (by omega) (by simp; omega)
/-! ### periods -/
end Go.Proofs.Ytlngnnkkaepeeaa.L

/-! ## X12 -/
namespace Go.Proofs.Ytlngnnkkaepeeaa.L
open Go.RowKit Go.Proofs.YtlngnnkkaepeeaaW.PrintWords Go.Proofs.Ytlngnnkkaepeeaa.P Go.Proofs.Ytlngnnkkaepeeaa.M
set_option linter.unusedVariables false
set_option linter.unusedSimpArgs false

theorem pat_small {l : List Int} (h : pat l = true) : l.length ≤ 1000 := by have := pat_len h; omega
theorem six_p6 : p6 = six.map fun (p : Nat) => (p : Int) := rfl
theorem six_13 : ∀ p ∈ six, 2 ≤ p ∧ p ≤ 13 := by decide
theorem reAsked_ev (l : List Int) (hl : l.length ≤ 1099511627776) (a : Int) : Evl (fun k => spec_reAsked.f k l a) (pat l && decide (0 ≤ a ∧ a ≤ 6)) := by
  simp only [spec_reAsked.f]
  refine Evl.bind (reGood_ev l hl) ?_
  cases hp : pat l with
  | false =>
    simp only [Bool.false_eq_true, if_false]
    exact Evl.ret _
  | true =>
    simp only [if_true, l1In_eq, Option.bind_some, Bool.true_and]
    exact Evl.ret _
end Go.Proofs.Ytlngnnkkaepeeaa.L

/-! ## X13 -/
namespace Go.Proofs.Ytlngnnkkaepeeaa.L
open Go.RowKit Go.Proofs.YtlngnnkkaepeeaaW.PrintWords Go.Proofs.Ytlngnnkkaepeeaa.P Go.Proofs.Ytlngnnkkaepeeaa.M
set_option linter.unusedVariables false
set_option linter.unusedSimpArgs false

/-- The remainders that a prime crosses out. -/
def out (l : List Int) (p : Int) : List Int := srt (l.map fun o => (-o) % p)
def rp (l : List Int) : List Nat → List S60
  | [] => []
  | p :: s => ((out l (p : Int)).map fun r => (⟨(p : Int), r⟩ : S60)) ++ rp l s
theorem out_len (l : List Int) (p : Int) : (out l p).length ≤ l.length := by
  unfold out
  refine Nat.le_trans (srt_length _) ?_
  rw [List.length_map]
  exact Nat.le_refl _
theorem rp_sane (l : List Int) : ∀ (s : List Nat), (∀ p ∈ s, 2 ≤ p ∧ p ≤ 13) → Sane (rp l s)
  | [], _ => fun x hx => absurd hx (by simp [rp])
  | p :: s, h => fun x hx => by
    unfold rp at hx
    rcases List.mem_append.1 hx with hx | hx
    · obtain ⟨r, _, rfl⟩ := List.mem_map.1 hx
      have := h p (List.mem_cons_self ..)
      simp only
      omega
    · exact rp_sane l s (fun q hq => h q (List.mem_cons_of_mem _ hq)) x hx
/-- A place: none of the offsets meets a multiple of one of the primes. -/
def plcB (l : List Int) (s : List Nat) (n : Int) : Bool := s.all fun p => l.all fun o => decide ((n + o) % (p : Int) ≠ 0)
theorem neg_mod {n o p : Int} (hp : 0 < p) : n % p = (-o) % p ↔ (n + o) % p = 0 := by
  constructor
  · intro h
    have := Int.emod_emod_of_dvd (n + o) (Int.dvd_refl p)
    rw [Int.add_emod, h, ← Int.add_emod, Int.add_left_neg, Int.zero_emod]
  · intro h
    have e : n = (n + o) + (-o) := by omega
    rw [e, Int.add_emod, h, Int.zero_add, Int.emod_emod]
theorem rp_left (l : List Int) : ∀ (s : List Nat), (∀ p ∈ s, 2 ≤ p ∧ p ≤ 13) → ∀ n : Int, left (rs (rp l s)) n = plcB l s n
  | [], _, n => rfl
  | p :: s, h, n => by
    have hp := h p (List.mem_cons_self ..)
    have ih := rp_left l s (fun q hq => h q (List.mem_cons_of_mem _ hq)) n
    have e : left (rs (rp l (p :: s))) n = (left (rs ((out l (p : Int)).map fun r => (⟨(p : Int), r⟩ : S60))) n && left (rs (rp l s)) n) := by
      have e0 : rp l (p :: s) = ((out l (p : Int)).map fun r => (⟨(p : Int), r⟩ : S60)) ++ rp l s := rfl
      unfold rs left
      rw [e0, List.map_append, List.all_append]
    have e2 : plcB l (p :: s) n = ((l.all fun o => decide ((n + o) % (p : Int) ≠ 0)) && plcB l s n) := by
      unfold plcB
      rw [List.all_cons]
    rw [e, e2, ih]
    congr 1
    rw [Bool.eq_iff_iff, left_iff, List.all_eq_true]
    constructor
    · intro hr o ho
      refine decide_eq_true fun c => ?_
      have hm : (-o) % (p : Int) ∈ out l (p : Int) := srt_mem.2 (List.mem_map.2 ⟨o, ho, rfl⟩)
      have := hr ((p : Int), (-o) % (p : Int)) (by unfold rs; rw [List.map_map]; exact List.mem_map.2 ⟨_, hm, rfl⟩)
      exact this ((neg_mod (by omega)).2 c)
    · intro hr q hq
      unfold rs at hq
      rw [List.map_map] at hq
      obtain ⟨r, hrm, rfl⟩ := List.mem_map.1 hq
      obtain ⟨o, ho, rfl⟩ := List.mem_map.1 (srt_mem.1 hrm)
      have := of_decide_eq_true (hr o ho)
      exact fun c => this ((neg_mod (by omega)).1 c)

/-! ### the program's rules -/
theorem rop_l2 (l : List Int) (p : Nat) (ps : List Int) (m i : Int) (xs : List Int) (hx : xs.length ≤ 1000) {R : List S60} : ∀ (s : List Int) (j : Nat) (acc : List S60), xs.drop j = s → acc.length + s.length ≤ 1000000 →
    Evl (fun k => impl_rulesOfPattern.l0 k l (acc ++ s.map fun r => (⟨(p : Int), r⟩ : S60)) ps m (wrap64 (i + 1))) R → Evl (fun k => impl_rulesOfPattern.l2 k l acc (p : Int) ps m i xs (xs.length : Int) (j : Int)) R := by
  intro s
  induction s with
  | nil =>
    intro j acc h _ hR
    have hj := drop_nil h
    refine Evl.succ ?_
    simp only [impl_rulesOfPattern.l2, if_neg (show ¬ (j : Int) < (xs.length : Int) by omega)]
    rw [List.map_nil, List.append_nil] at hR
    exact hR
  | cons y s ih =>
    intro j acc h ha hR
    obtain ⟨hj, hy, hs⟩ := drop_cons h
    rw [List.length_cons] at ha
    have hw : wrap64 ((j : Int) + 1) = ((j + 1 : Nat) : Int) := by rw [w64 (by omega) (by omega)]; rfl
    refine Evl.succ ?_
    simp only [impl_rulesOfPattern.l2, if_pos (show (j : Int) < (xs.length : Int) by omega), if_pos (show (0 : Int) ≤ (j : Int) by omega), if_pos (show acc.length < 8796093022208 by omega), rd_of hy, hw]
    refine ih (j + 1) _ hs (by rw [List.length_append, List.length_singleton]; omega) ?_
    rw [List.append_assoc]
    exact hR
theorem rop_l1 (l : List Int) (hl : l.length ≤ 1000) (hne : l ≠ []) (h0 : ∀ x ∈ l, 0 ≤ x ∧ x ≤ 60) (p : Nat) (hp : 1 ≤ p) (hp2 : p ≤ 1000) (ps : List Int) (m i : Int) (acc : List S60) (hacc : acc.length ≤ 100000) {R : List S60}
    (hR : Evl (fun k => impl_rulesOfPattern.l0 k l (acc ++ (out l (p : Int)).map fun r => (⟨(p : Int), r⟩ : S60)) ps m (wrap64 (i + 1))) R) : ∀ (s : List Int) (j : Nat) (a : List Int), l.drop j = s → a.length = j → a ++ (s.map fun o => (-o) % (p : Int)) = l.map (fun o => (-o) % (p : Int)) →
      Evl (fun k => impl_rulesOfPattern.l1 k l acc (p : Int) a ps m i l (l.length : Int) (j : Int)) R := by
  intro s
  induction s with
  | nil =>
    intro j a h haj he
    have hj := drop_nil h
    rw [List.map_nil, List.append_nil] at he
    obtain ⟨q, h1, h2⟩ := SortCompact a (by rw [he]; simpa using hne) (by rw [he, List.length_map]; omega)
    refine Evl.succ ?_
    simp only [impl_rulesOfPattern.l1, if_neg (show ¬ (j : Int) < (l.length : Int) by omega), h1, h2, Option.bind_some]
    have e : srt a = out l (p : Int) := by rw [he]; rfl
    rw [e]
    have hol := out_len l (p : Int)
    exact rop_l2 l p ps m i (out l (p : Int)) (by omega) (out l (p : Int)) 0 acc rfl (by omega) hR
  | cons y s ih =>
    intro j a h haj he
    obtain ⟨hj, hy, hs⟩ := drop_cons h
    have hyr := h0 y (List.mem_of_getElem? hy)
    have hw : wrap64 ((j : Int) + 1) = ((j + 1 : Nat) : Int) := by rw [w64 (by omega) (by omega)]; rfl
    have hw2 : wrap64 (-y) = -y := w64 (by omega) (by omega)
    refine Evl.succ ?_
    simp only [impl_rulesOfPattern.l1, if_pos (show (j : Int) < (l.length : Int) by omega), if_pos (show (0 : Int) ≤ (j : Int) by omega), if_pos (show a.length < 17592186044416 by omega), rd_of hy, hw, hw2, impl_mod_eq (a := -y) (b := (p : Int)) (by omega) (by omega), Option.bind_some]
    refine ih (j + 1) _ hs (by rw [List.length_append, List.length_singleton, haj]) ?_
    rw [← he, List.map_cons, List.append_assoc]
    rfl
theorem rop_l0 (l : List Int) (hl : l.length ≤ 1000) (hne : l ≠ []) (h0 : ∀ x ∈ l, 0 ≤ x ∧ x ≤ 60) (c : Nat) (hc : c ≤ 6) : ∀ (s : List Nat) (i : Nat) (acc : List S60), (six.take c).drop i = s → i ≤ c → acc.length ≤ i * 1000 →
    Evl (fun k => impl_rulesOfPattern.l0 k l acc (p6.take c) ((p6.take c).length : Int) (i : Int)) (acc ++ rp l s) := by
  have h6 : six.length = 6 := rfl
  have h66 : p6.length = 6 := rfl
  have hpl : ((p6.take c).length : Int) = (c : Int) := by rw [List.length_take]; omega
  intro s
  induction s with
  | nil =>
    intro i acc h hic _
    have hi := drop_nil h
    rw [List.length_take] at hi
    refine Evl.succ ?_
    simp only [impl_rulesOfPattern.l0, hpl, if_neg (show ¬ (i : Int) < (c : Int) by omega)]
    refine (Evl.ret _).cast ?_
    simp [rp]
  | cons p s ih =>
    intro i acc h hic ha
    obtain ⟨hi, hx, hs⟩ := drop_cons h
    rw [List.length_take] at hi
    have hp := six_13 p (List.mem_of_mem_take (List.mem_of_getElem? hx))
    have hw : wrap64 ((i : Int) + 1) = ((i + 1 : Nat) : Int) := by rw [w64 (by omega) (by omega)]; rfl
    have hr : rd (p6.take c) (i : Int) = (p : Int) := rd_of (by rw [six_p6, ← List.map_take, List.getElem?_map, hx]; rfl)
    have hol := out_len l (p : Int)
    refine Evl.succ ?_
    simp only [impl_rulesOfPattern.l0, hpl, if_pos (show (i : Int) < (c : Int) by omega), if_pos (show (0 : Int) ≤ (i : Int) by omega), hr]
    refine rop_l1 l hl hne h0 p (by omega) (by omega) _ _ _ acc (by omega) ?_ l 0 [] rfl rfl rfl
    rw [hw]
    have := ih (i + 1) (acc ++ (out l (p : Int)).map fun r => (⟨(p : Int), r⟩ : S60)) hs (by omega) (by rw [List.length_append, List.length_map]; omega)
    rw [hpl] at this
    refine this.cast ?_
    rw [List.append_assoc]
    rfl
theorem rulesOfPattern_ev (l : List Int) (hl : l.length ≤ 1000) (hne : l ≠ []) (h0 : ∀ x ∈ l, 0 ≤ x ∧ x ≤ 60) (c : Nat) (hc : c ≤ 6) : Evl (fun k => impl_rulesOfPattern.f k l (c : Int)) (rp l (six.take c)) := by
  have h66 : (p6.length : Int) = 6 := rfl
  have e0 : ([2, 3, 5, 7, 11, 13] : List Int) = p6 := rfl
  simp only [impl_rulesOfPattern.f, impl_firstSix.f, Option.bind_some, e0, if_pos (show (0 : Int) ≤ (c : Int) by omega), h66, if_pos (show (c : Int) ≤ 6 by omega), Int.toNat_natCast]
  exact rop_l0 l hl hne h0 c hc (six.take c) 0 [] rfl (by omega) (by simp)

/-! ### the reference's places -/
theorem rePlace_l1 (l : List Int) (hl : l.length ≤ 1000) (h0 : ∀ x ∈ l, 0 ≤ x ∧ x ≤ 60) (c : Nat) (n : Int) (hn : 0 ≤ n ∧ n ≤ 1000) (i p : Nat) (hp : 1 ≤ p) (hi6 : i < 6) (hr : spec_rePrime.f (i : Int) = some (p : Int)) {R : Bool}
    (hR : Evl (fun k => spec_rePlace.l0 k l (c : Int) n ((i + 1 : Nat) : Int)) R) : ∀ (s : List Int) (j : Nat), l.drop j = s → Evl (fun k => spec_rePlace.l1 k l (c : Int) n (i : Int) l (l.length : Int) (j : Int)) ((s.all fun o => decide ((n + o) % (p : Int) ≠ 0)) && R) := by
  intro s
  have hwi : wrap64 ((i : Int) + 1) = ((i + 1 : Nat) : Int) := by rw [w64 (by omega) (by omega)]; rfl
  induction s with
  | nil =>
    intro j h
    have hj := drop_nil h
    refine Evl.succ ?_
    simp only [spec_rePlace.l1, if_neg (show ¬ (j : Int) < (l.length : Int) by omega), hwi]
    exact hR
  | cons y s ih =>
    intro j h
    obtain ⟨hj, hy, hs⟩ := drop_cons h
    have hyr := h0 y (List.mem_of_getElem? hy)
    have hw : wrap64 ((j : Int) + 1) = ((j + 1 : Nat) : Int) := by rw [w64 (by omega) (by omega)]; rfl
    have hw2 : wrap64 (n + y) = n + y := w64 (by omega) (by omega)
    refine Evl.succ ?_
    simp only [spec_rePlace.l1, if_pos (show (j : Int) < (l.length : Int) by omega), if_pos (show (0 : Int) ≤ (j : Int) by omega), rd_of hy, hw, hw2, hr, Option.bind_some, if_neg (show ¬ (p : Int) = 0 by omega), tmod_nn (show 0 ≤ n + y by omega)]
    rw [List.all_cons]
    by_cases e : (n + y) % (p : Int) = 0
    · simp only [if_pos e]
      refine (Evl.ret _).cast ?_
      rw [decide_eq_false (by simpa using e)]
      rfl
    · simp only [if_neg e]
      rw [decide_eq_true (show (n + y) % (p : Int) ≠ 0 from e), Bool.true_and]
      exact ih (j + 1) hs
theorem rePlace_l0 (l : List Int) (hl : l.length ≤ 1000) (h0 : ∀ x ∈ l, 0 ≤ x ∧ x ≤ 60) (c : Nat) (hc : c ≤ 6) (n : Int) (hn : 0 ≤ n ∧ n ≤ 1000) : ∀ (s : List Nat) (i : Nat), (six.take c).drop i = s → i ≤ c → Evl (fun k => spec_rePlace.l0 k l (c : Int) n (i : Int)) (plcB l s n) := by
  have h6 : six.length = 6 := rfl
  intro s
  induction s with
  | nil =>
    intro i h hic
    have hi := drop_nil h
    rw [List.length_take] at hi
    refine Evl.succ ?_
    simp only [spec_rePlace.l0, if_neg (show ¬ (i : Int) < (c : Int) by omega)]
    exact Evl.ret _
  | cons p s ih =>
    intro i h hic
    obtain ⟨hi, hx, hs⟩ := drop_cons h
    rw [List.length_take] at hi
    have hp := six_13 p (List.mem_of_mem_take (List.mem_of_getElem? hx))
    have hr : spec_rePrime.f (i : Int) = some (p : Int) := by
      rw [rePrime_eq (by omega)]
      refine congrArg some (rd_of ?_)
      rw [List.getElem?_take_of_lt (by omega)] at hx
      rw [six_p6, List.getElem?_map, hx]
      rfl
    refine Evl.succ ?_
    simp only [spec_rePlace.l0, if_pos (show (i : Int) < (c : Int) by omega)]
    have e : plcB l (p :: s) n = ((l.all fun o => decide ((n + o) % (p : Int) ≠ 0)) && plcB l s n) := by
      unfold plcB
      rw [List.all_cons]
    rw [e]
    exact rePlace_l1 l hl h0 c n hn i p (by omega) (by omega) hr (ih (i + 1) hs (by omega)) l 0 rfl
theorem spec_FirstPlaces_l0 (l : List Int) (hl : l.length ≤ 1000) (h0 : ∀ x ∈ l, 0 ≤ x ∧ x ≤ 60) (c : Nat) (hc : c ≤ 6) (most : Nat) (hm : most ≤ 600) : ∀ (m n : Nat) (acc : List Int), m + n = most + 1 → acc.length ≤ n → Evl (fun k => spec_FirstPlaces.l0 k l (c : Int) (most : Int) acc (n : Int)) (acc ++ lb (rs (rp l (six.take c))) m (n : Int), true) := by
  have hs6 : ∀ p ∈ six.take c, 2 ≤ p ∧ p ≤ 13 := fun p hp => six_13 p (List.mem_of_mem_take hp)
  intro m
  induction m with
  | zero =>
    intro n acc h _
    refine Evl.succ ?_
    simp only [spec_FirstPlaces.l0, if_neg (show ¬ (n : Int) ≤ (most : Int) by omega)]
    refine (Evl.ret _).cast ?_
    simp [lb]
  | succ m ih =>
    intro n acc h ha
    have hw : wrap64 ((n : Int) + 1) = ((n + 1 : Nat) : Int) := by rw [w64 (by omega) (by omega)]; rfl
    refine Evl.succ ?_
    simp only [spec_FirstPlaces.l0, if_pos (show (n : Int) ≤ (most : Int) by omega), if_pos (show acc.length < 17592186044416 by omega), hw]
    have hp : Evl (fun k => spec_rePlace.f k l (c : Int) (n : Int)) (plcB l (six.take c) (n : Int)) := by
      simp only [spec_rePlace.f]
      exact rePlace_l0 l hl h0 c hc (n : Int) (by omega) (six.take c) 0 rfl (by omega)
    refine Evl.bind hp ?_
    rw [← rp_left l (six.take c) hs6]
    unfold lb
    by_cases e : left (rs (rp l (six.take c))) (n : Int) = true
    · simp only [if_pos e]
      refine (ih (n + 1) (acc ++ [(n : Int)]) (by omega) (by rw [List.length_append, List.length_singleton]; omega)).cast ?_
      rw [List.append_assoc]
      rfl
    · simp only [if_neg e]
      exact ih (n + 1) acc (by omega) (by omega)
theorem FnExactFirstPlaces_main (l0 : List Int) (a1 a2 : Int) (hm : l0.length ≤ maxLen) (hb : l0.length * 8 ≤ 140737488351232) (hw : ∀ x ∈ l0, (Lit.int .i64 x).wf = true) (h1 : (Lit.int .i64 a1).wf = true) (h2 : (Lit.int .i64 a2).wf = true) (hl : l0.length ≤ 1099511627776) :
    ∃ r b, Evl (fun k => spec_FirstPlaces.f k l0 a1 a2) (r, b) ∧ Evl (fun k => impl_FirstPlaces.f k l0 a1 a2) (r, b) ∧ r.length ≤ 1099511627776 := by
  have no : Evl (fun k => spec_FirstPlaces.j0 k l0 a1 a2 true) ([], false) ∧ Evl (fun k => impl_FirstPlaces.j0 k l0 a1 a2 true) ([], false) := by
    constructor
    · refine Evl.succ ?_
      simp only [spec_FirstPlaces.j0, if_true]
      exact Evl.ret _
    · refine Evl.succ ?_
      simp only [impl_FirstPlaces.j0, if_true]
      exact Evl.ret _
  cases hp : pat l0 with
  | false =>
    refine ⟨[], false, ?_, ?_, by simp⟩
    · simp only [spec_FirstPlaces.f]
      refine Evl.bind (reAsked_ev l0 hl a1) ?_
      simp only [hp, Bool.false_and, Bool.false_eq_true, if_false]
      exact no.1
    · simp only [impl_FirstPlaces.f]
      refine Evl.bind (isPattern_ev l0 hl) ?_
      simp only [hp, Bool.false_eq_true, if_false]
      exact no.2
  | true =>
    by_cases c : 0 ≤ a1 ∧ a1 ≤ 6
    · by_cases d : 0 ≤ a2 ∧ a2 ≤ 600
      · obtain ⟨n, rfl⟩ := Int.eq_ofNat_of_zero_le c.1
        obtain ⟨m, rfl⟩ := Int.eq_ofNat_of_zero_le d.1
        have hs6 : ∀ p ∈ six.take n, 2 ≤ p ∧ p ≤ 13 := fun p hp => six_13 p (List.mem_of_mem_take hp)
        refine ⟨lb (rs (rp l0 (six.take n))) m 1, true, ?_, ?_, by have := lb_length (rs (rp l0 (six.take n))) m 1; omega⟩
        · simp only [spec_FirstPlaces.f]
          refine Evl.bind (reAsked_ev l0 hl _) ?_
          simp only [hp, Bool.true_and, decide_eq_true c, if_true, l1In_eq, decide_eq_true d, Option.bind_some, Bool.not_true]
          refine Evl.succ ?_
          simp only [spec_FirstPlaces.j0, Bool.false_eq_true, if_false]
          exact spec_FirstPlaces_l0 l0 (pat_small hp) (pat_range hp) n (by omega) m (by omega) m 1 [] rfl (by simp)
        · simp only [impl_FirstPlaces.f]
          refine Evl.bind (isPattern_ev l0 hl) ?_
          simp only [hp, if_true, if_neg (show ¬ (n : Int) < 0 by omega), if_neg (show ¬ (n : Int) > 6 by omega), isMost_eq, decide_eq_true d, Option.bind_some, Bool.not_true]
          refine Evl.succ ?_
          simp only [impl_FirstPlaces.j0, Bool.false_eq_true, if_false]
          refine Evl.bind (rulesOfPattern_ev l0 (pat_small hp) (pat_ne hp) (pat_range hp) n (by omega)) ?_
          refine Evl.bind (leftBetween_ev (rp_sane l0 (six.take n) hs6) 1 (m : Int) (by omega) (by omega)) ?_
          refine (Evl.ret _).cast ?_
          rw [show ((m : Int) + 1 - 1).toNat = m by omega]
      · refine ⟨[], false, ?_, ?_, by simp⟩
        · simp only [spec_FirstPlaces.f]
          refine Evl.bind (reAsked_ev l0 hl _) ?_
          simp only [hp, Bool.true_and, decide_eq_true c, if_true, l1In_eq, decide_eq_false d, Option.bind_some, Bool.not_false]
          exact no.1
        · simp only [impl_FirstPlaces.f]
          refine Evl.bind (isPattern_ev l0 hl) ?_
          simp only [hp, if_true, if_neg (show ¬ a1 < 0 by omega), if_neg (show ¬ a1 > 6 by omega), isMost_eq, decide_eq_false d, Option.bind_some, Bool.not_false]
          exact no.2
    · refine ⟨[], false, ?_, ?_, by simp⟩
      · simp only [spec_FirstPlaces.f]
        refine Evl.bind (reAsked_ev l0 hl a1) ?_
        simp only [hp, Bool.true_and, decide_eq_false c, Bool.false_eq_true, if_false]
        exact no.1
      · simp only [impl_FirstPlaces.f]
        refine Evl.bind (isPattern_ev l0 hl) ?_
        simp only [hp, if_true]
        by_cases c1 : a1 < 0
        · simp only [if_pos c1]
          exact no.2
        · simp only [if_neg c1, if_pos (show a1 > 6 by omega)]
          exact no.2

end Go.Proofs.Ytlngnnkkaepeeaa.L
