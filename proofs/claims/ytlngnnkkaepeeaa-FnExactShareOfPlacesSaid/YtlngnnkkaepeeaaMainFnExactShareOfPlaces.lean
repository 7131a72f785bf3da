/- ShareOfPlaces of the program tells what the reference's tells, for all arguments: what both functions compute. No condition beyond 64 bits and the lengths that the statement's guards give. -/
import Derived.Test.YtlngnnkkaepeeaaPx0
import Derived.Test.YtlngnnkkaepeeaaPx1
import Derived.Test.YtlngnnkkaepeeaaPx5
import Derived.Test.YtlngnnkkaepeeaaPx20
import Derived.Test.YtlngnnkkaepeeaaPx24
import Derived.Lib.SlicesCompact
import Derived.Lib.RowBridge
import Derived.Test.YtlngnnkkaepeeaaPx13
import Derived.Test.YtlngnnkkaepeeaaPx22
import Derived.Test.YtlngnnkkaepeeaaPx19
import Derived.Test.YtlngnnkkaepeeaaPx23
import Derived.Test.YtlngnnkkaepeeaaPx2
import Derived.Test.YtlngnnkkaepeeaaPx3
import Derived.Test.YtlngnnkkaepeeaaPx8
import Derived.Test.YtlngnnkkaepeeaaPx9
import Derived.Test.YtlngnnkkaepeeaaPx4
import Derived.Test.YtlngnnkkaepeeaaPx10
import Derived.Test.YtlngnnkkaepeeaaPx11
import Derived.Test.YtlngnnkkaepeeaaPx28
import Derived.Test.YtlngnnkkaepeeaaPx29
import Derived.Test.YtlngnnkkaepeeaaPx31
/-! ## L0 -/
namespace Go.Proofs.Ytlngnnkkaepeeaa.L
open Go.RowKit Go.Proofs.YtlngnnkkaepeeaaW.PrintWords
set_option linter.unusedVariables false
set_option linter.unusedSimpArgs false

/-- With enough rounds g tells r. -/
def Evl {α : Type} (g : Nat → Option α) (r : α) : Prop := ∃ K, ∀ k, K ≤ k → g k = some r
theorem Evl.ret {α : Type} (r : α) : Evl (fun _ => some r) r := ⟨0, fun _ _ => rfl⟩
theorem Evl.bind {α β : Type} {g : Nat → Option α} {f : Nat → α → Option β} {a : α} {r : β} (h : Evl g a) (h2 : Evl (fun k => f k a) r) : Evl (fun k => (g k).bind (f k)) r := by
  obtain ⟨K, hK⟩ := h
  obtain ⟨K2, hK2⟩ := h2
  refine ⟨max K K2, fun k hk => ?_⟩
  show (g k).bind (f k) = some r
  rw [hK k (Nat.le_trans (Nat.le_max_left _ _) hk), Option.bind_some]
  exact hK2 k (Nat.le_trans (Nat.le_max_right _ _) hk)
theorem Evl.succ {α : Type} {g : Nat → Option α} {r : α} (h : Evl (fun k => g (k + 1)) r) : Evl g r := by
  obtain ⟨K, hK⟩ := h
  refine ⟨K + 1, fun k hk => ?_⟩
  obtain ⟨m, rfl⟩ : ∃ m, k = m + 1 := ⟨k - 1, by omega⟩
  exact hK m (by omega)
theorem Evl.get {α : Type} {g : Nat → Option α} {r : α} (h : Evl g r) : ∃ k, g k = some r := by
  obtain ⟨K, hK⟩ := h
  exact ⟨K, hK K (Nat.le_refl _)⟩
theorem Evl.cast {α : Type} {g : Nat → Option α} {r r' : α} (h : Evl g r) (e : r = r') : Evl g r' := e ▸ h

theorem w64 {x : Int} (h0 : -9223372036854775808 ≤ x) (h1 : x ≤ 9223372036854775807) : wrap64 x = x := by
  unfold wrap64
  omega
theorem drop_nil {α : Type} {xs : List α} {i : Nat} (h : xs.drop i = []) : xs.length ≤ i := by
  simpa using h
theorem drop_cons {α : Type} {xs s : List α} {x : α} {i : Nat} (h : xs.drop i = x :: s) : i < xs.length ∧ xs[i]? = some x ∧ xs.drop (i + 1) = s := by
  have hl : i < xs.length := by
    rcases Nat.lt_or_ge i xs.length with h1 | h1
    · exact h1
    · rw [List.drop_of_length_le h1] at h
      cases h
  rw [List.drop_eq_getElem_cons hl] at h
  injection h with h1 h2
  exact ⟨hl, by rw [List.getElem?_eq_getElem hl, h1], h2⟩
theorem rd_of {xs : List Int} {i : Nat} {x : Int} (h : xs[i]? = some x) : rd xs (i : Int) = x := by
  unfold rd
  rw [Int.toNat_natCast, List.getD_eq_getElem?_getD, h]
  rfl
end Go.Proofs.Ytlngnnkkaepeeaa.L

/-! ## M1 -/
namespace Go.Proofs.Ytlngnnkkaepeeaa.M
set_option linter.unusedVariables false
set_option linter.unusedSimpArgs false

/-! ### factors -/
end Go.Proofs.Ytlngnnkkaepeeaa.M

/-! ## E1 -/

namespace Go.Proofs.Ytlngnnkkaepeeaa.L
open Go.RowKit Go.Proofs.YtlngnnkkaepeeaaW.PrintWords Go.Proofs.Ytlngnnkkaepeeaa.P Go.Proofs.Ytlngnnkkaepeeaa.M
set_option linter.unusedVariables false
set_option linter.unusedSimpArgs false

end Go.Proofs.Ytlngnnkkaepeeaa.L

/-! ## E2 -/

namespace Go.Proofs.Ytlngnnkkaepeeaa.L
open Go.RowKit Go.Proofs.YtlngnnkkaepeeaaW.PrintWords Go.Proofs.Ytlngnnkkaepeeaa.P Go.Proofs.Ytlngnnkkaepeeaa.M
set_option linter.unusedVariables false
set_option linter.unusedSimpArgs false

end Go.Proofs.Ytlngnnkkaepeeaa.L

/-! ## E3 -/

namespace Go.Proofs.Ytlngnnkkaepeeaa.L
open Go.RowKit Go.Proofs.YtlngnnkkaepeeaaW.PrintWords Go.Proofs.Ytlngnnkkaepeeaa.P Go.Proofs.Ytlngnnkkaepeeaa.M
set_option linter.unusedVariables false
set_option linter.unusedSimpArgs false

end Go.Proofs.Ytlngnnkkaepeeaa.L

/-! ## E4 -/
namespace Go.Proofs.Ytlngnnkkaepeeaa.L
open Go.RowKit Go.Proofs.YtlngnnkkaepeeaaW.PrintWords Go.Proofs.Ytlngnnkkaepeeaa.P Go.Proofs.Ytlngnnkkaepeeaa.M
set_option linter.unusedVariables false
set_option linter.unusedSimpArgs false

theorem l1In_eq (a lo hi : Int) : spec_l1In.f a lo hi = some (decide (lo ≤ a ∧ a ≤ hi)) := by
  unfold spec_l1In.f
  by_cases h : a ≥ lo
  · rw [if_pos h]
    by_cases h2 : a ≤ hi
    · rw [decide_eq_true h2, decide_eq_true ⟨h, h2⟩]
    · rw [decide_eq_false h2, decide_eq_false (fun c => h2 c.2)]
  · rw [if_neg h, decide_eq_false (fun c => h c.1)]

end Go.Proofs.Ytlngnnkkaepeeaa.L

/-! ## M4 -/
namespace Go.Proofs.Ytlngnnkkaepeeaa.M
set_option linter.unusedVariables false
set_option linter.unusedSimpArgs false

/-- The first six primes. -/
def six : List Nat := [2, 3, 5, 7, 11, 13]
end Go.Proofs.Ytlngnnkkaepeeaa.M

/-! ## E9 -/
namespace Go.Proofs.Ytlngnnkkaepeeaa.L
open Go.RowKit Go.Proofs.YtlngnnkkaepeeaaW.PrintWords Go.Proofs.Ytlngnnkkaepeeaa.P Go.Proofs.Ytlngnnkkaepeeaa.M
set_option linter.unusedVariables false
set_option linter.unusedSimpArgs false

/-- The first six primes. -/
def p6 : List Int := [2, 3, 5, 7, 11, 13]
theorem rePrime_eq {i : Nat} (h : i < 6) : spec_rePrime.f (i : Int) = some (rd p6 (i : Int)) := by
  unfold spec_rePrime.f
  rw [if_pos (by omega), if_pos (by omega)]
  rfl
end Go.Proofs.Ytlngnnkkaepeeaa.L

/-! ## M5 -/
namespace Go.Proofs.Ytlngnnkkaepeeaa.M
open Go
set_option linter.unusedVariables false
set_option linter.unusedSimpArgs false

/-- Lists that rise and have the same members are the same. -/
theorem sorted_ext : ∀ (a b : List Int), a.Pairwise (· < ·) → b.Pairwise (· < ·) → (∀ x, x ∈ a ↔ x ∈ b) → a = b
  | [], [], _, _, _ => rfl
  | [], y :: b, _, _, h => absurd ((h y).2 (List.mem_cons_self ..)) (by simp)
  | x :: a, [], _, _, h => absurd ((h x).1 (List.mem_cons_self ..)) (by simp)
  | x :: a, y :: b, ha, hb, h => by
    obtain ⟨ha1, ha2⟩ := List.pairwise_cons.1 ha
    obtain ⟨hb1, hb2⟩ := List.pairwise_cons.1 hb
    have e : x = y := by
      rcases List.mem_cons.1 ((h x).1 (List.mem_cons_self ..)) with h1 | h1
      · exact h1
      · rcases List.mem_cons.1 ((h y).2 (List.mem_cons_self ..)) with h2 | h2
        · exact h2.symm
        · have := hb1 x h1
          have := ha1 y h2
          omega
    subst e
    refine congrArg (x :: ·) (sorted_ext a b ha2 hb2 fun z => ?_)
    constructor
    · intro hz
      rcases List.mem_cons.1 ((h z).1 (List.mem_cons_of_mem _ hz)) with h1 | h1
      · have := ha1 z hz
        omega
      · exact h1
    · intro hz
      rcases List.mem_cons.1 ((h z).2 (List.mem_cons_of_mem _ hz)) with h1 | h1
      · have := hb1 z hz
        omega
      · exact h1
theorem compactUpTo_spec (d : Array Int) (hd : ∀ i j, i ≤ j → j < d.size → d[i]! ≤ d[j]!) : ∀ m, m ≤ d.size → (Lib.compactUpTo d m).Pairwise (· < ·) ∧ ∀ x, x ∈ Lib.compactUpTo d m ↔ ∃ j, j < m ∧ d[j]! = x
  | 0, _ => ⟨List.Pairwise.nil, fun x => ⟨fun h => absurd h (by simp [Lib.compactUpTo]), fun ⟨j, hj, _⟩ => absurd hj (Nat.not_lt_zero _)⟩⟩
  | m + 1, hm => by
    obtain ⟨h1, h2⟩ := compactUpTo_spec d hd m (by omega)
    rw [Lib.compactUpTo_succ]
    by_cases hk : Lib.keeps d m = true
    · rw [if_pos hk]
      constructor
      · refine List.pairwise_append.2 ⟨h1, List.pairwise_singleton _ _, fun x hx y hy => ?_⟩
        rw [List.mem_singleton.1 hy]
        obtain ⟨j, hj, rfl⟩ := (h2 x).1 hx
        have hle := hd j (m - 1) (by omega) (by omega)
        have hle2 := hd (m - 1) m (by omega) (by omega)
        have : m = 0 ∨ d[m]! ≠ d[m - 1]! := of_decide_eq_true hk
        rcases this with h | h
        · omega
        · omega
      · intro x
        rw [List.mem_append, h2, List.mem_singleton]
        constructor
        · rintro (⟨j, hj, e⟩ | e)
          · exact ⟨j, by omega, e⟩
          · exact ⟨m, by omega, e.symm⟩
        · rintro ⟨j, hj, e⟩
          rcases Nat.lt_or_ge j m with h | h
          · exact .inl ⟨j, h, e⟩
          · obtain rfl : j = m := by omega
            exact .inr e.symm
    · rw [if_neg hk, List.append_nil]
      refine ⟨h1, fun x => (h2 x).trans ?_⟩
      have hk2 : ¬ (m = 0 ∨ d[m]! ≠ d[m - 1]!) := fun c => hk (decide_eq_true c)
      constructor
      · rintro ⟨j, hj, e⟩
        exact ⟨j, by omega, e⟩
      · rintro ⟨j, hj, e⟩
        rcases Nat.lt_or_ge j m with h | h
        · exact ⟨j, h, e⟩
        · obtain rfl : j = m := by omega
          refine ⟨j - 1, by omega, ?_⟩
          rw [← e]
          exact (Classical.not_not.1 fun c => hk2 (.inr c)).symm
/-- The members of a list, rising, each once. -/
def srt (l : List Int) : List Int := Lib.compact (l.mergeSort fun x y => decide (x ≤ y))
theorem srt_spec (l : List Int) : (srt l).Pairwise (· < ·) ∧ ∀ x, x ∈ srt l ↔ x ∈ l := by
  have hs : (l.mergeSort fun x y => decide (x ≤ y)).Pairwise fun x y => decide (x ≤ y) := List.pairwise_mergeSort (by intro a b c h1 h2; simp at *; omega) (by intro a b; simp; omega) l
  have hm : ∀ x, x ∈ (l.mergeSort fun x y => decide (x ≤ y)) ↔ x ∈ l := fun x => List.mem_mergeSort
  unfold srt
  generalize (l.mergeSort fun x y => decide (x ≤ y)) = s at hs hm
  have hd : ∀ i j, i ≤ j → j < s.toArray.size → s.toArray[i]! ≤ s.toArray[j]! := by
    intro i j hij hj
    rw [List.size_toArray] at hj
    rw [getElem!_pos s.toArray i (by rw [List.size_toArray]; omega), getElem!_pos s.toArray j (by rw [List.size_toArray]; omega), List.getElem_toArray, List.getElem_toArray]
    rcases Nat.lt_or_ge i j with h | h
    · have := List.pairwise_iff_getElem.1 hs i j (by omega) hj h
      exact of_decide_eq_true this
    · obtain rfl : i = j := by omega
      exact Int.le_refl _
  obtain ⟨h1, h2⟩ := compactUpTo_spec s.toArray hd s.length (by simp)
  refine ⟨h1, fun x => ?_⟩
  unfold Lib.compact
  rw [h2, ← hm]
  constructor
  · rintro ⟨j, hj, e⟩
    rw [getElem!_pos s.toArray j (by rw [List.size_toArray]; omega), List.getElem_toArray] at e
    exact e ▸ List.getElem_mem _
  · intro h
    obtain ⟨j, hj, e⟩ := List.getElem_of_mem h
    refine ⟨j, hj, ?_⟩
    rw [getElem!_pos s.toArray j (by rw [List.size_toArray]; omega), List.getElem_toArray]
    exact e
theorem srt_mem {l : List Int} {x : Int} : x ∈ srt l ↔ x ∈ l := (srt_spec l).2 x
theorem srt_sorted (l : List Int) : (srt l).Pairwise (· < ·) := (srt_spec l).1
theorem srt_eq {l s : List Int} (h : s.Pairwise (· < ·)) (hm : ∀ x, x ∈ s ↔ x ∈ l) : srt l = s := sorted_ext _ _ (srt_sorted l) h fun x => srt_mem.trans (hm x).symm

end Go.Proofs.Ytlngnnkkaepeeaa.M

/-! ## E0 -/
namespace Go.Proofs.Ytlngnnkkaepeeaa.L
open Go.RowKit Go.Proofs.YtlngnnkkaepeeaaW.PrintWords Go.Proofs.Ytlngnnkkaepeeaa.P
set_option linter.unusedVariables false
set_option linter.unusedSimpArgs false

theorem eqIntS_l0 (a : List Int) (hl : a.length ≤ 1099511627776) : ∀ (s : List Int) (i : Nat), a.drop i = s → Evl (fun k => laws_eqIntS.l0 k a a (i : Int)) true := by
  intro s
  induction s with
  | nil =>
    intro i h
    have hi := drop_nil h
    refine Evl.succ ?_
    have h1 : ¬ (i : Int) < (a.length : Int) := by omega
    simp only [laws_eqIntS.l0, if_neg h1]
    exact Evl.ret _
  | cons x s ih =>
    intro i h
    obtain ⟨hi, hx, hs⟩ := drop_cons h
    have hw : wrap64 ((i : Int) + 1) = ((i + 1 : Nat) : Int) := by rw [w64 (by omega) (by omega)]; rfl
    refine Evl.succ ?_
    have h1 : (i : Int) < (a.length : Int) := by omega
    have h2 : (0 : Int) ≤ (i : Int) := by omega
    simp only [laws_eqIntS.l0, if_pos h1, if_pos h2, if_true, hw]
    exact ih (i + 1) hs
theorem eqIntS_self (a : List Int) (hl : a.length ≤ 1099511627776) : Evl (fun k => laws_eqIntS.f k a a) true := by
  simp only [laws_eqIntS.f, if_true]
  exact eqIntS_l0 a hl a 0 rfl

theorem toIntS_l0 (a : List Int) (hl : a.length ≤ 1099511627776) : ∀ (s pre t : List Int) (i : Nat), pre.length = i → a = pre ++ s → t.length = s.length → Evl (fun k => laws_toIntS.l0 k a (pre ++ t) (i : Int)) a := by
  intro s
  induction s with
  | nil =>
    intro pre t i hi ha ht
    obtain rfl : t = [] := List.eq_nil_of_length_eq_zero ht
    refine Evl.succ ?_
    have h1 : ¬ (i : Int) < (a.length : Int) := by rw [ha, List.append_nil]; omega
    simp only [laws_toIntS.l0, if_neg h1]
    rw [← ha]
    exact Evl.ret _
  | cons x s ih =>
    intro pre t i hi ha ht
    obtain ⟨y, t, rfl⟩ : ∃ y t', t = y :: t' := by
      cases t with
      | nil => cases ht
      | cons y t => exact ⟨y, t, rfl⟩
    have hal : a.length = i + (s.length + 1) := by rw [ha, List.length_append, hi, List.length_cons]
    have h1 : (i : Int) < (a.length : Int) := by omega
    have h0 : (0 : Int) ≤ (i : Int) := by omega
    have h2 : (i : Int) < ((pre ++ y :: t).length : Int) := by rw [List.length_append, List.length_cons]; omega
    have hx : rd a (i : Int) = x := rd_of (by rw [ha, List.getElem?_append_right (by omega), hi, Nat.sub_self]; rfl)
    have hw : wrap64 ((i : Int) + 1) = ((i + 1 : Nat) : Int) := by rw [w64 (by omega) (by omega)]; rfl
    have hset : (pre ++ y :: t).set (i : Int).toNat x = (pre ++ [x]) ++ t := by
      rw [Int.toNat_natCast, ← hi, List.set_append_right _ _ (Nat.le_refl _), Nat.sub_self, List.set_cons_zero, List.append_assoc]
      rfl
    refine Evl.succ ?_
    simp only [laws_toIntS.l0, if_pos h1, if_pos h0, if_pos h2, hx, hw, hset]
    refine ih (pre ++ [x]) t (i + 1) (by rw [List.length_append, hi]; rfl) (by rw [ha, List.append_assoc]; rfl) ?_
    rw [List.length_cons, List.length_cons] at ht
    omega
theorem toIntS_ev (a : List Int) (hl : a.length ≤ 1099511627776) : Evl (fun k => laws_toIntS.f k a) a := by
  have h0 : (0 : Int) ≤ (a.length : Int) := by omega
  have h1 : ((a.length : Int)).toNat ≤ 35184372088832 := by omega
  simp only [laws_toIntS.f, if_pos h0, if_pos h1]
  exact toIntS_l0 a hl a [] (List.replicate _ 0) 0 rfl rfl (by rw [List.length_replicate]; exact Int.toNat_natCast _)

end Go.Proofs.Ytlngnnkkaepeeaa.L

/-! ## X2 -/
namespace Go.Proofs.Ytlngnnkkaepeeaa.L
open Go.RowKit Go.Proofs.YtlngnnkkaepeeaaW.PrintWords Go.Proofs.Ytlngnnkkaepeeaa.P Go.Proofs.Ytlngnnkkaepeeaa.M
set_option linter.unusedVariables false
set_option linter.unusedSimpArgs false

/-- From the second offset on: rising, at most 60. -/
def chk : Int → List Int → Bool
  | _, [] => true
  | p, x :: s => decide (p < x) && (decide (x ≤ 60) && chk x s)
def pat : List Int → Bool
  | [] => false
  | x :: s => decide (s.length ≤ 7) && (decide (x = 0) && chk x s)
theorem pat_len {l : List Int} (h : pat l = true) : 1 ≤ l.length ∧ l.length ≤ 8 := by
  cases l with
  | nil => cases h
  | cons x s =>
    simp only [pat, Bool.and_eq_true, decide_eq_true_eq] at h
    rw [List.length_cons]
    omega

theorem isPattern_l0 (l : List Int) (hl : l.length ≤ 1099511627776) : ∀ (s : List Int) (i : Nat) (p : Int), 1 ≤ i → l[i - 1]? = some p → l.drop i = s →
    Evl (fun k => impl_isPattern.l0 k l l (l.length : Int) (i : Int)) (chk p s && decide (l.length ≤ 8)) := by
  intro s
  induction s with
  | nil =>
    intro i p h1 hp h
    have hi := drop_nil h
    refine Evl.succ ?_
    have c1 : ¬ (i : Int) < (l.length : Int) := by omega
    have c2 : (l.length : Int) ≥ 1 := by
      have := (List.getElem?_eq_some_iff.1 hp).1
      omega
    simp only [impl_isPattern.l0, if_neg c1, if_pos c2]
    refine (Evl.ret _).cast ?_
    simp only [chk, Bool.true_and]
    by_cases c : l.length ≤ 8
    · rw [decide_eq_true c, decide_eq_true (by omega)]
    · rw [decide_eq_false c, decide_eq_false (by omega)]
  | cons x s ih =>
    intro i p h1 hp h
    obtain ⟨hi, hx, hs⟩ := drop_cons h
    have c1 : (i : Int) < (l.length : Int) := by omega
    have c2 : (0 : Int) ≤ (i : Int) := by omega
    have c3 : ¬ (i : Int) = 0 := by omega
    have c4 : (i : Int) > 0 := by omega
    have hw0 : wrap64 ((i : Int) - 1) = ((i - 1 : Nat) : Int) := by rw [w64 (by omega) (by omega)]; omega
    have c5 : (0 : Int) ≤ ((i - 1 : Nat) : Int) := by omega
    have c6 : ((i - 1 : Nat) : Int) < (l.length : Int) := by omega
    have hrp : rd l ((i - 1 : Nat) : Int) = p := rd_of hp
    have hrx : rd l (i : Int) = x := rd_of hx
    have hw : wrap64 ((i : Int) + 1) = ((i + 1 : Nat) : Int) := by rw [w64 (by omega) (by omega)]; rfl
    refine Evl.succ ?_
    simp only [impl_isPattern.l0, if_pos c1, if_pos c2, if_neg c3, if_pos c4, hw0, if_pos c5, if_pos c6, hrp, hrx, hw]
    by_cases c7 : p ≥ x
    · simp only [if_pos c7]
      refine (Evl.ret _).cast ?_
      simp only [chk]
      rw [decide_eq_false (by omega)]
      rfl
    · simp only [if_neg c7]
      by_cases c8 : x > 60
      · simp only [if_pos c8]
        refine (Evl.ret _).cast ?_
        simp only [chk]
        rw [decide_eq_true (show p < x by omega), decide_eq_false (show ¬ x ≤ 60 by omega)]
        rfl
      · simp only [if_neg c8]
        refine (ih (i + 1) x (by omega) (by rw [Nat.add_sub_cancel]; exact hx) hs).cast ?_
        simp only [chk]
        rw [decide_eq_true (show p < x by omega), decide_eq_true (show x ≤ 60 by omega), Bool.true_and, Bool.true_and]
theorem isPattern_ev (l : List Int) (hl : l.length ≤ 1099511627776) : Evl (fun k => impl_isPattern.f k l) (pat l) := by
  simp only [impl_isPattern.f]
  cases l with
  | nil =>
    refine Evl.succ ?_
    have c1 : ¬ (0 : Int) < (([] : List Int).length : Int) := by simp
    have c2 : ¬ (([] : List Int).length : Int) ≥ 1 := by simp
    simp only [impl_isPattern.l0, if_neg c1, if_neg c2]
    exact Evl.ret _
  | cons x s =>
    have c1 : (0 : Int) < ((x :: s).length : Int) := by rw [List.length_cons]; omega
    have hrx : rd (x :: s) 0 = x := rfl
    have hw : wrap64 (0 + 1) = ((1 : Nat) : Int) := by rw [w64 (by omega) (by omega)]; rfl
    refine Evl.succ ?_
    simp only [impl_isPattern.l0, if_pos c1, if_pos (show (0 : Int) ≤ 0 by omega), if_true, hrx, if_neg (show ¬ (0 : Int) > 0 by omega), hw]
    by_cases c2 : x = 0
    · have c3 : ¬ x > 60 := by omega
      simp only [if_pos c2, if_neg c3]
      refine (isPattern_l0 (x :: s) hl s 1 x (by omega) rfl rfl).cast ?_
      simp only [pat, List.length_cons]
      rw [decide_eq_true c2, Bool.true_and, Bool.and_comm]
      by_cases c : s.length ≤ 7
      · rw [decide_eq_true c, decide_eq_true (by omega)]
      · rw [decide_eq_false c, decide_eq_false (by omega)]
    · simp only [if_neg c2]
      refine (Evl.ret _).cast ?_
      simp only [pat]
      rw [decide_eq_false c2, Bool.false_and, Bool.and_false]

/-- The reference's way: the bound is asked of the last one alone. -/
def sp : Int → List Int → Bool
  | p, [] => decide (p ≤ 60)
  | p, x :: s => if x ≤ p then false else sp x s
theorem sp_chk : ∀ (s : List Int) (p : Int), sp p s = (decide (p ≤ 60) && chk p s)
  | [], p => by simp [sp, chk]
  | x :: s, p => by
    unfold sp chk
    rw [sp_chk s x]
    by_cases c : x ≤ p
    · rw [if_pos c, decide_eq_false (show ¬ p < x by omega), Bool.false_and, Bool.and_false]
    · rw [if_neg c, decide_eq_true (show p < x by omega), Bool.true_and]
      by_cases c2 : x ≤ 60
      · simp [c2, show p ≤ 60 by omega]
      · rw [decide_eq_false c2, Bool.false_and, Bool.and_false]
theorem reGood_l0 (l : List Int) (hl : l.length ≤ 1099511627776) : ∀ (s : List Int) (i : Nat) (p : Int), 1 ≤ i → l[i - 1]? = some p → l.drop i = s →
    Evl (fun k => spec_reGood.l0 k l (i : Int)) (sp p s) := by
  intro s
  induction s with
  | nil =>
    intro i p h1 hp h
    have hi := drop_nil h
    have hlt := (List.getElem?_eq_some_iff.1 hp).1
    have hw : wrap64 ((l.length : Int) - 1) = ((i - 1 : Nat) : Int) := by rw [w64 (by omega) (by omega)]; omega
    have hrp : rd l ((i - 1 : Nat) : Int) = p := rd_of hp
    refine Evl.succ ?_
    simp only [spec_reGood.l0, if_neg (show ¬ (i : Int) < (l.length : Int) by omega), hw, if_pos (show (0 : Int) ≤ ((i - 1 : Nat) : Int) by omega), if_pos (show ((i - 1 : Nat) : Int) < (l.length : Int) by omega), hrp]
    exact Evl.ret _
  | cons x s ih =>
    intro i p h1 hp h
    obtain ⟨hi, hx, hs⟩ := drop_cons h
    have hw0 : wrap64 ((i : Int) - 1) = ((i - 1 : Nat) : Int) := by rw [w64 (by omega) (by omega)]; omega
    have hrp : rd l ((i - 1 : Nat) : Int) = p := rd_of hp
    have hrx : rd l (i : Int) = x := rd_of hx
    have hw : wrap64 ((i : Int) + 1) = ((i + 1 : Nat) : Int) := by rw [w64 (by omega) (by omega)]; rfl
    refine Evl.succ ?_
    simp only [spec_reGood.l0, if_pos (show (i : Int) < (l.length : Int) by omega), if_pos (show (0 : Int) ≤ (i : Int) by omega), hw0, if_pos (show (0 : Int) ≤ ((i - 1 : Nat) : Int) by omega), if_pos (show ((i - 1 : Nat) : Int) < (l.length : Int) by omega), hrp, hrx, hw]
    unfold sp
    by_cases c : x ≤ p
    · simp only [if_pos c]
      exact Evl.ret _
    · simp only [if_neg c]
      exact ih (i + 1) x (by omega) (by rw [Nat.add_sub_cancel]; exact hx) hs
theorem reGood_no (l : List Int) : Evl (fun k => spec_reGood.j0 k l true) false := by
  refine Evl.succ ?_
  simp only [spec_reGood.j0, if_true]
  exact Evl.ret _
theorem reGood_ev (l : List Int) (hl : l.length ≤ 1099511627776) : Evl (fun k => spec_reGood.f k l) (pat l) := by
  simp only [spec_reGood.f, l1In_eq, Option.bind_some]
  cases l with
  | nil =>
    rw [show decide (1 ≤ ((([] : List Int).length : Nat) : Int) ∧ ((([] : List Int).length : Nat) : Int) ≤ 8) = false from rfl]
    simp only [Bool.false_eq_true, if_false]
    exact reGood_no []
  | cons x s =>
    by_cases c : s.length ≤ 7
    · simp only [decide_eq_true (show 1 ≤ (((x :: s).length : Nat) : Int) ∧ (((x :: s).length : Nat) : Int) ≤ 8 by rw [List.length_cons]; omega), if_true, if_pos (show (0 : Int) < (((x :: s).length : Nat) : Int) by rw [List.length_cons]; omega)]
      have hrx : rd (x :: s) 0 = x := rfl
      rw [hrx]
      by_cases c2 : x = 0
      · subst c2
        refine Evl.succ ?_
        simp only [spec_reGood.j0, bne_self_eq_false, Bool.false_eq_true, if_false]
        refine (reGood_l0 (0 :: s) hl s 1 0 (by omega) rfl rfl).cast ?_
        rw [sp_chk]
        simp only [pat]
        rw [decide_eq_true c]
        rfl
      · rw [bne_iff_ne.2 c2]
        refine (reGood_no _).cast ?_
        simp only [pat]
        rw [decide_eq_false c2, Bool.false_and, Bool.and_false]
    · simp only [decide_eq_false (show ¬ (1 ≤ (((x :: s).length : Nat) : Int) ∧ (((x :: s).length : Nat) : Int) ≤ 8) by rw [List.length_cons]; omega), Bool.false_eq_true, if_false]
      refine (reGood_no _).cast ?_
      simp only [pat]
      rw [decide_eq_false c, Bool.false_and]


end Go.Proofs.Ytlngnnkkaepeeaa.L

/-! ## E11 -/
namespace Go.Proofs.Ytlngnnkkaepeeaa.L
open Go.RowKit Go.Proofs.YtlngnnkkaepeeaaW.PrintWords Go.Proofs.Ytlngnnkkaepeeaa.P Go.Proofs.Ytlngnnkkaepeeaa.M
set_option linter.unusedVariables false
set_option linter.unusedSimpArgs false

theorem chk_range : ∀ (s : List Int) (p : Int), chk p s = true → ∀ x ∈ s, p < x ∧ x ≤ 60
  | [], p, _, x, hx => absurd hx (by simp)
  | y :: s, p, h, x, hx => by
    simp only [chk, Bool.and_eq_true, decide_eq_true_eq] at h
    rcases List.mem_cons.1 hx with rfl | hx
    · exact ⟨h.1, h.2.1⟩
    · have := chk_range s y h.2.2 x hx
      omega
theorem pat_range {l : List Int} (h : pat l = true) : ∀ x ∈ l, 0 ≤ x ∧ x ≤ 60 := by
  cases l with
  | nil => cases h
  | cons y s =>
    simp only [pat, Bool.and_eq_true, decide_eq_true_eq] at h
    intro x hx
    rcases List.mem_cons.1 hx with rfl | hx
    · omega
    · have := chk_range s y h.2.2 x hx
      omega
theorem pat_ne {l : List Int} (h : pat l = true) : l ≠ [] := fun e => by rw [e] at h; cases h
theorem tmod_nn {a b : Int} (h : 0 ≤ a) : Int.tmod a b = a % b := Int.tmod_eq_emod_of_nonneg h
theorem SortCompact (l : List Int) (h : l ≠ []) (hl : l.length < 1000000000000) : ∃ s, slices_Sort_int_int.f l = some s ∧ slices_Compact_int_int.f s = some (srt l) := by
  have h0 : ¬ l.length = 0 := fun c => h (List.eq_nil_of_length_eq_zero c)
  refine ⟨l.mergeSort fun x y => decide (x ≤ y), ?_, ?_⟩
  · unfold slices_Sort_int_int.f
    rw [if_neg h0, if_pos (by omega)]
  · unfold slices_Compact_int_int.f
    rw [if_neg (by rw [List.length_mergeSort]; exact h0)]
    rfl
/-- The remainders of offsets modulo a number, rising, each once. -/
def res (l : List Int) (p : Int) : List Int := srt (l.map fun o => o % p)
def hasR (p r : Int) : List Int → Bool
  | [] => false
  | o :: s => if o % p = r then true else hasR p r s
theorem hasR_iff {p r : Int} : ∀ {s : List Int}, hasR p r s = true ↔ ∃ o ∈ s, o % p = r
  | [] => by simp [hasR]
  | o :: s => by
    unfold hasR
    by_cases e : o % p = r
    · rw [if_pos e]; exact ⟨fun _ => ⟨o, List.mem_cons_self .., e⟩, fun _ => rfl⟩
    · rw [if_neg e, hasR_iff]
      constructor
      · rintro ⟨q, hq, h⟩; exact ⟨q, List.mem_cons_of_mem _ hq, h⟩
      · rintro ⟨q, hq, h⟩
        rcases List.mem_cons.1 hq with rfl | hq
        · exact absurd h e
        · exact ⟨q, hq, h⟩
/-- Of m remainders from r on those that offsets have. -/
def rr (p : Int) (l : List Int) : Nat → Int → List Int
  | 0, _ => []
  | m + 1, r => if hasR p r l = true then r :: rr p l m (r + 1) else rr p l m (r + 1)
theorem rr_mem (p : Int) (l : List Int) : ∀ (m : Nat) (r x : Int), x ∈ rr p l m r ↔ r ≤ x ∧ x < r + m ∧ hasR p x l = true
  | 0, r, x => by
    unfold rr
    exact ⟨fun h => absurd h (by simp), fun h => by omega⟩
  | m + 1, r, x => by
    unfold rr
    have ih := rr_mem p l m (r + 1) x
    by_cases h : hasR p r l = true
    · rw [if_pos h, List.mem_cons, ih]
      constructor
      · rintro (rfl | ⟨h1, h2, h3⟩)
        · exact ⟨Int.le_refl _, by omega, h⟩
        · exact ⟨by omega, by omega, h3⟩
      · rintro ⟨h1, h2, h3⟩
        by_cases e : x = r
        · exact .inl e
        · exact .inr ⟨by omega, by omega, h3⟩
    · rw [if_neg h, ih]
      constructor
      · rintro ⟨h1, h2, h3⟩; exact ⟨by omega, by omega, h3⟩
      · rintro ⟨h1, h2, h3⟩
        have e : x ≠ r := fun e => h (e ▸ h3)
        exact ⟨by omega, by omega, h3⟩
theorem rr_sorted (p : Int) (l : List Int) : ∀ (m : Nat) (r : Int), (rr p l m r).Pairwise (· < ·)
  | 0, _ => List.Pairwise.nil
  | m + 1, r => by
    unfold rr
    have ih := rr_sorted p l m (r + 1)
    split
    · refine List.Pairwise.cons (fun x hx => ?_) ih
      have := (rr_mem p l m (r + 1) x).1 hx
      omega
    · exact ih
theorem rr_length (p : Int) (l : List Int) : ∀ (m : Nat) (r : Int), (rr p l m r).length ≤ m
  | 0, _ => Nat.le_refl _
  | m + 1, r => by
    unfold rr
    have := rr_length p l m (r + 1)
    split
    · rw [List.length_cons]; omega
    · omega
theorem res_eq (l : List Int) (p : Nat) (hp : 1 ≤ p) : res l (p : Int) = rr (p : Int) l p 0 := by
  refine srt_eq (rr_sorted _ _ _ _) fun x => ?_
  rw [rr_mem, hasR_iff, List.mem_map]
  constructor
  · rintro ⟨_, _, h⟩; exact h
  · rintro ⟨o, ho, rfl⟩
    exact ⟨Int.emod_nonneg _ (by omega), by have := Int.emod_lt_of_pos o (show (0 : Int) < (p : Int) by omega); omega, o, ho, rfl⟩
theorem res_le (l : List Int) (p : Nat) (hp : 1 ≤ p) : (res l (p : Int)).length ≤ p := by rw [res_eq l p hp]; exact rr_length _ _ _ _
theorem reRests_l1 (l : List Int) (hl : l.length ≤ 1000) (h0 : ∀ x ∈ l, 0 ≤ x) (p : Nat) (hp : 1 ≤ p) (acc : List Int) (ha : acc.length ≤ 1000000) (r : Int) (hr : wrap64 (r + 1) = r + 1) {R : List Int} :
    ∀ (s : List Int) (i : Nat), l.drop i = s → Evl (fun k => spec_reRests.l0 k l (p : Int) (if hasR (p : Int) r s = true then acc ++ [r] else acc) (r + 1)) R → Evl (fun k => spec_reRests.l1 k l (p : Int) acc r l (l.length : Int) (i : Int)) R := by
  intro s
  induction s with
  | nil =>
    intro i h hR
    have hi := drop_nil h
    refine Evl.succ ?_
    simp only [spec_reRests.l1, if_neg (show ¬ (i : Int) < (l.length : Int) by omega), hr]
    exact hR
  | cons y s ih =>
    intro i h hR
    obtain ⟨hi, hx, hs⟩ := drop_cons h
    have hw : wrap64 ((i : Int) + 1) = ((i + 1 : Nat) : Int) := by rw [w64 (by omega) (by omega)]; rfl
    refine Evl.succ ?_
    simp only [spec_reRests.l1, if_pos (show (i : Int) < (l.length : Int) by omega), if_pos (show (0 : Int) ≤ (i : Int) by omega), if_neg (show ¬ (p : Int) = 0 by omega), if_pos (show acc.length < 17592186044416 by omega), rd_of hx, tmod_nn (h0 y (List.mem_of_getElem? hx)), hw, hr]
    unfold hasR at hR
    by_cases e : y % (p : Int) = r
    · rw [if_pos e] at hR
      simp only [if_pos e]
      exact hR
    · rw [if_neg e] at hR
      simp only [if_neg e]
      exact ih (i + 1) hs hR
theorem reRests_l0 (l : List Int) (hl : l.length ≤ 1000) (h0 : ∀ x ∈ l, 0 ≤ x) (p : Nat) (hp : 1 ≤ p) (hp2 : p ≤ 1000) : ∀ (m r : Nat) (acc : List Int), m + r = p → acc.length ≤ r → Evl (fun k => spec_reRests.l0 k l (p : Int) acc (r : Int)) (acc ++ rr (p : Int) l m (r : Int)) := by
  intro m
  induction m with
  | zero =>
    intro r acc h _
    refine Evl.succ ?_
    simp only [spec_reRests.l0, if_neg (show ¬ (r : Int) < (p : Int) by omega)]
    refine (Evl.ret _).cast ?_
    simp [rr]
  | succ m ih =>
    intro r acc h ha
    refine Evl.succ ?_
    simp only [spec_reRests.l0, if_pos (show (r : Int) < (p : Int) by omega)]
    refine reRests_l1 l hl h0 p hp acc (by omega) (r : Int) (w64 (by omega) (by omega)) l 0 rfl ?_
    unfold rr
    by_cases c : hasR (p : Int) (r : Int) l = true
    · rw [if_pos c, if_pos c]
      refine (ih (r + 1) (acc ++ [(r : Int)]) (by omega) (by rw [List.length_append, List.length_singleton]; omega)).cast ?_
      rw [List.append_assoc]
      rfl
    · rw [if_neg c, if_neg c]
      exact ih (r + 1) acc (by omega) (by omega)
theorem reRests_ev (l : List Int) (hl : l.length ≤ 1000) (h0 : ∀ x ∈ l, 0 ≤ x) (p : Nat) (hp : 1 ≤ p) (hp2 : p ≤ 1000) : Evl (fun k => spec_reRests.f k l (p : Int)) (res l (p : Int)) := by
  simp only [spec_reRests.f]
  rw [res_eq l p hp]
  exact reRests_l0 l hl h0 p hp hp2 p 0 [] (by omega) (by simp)
theorem restsOf_l0 (l : List Int) (hl : l.length ≤ 1000) (hne : l ≠ []) (h0 : ∀ x ∈ l, 0 ≤ x) (p : Nat) (hp : 1 ≤ p) : ∀ (s : List Int) (i : Nat) (acc : List Int), l.drop i = s → acc.length = i → acc ++ (s.map fun o => o % (p : Int)) = l.map (fun o => o % (p : Int)) → Evl (fun k => impl_restsOf.l0 k (p : Int) acc l (l.length : Int) (i : Int)) (res l (p : Int)) := by
  intro s
  induction s with
  | nil =>
    intro i acc h hai he
    have hi := drop_nil h
    rw [List.map_nil, List.append_nil] at he
    refine Evl.succ ?_
    obtain ⟨q, h1, h2⟩ := SortCompact acc (by rw [he]; simpa using hne) (by rw [he, List.length_map]; omega)
    simp only [impl_restsOf.l0, if_neg (show ¬ (i : Int) < (l.length : Int) by omega), h1, h2, Option.bind_some]
    refine (Evl.ret _).cast ?_
    rw [he]
    rfl
  | cons y s ih =>
    intro i acc h hai he
    obtain ⟨hi, hx, hs⟩ := drop_cons h
    have hw : wrap64 ((i : Int) + 1) = ((i + 1 : Nat) : Int) := by rw [w64 (by omega) (by omega)]; rfl
    refine Evl.succ ?_
    simp only [impl_restsOf.l0, if_pos (show (i : Int) < (l.length : Int) by omega), if_pos (show (0 : Int) ≤ (i : Int) by omega), if_neg (show ¬ (p : Int) = 0 by omega), if_pos (show acc.length < 17592186044416 by omega), rd_of hx, tmod_nn (h0 y (List.mem_of_getElem? hx)), hw]
    refine ih (i + 1) _ hs (by rw [List.length_append, List.length_singleton, hai]) ?_
    rw [← he, List.map_cons, List.append_assoc]
    rfl
theorem restsOf_ev (l : List Int) (hl : l.length ≤ 1000) (hne : l ≠ []) (h0 : ∀ x ∈ l, 0 ≤ x) (p : Nat) (hp : 1 ≤ p) : Evl (fun k => impl_restsOf.f k l (p : Int)) (res l (p : Int)) := by
  simp only [impl_restsOf.f]
  exact restsOf_l0 l hl hne h0 p hp l 0 [] rfl rfl rfl
end Go.Proofs.Ytlngnnkkaepeeaa.L

/-! ## M2 -/
namespace Go.Proofs.Ytlngnnkkaepeeaa.M
set_option linter.unusedVariables false
set_option linter.unusedSimpArgs false

/-- A rule: every, rest. -/
abbrev Ru := Int × Int
def okR (r : Ru) : Bool := decide (2 ≤ r.1 ∧ r.1 ≤ 60 ∧ 0 ≤ r.2 ∧ r.2 < r.1)
def good (rs : List Ru) : Bool := decide (rs.length ≤ 12) && rs.all okR
def left (rs : List Ru) (n : Int) : Bool := rs.all fun r => decide (n % r.1 ≠ r.2)
theorem good_ok {rs : List Ru} (h : good rs = true) {r : Ru} (hr : r ∈ rs) : 2 ≤ r.1 ∧ r.1 ≤ 60 ∧ 0 ≤ r.2 ∧ r.2 < r.1 := by
  unfold good at h
  rw [Bool.and_eq_true] at h
  exact of_decide_eq_true (List.all_eq_true.1 h.2 r hr)
/-- The numbers among m from n on that are left. -/
def lb (rs : List Ru) : Nat → Int → List Int
  | 0, _ => []
  | m + 1, n => if left rs n = true then n :: lb rs m (n + 1) else lb rs m (n + 1)
/-- The period of rules, if it is not too great. -/
def per : Nat → List Ru → Option Nat
  | p, [] => some p
  | p, r :: rs => if 100000 < p / Nat.gcd p r.1.toNat * r.1.toNat then none else per (p / Nat.gcd p r.1.toNat * r.1.toNat) rs
theorem left_add {rs : List Ru} {P : Nat} (hd : ∀ r ∈ rs, r.1.toNat ∣ P) (hp : ∀ r ∈ rs, 1 ≤ r.1) (n k : Int) : left rs (n + P * k) = left rs n := by
  unfold left
  have : ∀ (q : List Ru), (∀ r ∈ q, r ∈ rs) → (q.all fun r => decide ((n + P * k) % r.1 ≠ r.2)) = q.all fun r => decide (n % r.1 ≠ r.2) := by
    intro q
    induction q with
    | nil => intro _; rfl
    | cons r q ih =>
      intro hq
      have hr := hq r (by simp)
      obtain ⟨c, hc⟩ := hd r hr
      have h1 := hp r hr
      have e : (P : Int) = r.1 * (c : Int) := by
        rw [hc, Int.natCast_mul, Int.toNat_of_nonneg (by omega)]
      have e2 : (n + P * k) % r.1 = n % r.1 := by
        rw [e, Int.mul_assoc, Int.add_mul_emod_self_left]
      rw [List.all_cons, List.all_cons, ih (fun r hr => hq r (by simp [hr])), e2]
  exact this rs (fun r hr => hr)

structure Wheel (rs : List Ru) (P : Nat) : Prop where
  good : good rs = true
  per : per 1 rs = some P
  pos : 1 ≤ P
  most : P ≤ 5000
  dvd : ∀ r ∈ rs, r.1.toNat ∣ P
  some : lb rs P 1 ≠ []
theorem Wheel.one {rs : List Ru} {P : Nat} (h : Wheel rs P) : ∀ r ∈ rs, 1 ≤ r.1 := fun r hr => by have := good_ok h.good hr; omega
theorem Wheel.add {rs : List Ru} {P : Nat} (h : Wheel rs P) (n k : Int) : left rs (n + P * k) = left rs n := left_add h.dvd h.one n k
theorem Wheel.on {rs : List Ru} {P : Nat} (h : Wheel rs P) (n : Int) : left rs (n + P) = left rs n := by
  have := h.add n 1
  rw [Int.mul_one] at this
  exact this

end Go.Proofs.Ytlngnnkkaepeeaa.M

/-! ## E5 -/
namespace Go.Proofs.Ytlngnnkkaepeeaa.L
open Go.RowKit Go.Proofs.YtlngnnkkaepeeaaW.PrintWords Go.Proofs.Ytlngnnkkaepeeaa.P Go.Proofs.Ytlngnnkkaepeeaa.M
set_option linter.unusedVariables false
set_option linter.unusedSimpArgs false

/-- A rule as a pair. -/
def ru (x : S60) : Ru := (x.f0, x.f1)
def rs (l : List S60) : List Ru := l.map ru
/-! ### valid rules -/
end Go.Proofs.Ytlngnnkkaepeeaa.L

/-! ## E6 -/
namespace Go.Proofs.Ytlngnnkkaepeeaa.L
open Go.RowKit Go.Proofs.YtlngnnkkaepeeaaW.PrintWords Go.Proofs.Ytlngnnkkaepeeaa.P Go.Proofs.Ytlngnnkkaepeeaa.M
set_option linter.unusedVariables false
set_option linter.unusedSimpArgs false

/-! ### periods -/
theorem impl_gcd_l0 : ∀ (b a : Nat), Evl (fun k => impl_gcd.l0 k (a : Int) (b : Int)) ((Nat.gcd a b : Nat) : Int) := by
  intro b
  induction b using Nat.strongRecOn with
  | ind b ih =>
    intro a
    refine Evl.succ ?_
    rcases Nat.eq_zero_or_pos b with h | h
    · subst h
      simp only [impl_gcd.l0, if_neg (show ¬ ((0 : Nat) : Int) > 0 by omega)]
      rw [Nat.gcd_zero_right]
      exact Evl.ret _
    · have ht : Int.tmod (a : Int) (b : Int) = ((a % b : Nat) : Int) := rfl
      simp only [impl_gcd.l0, if_pos (show (b : Int) > 0 by omega), if_neg (show ¬ (b : Int) = 0 by omega), ht]
      refine (ih (a % b) (Nat.mod_lt _ h) b).cast ?_
      rw [Nat.gcd_comm, ← Nat.gcd_rec, Nat.gcd_comm]
theorem impl_gcd_ev (a b : Nat) : Evl (fun k => impl_gcd.f k (a : Int) (b : Int)) ((Nat.gcd a b : Nat) : Int) := by
  simp only [impl_gcd.f]
  exact impl_gcd_l0 b a
theorem spec_siCommon_l0 : ∀ (b a : Nat), Evl (fun k => spec_siCommon.l0 k (a : Int) (b : Int)) ((Nat.gcd a b : Nat) : Int) := by
  intro b
  induction b using Nat.strongRecOn with
  | ind b ih =>
    intro a
    refine Evl.succ ?_
    rcases Nat.eq_zero_or_pos b with h | h
    · subst h
      simp only [spec_siCommon.l0, if_neg (show ¬ ((0 : Nat) : Int) > 0 by omega)]
      rw [Nat.gcd_zero_right]
      exact Evl.ret _
    · have ht : Int.tmod (a : Int) (b : Int) = ((a % b : Nat) : Int) := rfl
      simp only [spec_siCommon.l0, if_pos (show (b : Int) > 0 by omega), if_neg (show ¬ (b : Int) = 0 by omega), ht]
      refine (ih (a % b) (Nat.mod_lt _ h) b).cast ?_
      rw [Nat.gcd_comm, ← Nat.gcd_rec, Nat.gcd_comm]
theorem spec_siCommon_ev (a b : Nat) : Evl (fun k => spec_siCommon.f k (a : Int) (b : Int)) ((Nat.gcd a b : Nat) : Int) := by
  simp only [spec_siCommon.f]
  exact spec_siCommon_l0 b a
end Go.Proofs.Ytlngnnkkaepeeaa.L

/-! ## X12 -/
namespace Go.Proofs.Ytlngnnkkaepeeaa.L
open Go.RowKit Go.Proofs.YtlngnnkkaepeeaaW.PrintWords Go.Proofs.Ytlngnnkkaepeeaa.P Go.Proofs.Ytlngnnkkaepeeaa.M
set_option linter.unusedVariables false
set_option linter.unusedSimpArgs false

theorem pat_small {l : List Int} (h : pat l = true) : l.length ≤ 1000 := by have := pat_len h; omega
theorem pat_nn {l : List Int} (h : pat l = true) : ∀ x ∈ l, 0 ≤ x := fun x hx => (pat_range h x hx).1
/-- How many numbers of a period are places, and the period. -/
def plc (l : List Int) : List Nat → Nat → Nat → Nat × Nat
  | [], a, b => (a, b)
  | p :: s, a, b => plc l s (a * (p - (res l (p : Int)).length)) (b * p)
theorem plc_pos (l : List Int) : ∀ (s : List Nat) (a b : Nat), (∀ p ∈ s, 1 ≤ p) → 1 ≤ b → 1 ≤ (plc l s a b).2
  | [], a, b, _, h => h
  | p :: s, a, b, hs, h => plc_pos l s _ _ (fun q hq => hs q (List.mem_cons_of_mem _ hq)) (Nat.mul_le_mul h (hs p (List.mem_cons_self ..)))
theorem six_p6 : p6 = six.map fun (p : Nat) => (p : Int) := rfl
theorem six_13 : ∀ p ∈ six, 2 ≤ p ∧ p ≤ 13 := by decide
theorem step_plc {l : List Int} {p a b B : Nat} (hp : 1 ≤ p) (hp2 : p ≤ 13) (ha : a ≤ B) (hb : b ≤ B) (hB : B ≤ 1000000000) :
    wrap64 ((a : Int) * wrap64 ((p : Int) - ((res l (p : Int)).length : Int))) = ((a * (p - (res l (p : Int)).length) : Nat) : Int) ∧ wrap64 ((b : Int) * (p : Int)) = ((b * p : Nat) : Int) := by
  have hr := res_le l p hp
  have e : wrap64 ((p : Int) - ((res l (p : Int)).length : Int)) = ((p - (res l (p : Int)).length : Nat) : Int) := by rw [w64 (by omega) (by omega)]; omega
  have h1 : a * (p - (res l (p : Int)).length) ≤ 1000000000 * 13 := Nat.mul_le_mul (by omega) (by omega)
  have h2 : b * p ≤ 1000000000 * 13 := Nat.mul_le_mul (by omega) hp2
  rw [e, ← Int.natCast_mul, ← Int.natCast_mul]
  exact ⟨w64 (by omega) (by omega), w64 (by omega) (by omega)⟩
theorem rePlaces_l0 (l : List Int) (hl : l.length ≤ 1000) (h0 : ∀ x ∈ l, 0 ≤ x) (c : Nat) (hc : c ≤ 6) : ∀ (s : List Nat) (i a b B : Nat), (six.take c).drop i = s → i ≤ c → a ≤ B → b ≤ B → B * 13 ^ s.length ≤ 1000000000 → Evl (fun k => spec_rePlaces.l0 k l (c : Int) (a : Int) (b : Int) (i : Int)) (((plc l s a b).1 : Int), ((plc l s a b).2 : Int)) := by
  have h6 : six.length = 6 := rfl
  intro s
  induction s with
  | nil =>
    intro i a b B h hic _ _ _
    have hi := drop_nil h
    rw [List.length_take] at hi
    refine Evl.succ ?_
    simp only [spec_rePlaces.l0, if_neg (show ¬ (i : Int) < (c : Int) by omega)]
    exact Evl.ret _
  | cons p s ih =>
    intro i a b B h hic ha hb hB
    obtain ⟨hi, hx, hs⟩ := drop_cons h
    rw [List.length_take] at hi
    have hp := six_13 p (List.mem_of_mem_take (List.mem_of_getElem? hx))
    have hq : p - (res l (p : Int)).length ≤ 13 := Nat.le_trans (Nat.sub_le _ _) hp.2
    have hp1 : 1 ≤ p := Nat.le_trans (by decide) hp.1
    have hp3 : p ≤ 1000 := Nat.le_trans hp.2 (by decide)
    have hic2 : i + 1 ≤ c := by clear hB ha hb; omega
    have hic3 : (i : Int) < (c : Int) := by clear hB ha hb; omega
    have hi6 : i < 6 := by clear hB ha hb; omega
    rw [List.length_cons, Nat.pow_succ, Nat.mul_comm (13 ^ s.length) 13, ← Nat.mul_assoc] at hB
    have hB2 : B ≤ 1000000000 := Nat.le_trans (Nat.le_mul_of_pos_right B (show 0 < 13 by decide)) (Nat.le_trans (Nat.le_mul_of_pos_right _ (Nat.pow_pos (show 0 < 13 by decide))) hB)
    have h1 := Nat.mul_le_mul ha hq
    have h2 := Nat.mul_le_mul hb hp.2
    have hst := step_plc (l := l) (a := a) (b := b) (B := B) hp1 hp.2 ha hb hB2
    have hw : wrap64 ((i : Int) + 1) = ((i + 1 : Nat) : Int) := by clear hst h1 h2 hB ha hb; rw [w64 (by omega) (by omega)]; rfl
    have hr : spec_rePrime.f (i : Int) = some (p : Int) := by
      rw [rePrime_eq hi6]
      refine congrArg some (rd_of ?_)
      rw [List.getElem?_take_of_lt (show i < c from hic2)] at hx
      rw [six_p6, List.getElem?_map, hx]
      rfl
    have hih := ih (i + 1) _ _ (B * 13) hs hic2 h1 h2 hB
    refine Evl.succ ?_
    simp only [spec_rePlaces.l0, if_pos hic3, hr, Option.bind_some, hw]
    refine Evl.bind (reRests_ev l hl h0 p hp1 hp3) ?_
    simp only [hst.1, hst.2]
    exact hih
theorem rePlaces_ev (l : List Int) (hl : l.length ≤ 1000) (h0 : ∀ x ∈ l, 0 ≤ x) (c : Nat) (hc : c ≤ 6) : Evl (fun k => spec_rePlaces.f k l (c : Int)) (((plc l (six.take c) 1 1).1 : Int), ((plc l (six.take c) 1 1).2 : Int)) := by
  simp only [spec_rePlaces.f]
  refine rePlaces_l0 l hl h0 c hc (six.take c) 0 1 1 1 rfl (by omega) (by omega) (by omega) ?_
  rw [Nat.one_mul]
  exact Nat.le_trans (Nat.pow_le_pow_right (by decide) (by rw [List.length_take]; exact Nat.le_trans (Nat.min_le_left _ _) hc)) (show (13 : Nat) ^ 6 ≤ 1000000000 by decide)
theorem placesIn_l0 (l : List Int) (hl : l.length ≤ 1000) (hne : l ≠ []) (h0 : ∀ x ∈ l, 0 ≤ x) (c : Nat) (hc : c ≤ 6) : ∀ (s : List Nat) (i a b B : Nat), (six.take c).drop i = s → i ≤ c → a ≤ B → b ≤ B → B * 13 ^ s.length ≤ 1000000000 → Evl (fun k => impl_placesIn.l0 k l (a : Int) (b : Int) (p6.take c) ((p6.take c).length : Int) (i : Int)) (((plc l s a b).1 : Int), ((plc l s a b).2 : Int)) := by
  have h6 : six.length = 6 := rfl
  have h66 : p6.length = 6 := rfl
  have hpl : ((p6.take c).length : Int) = (c : Int) := by rw [List.length_take]; omega
  intro s
  induction s with
  | nil =>
    intro i a b B h hic _ _ _
    have hi := drop_nil h
    rw [List.length_take] at hi
    refine Evl.succ ?_
    simp only [impl_placesIn.l0, hpl, if_neg (show ¬ (i : Int) < (c : Int) by omega)]
    exact Evl.ret _
  | cons p s ih =>
    intro i a b B h hic ha hb hB
    obtain ⟨hi, hx, hs⟩ := drop_cons h
    rw [List.length_take] at hi
    have hp := six_13 p (List.mem_of_mem_take (List.mem_of_getElem? hx))
    have hq : p - (res l (p : Int)).length ≤ 13 := Nat.le_trans (Nat.sub_le _ _) hp.2
    have hp1 : 1 ≤ p := Nat.le_trans (by decide) hp.1
    have hp3 : p ≤ 1000 := Nat.le_trans hp.2 (by decide)
    have hic2 : i + 1 ≤ c := by clear hB ha hb; omega
    have hic3 : (i : Int) < (c : Int) := by clear hB ha hb; omega
    have hi6 : i < 6 := by clear hB ha hb; omega
    rw [List.length_cons, Nat.pow_succ, Nat.mul_comm (13 ^ s.length) 13, ← Nat.mul_assoc] at hB
    have hB2 : B ≤ 1000000000 := Nat.le_trans (Nat.le_mul_of_pos_right B (show 0 < 13 by decide)) (Nat.le_trans (Nat.le_mul_of_pos_right _ (Nat.pow_pos (show 0 < 13 by decide))) hB)
    have h1 := Nat.mul_le_mul ha hq
    have h2 := Nat.mul_le_mul hb hp.2
    have hst := step_plc (l := l) (a := a) (b := b) (B := B) hp1 hp.2 ha hb hB2
    have hw : wrap64 ((i : Int) + 1) = ((i + 1 : Nat) : Int) := by clear hst h1 h2 hB ha hb; rw [w64 (by omega) (by omega)]; rfl
    have hr : rd (p6.take c) (i : Int) = (p : Int) := rd_of (by rw [six_p6, ← List.map_take, List.getElem?_map, hx]; rfl)
    have hih := ih (i + 1) _ _ (B * 13) hs hic2 h1 h2 hB
    rw [hpl] at hih
    refine Evl.succ ?_
    simp only [impl_placesIn.l0, hpl, if_pos hic3, if_pos (show (0 : Int) ≤ (i : Int) from Int.natCast_nonneg i), hr, hw]
    refine Evl.bind (restsOf_ev l hl hne h0 p hp1) ?_
    simp only [hst.1, hst.2]
    exact hih
theorem placesIn_ev (l : List Int) (hl : l.length ≤ 1000) (hne : l ≠ []) (h0 : ∀ x ∈ l, 0 ≤ x) (c : Nat) (hc : c ≤ 6) : Evl (fun k => impl_placesIn.f k l (c : Int)) (((plc l (six.take c) 1 1).1 : Int), ((plc l (six.take c) 1 1).2 : Int)) := by
  have h66 : (p6.length : Int) = 6 := rfl
  simp only [impl_placesIn.f, impl_firstSix.f, Option.bind_some]
  have e0 : ([2, 3, 5, 7, 11, 13] : List Int) = p6 := rfl
  simp only [e0, if_pos (show (0 : Int) ≤ (c : Int) by omega), h66, if_pos (show (c : Int) ≤ 6 by omega), Int.toNat_natCast]
  refine placesIn_l0 l hl hne h0 c hc (six.take c) 0 1 1 1 rfl (by omega) (by omega) (by omega) ?_
  rw [Nat.one_mul]
  exact Nat.le_trans (Nat.pow_le_pow_right (by decide) (by rw [List.length_take]; exact Nat.le_trans (Nat.min_le_left _ _) hc)) (show (13 : Nat) ^ 6 ≤ 1000000000 by decide)
theorem reAsked_ev (l : List Int) (hl : l.length ≤ 1099511627776) (a : Int) : Evl (fun k => spec_reAsked.f k l a) (pat l && decide (0 ≤ a ∧ a ≤ 6)) := by
  simp only [spec_reAsked.f]
  refine Evl.bind (reGood_ev l hl) ?_
  cases hp : pat l with
  | false =>
    simp only [Bool.false_eq_true, if_false]
    exact Evl.ret _
  | true =>
    simp only [if_true, l1In_eq, Option.bind_some, Bool.true_and]
    exact Evl.ret _
theorem FnExactShareOfPlaces_main (l0 : List Int) (a1 : Int) (hm : l0.length ≤ maxLen) (hb : l0.length * 8 ≤ 140737488351232) (hw : ∀ x ∈ l0, (Lit.int .i64 x).wf = true) (h1 : (Lit.int .i64 a1).wf = true) (hl : l0.length ≤ 1099511627776) :
    ∃ r q b, Evl (fun k => spec_ShareOfPlaces.f k l0 a1) (r, q, b) ∧ Evl (fun k => impl_ShareOfPlaces.f k l0 a1) (r, q, b) := by
  have no : Evl (fun k => impl_ShareOfPlaces.j0 k l0 a1 true) (0, 0, false) := by
    refine Evl.succ ?_
    simp only [impl_ShareOfPlaces.j0, if_true]
    exact Evl.ret _
  cases hp : pat l0 with
  | false =>
    refine ⟨0, 0, false, ?_, ?_⟩
    · simp only [spec_ShareOfPlaces.f]
      refine Evl.bind (reAsked_ev l0 hl a1) ?_
      simp only [hp, Bool.false_and, Bool.false_eq_true, if_false]
      exact Evl.ret _
    · simp only [impl_ShareOfPlaces.f]
      refine Evl.bind (isPattern_ev l0 hl) ?_
      simp only [hp, Bool.false_eq_true, if_false]
      exact no
  | true =>
    by_cases c : 0 ≤ a1 ∧ a1 ≤ 6
    · obtain ⟨n, rfl⟩ := Int.eq_ofNat_of_zero_le c.1
      have hpos := plc_pos l0 (six.take n) 1 1 (fun p hpm => by have := six_13 p (List.mem_of_mem_take hpm); omega) (by omega)
      have hg : 1 ≤ Nat.gcd (plc l0 (six.take n) 1 1).1 (plc l0 (six.take n) 1 1).2 := Nat.gcd_pos_of_pos_right _ (by omega)
      refine ⟨wrap64 (Int.tdiv ((plc l0 (six.take n) 1 1).1 : Int) ((Nat.gcd (plc l0 (six.take n) 1 1).1 (plc l0 (six.take n) 1 1).2 : Nat) : Int)), wrap64 (Int.tdiv ((plc l0 (six.take n) 1 1).2 : Int) ((Nat.gcd (plc l0 (six.take n) 1 1).1 (plc l0 (six.take n) 1 1).2 : Nat) : Int)), true, ?_, ?_⟩
      · simp only [spec_ShareOfPlaces.f]
        refine Evl.bind (reAsked_ev l0 hl _) ?_
        simp only [hp, Bool.true_and, decide_eq_true c, if_true]
        refine Evl.bind (rePlaces_ev l0 (pat_small hp) (pat_nn hp) n (by omega)) ?_
        generalize plc l0 (six.take n) 1 1 = q at hg ⊢
        refine Evl.bind (spec_siCommon_ev q.1 q.2) ?_
        simp only [if_neg (show ¬ ((Nat.gcd q.1 q.2 : Nat) : Int) = 0 by omega)]
        exact Evl.ret _
      · simp only [impl_ShareOfPlaces.f]
        refine Evl.bind (isPattern_ev l0 hl) ?_
        simp only [hp, if_true, if_neg (show ¬ (n : Int) < 0 by omega), decide_eq_false (show ¬ (n : Int) > 6 by omega)]
        refine Evl.succ ?_
        simp only [impl_ShareOfPlaces.j0, Bool.false_eq_true, if_false]
        refine Evl.bind (placesIn_ev l0 (pat_small hp) (pat_ne hp) (pat_nn hp) n (by omega)) ?_
        generalize plc l0 (six.take n) 1 1 = q at hg ⊢
        refine Evl.bind (impl_gcd_ev q.1 q.2) ?_
        simp only [if_neg (show ¬ ((Nat.gcd q.1 q.2 : Nat) : Int) = 0 by omega)]
        exact Evl.ret _
    · refine ⟨0, 0, false, ?_, ?_⟩
      · simp only [spec_ShareOfPlaces.f]
        refine Evl.bind (reAsked_ev l0 hl a1) ?_
        simp only [hp, Bool.true_and, decide_eq_false c, Bool.false_eq_true, if_false]
        exact Evl.ret _
      · simp only [impl_ShareOfPlaces.f]
        refine Evl.bind (isPattern_ev l0 hl) ?_
        simp only [hp, if_true]
        by_cases c1 : a1 < 0
        · simp only [if_pos c1]
          exact no
        · simp only [if_neg c1, decide_eq_true (show a1 > 6 by omega)]
          exact no

end Go.Proofs.Ytlngnnkkaepeeaa.L
