/- AllOpen of the program tells what the reference's tells, for all arguments: what both functions compute. No condition beyond 64 bits and the lengths that the statement's guards give. -/
import Derived.Test.YtlngnnkkaepeeaaPx0
import Derived.Test.YtlngnnkkaepeeaaPx8
import Derived.Test.YtlngnnkkaepeeaaPx9
import Derived.Test.YtlngnnkkaepeeaaPx1
import Derived.Test.YtlngnnkkaepeeaaPx13
import Derived.Test.YtlngnnkkaepeeaaPx14
import Derived.Test.YtlngnnkkaepeeaaPx4
import Derived.Lib.SlicesCompact
import Derived.Lib.RowBridge
import Derived.Test.YtlngnnkkaepeeaaPx2
import Derived.Test.YtlngnnkkaepeeaaPx5
import Derived.Test.YtlngnnkkaepeeaaPx3
import Derived.Test.YtlngnnkkaepeeaaPx6
import Derived.Test.YtlngnnkkaepeeaaPx10
import Derived.Test.YtlngnnkkaepeeaaPx11
import Derived.Test.YtlngnnkkaepeeaaPx12
import Derived.Test.YtlngnnkkaepeeaaFFAO
/-! ## L0 -/
namespace Go.Proofs.Ytlngnnkkaepeeaa.L
open Go.RowKit Go.Proofs.YtlngnnkkaepeeaaW.PrintWords
set_option linter.unusedVariables false
set_option linter.unusedSimpArgs false

/-- With enough rounds g tells r. -/
def Evl {α : Type} (g : Nat → Option α) (r : α) : Prop := ∃ K, ∀ k, K ≤ k → g k = some r
theorem Evl.ret {α : Type} (r : α) : Evl (fun _ => some r) r := ⟨0, fun _ _ => rfl⟩
theorem Evl.bind {α β : Type} {g : Nat → Option α} {f : Nat → α → Option β} {a : α} {r : β} (h : Evl g a) (h2 : Evl (fun k => f k a) r) : Evl (fun k => (g k).bind (f k)) r := by
  obtain ⟨K, hK⟩ := h
  obtain ⟨K2, hK2⟩ := h2
  refine ⟨max K K2, fun k hk => ?_⟩
  show (g k).bind (f k) = some r
  rw [hK k (Nat.le_trans (Nat.le_max_left _ _) hk), Option.bind_some]
  exact hK2 k (Nat.le_trans (Nat.le_max_right _ _) hk)
theorem Evl.succ {α : Type} {g : Nat → Option α} {r : α} (h : Evl (fun k => g (k + 1)) r) : Evl g r := by
  obtain ⟨K, hK⟩ := h
  refine ⟨K + 1, fun k hk => ?_⟩
  obtain ⟨m, rfl⟩ : ∃ m, k = m + 1 := ⟨k - 1, by omega⟩
  exact hK m (by omega)
theorem Evl.congr {α : Type} {g g' : Nat → Option α} {r : α} (h : ∀ k, g k = g' k) (h2 : Evl g' r) : Evl g r := by
  obtain ⟨K, hK⟩ := h2
  exact ⟨K, fun k hk => (h k).trans (hK k hk)⟩
theorem Evl.get {α : Type} {g : Nat → Option α} {r : α} (h : Evl g r) : ∃ k, g k = some r := by
  obtain ⟨K, hK⟩ := h
  exact ⟨K, hK K (Nat.le_refl _)⟩
theorem Evl.cast {α : Type} {g : Nat → Option α} {r r' : α} (h : Evl g r) (e : r = r') : Evl g r' := e ▸ h

theorem w64 {x : Int} (h0 : -9223372036854775808 ≤ x) (h1 : x ≤ 9223372036854775807) : wrap64 x = x := by
  unfold wrap64
  omega
theorem drop_nil {α : Type} {xs : List α} {i : Nat} (h : xs.drop i = []) : xs.length ≤ i := by
  simpa using h
theorem drop_cons {α : Type} {xs s : List α} {x : α} {i : Nat} (h : xs.drop i = x :: s) : i < xs.length ∧ xs[i]? = some x ∧ xs.drop (i + 1) = s := by
  have hl : i < xs.length := by
    rcases Nat.lt_or_ge i xs.length with h1 | h1
    · exact h1
    · rw [List.drop_of_length_le h1] at h
      cases h
  rw [List.drop_eq_getElem_cons hl] at h
  injection h with h1 h2
  exact ⟨hl, by rw [List.getElem?_eq_getElem hl, h1], h2⟩
theorem rd_of {xs : List Int} {i : Nat} {x : Int} (h : xs[i]? = some x) : rd xs (i : Int) = x := by
  unfold rd
  rw [Int.toNat_natCast, List.getD_eq_getElem?_getD, h]
  rfl
end Go.Proofs.Ytlngnnkkaepeeaa.L

/-! ## E0 -/
namespace Go.Proofs.Ytlngnnkkaepeeaa.L
open Go.RowKit Go.Proofs.YtlngnnkkaepeeaaW.PrintWords Go.Proofs.Ytlngnnkkaepeeaa.P
set_option linter.unusedVariables false
set_option linter.unusedSimpArgs false

/-- n numbers from v on. -/
def iot : Int → Nat → List Int
  | _, 0 => []
  | v, n + 1 => v :: iot (v + 1) n
theorem iot_length : ∀ (n : Nat) (v : Int), (iot v n).length = n
  | 0, _ => rfl
  | n + 1, v => by rw [iot, List.length_cons, iot_length n]

theorem eqIntS_l0 (a : List Int) (hl : a.length ≤ 1099511627776) : ∀ (s : List Int) (i : Nat), a.drop i = s → Evl (fun k => laws_eqIntS.l0 k a a (i : Int)) true := by
  intro s
  induction s with
  | nil =>
    intro i h
    have hi := drop_nil h
    refine Evl.succ ?_
    have h1 : ¬ (i : Int) < (a.length : Int) := by omega
    simp only [laws_eqIntS.l0, if_neg h1]
    exact Evl.ret _
  | cons x s ih =>
    intro i h
    obtain ⟨hi, hx, hs⟩ := drop_cons h
    have hw : wrap64 ((i : Int) + 1) = ((i + 1 : Nat) : Int) := by rw [w64 (by omega) (by omega)]; rfl
    refine Evl.succ ?_
    have h1 : (i : Int) < (a.length : Int) := by omega
    have h2 : (0 : Int) ≤ (i : Int) := by omega
    simp only [laws_eqIntS.l0, if_pos h1, if_pos h2, if_true, hw]
    exact ih (i + 1) hs
theorem eqIntS_self (a : List Int) (hl : a.length ≤ 1099511627776) : Evl (fun k => laws_eqIntS.f k a a) true := by
  simp only [laws_eqIntS.f, if_true]
  exact eqIntS_l0 a hl a 0 rfl

theorem markIntS_l0 : ∀ (s pre : List Int) (v : Int) (i : Nat), pre.length = i → pre.length + s.length ≤ 1099511627776 → 0 ≤ v → v + s.length ≤ 1099511627800 → Evl (fun k => laws_markIntS.l0 k (pre ++ s) v (i : Int)) (v + s.length, pre ++ iot v s.length) := by
  intro s
  induction s with
  | nil =>
    intro pre v i hi _ _ _
    refine Evl.succ ?_
    have h1 : ¬ (i : Int) < ((pre ++ []).length : Int) := by rw [List.append_nil]; omega
    simp only [laws_markIntS.l0, if_neg h1]
    refine (Evl.ret _).cast ?_
    simp [iot]
  | cons x s ih =>
    intro pre v i hi hb hv hvb
    rw [List.length_cons] at hb hvb
    have hw : wrap64 ((i : Int) + 1) = ((i + 1 : Nat) : Int) := by rw [w64 (by omega) (by omega)]; rfl
    have hw2 : wrap64 (v + 1) = v + 1 := w64 (by omega) (by omega)
    refine Evl.succ ?_
    have h1 : (i : Int) < ((pre ++ x :: s).length : Int) := by rw [List.length_append, List.length_cons]; omega
    have h2 : (0 : Int) ≤ (i : Int) := by omega
    have hset : (pre ++ x :: s).set (i : Int).toNat v = (pre ++ [v]) ++ s := by
      rw [Int.toNat_natCast, ← hi, List.set_append_right _ _ (Nat.le_refl _), Nat.sub_self, List.set_cons_zero, List.append_assoc]
      rfl
    simp only [laws_markIntS.l0, if_pos h1, if_pos h2, hw, hw2, hset]
    have := ih (pre ++ [v]) (v + 1) (i + 1) (by rw [List.length_append, hi]; rfl) (by rw [List.length_append, List.length_singleton]; omega) (by omega) (by omega)
    refine this.cast ?_
    rw [List.length_cons, iot, List.append_assoc]
    refine Prod.ext ?_ rfl
    show v + 1 + (s.length : Int) = v + ((s.length + 1 : Nat) : Int)
    omega
theorem heldIntS_l0 (a : List Int) (hl : a.length ≤ 1099511627776) : ∀ (n : Nat) (v : Int) (i : Nat), a.drop i = iot v n → 0 ≤ v → v + n ≤ 1099511627800 → Evl (fun k => laws_heldIntS.l0 k a v (i : Int)) (v + n) := by
  intro n
  induction n with
  | zero =>
    intro v i h _ _
    have hi := drop_nil h
    refine Evl.succ ?_
    have h1 : ¬ (i : Int) < (a.length : Int) := by omega
    simp only [laws_heldIntS.l0, if_neg h1]
    refine (Evl.ret _).cast ?_
    omega
  | succ n ih =>
    intro v i h hv hb
    obtain ⟨hi, hx, hs⟩ := drop_cons h
    have hw : wrap64 ((i : Int) + 1) = ((i + 1 : Nat) : Int) := by rw [w64 (by omega) (by omega)]; rfl
    have hw2 : wrap64 (v + 1) = v + 1 := w64 (by omega) (by omega)
    have hr : rd a (i : Int) = v := rd_of hx
    refine Evl.succ ?_
    have h1 : (i : Int) < (a.length : Int) := by omega
    have h2 : (0 : Int) ≤ (i : Int) := by omega
    simp only [laws_heldIntS.l0, if_pos h1, if_pos h2, hr, if_true, hw, hw2]
    refine (ih (v + 1) (i + 1) hs (by omega) (by omega)).cast ?_
    omega
end Go.Proofs.Ytlngnnkkaepeeaa.L

/-! ## M1 -/
namespace Go.Proofs.Ytlngnnkkaepeeaa.M
set_option linter.unusedVariables false
set_option linter.unusedSimpArgs false

/-! ### factors -/
end Go.Proofs.Ytlngnnkkaepeeaa.M

/-! ## E1 -/

namespace Go.Proofs.Ytlngnnkkaepeeaa.L
open Go.RowKit Go.Proofs.YtlngnnkkaepeeaaW.PrintWords Go.Proofs.Ytlngnnkkaepeeaa.P Go.Proofs.Ytlngnnkkaepeeaa.M
set_option linter.unusedVariables false
set_option linter.unusedSimpArgs false

end Go.Proofs.Ytlngnnkkaepeeaa.L

/-! ## E2 -/

namespace Go.Proofs.Ytlngnnkkaepeeaa.L
open Go.RowKit Go.Proofs.YtlngnnkkaepeeaaW.PrintWords Go.Proofs.Ytlngnnkkaepeeaa.P Go.Proofs.Ytlngnnkkaepeeaa.M
set_option linter.unusedVariables false
set_option linter.unusedSimpArgs false

end Go.Proofs.Ytlngnnkkaepeeaa.L

/-! ## E3 -/

namespace Go.Proofs.Ytlngnnkkaepeeaa.L
open Go.RowKit Go.Proofs.YtlngnnkkaepeeaaW.PrintWords Go.Proofs.Ytlngnnkkaepeeaa.P Go.Proofs.Ytlngnnkkaepeeaa.M
set_option linter.unusedVariables false
set_option linter.unusedSimpArgs false

end Go.Proofs.Ytlngnnkkaepeeaa.L

/-! ## E4 -/
namespace Go.Proofs.Ytlngnnkkaepeeaa.L
open Go.RowKit Go.Proofs.YtlngnnkkaepeeaaW.PrintWords Go.Proofs.Ytlngnnkkaepeeaa.P Go.Proofs.Ytlngnnkkaepeeaa.M
set_option linter.unusedVariables false
set_option linter.unusedSimpArgs false

theorem l1In_eq (a lo hi : Int) : spec_l1In.f a lo hi = some (decide (lo ≤ a ∧ a ≤ hi)) := by
  unfold spec_l1In.f
  by_cases h : a ≥ lo
  · rw [if_pos h]
    by_cases h2 : a ≤ hi
    · rw [decide_eq_true h2, decide_eq_true ⟨h, h2⟩]
    · rw [decide_eq_false h2, decide_eq_false (fun c => h2 c.2)]
  · rw [if_neg h, decide_eq_false (fun c => h c.1)]

theorem rdL_of {xs : List (List Int)} {i : Nat} {x : List Int} (h : xs[i]? = some x) : rd_L1 xs (i : Int) = x := by
  unfold rd_L1
  rw [Int.toNat_natCast, List.getD_eq_getElem?_getD, h]
  rfl
end Go.Proofs.Ytlngnnkkaepeeaa.L

/-! ## E10 -/
namespace Go.Proofs.Ytlngnnkkaepeeaa.L
open Go.RowKit Go.Proofs.YtlngnnkkaepeeaaW.PrintWords Go.Proofs.Ytlngnnkkaepeeaa.P Go.Proofs.Ytlngnnkkaepeeaa.M
set_option linter.unusedVariables false
set_option linter.unusedSimpArgs false

/-- How many numbers rows have together, and one more a row. -/
def wt : List (List Int) → Nat
  | [] => 0
  | x :: s => x.length + wt s
theorem wt_le {x : List Int} : ∀ {l : List (List Int)}, x ∈ l → x.length ≤ wt l
  | [], h => absurd h (by simp)
  | y :: l, h => by
    rcases List.mem_cons.1 h with rfl | h
    · exact Nat.le_add_right _ _
    · exact Nat.le_trans (wt_le h) (Nat.le_add_left _ _)
theorem eqIntSS_l0 (a : List (List Int)) (hl : a.length ≤ 1099511627776) (hw : wt a ≤ 1099511627776) : ∀ (s : List (List Int)) (i : Nat), a.drop i = s → Evl (fun k => laws_eqIntSS.l0 k a a (i : Int)) true := by
  intro s
  induction s with
  | nil =>
    intro i h
    have hi := drop_nil h
    refine Evl.succ ?_
    simp only [laws_eqIntSS.l0, if_neg (show ¬ (i : Int) < (a.length : Int) by omega)]
    exact Evl.ret _
  | cons x s ih =>
    intro i h
    obtain ⟨hi, hx, hs⟩ := drop_cons h
    have hwr : wrap64 ((i : Int) + 1) = ((i + 1 : Nat) : Int) := by rw [w64 (by omega) (by omega)]; rfl
    refine Evl.succ ?_
    simp only [laws_eqIntSS.l0, if_pos (show (i : Int) < (a.length : Int) by omega), if_pos (show (0 : Int) ≤ (i : Int) by omega), rdL_of hx, hwr]
    refine Evl.bind (eqIntS_self x (Nat.le_trans (wt_le (List.mem_of_getElem? hx)) hw)) ?_
    simp only [if_true]
    exact ih (i + 1) hs
theorem eqIntSS_self (a : List (List Int)) (hl : a.length ≤ 1099511627776) (hw : wt a ≤ 1099511627776) : Evl (fun k => laws_eqIntSS.f k a a) true := by
  simp only [laws_eqIntSS.f, if_true]
  exact eqIntSS_l0 a hl hw a 0 rfl

end Go.Proofs.Ytlngnnkkaepeeaa.L

/-! ## M4 -/
namespace Go.Proofs.Ytlngnnkkaepeeaa.M
set_option linter.unusedVariables false
set_option linter.unusedSimpArgs false

/-- The first six primes. -/
def six : List Nat := [2, 3, 5, 7, 11, 13]
end Go.Proofs.Ytlngnnkkaepeeaa.M

/-! ## E9 -/
namespace Go.Proofs.Ytlngnnkkaepeeaa.L
open Go.RowKit Go.Proofs.YtlngnnkkaepeeaaW.PrintWords Go.Proofs.Ytlngnnkkaepeeaa.P Go.Proofs.Ytlngnnkkaepeeaa.M
set_option linter.unusedVariables false
set_option linter.unusedSimpArgs false

/-- The first six primes. -/
def p6 : List Int := [2, 3, 5, 7, 11, 13]
theorem rePrime_eq {i : Nat} (h : i < 6) : spec_rePrime.f (i : Int) = some (rd p6 (i : Int)) := by
  unfold spec_rePrime.f
  rw [if_pos (by omega), if_pos (by omega)]
  rfl
theorem p6_pos {x : Int} (h : x ∈ p6) : 2 ≤ x ∧ x ≤ 13 := by
  unfold p6 at h
  simp at h
  omega
end Go.Proofs.Ytlngnnkkaepeeaa.L

/-! ## M5 -/
namespace Go.Proofs.Ytlngnnkkaepeeaa.M
open Go
set_option linter.unusedVariables false
set_option linter.unusedSimpArgs false

/-- Lists that rise and have the same members are the same. -/
theorem sorted_ext : ∀ (a b : List Int), a.Pairwise (· < ·) → b.Pairwise (· < ·) → (∀ x, x ∈ a ↔ x ∈ b) → a = b
  | [], [], _, _, _ => rfl
  | [], y :: b, _, _, h => absurd ((h y).2 (List.mem_cons_self ..)) (by simp)
  | x :: a, [], _, _, h => absurd ((h x).1 (List.mem_cons_self ..)) (by simp)
  | x :: a, y :: b, ha, hb, h => by
    obtain ⟨ha1, ha2⟩ := List.pairwise_cons.1 ha
    obtain ⟨hb1, hb2⟩ := List.pairwise_cons.1 hb
    have e : x = y := by
      rcases List.mem_cons.1 ((h x).1 (List.mem_cons_self ..)) with h1 | h1
      · exact h1
      · rcases List.mem_cons.1 ((h y).2 (List.mem_cons_self ..)) with h2 | h2
        · exact h2.symm
        · have := hb1 x h1
          have := ha1 y h2
          omega
    subst e
    refine congrArg (x :: ·) (sorted_ext a b ha2 hb2 fun z => ?_)
    constructor
    · intro hz
      rcases List.mem_cons.1 ((h z).1 (List.mem_cons_of_mem _ hz)) with h1 | h1
      · have := ha1 z hz
        omega
      · exact h1
    · intro hz
      rcases List.mem_cons.1 ((h z).2 (List.mem_cons_of_mem _ hz)) with h1 | h1
      · have := hb1 z hz
        omega
      · exact h1
theorem compactUpTo_spec (d : Array Int) (hd : ∀ i j, i ≤ j → j < d.size → d[i]! ≤ d[j]!) : ∀ m, m ≤ d.size → (Lib.compactUpTo d m).Pairwise (· < ·) ∧ ∀ x, x ∈ Lib.compactUpTo d m ↔ ∃ j, j < m ∧ d[j]! = x
  | 0, _ => ⟨List.Pairwise.nil, fun x => ⟨fun h => absurd h (by simp [Lib.compactUpTo]), fun ⟨j, hj, _⟩ => absurd hj (Nat.not_lt_zero _)⟩⟩
  | m + 1, hm => by
    obtain ⟨h1, h2⟩ := compactUpTo_spec d hd m (by omega)
    rw [Lib.compactUpTo_succ]
    by_cases hk : Lib.keeps d m = true
    · rw [if_pos hk]
      constructor
      · refine List.pairwise_append.2 ⟨h1, List.pairwise_singleton _ _, fun x hx y hy => ?_⟩
        rw [List.mem_singleton.1 hy]
        obtain ⟨j, hj, rfl⟩ := (h2 x).1 hx
        have hle := hd j (m - 1) (by omega) (by omega)
        have hle2 := hd (m - 1) m (by omega) (by omega)
        have : m = 0 ∨ d[m]! ≠ d[m - 1]! := of_decide_eq_true hk
        rcases this with h | h
        · omega
        · omega
      · intro x
        rw [List.mem_append, h2, List.mem_singleton]
        constructor
        · rintro (⟨j, hj, e⟩ | e)
          · exact ⟨j, by omega, e⟩
          · exact ⟨m, by omega, e.symm⟩
        · rintro ⟨j, hj, e⟩
          rcases Nat.lt_or_ge j m with h | h
          · exact .inl ⟨j, h, e⟩
          · obtain rfl : j = m := by omega
            exact .inr e.symm
    · rw [if_neg hk, List.append_nil]
      refine ⟨h1, fun x => (h2 x).trans ?_⟩
      have hk2 : ¬ (m = 0 ∨ d[m]! ≠ d[m - 1]!) := fun c => hk (decide_eq_true c)
      constructor
      · rintro ⟨j, hj, e⟩
        exact ⟨j, by omega, e⟩
      · rintro ⟨j, hj, e⟩
        rcases Nat.lt_or_ge j m with h | h
        · exact ⟨j, h, e⟩
        · obtain rfl : j = m := by omega
          refine ⟨j - 1, by omega, ?_⟩
          rw [← e]
          exact (Classical.not_not.1 fun c => hk2 (.inr c)).symm
/-- The members of a list, rising, each once. -/
def srt (l : List Int) : List Int := Lib.compact (l.mergeSort fun x y => decide (x ≤ y))
theorem srt_spec (l : List Int) : (srt l).Pairwise (· < ·) ∧ ∀ x, x ∈ srt l ↔ x ∈ l := by
  have hs : (l.mergeSort fun x y => decide (x ≤ y)).Pairwise fun x y => decide (x ≤ y) := List.pairwise_mergeSort (by intro a b c h1 h2; simp at *; omega) (by intro a b; simp; omega) l
  have hm : ∀ x, x ∈ (l.mergeSort fun x y => decide (x ≤ y)) ↔ x ∈ l := fun x => List.mem_mergeSort
  unfold srt
  generalize (l.mergeSort fun x y => decide (x ≤ y)) = s at hs hm
  have hd : ∀ i j, i ≤ j → j < s.toArray.size → s.toArray[i]! ≤ s.toArray[j]! := by
    intro i j hij hj
    rw [List.size_toArray] at hj
    rw [getElem!_pos s.toArray i (by rw [List.size_toArray]; omega), getElem!_pos s.toArray j (by rw [List.size_toArray]; omega), List.getElem_toArray, List.getElem_toArray]
    rcases Nat.lt_or_ge i j with h | h
    · have := List.pairwise_iff_getElem.1 hs i j (by omega) hj h
      exact of_decide_eq_true this
    · obtain rfl : i = j := by omega
      exact Int.le_refl _
  obtain ⟨h1, h2⟩ := compactUpTo_spec s.toArray hd s.length (by simp)
  refine ⟨h1, fun x => ?_⟩
  unfold Lib.compact
  rw [h2, ← hm]
  constructor
  · rintro ⟨j, hj, e⟩
    rw [getElem!_pos s.toArray j (by rw [List.size_toArray]; omega), List.getElem_toArray] at e
    exact e ▸ List.getElem_mem _
  · intro h
    obtain ⟨j, hj, e⟩ := List.getElem_of_mem h
    refine ⟨j, hj, ?_⟩
    rw [getElem!_pos s.toArray j (by rw [List.size_toArray]; omega), List.getElem_toArray]
    exact e
theorem srt_mem {l : List Int} {x : Int} : x ∈ srt l ↔ x ∈ l := (srt_spec l).2 x
theorem srt_sorted (l : List Int) : (srt l).Pairwise (· < ·) := (srt_spec l).1
theorem srt_length (l : List Int) : (srt l).length ≤ l.length := by
  unfold srt
  refine Nat.le_trans (Lib.compact_length_le _) ?_
  rw [List.length_mergeSort]
  exact Nat.le_refl _
theorem srt_eq {l s : List Int} (h : s.Pairwise (· < ·)) (hm : ∀ x, x ∈ s ↔ x ∈ l) : srt l = s := sorted_ext _ _ (srt_sorted l) h fun x => srt_mem.trans (hm x).symm

end Go.Proofs.Ytlngnnkkaepeeaa.M

/-! ## X2 -/

namespace Go.Proofs.Ytlngnnkkaepeeaa.L
open Go.RowKit Go.Proofs.YtlngnnkkaepeeaaW.PrintWords Go.Proofs.Ytlngnnkkaepeeaa.P Go.Proofs.Ytlngnnkkaepeeaa.M
set_option linter.unusedVariables false
set_option linter.unusedSimpArgs false

end Go.Proofs.Ytlngnnkkaepeeaa.L

/-! ## E11 -/
namespace Go.Proofs.Ytlngnnkkaepeeaa.L
open Go.RowKit Go.Proofs.YtlngnnkkaepeeaaW.PrintWords Go.Proofs.Ytlngnnkkaepeeaa.P Go.Proofs.Ytlngnnkkaepeeaa.M
set_option linter.unusedVariables false
set_option linter.unusedSimpArgs false

theorem tmod_nn {a b : Int} (h : 0 ≤ a) : Int.tmod a b = a % b := Int.tmod_eq_emod_of_nonneg h
theorem SortCompact (l : List Int) (h : l ≠ []) (hl : l.length < 1000000000000) : ∃ s, slices_Sort_int_int.f l = some s ∧ slices_Compact_int_int.f s = some (srt l) := by
  have h0 : ¬ l.length = 0 := fun c => h (List.eq_nil_of_length_eq_zero c)
  refine ⟨l.mergeSort fun x y => decide (x ≤ y), ?_, ?_⟩
  · unfold slices_Sort_int_int.f
    rw [if_neg h0, if_pos (by omega)]
  · unfold slices_Compact_int_int.f
    rw [if_neg (by rw [List.length_mergeSort]; exact h0)]
    rfl
/-- The remainders of offsets modulo a number, rising, each once. -/
def res (l : List Int) (p : Int) : List Int := srt (l.map fun o => o % p)
def hasR (p r : Int) : List Int → Bool
  | [] => false
  | o :: s => if o % p = r then true else hasR p r s
theorem hasR_iff {p r : Int} : ∀ {s : List Int}, hasR p r s = true ↔ ∃ o ∈ s, o % p = r
  | [] => by simp [hasR]
  | o :: s => by
    unfold hasR
    by_cases e : o % p = r
    · rw [if_pos e]; exact ⟨fun _ => ⟨o, List.mem_cons_self .., e⟩, fun _ => rfl⟩
    · rw [if_neg e, hasR_iff]
      constructor
      · rintro ⟨q, hq, h⟩; exact ⟨q, List.mem_cons_of_mem _ hq, h⟩
      · rintro ⟨q, hq, h⟩
        rcases List.mem_cons.1 hq with rfl | hq
        · exact absurd h e
        · exact ⟨q, hq, h⟩
/-- Of m remainders from r on those that offsets have. -/
def rr (p : Int) (l : List Int) : Nat → Int → List Int
  | 0, _ => []
  | m + 1, r => if hasR p r l = true then r :: rr p l m (r + 1) else rr p l m (r + 1)
theorem rr_mem (p : Int) (l : List Int) : ∀ (m : Nat) (r x : Int), x ∈ rr p l m r ↔ r ≤ x ∧ x < r + m ∧ hasR p x l = true
  | 0, r, x => by
    unfold rr
    exact ⟨fun h => absurd h (by simp), fun h => by omega⟩
  | m + 1, r, x => by
    unfold rr
    have ih := rr_mem p l m (r + 1) x
    by_cases h : hasR p r l = true
    · rw [if_pos h, List.mem_cons, ih]
      constructor
      · rintro (rfl | ⟨h1, h2, h3⟩)
        · exact ⟨Int.le_refl _, by omega, h⟩
        · exact ⟨by omega, by omega, h3⟩
      · rintro ⟨h1, h2, h3⟩
        by_cases e : x = r
        · exact .inl e
        · exact .inr ⟨by omega, by omega, h3⟩
    · rw [if_neg h, ih]
      constructor
      · rintro ⟨h1, h2, h3⟩; exact ⟨by omega, by omega, h3⟩
      · rintro ⟨h1, h2, h3⟩
        have e : x ≠ r := fun e => h (e ▸ h3)
        exact ⟨by omega, by omega, h3⟩
theorem rr_sorted (p : Int) (l : List Int) : ∀ (m : Nat) (r : Int), (rr p l m r).Pairwise (· < ·)
  | 0, _ => List.Pairwise.nil
  | m + 1, r => by
    unfold rr
    have ih := rr_sorted p l m (r + 1)
    split
    · refine List.Pairwise.cons (fun x hx => ?_) ih
      have := (rr_mem p l m (r + 1) x).1 hx
      omega
    · exact ih
theorem rr_length (p : Int) (l : List Int) : ∀ (m : Nat) (r : Int), (rr p l m r).length ≤ m
  | 0, _ => Nat.le_refl _
  | m + 1, r => by
    unfold rr
    have := rr_length p l m (r + 1)
    split
    · rw [List.length_cons]; omega
    · omega
theorem res_eq (l : List Int) (p : Nat) (hp : 1 ≤ p) : res l (p : Int) = rr (p : Int) l p 0 := by
  refine srt_eq (rr_sorted _ _ _ _) fun x => ?_
  rw [rr_mem, hasR_iff, List.mem_map]
  constructor
  · rintro ⟨_, _, h⟩; exact h
  · rintro ⟨o, ho, rfl⟩
    exact ⟨Int.emod_nonneg _ (by omega), by have := Int.emod_lt_of_pos o (show (0 : Int) < (p : Int) by omega); omega, o, ho, rfl⟩
theorem res_le (l : List Int) (p : Nat) (hp : 1 ≤ p) : (res l (p : Int)).length ≤ p := by rw [res_eq l p hp]; exact rr_length _ _ _ _
theorem res_len (l : List Int) (p : Int) : (res l p).length ≤ l.length := by
  unfold res
  refine Nat.le_trans (srt_length _) ?_
  rw [List.length_map]
  exact Nat.le_refl _
theorem reRests_l1 (l : List Int) (hl : l.length ≤ 1000) (h0 : ∀ x ∈ l, 0 ≤ x) (p : Nat) (hp : 1 ≤ p) (acc : List Int) (ha : acc.length ≤ 1000000) (r : Int) (hr : wrap64 (r + 1) = r + 1) {R : List Int} :
    ∀ (s : List Int) (i : Nat), l.drop i = s → Evl (fun k => spec_reRests.l0 k l (p : Int) (if hasR (p : Int) r s = true then acc ++ [r] else acc) (r + 1)) R → Evl (fun k => spec_reRests.l1 k l (p : Int) acc r l (l.length : Int) (i : Int)) R := by
  intro s
  induction s with
  | nil =>
    intro i h hR
    have hi := drop_nil h
    refine Evl.succ ?_
    simp only [spec_reRests.l1, if_neg (show ¬ (i : Int) < (l.length : Int) by omega), hr]
    exact hR
  | cons y s ih =>
    intro i h hR
    obtain ⟨hi, hx, hs⟩ := drop_cons h
    have hw : wrap64 ((i : Int) + 1) = ((i + 1 : Nat) : Int) := by rw [w64 (by omega) (by omega)]; rfl
    refine Evl.succ ?_
    simp only [spec_reRests.l1, if_pos (show (i : Int) < (l.length : Int) by omega), if_pos (show (0 : Int) ≤ (i : Int) by omega), if_neg (show ¬ (p : Int) = 0 by omega), if_pos (show acc.length < 17592186044416 by omega), rd_of hx, tmod_nn (h0 y (List.mem_of_getElem? hx)), hw, hr]
    unfold hasR at hR
    by_cases e : y % (p : Int) = r
    · rw [if_pos e] at hR
      simp only [if_pos e]
      exact hR
    · rw [if_neg e] at hR
      simp only [if_neg e]
      exact ih (i + 1) hs hR
theorem reRests_l0 (l : List Int) (hl : l.length ≤ 1000) (h0 : ∀ x ∈ l, 0 ≤ x) (p : Nat) (hp : 1 ≤ p) (hp2 : p ≤ 1000) : ∀ (m r : Nat) (acc : List Int), m + r = p → acc.length ≤ r → Evl (fun k => spec_reRests.l0 k l (p : Int) acc (r : Int)) (acc ++ rr (p : Int) l m (r : Int)) := by
  intro m
  induction m with
  | zero =>
    intro r acc h _
    refine Evl.succ ?_
    simp only [spec_reRests.l0, if_neg (show ¬ (r : Int) < (p : Int) by omega)]
    refine (Evl.ret _).cast ?_
    simp [rr]
  | succ m ih =>
    intro r acc h ha
    refine Evl.succ ?_
    simp only [spec_reRests.l0, if_pos (show (r : Int) < (p : Int) by omega)]
    refine reRests_l1 l hl h0 p hp acc (by omega) (r : Int) (w64 (by omega) (by omega)) l 0 rfl ?_
    unfold rr
    by_cases c : hasR (p : Int) (r : Int) l = true
    · rw [if_pos c, if_pos c]
      refine (ih (r + 1) (acc ++ [(r : Int)]) (by omega) (by rw [List.length_append, List.length_singleton]; omega)).cast ?_
      rw [List.append_assoc]
      rfl
    · rw [if_neg c, if_neg c]
      exact ih (r + 1) acc (by omega) (by omega)
theorem reRests_ev (l : List Int) (hl : l.length ≤ 1000) (h0 : ∀ x ∈ l, 0 ≤ x) (p : Nat) (hp : 1 ≤ p) (hp2 : p ≤ 1000) : Evl (fun k => spec_reRests.f k l (p : Int)) (res l (p : Int)) := by
  simp only [spec_reRests.f]
  rw [res_eq l p hp]
  exact reRests_l0 l hl h0 p hp hp2 p 0 [] (by omega) (by simp)
theorem restsOf_l0 (l : List Int) (hl : l.length ≤ 1000) (hne : l ≠ []) (h0 : ∀ x ∈ l, 0 ≤ x) (p : Nat) (hp : 1 ≤ p) : ∀ (s : List Int) (i : Nat) (acc : List Int), l.drop i = s → acc.length = i → acc ++ (s.map fun o => o % (p : Int)) = l.map (fun o => o % (p : Int)) → Evl (fun k => impl_restsOf.l0 k (p : Int) acc l (l.length : Int) (i : Int)) (res l (p : Int)) := by
  intro s
  induction s with
  | nil =>
    intro i acc h hai he
    have hi := drop_nil h
    rw [List.map_nil, List.append_nil] at he
    refine Evl.succ ?_
    obtain ⟨q, h1, h2⟩ := SortCompact acc (by rw [he]; simpa using hne) (by rw [he, List.length_map]; omega)
    simp only [impl_restsOf.l0, if_neg (show ¬ (i : Int) < (l.length : Int) by omega), h1, h2, Option.bind_some]
    refine (Evl.ret _).cast ?_
    rw [he]
    rfl
  | cons y s ih =>
    intro i acc h hai he
    obtain ⟨hi, hx, hs⟩ := drop_cons h
    have hw : wrap64 ((i : Int) + 1) = ((i + 1 : Nat) : Int) := by rw [w64 (by omega) (by omega)]; rfl
    refine Evl.succ ?_
    simp only [impl_restsOf.l0, if_pos (show (i : Int) < (l.length : Int) by omega), if_pos (show (0 : Int) ≤ (i : Int) by omega), if_neg (show ¬ (p : Int) = 0 by omega), if_pos (show acc.length < 17592186044416 by omega), rd_of hx, tmod_nn (h0 y (List.mem_of_getElem? hx)), hw]
    refine ih (i + 1) _ hs (by rw [List.length_append, List.length_singleton, hai]) ?_
    rw [← he, List.map_cons, List.append_assoc]
    rfl
theorem restsOf_ev (l : List Int) (hl : l.length ≤ 1000) (hne : l ≠ []) (h0 : ∀ x ∈ l, 0 ≤ x) (p : Nat) (hp : 1 ≤ p) : Evl (fun k => impl_restsOf.f k l (p : Int)) (res l (p : Int)) := by
  simp only [impl_restsOf.f]
  exact restsOf_l0 l hl hne h0 p hp l 0 [] rfl rfl rfl
/-- The first of some primes that closes a pattern, 0 for none. -/
def cls (l : List Int) : List Int → Int
  | [] => 0
  | p :: s => if ((res l p).length : Int) = p then p else cls l s
theorem cls_zero (l : List Int) : ∀ (s : List Int), (∀ p ∈ s, (l.length : Int) < p) → cls l s = 0
  | [], _ => rfl
  | p :: s, h => by
    unfold cls
    have h1 := h p (List.mem_cons_self ..)
    have h2 := res_len l p
    rw [if_neg (by omega), cls_zero l s fun q hq => h q (List.mem_cons_of_mem _ hq)]
def cl (l : List Int) : Int := cls l p6
theorem p6_nat {p : Int} (h : p ∈ p6) : ∃ q : Nat, p = (q : Int) ∧ 2 ≤ q ∧ q ≤ 13 := ⟨p.toNat, by have := p6_pos h; omega, by have := p6_pos h; omega⟩
theorem p6_sorted : p6.Pairwise (· < ·) := by decide
theorem closing_l0 (l : List Int) (hl : l.length ≤ 1000) (hne : l ≠ []) (h0 : ∀ x ∈ l, 0 ≤ x) : ∀ (s : List Int) (i : Nat), p6.drop i = s → i ≤ 6 → Evl (fun k => impl_closing.l0 k l p6 (p6.length : Int) (i : Int)) (cls l s) := by
  have h6 : p6.length = 6 := rfl
  intro s
  induction s with
  | nil =>
    intro i h _
    have hi := drop_nil h
    refine Evl.succ ?_
    simp only [impl_closing.l0, if_neg (show ¬ (i : Int) < (p6.length : Int) by omega)]
    exact Evl.ret _
  | cons y s ih =>
    intro i h hi6
    obtain ⟨hi, hx, hs⟩ := drop_cons h
    obtain ⟨q, rfl, hq⟩ := p6_nat (List.mem_of_getElem? hx)
    have hw : wrap64 ((i : Int) + 1) = ((i + 1 : Nat) : Int) := by rw [w64 (by omega) (by omega)]; rfl
    refine Evl.succ ?_
    simp only [impl_closing.l0, if_pos (show (i : Int) < (p6.length : Int) by omega), if_pos (show (0 : Int) ≤ (i : Int) by omega), rd_of hx, hw]
    refine Evl.bind (restsOf_ev l hl hne h0 q (by omega)) ?_
    unfold cls
    by_cases e : ((res l (q : Int)).length : Int) = (q : Int)
    · simp only [if_pos e]
      exact Evl.ret _
    · simp only [if_neg e]
      exact ih (i + 1) hs (by omega)
theorem closing_ev (l : List Int) (hl : l.length ≤ 1000) (hne : l ≠ []) (h0 : ∀ x ∈ l, 0 ≤ x) : Evl (fun k => impl_closing.f k l) (cl l) := by
  simp only [impl_closing.f, impl_firstSix.f, Option.bind_some]
  exact closing_l0 l hl hne h0 p6 0 rfl (by omega)
theorem isOpen_ev (l : List Int) (hl : l.length ≤ 1000) (hne : l ≠ []) (h0 : ∀ x ∈ l, 0 ≤ x) : Evl (fun k => impl_isOpen.f k l) (cl l == 0) := by
  simp only [impl_isOpen.f]
  exact Evl.bind (closing_ev l hl hne h0) (Evl.ret _)
theorem reClosing_l0 (l : List Int) (hl : l.length ≤ 1000) (h0 : ∀ x ∈ l, 0 ≤ x) : ∀ (s : List Int) (i : Nat), p6.drop i = s → i ≤ 6 → Evl (fun k => spec_reClosing.l0 k l (i : Int)) (cls l s) := by
  have h6 : p6.length = 6 := rfl
  intro s
  induction s with
  | nil =>
    intro i h hi6
    have hi := drop_nil h
    refine Evl.succ ?_
    simp only [spec_reClosing.l0, if_neg (show ¬ (i : Int) < 6 by omega)]
    refine Evl.succ ?_
    simp only [spec_reClosing.j1, Bool.false_eq_true, if_false]
    exact Evl.ret _
  | cons y s ih =>
    intro i h hi6
    obtain ⟨hi, hx, hs⟩ := drop_cons h
    have hsort : (y :: s).Pairwise (· < ·) := by rw [← h]; exact p6_sorted.sublist (List.drop_sublist _ _)
    obtain ⟨q, rfl, hq⟩ := p6_nat (List.mem_of_getElem? hx)
    have hw : wrap64 ((i : Int) + 1) = ((i + 1 : Nat) : Int) := by rw [w64 (by omega) (by omega)]; rfl
    have hr : spec_rePrime.f (i : Int) = some (q : Int) := by rw [rePrime_eq (by omega), rd_of hx]
    refine Evl.succ ?_
    simp only [spec_reClosing.l0, if_pos (show (i : Int) < 6 by omega), hr, Option.bind_some]
    refine Evl.succ ?_
    by_cases c : (q : Int) ≤ (l.length : Int)
    · simp only [spec_reClosing.j1, decide_eq_true c, if_true, hr, Option.bind_some, hw]
      refine Evl.bind (reRests_ev l hl h0 q (by omega) (by omega)) ?_
      unfold cls
      by_cases e : ((res l (q : Int)).length : Int) = (q : Int)
      · simp only [if_pos e]
        exact Evl.ret _
      · simp only [if_neg e]
        exact ih (i + 1) hs (by omega)
    · simp only [spec_reClosing.j1, decide_eq_false c, Bool.false_eq_true, if_false]
      refine (Evl.ret _).cast ?_
      refine (cls_zero l _ fun p hp => ?_).symm
      rcases List.mem_cons.1 hp with rfl | hp
      · omega
      · have := (List.pairwise_cons.1 hsort).1 p hp
        omega
theorem reClosing_ev (l : List Int) (hl : l.length ≤ 1000) (h0 : ∀ x ∈ l, 0 ≤ x) : Evl (fun k => spec_reClosing.f k l) (cl l) := by
  simp only [spec_reClosing.f]
  exact reClosing_l0 l hl h0 p6 0 rfl (by omega)

end Go.Proofs.Ytlngnnkkaepeeaa.L

/-! ## M9 -/
namespace Go.Proofs.Ytlngnnkkaepeeaa.M
set_option linter.unusedVariables false
set_option linter.unusedSimpArgs false
section
variable (bad : List Int → Bool)
def ie (g : List Int → Int → List (List Int)) (one : Bool) (w : Int) (l : List Int) : Nat → Int → List (List Int)
  | 0, _ => []
  | c + 1, o => (if one = true ∧ ¬ o = w then [] else g (l ++ [o]) o) ++ ie g one w l c (o + 1)
def iw (w : Int) : Nat → List Int → Int → List (List Int)
  | 0, l, last => if last = w ∧ bad l = false then [l] else []
  | m + 1, l, last => ie (iw w m) (decide (m = 0)) w l (w - last).toNat (last + 1)
def se (g : List Int → Int → List (List Int)) (l : List Int) : Nat → Int → List (List Int)
  | 0, _ => []
  | c + 1, x => (if bad (l ++ [x]) = false then g (l ++ [x]) x else []) ++ se g l c (x + 1)
def frm (w : Int) (m : Nat) (last : Int) : Int := if m = 0 then (if last + 1 > w then last + 1 else w) else last + 1
def sw (w : Int) : Nat → List Int → Int → List (List Int)
  | 0, l, last => if last = w then [l] else []
  | m + 1, l, last => se bad (sw w m) l (w + 1 - m - frm w m last).toNat (frm w m last)
theorem ie_nil (g : List Int → Int → List (List Int)) (one : Bool) (w : Int) (l : List Int) : ∀ (c : Nat) (o : Int), (∀ x, o ≤ x → x < o + c → (one = true → x = w) → g (l ++ [x]) x = []) → ie g one w l c o = []
  | 0, _, _ => rfl
  | c + 1, o, h => by
    rw [ie, ie_nil g one w l c (o + 1) (fun x h1 h2 h3 => h x (by omega) (by omega) h3), List.append_nil]
    split
    · rfl
    · rename_i hc
      refine h o (Int.le_refl _) (by omega) fun e => ?_
      exact Classical.byContradiction fun e2 => hc ⟨e, e2⟩
theorem iw_far {w : Int} : ∀ (m : Nat) (l : List Int) (last : Int), last + m > w → iw bad w m l last = []
  | 0, l, last, h => by
    rw [iw, if_neg]
    omega
  | m + 1, l, last, h => by
    rw [iw]
    exact ie_nil _ _ _ _ _ _ fun x h1 h2 _ => iw_far m _ x (by omega)
theorem iw_bad (hb : ∀ l x, bad l = true → bad (l ++ [x]) = true) {w : Int} : ∀ (m : Nat) (l : List Int) (last : Int), bad l = true → iw bad w m l last = []
  | 0, l, last, h => by
    rw [iw, if_neg]
    rw [h]
    exact fun c => by cases c.2
  | m + 1, l, last, h => by
    rw [iw]
    exact ie_nil _ _ _ _ _ _ fun x _ _ _ => iw_bad hb m _ x (hb l x h)
theorem ie_se (g g' : List Int → Int → List (List Int)) (w : Int) (l : List Int) : ∀ (c : Nat) (o : Int), (∀ x, o ≤ x → x < o + c → bad (l ++ [x]) = false → g (l ++ [x]) x = g' (l ++ [x]) x) → (∀ x, bad (l ++ [x]) = true → g (l ++ [x]) x = []) → ie g false w l c o = se bad g' l c o
  | 0, _, _, _ => rfl
  | c + 1, o, h, h2 => by
    rw [ie, se, ie_se g g' w l c (o + 1) (fun x a b d => h x (by omega) (by omega) d) h2, if_neg (fun c => by cases c.1)]
    congr 1
    cases e : bad (l ++ [o]) with
    | false => rw [if_pos rfl]; exact h o (Int.le_refl _) (by omega) e
    | true => rw [if_neg (fun c => by cases c)]; exact h2 o e
theorem ie_append (g : List Int → Int → List (List Int)) (one : Bool) (w : Int) (l : List Int) : ∀ (a b : Nat) (o : Int), ie g one w l (a + b) o = ie g one w l a o ++ ie g one w l b (o + a)
  | 0, b, o => by rw [Nat.zero_add, ie, List.nil_append]; congr 1; omega
  | a + 1, b, o => by
    rw [show a + 1 + b = (a + b) + 1 by omega, ie, ie, ie_append g one w l a b (o + 1), List.append_assoc, show o + 1 + (a : Int) = o + ((a + 1 : Nat) : Int) by omega]
theorem iw_sw (hb : ∀ l x, bad l = true → bad (l ++ [x]) = true) {w : Int} : ∀ (m : Nat) (l : List Int) (last : Int), bad l = false → iw bad w m l last = sw bad w m l last
  | 0, l, last, h => by
    rw [iw, sw, h]
    simp
  | 0 + 1, l, last, h => by
    rw [iw, sw]
    by_cases c : last + 1 > w
    · rw [frm, if_pos rfl, if_pos c, show (w - last).toNat = 0 by omega, show (w + 1 - ((0 : Nat) : Int) - (last + 1)).toNat = 0 by omega]
      rfl
    · rw [frm, if_pos rfl, if_neg c, show (w + 1 - ((0 : Nat) : Int) - w).toNat = 0 + 1 by omega]
      have e : (w - last).toNat = (w - last - 1).toNat + 1 := by omega
      rw [e, ie_append, ie_nil _ _ _ _ (w - last - 1).toNat _ (fun x h1 h2 h3 => by have := h3 (by decide); omega), List.nil_append]
      rw [show last + 1 + ((w - last - 1).toNat : Int) = w by omega, ie, se, ie, se, List.append_nil, List.append_nil, if_neg (fun d => d.2 rfl)]
      cases e2 : bad (l ++ [w]) with
      | false => rw [if_pos rfl]; exact iw_sw hb 0 _ _ e2
      | true => rw [if_neg (fun c => by cases c)]; exact iw_bad bad hb 0 _ _ e2
  | m + 1 + 1, l, last, h => by
    rw [iw, sw, frm, if_neg (by omega), show decide (m + 1 = 0) = false from rfl]
    by_cases c : last + 1 + (m + 1 : Nat) > w
    · rw [show (w + 1 - ((m + 1 : Nat) : Int) - (last + 1)).toNat = 0 by omega, se]
      exact ie_nil _ _ _ _ _ _ fun x h1 h2 _ => iw_far bad (m + 1) _ x (by omega)
    · have e : (w - last).toNat = (w + 1 - ((m + 1 : Nat) : Int) - (last + 1)).toNat + (m + 1) := by omega
      rw [e, ie_append, ie_nil _ _ _ _ (m + 1) _ (fun x h1 h2 _ => iw_far bad (m + 1) _ x (by omega)), List.append_nil]
      exact ie_se bad _ _ w l _ _ (fun x h1 h2 h3 => iw_sw hb (m + 1) _ x h3) fun x hx => iw_bad bad hb (m + 1) _ x hx
theorem iw_len {B : Nat} (hbB : 1 ≤ B) {w : Int} (hw : 0 ≤ w ∧ w ≤ B) : ∀ (m : Nat) (l : List Int) (last : Int), 0 ≤ last → (iw bad w m l last).length ≤ B ^ m
  | 0, l, last, h0 => by
    rw [iw]
    split <;> simp
  | m + 1, l, last, h0 => by
    rw [iw]
    have key : ∀ (c : Nat) (o : Int), 0 ≤ o → (ie (iw bad w m) (decide (m = 0)) w l c o).length ≤ c * B ^ m := by
      intro c
      induction c with
      | zero => intro o _; simp [ie]
      | succ c ih =>
        intro o ho
        rw [ie, List.length_append, Nat.succ_mul, Nat.add_comm]
        refine Nat.add_le_add (ih (o + 1) (by omega)) ?_
        split
        · exact Nat.zero_le _
        · exact iw_len hbB hw m _ o ho
    refine Nat.le_trans (key _ _ (by omega)) ?_
    rw [Nat.pow_succ, Nat.mul_comm]
    exact Nat.mul_le_mul (Nat.le_refl _) (by omega)
end

end Go.Proofs.Ytlngnnkkaepeeaa.M

/-! ## X31 -/
namespace Go.Proofs.Ytlngnnkkaepeeaa.L
open Go.RowKit Go.Proofs.YtlngnnkkaepeeaaW.PrintWords Go.Proofs.Ytlngnnkkaepeeaa.P Go.Proofs.Ytlngnnkkaepeeaa.M
set_option linter.unusedVariables false
set_option linter.unusedSimpArgs false

theorem evl_eq {α : Type} {g : Nat → Option α} {a b : α} (h : Evl g a) (e : a = b) : Evl g b := e ▸ h
def bad (l : List Int) : Bool := !(cl l == 0)
theorem cls_ne (l : List Int) : ∀ s : List Int, (∀ p ∈ s, p ≠ 0) → (cls l s ≠ 0 ↔ ∃ p ∈ s, ((res l p).length : Int) = p)
  | [], _ => ⟨fun h => absurd rfl h, fun ⟨_, h, _⟩ => absurd h List.not_mem_nil⟩
  | p :: s, h0 => by
    have ih := cls_ne l s fun q hq => h0 q (List.mem_cons_of_mem _ hq)
    unfold cls
    by_cases c : ((res l p).length : Int) = p
    · rw [if_pos c]
      exact ⟨fun _ => ⟨p, List.mem_cons_self .., c⟩, fun _ => h0 p (List.mem_cons_self ..)⟩
    · rw [if_neg c, ih]
      constructor
      · rintro ⟨q, hq, h⟩; exact ⟨q, List.mem_cons_of_mem _ hq, h⟩
      · rintro ⟨q, hq, h⟩
        rcases List.mem_cons.1 hq with rfl | hq
        · exact absurd h c
        · exact ⟨q, hq, h⟩
theorem rr_more (p : Int) (l : List Int) (x : Int) : ∀ (m : Nat) (r : Int), (rr p l m r).length ≤ (rr p (l ++ [x]) m r).length
  | 0, _ => Nat.le_refl _
  | m + 1, r => by
    have ih := rr_more p l x m (r + 1)
    unfold rr
    by_cases c : hasR p r l = true
    · have c2 : hasR p r (l ++ [x]) = true := by
        obtain ⟨o, ho, h⟩ := hasR_iff.1 c
        exact hasR_iff.2 ⟨o, List.mem_append_left _ ho, h⟩
      rw [if_pos c, if_pos c2, List.length_cons, List.length_cons]
      omega
    · rw [if_neg c]
      split
      · rw [List.length_cons]; omega
      · exact ih
theorem bad_more (l : List Int) (x : Int) (h : bad l = true) : bad (l ++ [x]) = true := by
  have p0 : ∀ p ∈ p6, p ≠ 0 := by decide
  unfold bad at h ⊢
  have h1 : cl l ≠ 0 := by simpa using h
  obtain ⟨p, hp, e⟩ := (cls_ne l p6 p0).1 h1
  have h2 : cl (l ++ [x]) ≠ 0 := (cls_ne (l ++ [x]) p6 p0).2 ⟨p, hp, by
    obtain ⟨q, rfl, hq⟩ := p6_nat hp
    have h3 := rr_more (q : Int) l x q 0
    have h4 := res_le (l ++ [x]) q (by omega)
    rw [← res_eq l q (by omega), ← res_eq (l ++ [x]) q (by omega)] at h3
    omega⟩
  simpa using h2
theorem bad_one : bad [0] = false := by
  have : cl [0] = 0 := cls_zero [0] p6 (by decide)
  unfold bad
  rw [this]
  rfl
theorem last_snoc (b : List Int) (x : Int) : rd (b ++ [x]) (((b ++ [x]).length : Int) - 1) = x := by
  have e : (((b ++ [x]).length : Int) - 1) = ((b.length : Nat) : Int) := by rw [List.length_append, List.length_singleton]; omega
  rw [e]
  refine rd_of ?_
  rw [List.getElem?_append_right (Nat.le_refl _), Nat.sub_self]
  rfl
theorem iw_len32 {w : Int} (hw : 0 ≤ w ∧ w ≤ 30) (m : Nat) (l : List Int) (last : Int) (h0 : 0 ≤ last) : (iw bad w m l last).length ≤ 32 ^ m := iw_len bad (B := 32) (by omega) (by omega) m l last h0
theorem sw_len32 {w : Int} (hw : 0 ≤ w ∧ w ≤ 30) (m : Nat) (l : List Int) (last : Int) (h0 : 0 ≤ last) (hb : bad l = false) : (sw bad w m l last).length ≤ 32 ^ m := by
  rw [← iw_sw bad bad_more m l last hb]
  exact iw_len32 hw m l last h0
theorem reLook_each (w : Int) (hw : 0 ≤ w ∧ w ≤ 30) (m : Nat) (ih : ∀ (b : List Int) (acc : List (List Int)), b ≠ [] → b.length + m ≤ 900 → (∀ x ∈ b, 0 ≤ x) → bad b = false → acc.length + 32 ^ m ≤ 4000000000000 → Evl (fun k => spec_reLook.go k w m b acc) (acc ++ sw bad w m b (rd b ((b.length : Int) - 1)))) (b : List Int) (hne : b ≠ []) (hl : b.length + (m + 1) ≤ 900) (h0 : ∀ x ∈ b, 0 ≤ x) : ∀ (c : Nat) (x : Int) (acc : List (List Int)), 0 ≤ x → acc.length + c * 32 ^ m ≤ 4000000000000 → Evl (fun k => spec_reLook.each (spec_reLook.go k w m) k b c x acc) (acc ++ se bad (sw bad w m) b c x) := by
  intro c
  induction c with
  | zero =>
    intro x acc _ _
    simp only [spec_reLook.each, se, List.append_nil]
    exact Evl.ret _
  | succ c ihc =>
    intro x acc hx ha
    rw [Nat.succ_mul] at ha
    have hz : acc.length + 32 ^ m ≤ 4000000000000 := Nat.le_trans (Nat.add_le_add_left (Nat.le_add_left _ _) _) ha
    have hz2 : acc.length + c * 32 ^ m ≤ 4000000000000 := Nat.le_trans (Nat.add_le_add_left (Nat.le_add_right _ _) _) ha
    have hl2 : (b ++ [x]).length + m ≤ 900 := by rw [List.length_append, List.length_singleton]; omega
    have h02 : ∀ y ∈ b ++ [x], 0 ≤ y := fun y hy => (List.mem_append.1 hy).elim (h0 y) fun h => by rw [List.mem_singleton.1 h]; exact hx
    simp only [spec_reLook.each]
    refine Evl.bind (reClosing_ev (b ++ [x]) (by omega) h02) ?_
    rw [se]
    by_cases e : cl (b ++ [x]) = 0
    · have hb : bad (b ++ [x]) = false := by unfold bad; rw [e]; rfl
      simp only [if_pos e, if_pos hb]
      have h1 := ih (b ++ [x]) acc (by simp) hl2 h02 hb hz
      rw [last_snoc] at h1
      refine Evl.bind h1 ?_
      have hs := sw_len32 hw m (b ++ [x]) x hx hb
      have h2 := ihc (x + 1) (acc ++ sw bad w m (b ++ [x]) x) (by omega) (by rw [List.length_append]; generalize c * 32 ^ m = z at *; omega)
      rw [List.append_assoc] at h2
      exact h2
    · have hb : ¬ bad (b ++ [x]) = false := by unfold bad; simpa using e
      simp only [if_neg e, if_neg hb, List.nil_append]
      exact ihc (x + 1) acc (by omega) hz2
theorem frm_nn {w : Int} {m : Nat} {last : Int} (hw : 0 ≤ w ∧ w ≤ 30) (h0 : 0 ≤ last) : 0 ≤ frm w m last ∧ (w + 1 - m - frm w m last).toNat ≤ 31 := by
  unfold frm
  split
  · split <;> omega
  · omega
theorem reLook_ev (w : Int) (hw : 0 ≤ w ∧ w ≤ 30) : ∀ (m : Nat) (b : List Int) (acc : List (List Int)), b ≠ [] → b.length + m ≤ 900 → (∀ x ∈ b, 0 ≤ x) → bad b = false → acc.length + 32 ^ m ≤ 4000000000000 → Evl (fun k => spec_reLook.go k w m b acc) (acc ++ sw bad w m b (rd b ((b.length : Int) - 1))) := by
  intro m
  induction m with
  | zero =>
    intro b acc hne hl h0 hb ha
    simp only [spec_reLook.go, sw]
    by_cases c : rd b ((b.length : Int) - 1) = w
    · simp only [if_pos c, if_pos (show acc.length < 5864062014805 by simp at ha; omega)]
      exact Evl.ret _
    · simp only [if_neg c, List.append_nil]
      exact Evl.ret _
  | succ m ih =>
    intro b acc hne hl h0 hb ha
    have hlast : 0 ≤ rd b ((b.length : Int) - 1) := by
      obtain ⟨s, y, rfl⟩ := List.eq_nil_or_concat b |>.resolve_left hne
      rw [List.concat_eq_append] at h0 ⊢
      rw [last_snoc]
      exact h0 y (by simp)
    have hf := frm_nn (m := m) (last := rd b ((b.length : Int) - 1)) hw hlast
    have e : ∀ w m last, spec_reLook.frm w m last = frm w m last := fun _ _ _ => rfl
    rw [sw]
    simp only [spec_reLook.go, e]
    rw [Nat.pow_succ] at ha
    have hmul := Nat.mul_le_mul_right (32 ^ m) (show (w + 1 - m - frm w m (rd b ((b.length : Int) - 1))).toNat ≤ 32 by omega)
    refine reLook_each w hw m (fun b acc h1 h2 h3 h4 h5 => ?_) b hne (by omega) h0 _ _ acc hf.1 ?_
    · exact ih b acc h1 h2 h3 h4 h5
    · rw [Nat.mul_comm 32] at hmul
      omega
theorem open_each (n w : Int) (hw : 0 ≤ w ∧ w ≤ 30) (m d : Nat) (ih : ∀ (b : List Int) (acc : List (List Int)), b ≠ [] → b.length + m ≤ 900 → (b.length : Int) + m = n → (∀ x ∈ b, 0 ≤ x) → acc.length + 32 ^ m ≤ 4000000000000 → Evl (fun k => impl_openPatterns.go k n w d b acc) (acc ++ iw bad w m b (rd b ((b.length : Int) - 1)))) (b : List Int) (hne : b ≠ []) (hl : b.length + (m + 1) ≤ 900) (hn : (b.length : Int) + (m + 1) = n) (h0 : ∀ x ∈ b, 0 ≤ x) : ∀ (c : Nat) (x : Int) (acc : List (List Int)), 0 ≤ x → acc.length + c * 32 ^ m ≤ 4000000000000 → Evl (fun k => impl_openPatterns.each (impl_openPatterns.go k n w d) n w b c x acc) (acc ++ ie (iw bad w m) (decide (m = 0)) w b c x) := by
  intro c
  induction c with
  | zero =>
    intro x acc _ _
    simp only [impl_openPatterns.each, ie, List.append_nil]
    exact Evl.ret _
  | succ c ihc =>
    intro x acc hx ha
    rw [Nat.succ_mul] at ha
    have hz : acc.length + 32 ^ m ≤ 4000000000000 := Nat.le_trans (Nat.add_le_add_left (Nat.le_add_left _ _) _) ha
    have hz2 : acc.length + c * 32 ^ m ≤ 4000000000000 := Nat.le_trans (Nat.add_le_add_left (Nat.le_add_right _ _) _) ha
    have hl2 : (b ++ [x]).length + m ≤ 900 := by rw [List.length_append, List.length_singleton]; omega
    have hn2 : ((b ++ [x]).length : Int) + m = n := by rw [List.length_append, List.length_singleton]; omega
    have h02 : ∀ y ∈ b ++ [x], 0 ≤ y := fun y hy => (List.mem_append.1 hy).elim (h0 y) fun h => by rw [List.mem_singleton.1 h]; exact hx
    simp only [impl_openPatterns.each]
    rw [ie]
    by_cases e : (b.length : Int) + 1 < n ∨ x = w
    · have e2 : ¬ (decide (m = 0) = true ∧ ¬ x = w) := fun d => by
        have := of_decide_eq_true d.1
        rcases e with e | e
        · omega
        · exact d.2 e
      simp only [if_pos e, if_neg e2]
      have h1 := ih (b ++ [x]) acc (by simp) hl2 hn2 h02 hz
      rw [last_snoc] at h1
      refine Evl.bind h1 ?_
      have hs := iw_len32 hw m (b ++ [x]) x hx
      have h2 := ihc (x + 1) (acc ++ iw bad w m (b ++ [x]) x) (by omega) (by rw [List.length_append]; generalize c * 32 ^ m = z at *; omega)
      rw [List.append_assoc] at h2
      exact h2
    · have e2 : decide (m = 0) = true ∧ ¬ x = w := ⟨decide_eq_true (Classical.byContradiction fun d => e (.inl (by omega))), fun d => e (.inr d)⟩
      simp only [if_neg e, if_pos e2, List.nil_append]
      exact ihc (x + 1) acc (by omega) hz2
theorem open_ev (n w : Int) (hw : 0 ≤ w ∧ w ≤ 30) : ∀ (m d : Nat) (b : List Int) (acc : List (List Int)), m < d → b ≠ [] → b.length + m ≤ 900 → (b.length : Int) + m = n → (∀ x ∈ b, 0 ≤ x) → acc.length + 32 ^ m ≤ 4000000000000 → Evl (fun k => impl_openPatterns.go k n w d b acc) (acc ++ iw bad w m b (rd b ((b.length : Int) - 1))) := by
  intro m
  induction m with
  | zero =>
    intro d b acc hd hne hl hn h0 ha
    obtain ⟨d, rfl⟩ : ∃ e, d = e + 1 := ⟨d - 1, by omega⟩
    simp only [impl_openPatterns.go, iw, if_pos (show (b.length : Int) = n by omega)]
    by_cases c : rd b ((b.length : Int) - 1) = w
    · simp only [if_pos c]
      refine Evl.bind (isOpen_ev b (by omega) hne h0) ?_
      by_cases e : cl b = 0
      · have hb : rd b ((b.length : Int) - 1) = w ∧ bad b = false := ⟨c, by unfold bad; rw [e]; rfl⟩
        rw [if_pos hb]
        simp only [if_pos (show (cl b == 0) = true from beq_iff_eq.2 e), if_pos (show acc.length < 5864062014805 by simp at ha; omega)]
        exact Evl.ret _
      · have hb : ¬ (rd b ((b.length : Int) - 1) = w ∧ bad b = false) := fun d => by have h2 := d.2; unfold bad at h2; simp at h2; exact e h2
        rw [if_neg hb]
        simp only [if_neg (show ¬ (cl b == 0) = true from fun d => e (beq_iff_eq.1 d)), List.append_nil]
        exact Evl.ret _
    · have hb : ¬ (rd b ((b.length : Int) - 1) = w ∧ bad b = false) := fun d => c d.1
      simp only [if_neg c, if_neg hb, List.append_nil]
      exact Evl.ret _
  | succ m ih =>
    intro d b acc hd hne hl hn h0 ha
    obtain ⟨d, rfl⟩ : ∃ e, d = e + 1 := ⟨d - 1, by omega⟩
    have hlast : 0 ≤ rd b ((b.length : Int) - 1) := by
      obtain ⟨s, y, rfl⟩ := List.eq_nil_or_concat b |>.resolve_left hne
      rw [List.concat_eq_append] at h0 ⊢
      rw [last_snoc]
      exact h0 y (by simp)
    rw [iw]
    simp only [impl_openPatterns.go, if_neg (show ¬ (b.length : Int) = n by omega)]
    rw [Nat.pow_succ] at ha
    have hmul := Nat.mul_le_mul_right (32 ^ m) (show (w - rd b ((b.length : Int) - 1)).toNat ≤ 32 by omega)
    refine open_each n w hw m d (fun b acc h1 h2 h3 h4 h5 => ih d b acc (by omega) h1 h2 h3 h4 h5) b hne hl (by omega) h0 _ _ acc (by omega) ?_
    rw [Nat.mul_comm 32] at hmul
    exact Nat.le_trans (Nat.add_le_add_left hmul _) ha
/-- All open patterns of so many offsets with a width. -/
def opF (n w : Int) : List (List Int) := iw bad w (n - 1).toNat [0] 0
theorem p32 {n : Int} (h : 1 ≤ n ∧ n ≤ 6) : ([] : List (List Int)).length + 32 ^ (n - 1).toNat ≤ 4000000000000 := by
  have : (32 : Nat) ^ (n - 1).toNat ≤ 32 ^ 5 := Nat.pow_le_pow_right (by omega) (by omega)
  have e : (32 : Nat) ^ 5 = 33554432 := by decide
  rw [e] at this
  show 0 + 32 ^ (n - 1).toNat ≤ _
  omega
theorem reAll_ev {n w : Int} (h : 1 ≤ n ∧ n ≤ 6) (hw : 0 ≤ w ∧ w ≤ 30) : Evl (fun k => spec_reAll.f k n w) (opF n w) := by
  have := reLook_ev w hw (n - 1).toNat [0] [] (by simp) (by simp; omega) (fun x hx => by rw [List.mem_singleton.1 hx]; omega) bad_one (p32 h)
  simp only [spec_reAll.f, if_pos (show 1 ≤ n ∧ n ≤ 50 ∧ 0 ≤ w ∧ w ≤ 1000 by omega)]
  refine evl_eq this ?_
  unfold opF
  rw [List.nil_append, iw_sw bad bad_more _ _ _ bad_one]
  rfl
theorem openP_ev {n w : Int} (h : 1 ≤ n ∧ n ≤ 6) (hw : 0 ≤ w ∧ w ≤ 30) : Evl (fun k => impl_openPatterns.f k n w) (opF n w) := by
  have := open_ev n w hw (n - 1).toNat 50 [0] [] (by omega) (by simp) (by simp; omega) (by simp; omega) (fun x hx => by rw [List.mem_singleton.1 hx]; omega) (p32 h)
  simp only [impl_openPatterns.f, if_pos (show 1 ≤ n ∧ n ≤ 50 ∧ 0 ≤ w ∧ w ≤ 1000 by omega)]
  refine evl_eq this ?_
  rw [List.nil_append]
  rfl

end Go.Proofs.Ytlngnnkkaepeeaa.L

/-! ## X32 -/
namespace Go.Proofs.Ytlngnnkkaepeeaa.L
open Go.RowKit Go.Proofs.YtlngnnkkaepeeaaW.PrintWords Go.Proofs.Ytlngnnkkaepeeaa.P Go.Proofs.Ytlngnnkkaepeeaa.M
set_option linter.unusedVariables false
set_option linter.unusedSimpArgs false

/-! ### the narrowest -/
theorem iw_rows {w : Int} : ∀ (m : Nat) (l : List Int) (last : Int), ∀ r ∈ iw bad w m l last, r.length = l.length + m := by
  intro m
  induction m with
  | zero =>
    intro l last r hr
    rw [iw] at hr
    split at hr
    · rw [List.mem_singleton.1 hr]; rfl
    · cases hr
  | succ m ih =>
    intro l last
    have key : ∀ (c : Nat) (o : Int), ∀ r ∈ ie (iw bad w m) (decide (m = 0)) w l c o, r.length = l.length + (m + 1) := by
      intro c
      induction c with
      | zero => intro o r hr; cases hr
      | succ c ihc =>
        intro o r hr
        rw [ie] at hr
        rcases List.mem_append.1 hr with h | h
        · split at h
          · cases h
          · have := ih _ _ r h
            rw [List.length_append, List.length_singleton] at this
            omega
        · exact ihc (o + 1) r h
    rw [iw]
    exact key _ _
end Go.Proofs.Ytlngnnkkaepeeaa.L

/-! ## X33 -/
namespace Go.Proofs.Ytlngnnkkaepeeaa.L
open Go.RowKit Go.Proofs.YtlngnnkkaepeeaaW.PrintWords Go.Proofs.Ytlngnnkkaepeeaa.P Go.Proofs.Ytlngnnkkaepeeaa.M
set_option linter.unusedVariables false
set_option linter.unusedSimpArgs false

/-- Rows that hold the numbers from v on. -/
def mkL : Int → List (List Int) → List (List Int)
  | _, [] => []
  | v, x :: s => iot v x.length :: mkL (v + x.length) s
theorem mkL_length : ∀ (l : List (List Int)) (v : Int), (mkL v l).length = l.length
  | [], _ => rfl
  | x :: s, v => by rw [mkL, List.length_cons, List.length_cons, mkL_length s]
theorem markSS_go : ∀ (l : List (List Int)) (v : Int), 0 ≤ v → v + wt l ≤ 1099511627776 → Evl (fun k => laws_markIntSS.go k l v) (v + wt l, mkL v l)
  | [], v, h0, _ => by
    refine (Evl.ret _).cast ?_
    simp [wt, mkL]
  | x :: s, v, h0, h => by
    unfold wt at h
    have h1 : v + (x.length : Int) + (wt s : Int) ≤ 1099511627776 := by omega
    simp only [laws_markIntSS.go]
    have hx : Evl (fun k => laws_markIntS.f k x v) (v + x.length, iot v x.length) := by
      simp only [laws_markIntS.f]
      exact markIntS_l0 x [] v 0 rfl (by simp; omega) h0 (by omega)
    refine Evl.bind hx ?_
    refine Evl.bind (markSS_go s (v + x.length) (by omega) h1) ?_
    refine (Evl.ret _).cast ?_
    rw [mkL]
    refine Prod.ext ?_ rfl
    show v + (x.length : Int) + (wt s : Int) = v + ((x.length + wt s : Nat) : Int)
    omega
theorem heldSS_l0 (a : List (List Int)) (hl : a.length ≤ 1099511627776) : ∀ (s : List (List Int)) (v : Int) (i : Nat), a.drop i = mkL v s → 0 ≤ v → v + wt s ≤ 1099511627776 → Evl (fun k => laws_heldIntSS.l0 k a v (i : Int)) (v + wt s) := by
  intro s
  induction s with
  | nil =>
    intro v i h _ _
    have hi := drop_nil h
    refine Evl.succ ?_
    simp only [laws_heldIntSS.l0, if_neg (show ¬ (i : Int) < (a.length : Int) by omega)]
    refine (Evl.ret _).cast ?_
    simp [wt]
  | cons x s ih =>
    intro v i h h0 hb
    obtain ⟨hi, hx, hs⟩ := drop_cons h
    unfold wt at hb
    have hw : wrap64 ((i : Int) + 1) = ((i + 1 : Nat) : Int) := by rw [w64 (by omega) (by omega)]; rfl
    have hh : Evl (fun k => laws_heldIntS.f k (iot v x.length) v) (v + x.length) := by
      simp only [laws_heldIntS.f]
      exact heldIntS_l0 (iot v x.length) (by rw [iot_length]; omega) x.length v 0 rfl h0 (by omega)
    refine Evl.succ ?_
    simp only [laws_heldIntSS.l0, if_pos (show (i : Int) < (a.length : Int) by omega), if_pos (show (0 : Int) ≤ (i : Int) by omega), rdL_of hx, hw]
    refine Evl.bind hh ?_
    simp only [if_neg (show ¬ v + (x.length : Int) < 0 by omega)]
    refine (ih (v + x.length) (i + 1) hs (by omega) (by omega)).cast ?_
    show v + (x.length : Int) + (wt s : Int) = v + ((x.length + wt s : Nat) : Int)
    omega
theorem heldSS_ev (l : List (List Int)) (hl : l.length ≤ 1099511627776) (hw : wt l ≤ 1000000000000) : Evl (fun k => laws_heldIntSS.f k (mkL 1 l) 1) (1 + wt l) := by
  simp only [laws_heldIntSS.f]
  exact heldSS_l0 (mkL 1 l) (by rw [mkL_length]; exact hl) l 1 0 rfl (by omega) (by omega)
theorem wt_rows {c : Nat} : ∀ l : List (List Int), (∀ r ∈ l, r.length ≤ c) → wt l ≤ l.length * (c + 2)
  | [], _ => Nat.zero_le _
  | x :: s, h => by
    have h1 := wt_rows s fun r hr => h r (List.mem_cons_of_mem _ hr)
    have h2 := h x (List.mem_cons_self ..)
    rw [List.length_cons, Nat.succ_mul]
    unfold wt
    omega
theorem FnExactAllOpen_main (a0 a1 : Int) : ∃ r b, Evl (fun k => spec_AllOpen.f k a0 a1) (r, b) ∧ Evl (fun k => impl_AllOpen.f k a0 a1) (r, b) ∧ r.length ≤ 10000000000 ∧ wt r ≤ 100000000000 := by
  have no1 : Evl (fun k => spec_AllOpen.j0 k a0 a1 true) ([], false) := by
    refine Evl.succ ?_
    simp only [spec_AllOpen.j0, if_true]
    exact Evl.ret _
  have no2 : Evl (fun k => impl_AllOpen.j0 k a0 a1 true) ([], false) := by
    refine Evl.succ ?_
    simp only [impl_AllOpen.j0, if_true]
    exact Evl.ret _
  by_cases g0 : 1 ≤ a0 ∧ a0 ≤ 6
  · by_cases g1 : 0 ≤ a1 ∧ a1 ≤ 30
    · have h5 := reAll_ev g0 g1
      have h6 := openP_ev g0 g1
      have e1 : (fun k => spec_AllOpen.f k a0 a1) = fun k => spec_AllOpen.j0 k a0 a1 false := by
        funext k
        simp only [spec_AllOpen.f, l1In_eq, Option.bind_some, decide_eq_true g0, decide_eq_true g1, if_true, Bool.not_true]
      have e2 : (fun k => impl_AllOpen.f k a0 a1) = fun k => impl_AllOpen.j0 k a0 a1 false := by
        funext k
        simp only [impl_AllOpen.f, if_neg (show ¬ a0 < 1 by omega), if_neg (show ¬ a0 > 6 by omega), if_neg (show ¬ a1 < 0 by omega), decide_eq_false (show ¬ a1 > 30 by omega)]
      by_cases c : ((opF a0 a1).length : Int) > 300
      · refine ⟨[], false, ?_, ?_, by simp, by simp [wt]⟩
        · rw [e1]
          refine Evl.succ ?_
          simp only [spec_AllOpen.j0, Bool.false_eq_true, if_false]
          refine Evl.bind h5 ?_
          simp only [if_pos c]
          exact Evl.ret _
        · rw [e2]
          refine Evl.succ ?_
          simp only [impl_AllOpen.j0, Bool.false_eq_true, if_false]
          refine Evl.bind h6 ?_
          simp only [if_pos c]
          exact Evl.ret _
      · have hw := wt_rows (c := 7) (opF a0 a1) fun r hr => by
          have := iw_rows (w := a1) (a0 - 1).toNat [0] 0 r hr
          rw [List.length_singleton] at this
          omega
        refine ⟨opF a0 a1, true, ?_, ?_, by omega, by omega⟩
        · rw [e1]
          refine Evl.succ ?_
          simp only [spec_AllOpen.j0, Bool.false_eq_true, if_false]
          refine Evl.bind h5 ?_
          simp only [if_neg c]
          exact Evl.ret _
        · rw [e2]
          refine Evl.succ ?_
          simp only [impl_AllOpen.j0, Bool.false_eq_true, if_false]
          refine Evl.bind h6 ?_
          simp only [if_neg c]
          exact Evl.ret _
    · refine ⟨[], false, ?_, ?_, by simp, by simp [wt]⟩
      · simp only [spec_AllOpen.f, l1In_eq, Option.bind_some, decide_eq_true g0, decide_eq_false g1, if_true, Bool.not_false]
        exact no1
      · simp only [impl_AllOpen.f, if_neg (show ¬ a0 < 1 by omega), if_neg (show ¬ a0 > 6 by omega)]
        by_cases c : a1 < 0
        · simp only [if_pos c]
          exact no2
        · simp only [if_neg c, decide_eq_true (show a1 > 30 by omega)]
          exact no2
  · refine ⟨[], false, ?_, ?_, by simp, by simp [wt]⟩
    · simp only [spec_AllOpen.f, l1In_eq, Option.bind_some, decide_eq_false g0, Bool.false_eq_true, if_false]
      exact no1
    · simp only [impl_AllOpen.f]
      by_cases c : a0 < 1
      · simp only [if_pos c]
        exact no2
      · simp only [if_neg c, if_pos (show a0 > 6 by omega)]
        exact no2
theorem FnExactAllOpen_law (a0 a1 : Int) : Evl (fun k => laws_FnExactAllOpen.f k a0 a1) true := by
  obtain ⟨r, b, hs, hi, h1, h2⟩ := FnExactAllOpen_main a0 a1
  have heq := eqIntSS_self r (by omega) (by omega)
  have hm : Evl (fun k => laws_markIntSS.f k r 1) (1 + wt r, mkL 1 r) := markSS_go r 1 (by omega) (by omega)
  have hh := heldSS_ev r (by omega) (by omega)
  simp only [laws_FnExactAllOpen.f]
  refine Evl.bind hs ?_
  refine Evl.bind hi ?_
  refine Evl.bind heq ?_
  simp only [and_self, if_true]
  refine Evl.bind hm ?_
  refine Evl.bind hh ?_
  simp only [and_true, if_pos (show (0 : Int) ≤ 1 + (wt r : Int) by omega)]
  refine Evl.bind hi ?_
  refine Evl.bind heq ?_
  simp only [and_self, if_true]
  refine Evl.bind hh ?_
  simp only [and_true, if_pos (show (0 : Int) ≤ 1 + (wt r : Int) by omega)]
  exact Evl.ret _

end Go.Proofs.Ytlngnnkkaepeeaa.L
