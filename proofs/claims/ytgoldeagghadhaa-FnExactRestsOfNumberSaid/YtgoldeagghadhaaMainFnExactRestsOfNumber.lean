/- RestsOfNumber of the program tells what the reference's tells, for all arguments: what both functions compute. No condition beyond 64 bits and the lengths that the statement's guards give. -/
import Derived.Test.YtgoldeagghadhaaPx0
import Derived.Test.YtgoldeagghadhaaPx11
import Derived.Test.YtgoldeagghadhaaPx14
import Derived.Test.YtgoldeagghadhaaPx15
import Derived.Test.YtgoldeagghadhaaPx1
import Derived.Test.YtgoldeagghadhaaPx8
import Derived.Test.YtgoldeagghadhaaPx9
import Derived.Test.YtgoldeagghadhaaPx12
import Derived.Test.YtgoldeagghadhaaPx13
import Derived.Test.YtgoldeagghadhaaPx10
/-! ## L0 -/
namespace Go.Proofs.Ytgoldeagghadhaa.L
open Go.RowKit Go.Proofs.YtgoldeagghadhaaW.PrintWords
set_option linter.unusedVariables false
set_option linter.unusedSimpArgs false

/-- With enough rounds g tells r. -/
def Evl {α : Type} (g : Nat → Option α) (r : α) : Prop := ∃ K, ∀ k, K ≤ k → g k = some r
theorem Evl.ret {α : Type} (r : α) : Evl (fun _ => some r) r := ⟨0, fun _ _ => rfl⟩
theorem Evl.bind {α β : Type} {g : Nat → Option α} {f : Nat → α → Option β} {a : α} {r : β} (h : Evl g a) (h2 : Evl (fun k => f k a) r) : Evl (fun k => (g k).bind (f k)) r := by
  obtain ⟨K, hK⟩ := h
  obtain ⟨K2, hK2⟩ := h2
  refine ⟨max K K2, fun k hk => ?_⟩
  show (g k).bind (f k) = some r
  rw [hK k (Nat.le_trans (Nat.le_max_left _ _) hk), Option.bind_some]
  exact hK2 k (Nat.le_trans (Nat.le_max_right _ _) hk)
theorem Evl.succ {α : Type} {g : Nat → Option α} {r : α} (h : Evl (fun k => g (k + 1)) r) : Evl g r := by
  obtain ⟨K, hK⟩ := h
  refine ⟨K + 1, fun k hk => ?_⟩
  obtain ⟨m, rfl⟩ : ∃ m, k = m + 1 := ⟨k - 1, by omega⟩
  exact hK m (by omega)
theorem Evl.get {α : Type} {g : Nat → Option α} {r : α} (h : Evl g r) : ∃ k, g k = some r := by
  obtain ⟨K, hK⟩ := h
  exact ⟨K, hK K (Nat.le_refl _)⟩
theorem Evl.cast {α : Type} {g : Nat → Option α} {r r' : α} (h : Evl g r) (e : r = r') : Evl g r' := e ▸ h

theorem w64 {x : Int} (h0 : -9223372036854775808 ≤ x) (h1 : x ≤ 9223372036854775807) : wrap64 x = x := by
  unfold wrap64
  omega
theorem drop_nil {α : Type} {xs : List α} {i : Nat} (h : xs.drop i = []) : xs.length ≤ i := by
  simpa using h
theorem drop_cons {α : Type} {xs s : List α} {x : α} {i : Nat} (h : xs.drop i = x :: s) : i < xs.length ∧ xs[i]? = some x ∧ xs.drop (i + 1) = s := by
  have hl : i < xs.length := by
    rcases Nat.lt_or_ge i xs.length with h1 | h1
    · exact h1
    · rw [List.drop_of_length_le h1] at h
      cases h
  rw [List.drop_eq_getElem_cons hl] at h
  injection h with h1 h2
  exact ⟨hl, by rw [List.getElem?_eq_getElem hl, h1], h2⟩
theorem rd_of {xs : List Int} {i : Nat} {x : Int} (h : xs[i]? = some x) : rd xs (i : Int) = x := by
  unfold rd
  rw [Int.toNat_natCast, List.getD_eq_getElem?_getD, h]
  rfl
end Go.Proofs.Ytgoldeagghadhaa.L

/-! ## E0 -/
namespace Go.Proofs.Ytgoldeagghadhaa.L
open Go.RowKit Go.Proofs.YtgoldeagghadhaaW.PrintWords Go.Proofs.Ytgoldeagghadhaa.P
set_option linter.unusedVariables false
set_option linter.unusedSimpArgs false

/-- n numbers from v on. -/
def iot : Int → Nat → List Int
  | _, 0 => []
  | v, n + 1 => v :: iot (v + 1) n
theorem iot_length : ∀ (n : Nat) (v : Int), (iot v n).length = n
  | 0, _ => rfl
  | n + 1, v => by rw [iot, List.length_cons, iot_length n]

theorem eqIntS_l0 (a : List Int) (hl : a.length ≤ 1099511627776) : ∀ (s : List Int) (i : Nat), a.drop i = s → Evl (fun k => laws_eqIntS.l0 k a a (i : Int)) true := by
  intro s
  induction s with
  | nil =>
    intro i h
    have hi := drop_nil h
    refine Evl.succ ?_
    have h1 : ¬ (i : Int) < (a.length : Int) := by omega
    simp only [laws_eqIntS.l0, if_neg h1]
    exact Evl.ret _
  | cons x s ih =>
    intro i h
    obtain ⟨hi, hx, hs⟩ := drop_cons h
    have hw : wrap64 ((i : Int) + 1) = ((i + 1 : Nat) : Int) := by rw [w64 (by omega) (by omega)]; rfl
    refine Evl.succ ?_
    have h1 : (i : Int) < (a.length : Int) := by omega
    have h2 : (0 : Int) ≤ (i : Int) := by omega
    simp only [laws_eqIntS.l0, if_pos h1, if_pos h2, if_true, hw]
    exact ih (i + 1) hs
theorem eqIntS_self (a : List Int) (hl : a.length ≤ 1099511627776) : Evl (fun k => laws_eqIntS.f k a a) true := by
  simp only [laws_eqIntS.f, if_true]
  exact eqIntS_l0 a hl a 0 rfl

theorem markIntS_l0 : ∀ (s pre : List Int) (v : Int) (i : Nat), pre.length = i → pre.length + s.length ≤ 1099511627776 → 0 ≤ v → v + s.length ≤ 1099511627800 → Evl (fun k => laws_markIntS.l0 k (pre ++ s) v (i : Int)) (v + s.length, pre ++ iot v s.length) := by
  intro s
  induction s with
  | nil =>
    intro pre v i hi _ _ _
    refine Evl.succ ?_
    have h1 : ¬ (i : Int) < ((pre ++ []).length : Int) := by rw [List.append_nil]; omega
    simp only [laws_markIntS.l0, if_neg h1]
    refine (Evl.ret _).cast ?_
    simp [iot]
  | cons x s ih =>
    intro pre v i hi hb hv hvb
    rw [List.length_cons] at hb hvb
    have hw : wrap64 ((i : Int) + 1) = ((i + 1 : Nat) : Int) := by rw [w64 (by omega) (by omega)]; rfl
    have hw2 : wrap64 (v + 1) = v + 1 := w64 (by omega) (by omega)
    refine Evl.succ ?_
    have h1 : (i : Int) < ((pre ++ x :: s).length : Int) := by rw [List.length_append, List.length_cons]; omega
    have h2 : (0 : Int) ≤ (i : Int) := by omega
    have hset : (pre ++ x :: s).set (i : Int).toNat v = (pre ++ [v]) ++ s := by
      rw [Int.toNat_natCast, ← hi, List.set_append_right _ _ (Nat.le_refl _), Nat.sub_self, List.set_cons_zero, List.append_assoc]
      rfl
    simp only [laws_markIntS.l0, if_pos h1, if_pos h2, hw, hw2, hset]
    have := ih (pre ++ [v]) (v + 1) (i + 1) (by rw [List.length_append, hi]; rfl) (by rw [List.length_append, List.length_singleton]; omega) (by omega) (by omega)
    refine this.cast ?_
    rw [List.length_cons, iot, List.append_assoc]
    refine Prod.ext ?_ rfl
    show v + 1 + (s.length : Int) = v + ((s.length + 1 : Nat) : Int)
    omega
theorem markIntS_ev (a : List Int) (hl : a.length ≤ 1099511627776) : Evl (fun k => laws_markIntS.f k a 1) (1 + a.length, iot 1 a.length) := by
  simp only [laws_markIntS.f]
  exact markIntS_l0 a [] 1 0 rfl (by simpa using hl) (by omega) (by omega)

theorem heldIntS_l0 (a : List Int) (hl : a.length ≤ 1099511627776) : ∀ (n : Nat) (v : Int) (i : Nat), a.drop i = iot v n → 0 ≤ v → v + n ≤ 1099511627800 → Evl (fun k => laws_heldIntS.l0 k a v (i : Int)) (v + n) := by
  intro n
  induction n with
  | zero =>
    intro v i h _ _
    have hi := drop_nil h
    refine Evl.succ ?_
    have h1 : ¬ (i : Int) < (a.length : Int) := by omega
    simp only [laws_heldIntS.l0, if_neg h1]
    refine (Evl.ret _).cast ?_
    omega
  | succ n ih =>
    intro v i h hv hb
    obtain ⟨hi, hx, hs⟩ := drop_cons h
    have hw : wrap64 ((i : Int) + 1) = ((i + 1 : Nat) : Int) := by rw [w64 (by omega) (by omega)]; rfl
    have hw2 : wrap64 (v + 1) = v + 1 := w64 (by omega) (by omega)
    have hr : rd a (i : Int) = v := rd_of hx
    refine Evl.succ ?_
    have h1 : (i : Int) < (a.length : Int) := by omega
    have h2 : (0 : Int) ≤ (i : Int) := by omega
    simp only [laws_heldIntS.l0, if_pos h1, if_pos h2, hr, if_true, hw, hw2]
    refine (ih (v + 1) (i + 1) hs (by omega) (by omega)).cast ?_
    omega
theorem heldIntS_ev (n : Nat) (hl : n ≤ 1099511627776) : Evl (fun k => laws_heldIntS.f k (iot 1 n) 1) (1 + n) := by
  simp only [laws_heldIntS.f]
  exact heldIntS_l0 (iot 1 n) (by rw [iot_length]; exact hl) n 1 0 rfl (by omega) (by omega)
theorem toIntS_l0 (a : List Int) (hl : a.length ≤ 1099511627776) : ∀ (s pre t : List Int) (i : Nat), pre.length = i → a = pre ++ s → t.length = s.length → Evl (fun k => laws_toIntS.l0 k a (pre ++ t) (i : Int)) a := by
  intro s
  induction s with
  | nil =>
    intro pre t i hi ha ht
    obtain rfl : t = [] := List.eq_nil_of_length_eq_zero ht
    refine Evl.succ ?_
    have h1 : ¬ (i : Int) < (a.length : Int) := by rw [ha, List.append_nil]; omega
    simp only [laws_toIntS.l0, if_neg h1]
    rw [← ha]
    exact Evl.ret _
  | cons x s ih =>
    intro pre t i hi ha ht
    obtain ⟨y, t, rfl⟩ : ∃ y t', t = y :: t' := by
      cases t with
      | nil => cases ht
      | cons y t => exact ⟨y, t, rfl⟩
    have hal : a.length = i + (s.length + 1) := by rw [ha, List.length_append, hi, List.length_cons]
    have h1 : (i : Int) < (a.length : Int) := by omega
    have h0 : (0 : Int) ≤ (i : Int) := by omega
    have h2 : (i : Int) < ((pre ++ y :: t).length : Int) := by rw [List.length_append, List.length_cons]; omega
    have hx : rd a (i : Int) = x := rd_of (by rw [ha, List.getElem?_append_right (by omega), hi, Nat.sub_self]; rfl)
    have hw : wrap64 ((i : Int) + 1) = ((i + 1 : Nat) : Int) := by rw [w64 (by omega) (by omega)]; rfl
    have hset : (pre ++ y :: t).set (i : Int).toNat x = (pre ++ [x]) ++ t := by
      rw [Int.toNat_natCast, ← hi, List.set_append_right _ _ (Nat.le_refl _), Nat.sub_self, List.set_cons_zero, List.append_assoc]
      rfl
    refine Evl.succ ?_
    simp only [laws_toIntS.l0, if_pos h1, if_pos h0, if_pos h2, hx, hw, hset]
    refine ih (pre ++ [x]) t (i + 1) (by rw [List.length_append, hi]; rfl) (by rw [ha, List.append_assoc]; rfl) ?_
    rw [List.length_cons, List.length_cons] at ht
    omega
theorem toIntS_ev (a : List Int) (hl : a.length ≤ 1099511627776) : Evl (fun k => laws_toIntS.f k a) a := by
  have h0 : (0 : Int) ≤ (a.length : Int) := by omega
  have h1 : ((a.length : Int)).toNat ≤ 35184372088832 := by omega
  simp only [laws_toIntS.f, if_pos h0, if_pos h1]
  exact toIntS_l0 a hl a [] (List.replicate _ 0) 0 rfl rfl (by rw [List.length_replicate]; exact Int.toNat_natCast _)

end Go.Proofs.Ytgoldeagghadhaa.L

/-! ## M1 -/
namespace Go.Proofs.Ytgoldeagghadhaa.M
set_option linter.unusedVariables false
set_option linter.unusedSimpArgs false

/-! ### factors -/
end Go.Proofs.Ytgoldeagghadhaa.M

/-! ## E1 -/
namespace Go.Proofs.Ytgoldeagghadhaa.L
open Go.RowKit Go.Proofs.YtgoldeagghadhaaW.PrintWords Go.Proofs.Ytgoldeagghadhaa.P Go.Proofs.Ytgoldeagghadhaa.M
set_option linter.unusedVariables false
set_option linter.unusedSimpArgs false

end Go.Proofs.Ytgoldeagghadhaa.L

/-! ## E2 -/

namespace Go.Proofs.Ytgoldeagghadhaa.L
open Go.RowKit Go.Proofs.YtgoldeagghadhaaW.PrintWords Go.Proofs.Ytgoldeagghadhaa.P Go.Proofs.Ytgoldeagghadhaa.M
set_option linter.unusedVariables false
set_option linter.unusedSimpArgs false

end Go.Proofs.Ytgoldeagghadhaa.L

/-! ## E3 -/

namespace Go.Proofs.Ytgoldeagghadhaa.L
open Go.RowKit Go.Proofs.YtgoldeagghadhaaW.PrintWords Go.Proofs.Ytgoldeagghadhaa.P Go.Proofs.Ytgoldeagghadhaa.M
set_option linter.unusedVariables false
set_option linter.unusedSimpArgs false

end Go.Proofs.Ytgoldeagghadhaa.L

/-! ## E4 -/
namespace Go.Proofs.Ytgoldeagghadhaa.L
open Go.RowKit Go.Proofs.YtgoldeagghadhaaW.PrintWords Go.Proofs.Ytgoldeagghadhaa.P Go.Proofs.Ytgoldeagghadhaa.M
set_option linter.unusedVariables false
set_option linter.unusedSimpArgs false

theorem l1In_eq (a lo hi : Int) : spec_l1In.f a lo hi = some (decide (lo ≤ a ∧ a ≤ hi)) := by
  unfold spec_l1In.f
  by_cases h : a ≥ lo
  · rw [if_pos h]
    by_cases h2 : a ≤ hi
    · rw [decide_eq_true h2, decide_eq_true ⟨h, h2⟩]
    · rw [decide_eq_false h2, decide_eq_false (fun c => h2 c.2)]
  · rw [if_neg h, decide_eq_false (fun c => h c.1)]

end Go.Proofs.Ytgoldeagghadhaa.L

/-! ## M4 -/
namespace Go.Proofs.Ytgoldeagghadhaa.M
set_option linter.unusedVariables false
set_option linter.unusedSimpArgs false

/-- The first six primes. -/
def six : List Nat := [2, 3, 5, 7, 11, 13]
/-- Of different members of a list there are no more than it has. -/
theorem nodup_len {α : Type} [DecidableEq α] : ∀ (l s : List α), l.Nodup → (∀ x ∈ l, x ∈ s) → l.length ≤ s.length
  | [], s, _, _ => Nat.zero_le _
  | x :: l, s, h, hs => by
    obtain ⟨h1, h2⟩ := List.nodup_cons.1 h
    have hx := hs x (List.mem_cons_self ..)
    have := nodup_len l (s.erase x) h2 fun y hy => (List.mem_erase_of_ne (fun (e : y = x) => h1 (e ▸ hy))).2 (hs y (List.mem_cons_of_mem _ hy))
    rw [List.length_erase_of_mem hx] at this
    have hp := List.length_pos_of_mem hx
    rw [List.length_cons]
    omega

end Go.Proofs.Ytgoldeagghadhaa.M

/-! ## E9 -/
namespace Go.Proofs.Ytgoldeagghadhaa.L
open Go.RowKit Go.Proofs.YtgoldeagghadhaaW.PrintWords Go.Proofs.Ytgoldeagghadhaa.P Go.Proofs.Ytgoldeagghadhaa.M
set_option linter.unusedVariables false
set_option linter.unusedSimpArgs false

/-- The first six primes. -/
def p6 : List Int := [2, 3, 5, 7, 11, 13]
def has : List Int → Int → Bool
  | [], _ => false
  | y :: s, x => if y = x then true else has s x
theorem has_iff : ∀ {s : List Int} {x : Int}, has s x = true ↔ x ∈ s
  | [], x => by simp [has]
  | y :: s, x => by
    unfold has
    by_cases e : y = x
    · simp [e]
    · rw [if_neg e, has_iff, List.mem_cons]
      exact ⟨.inr, fun h => h.resolve_left fun c => e c.symm⟩
theorem l1Has_l0 (l : List Int) (hl : l.length ≤ 1099511627776) (x : Int) : ∀ (s : List Int) (i : Nat), l.drop i = s → Evl (fun k => spec_l1Has.l0 k x l (l.length : Int) (i : Int)) (has s x) := by
  intro s
  induction s with
  | nil =>
    intro i h
    have hi := drop_nil h
    refine Evl.succ ?_
    simp only [spec_l1Has.l0, if_neg (show ¬ (i : Int) < (l.length : Int) by omega)]
    exact Evl.ret _
  | cons y s ih =>
    intro i h
    obtain ⟨hi, hx, hs⟩ := drop_cons h
    have hw : wrap64 ((i : Int) + 1) = ((i + 1 : Nat) : Int) := by rw [w64 (by omega) (by omega)]; rfl
    refine Evl.succ ?_
    simp only [spec_l1Has.l0, if_pos (show (i : Int) < (l.length : Int) by omega), if_pos (show (0 : Int) ≤ (i : Int) by omega), rd_of hx, hw]
    unfold has
    by_cases e : y = x
    · simp only [if_pos e]
      exact Evl.ret _
    · simp only [if_neg e]
      exact ih (i + 1) hs
theorem l1Has_ev (l : List Int) (hl : l.length ≤ 1099511627776) (x : Int) : Evl (fun k => spec_l1Has.f k l x) (has l x) := by
  simp only [spec_l1Has.f]
  exact l1Has_l0 l hl x l 0 rfl
theorem Index_l0 (l : List Int) (hl : l.length ≤ 1099511627776) (x : Int) : ∀ (s : List Int) (i : Nat), l.drop i = s → ∃ t : Int, decide (t ≥ 0) = has s x ∧ Evl (fun k => slices_Index_int_int.l0 k l x (l.length : Int) (i : Int)) t := by
  intro s
  induction s with
  | nil =>
    intro i h
    have hi := drop_nil h
    refine ⟨-1, rfl, Evl.succ ?_⟩
    simp only [slices_Index_int_int.l0, if_neg (show ¬ (i : Int) < (l.length : Int) by omega)]
    exact Evl.ret _
  | cons y s ih =>
    intro i h
    obtain ⟨hi, hx, hs⟩ := drop_cons h
    have hw : wrap64 ((i : Int) + 1) = ((i + 1 : Nat) : Int) := by rw [w64 (by omega) (by omega)]; rfl
    by_cases e : y = x
    · refine ⟨(i : Int), ?_, Evl.succ ?_⟩
      · unfold has
        rw [if_pos e, decide_eq_true (by omega)]
      · simp only [slices_Index_int_int.l0, if_pos (show (i : Int) < (l.length : Int) by omega), if_pos (show (0 : Int) ≤ (i : Int) by omega), rd_of hx, hw, if_pos e.symm]
        exact Evl.ret _
    · obtain ⟨t, ht, he⟩ := ih (i + 1) hs
      refine ⟨t, ?_, Evl.succ ?_⟩
      · unfold has
        rw [if_neg e, ht]
      · simp only [slices_Index_int_int.l0, if_pos (show (i : Int) < (l.length : Int) by omega), if_pos (show (0 : Int) ≤ (i : Int) by omega), rd_of hx, hw, if_neg (fun c : x = y => e c.symm)]
        exact he
theorem Contains_ev (l : List Int) (hl : l.length ≤ 1099511627776) (x : Int) : Evl (fun k => slices_Contains_int_int.f k l x) (has l x) := by
  simp only [slices_Contains_int_int.f, slices_Index_int_int.f]
  obtain ⟨t, ht, he⟩ := Index_l0 l hl x l 0 rfl
  refine Evl.bind he ?_
  rw [ht]
  exact Evl.ret _
theorem isOneOfSix_ev (x : Int) : Evl (fun k => impl_isOneOfSix.f k x) (has p6 x) := by
  simp only [impl_isOneOfSix.f, impl_firstSix.f, Option.bind_some]
  exact Evl.bind (Contains_ev p6 (by decide) x) (Evl.ret _)
theorem rePrime_eq {i : Nat} (h : i < 6) : spec_rePrime.f (i : Int) = some (rd p6 (i : Int)) := by
  unfold spec_rePrime.f
  rw [if_pos (by omega), if_pos (by omega)]
  rfl
theorem reIs_l0 (x : Int) : ∀ (s : List Int) (i : Nat), p6.drop i = s → i ≤ 6 → Evl (fun k => spec_reIs.l0 k x (i : Int)) (has s x) := by
  intro s
  induction s with
  | nil =>
    intro i h h6
    have hi := drop_nil h
    have : p6.length = 6 := rfl
    refine Evl.succ ?_
    simp only [spec_reIs.l0, if_neg (show ¬ (i : Int) < 6 by omega)]
    exact Evl.ret _
  | cons y s ih =>
    intro i h h6
    obtain ⟨hi, hx, hs⟩ := drop_cons h
    have : p6.length = 6 := rfl
    have hw : wrap64 ((i : Int) + 1) = ((i + 1 : Nat) : Int) := by rw [w64 (by omega) (by omega)]; rfl
    refine Evl.succ ?_
    simp only [spec_reIs.l0, if_pos (show (i : Int) < 6 by omega), rePrime_eq (show i < 6 by omega), Option.bind_some, rd_of hx, hw]
    unfold has
    by_cases e : y = x
    · simp only [if_pos e]
      exact Evl.ret _
    · simp only [if_neg e]
      exact ih (i + 1) hs (by omega)
theorem reIs_ev (x : Int) : Evl (fun k => spec_reIs.f k x) (has p6 x) := by
  simp only [spec_reIs.f]
  exact reIs_l0 x p6 0 rfl (by omega)
/-- Different ones of the first six primes, and none of some. -/
def dif : List Int → List Int → Bool
  | _, [] => true
  | pre, x :: s => if has p6 x = true then (if has pre x = true then false else dif (pre ++ [x]) s) else false
theorem dif_spec : ∀ (s pre : List Int), dif pre s = true → s.Nodup ∧ (∀ x ∈ s, x ∈ p6 ∧ x ∉ pre)
  | [], pre, _ => ⟨List.nodup_nil, fun x hx => absurd hx (by simp)⟩
  | x :: s, pre, h => by
    unfold dif at h
    by_cases h1 : has p6 x = true
    · rw [if_pos h1] at h
      by_cases h2 : has pre x = true
      · rw [if_pos h2] at h; cases h
      · rw [if_neg h2] at h
        obtain ⟨g1, g2⟩ := dif_spec s (pre ++ [x]) h
        refine ⟨List.nodup_cons.2 ⟨fun c => (g2 x c).2 (by simp), g1⟩, fun y hy => ?_⟩
        rcases List.mem_cons.1 hy with rfl | hy
        · exact ⟨has_iff.1 h1, fun c => h2 (has_iff.2 c)⟩
        · exact ⟨(g2 y hy).1, fun c => (g2 y hy).2 (List.mem_append.2 (.inl c))⟩
    · rw [if_neg h1] at h; cases h
theorem dif_len {l : List Int} (h : dif [] l = true) : l.length ≤ 6 := nodup_len l p6 (dif_spec l [] h).1 fun x hx => ((dif_spec l [] h).2 x hx).1
theorem p6_pos {x : Int} (h : x ∈ p6) : 2 ≤ x ∧ x ≤ 13 := by
  unfold p6 at h
  simp at h
  omega
theorem take_snoc {l : List Int} {i : Nat} {x : Int} (h : l[i]? = some x) : l.take (i + 1) = l.take i ++ [x] := by
  rw [List.take_add_one, h]
  rfl
theorem spec_rePrimes_l0 (l : List Int) (hl : l.length ≤ 1099511627776) : ∀ (s : List Int) (i : Nat), l.drop i = s → Evl (fun k => spec_rePrimes.l0 k l l (l.length : Int) (i : Int)) (dif (l.take i) s) := by
  intro s
  induction s with
  | nil =>
    intro i h
    have hi := drop_nil h
    refine Evl.succ ?_
    simp only [spec_rePrimes.l0, if_neg (show ¬ (i : Int) < (l.length : Int) by omega)]
    exact Evl.ret _
  | cons y s ih =>
    intro i h
    obtain ⟨hi, hx, hs⟩ := drop_cons h
    have hw : wrap64 ((i : Int) + 1) = ((i + 1 : Nat) : Int) := by rw [w64 (by omega) (by omega)]; rfl
    refine Evl.succ ?_
    simp only [spec_rePrimes.l0, if_pos (show (i : Int) < (l.length : Int) by omega), if_pos (show (0 : Int) ≤ (i : Int) by omega), if_pos (show (i : Int) ≤ (l.length : Int) by omega), rd_of hx, hw, Int.toNat_natCast]
    refine Evl.bind (reIs_ev y) ?_
    unfold dif
    by_cases e : has p6 y = true
    · simp only [e, if_true]
      refine Evl.bind (l1Has_ev (l.take i) (by rw [List.length_take]; omega) y) ?_
      by_cases c : has (l.take i) y = true
      · simp only [c, if_true]
        exact Evl.ret _
      · simp only [if_neg c]
        rw [← take_snoc hx]
        exact ih (i + 1) hs
    · simp only [if_neg e]
      exact Evl.ret _
theorem impl_areDifferent_l0 (l : List Int) (hl : l.length ≤ 1099511627776) : ∀ (s : List Int) (i : Nat), l.drop i = s → Evl (fun k => impl_areDifferent.l0 k l l (l.length : Int) (i : Int)) (dif (l.take i) s) := by
  intro s
  induction s with
  | nil =>
    intro i h
    have hi := drop_nil h
    refine Evl.succ ?_
    simp only [impl_areDifferent.l0, if_neg (show ¬ (i : Int) < (l.length : Int) by omega)]
    exact Evl.ret _
  | cons y s ih =>
    intro i h
    obtain ⟨hi, hx, hs⟩ := drop_cons h
    have hw : wrap64 ((i : Int) + 1) = ((i + 1 : Nat) : Int) := by rw [w64 (by omega) (by omega)]; rfl
    refine Evl.succ ?_
    simp only [impl_areDifferent.l0, if_pos (show (i : Int) < (l.length : Int) by omega), if_pos (show (0 : Int) ≤ (i : Int) by omega), if_pos (show (i : Int) ≤ (l.length : Int) by omega), rd_of hx, hw, Int.toNat_natCast]
    refine Evl.bind (isOneOfSix_ev y) ?_
    unfold dif
    by_cases e : has p6 y = true
    · simp only [e, if_true]
      refine Evl.bind (Contains_ev (l.take i) (by rw [List.length_take]; omega) y) ?_
      by_cases c : has (l.take i) y = true
      · simp only [c, if_true]
        exact Evl.ret _
      · simp only [if_neg c]
        rw [← take_snoc hx]
        exact ih (i + 1) hs
    · simp only [if_neg e]
      exact Evl.ret _
theorem rePrimes_ev (l : List Int) (hl : l.length ≤ 1099511627776) : Evl (fun k => spec_rePrimes.f k l) (dif [] l) := by
  simp only [spec_rePrimes.f]
  by_cases c : (l.length : Int) > 6
  · simp only [if_pos c]
    refine (Evl.ret _).cast ?_
    cases h : dif [] l with
    | false => rfl
    | true => have := dif_len h; omega
  · simp only [if_neg c]
    exact spec_rePrimes_l0 l hl l 0 rfl
theorem areDifferent_ev (l : List Int) (hl : l.length ≤ 1099511627776) : Evl (fun k => impl_areDifferent.f k l) (dif [] l) := by
  simp only [impl_areDifferent.f]
  exact impl_areDifferent_l0 l hl l 0 rfl
theorem restsBy_l0 (n : Int) (l : List Int) (hl : l.length ≤ 1000) (hp : ∀ x ∈ l, x ≠ 0) : ∀ (s : List Int) (i : Nat) (acc : List Int), l.drop i = s → acc.length + s.length ≤ 100000 → Evl (fun k => impl_restsBy.l0 k n acc l (l.length : Int) (i : Int)) (acc ++ s.map fun p => Int.tmod n p) := by
  intro s
  induction s with
  | nil =>
    intro i acc h _
    have hi := drop_nil h
    refine Evl.succ ?_
    simp only [impl_restsBy.l0, if_neg (show ¬ (i : Int) < (l.length : Int) by omega)]
    refine (Evl.ret _).cast ?_
    simp
  | cons y s ih =>
    intro i acc h ha
    obtain ⟨hi, hx, hs⟩ := drop_cons h
    rw [List.length_cons] at ha
    have hw : wrap64 ((i : Int) + 1) = ((i + 1 : Nat) : Int) := by rw [w64 (by omega) (by omega)]; rfl
    refine Evl.succ ?_
    simp only [impl_restsBy.l0, if_pos (show (i : Int) < (l.length : Int) by omega), if_pos (show (0 : Int) ≤ (i : Int) by omega), rd_of hx, if_neg (hp y (List.mem_of_getElem? hx)), if_pos (show acc.length < 17592186044416 by omega), hw]
    refine (ih (i + 1) _ hs (by rw [List.length_append, List.length_singleton]; omega)).cast ?_
    simp
theorem restsBy_ev (n : Int) (l : List Int) (hl : l.length ≤ 1000) (hp : ∀ x ∈ l, x ≠ 0) : Evl (fun k => impl_restsBy.f k l n) (l.map fun p => Int.tmod n p) := by
  simp only [impl_restsBy.f]
  exact restsBy_l0 n l hl hp l 0 [] rfl (by simp; omega)

end Go.Proofs.Ytgoldeagghadhaa.L

/-! ## X9 -/
namespace Go.Proofs.Ytgoldeagghadhaa.L
open Go.RowKit Go.Proofs.YtgoldeagghadhaaW.PrintWords Go.Proofs.Ytgoldeagghadhaa.P Go.Proofs.Ytgoldeagghadhaa.M
set_option linter.unusedVariables false
set_option linter.unusedSimpArgs false

theorem spec_RestsOfNumber_l0 (n : Int) (l : List Int) (hl : l.length ≤ 1000) (hp : ∀ x ∈ l, x ≠ 0) : ∀ (s : List Int) (i : Nat) (acc : List Int), l.drop i = s → acc.length + s.length ≤ 100000 → Evl (fun k => spec_RestsOfNumber.l0 k n acc l (l.length : Int) (i : Int)) (acc ++ s.map fun p => Int.tmod n p, true) := by
  intro s
  induction s with
  | nil =>
    intro i acc h _
    have hi := drop_nil h
    refine Evl.succ ?_
    simp only [spec_RestsOfNumber.l0, if_neg (show ¬ (i : Int) < (l.length : Int) by omega)]
    refine (Evl.ret _).cast ?_
    simp
  | cons y s ih =>
    intro i acc h ha
    obtain ⟨hi, hx, hs⟩ := drop_cons h
    rw [List.length_cons] at ha
    have hw : wrap64 ((i : Int) + 1) = ((i + 1 : Nat) : Int) := by rw [w64 (by omega) (by omega)]; rfl
    refine Evl.succ ?_
    simp only [spec_RestsOfNumber.l0, if_pos (show (i : Int) < (l.length : Int) by omega), if_pos (show (0 : Int) ≤ (i : Int) by omega), rd_of hx, if_neg (hp y (List.mem_of_getElem? hx)), if_pos (show acc.length < 17592186044416 by omega), hw]
    refine (ih (i + 1) _ hs (by rw [List.length_append, List.length_singleton]; omega)).cast ?_
    simp
theorem FnExactRestsOfNumber_main (l0 : List Int) (a1 : Int) (hm : l0.length ≤ maxLen) (hb : l0.length * 8 ≤ 140737488351232) (hw : ∀ x ∈ l0, (Lit.int .i64 x).wf = true) (h1 : (Lit.int .i64 a1).wf = true) (hl : l0.length ≤ 1099511627776) :
    ∃ r b, Evl (fun k => spec_RestsOfNumber.f k l0 a1) (r, b) ∧ Evl (fun k => impl_RestsOfNumber.f k l0 a1) (r, b) ∧ r.length ≤ 1099511627776 := by
  cases hd : dif [] l0 with
  | false =>
    refine ⟨[], false, ?_, ?_, by simp⟩
    · simp only [spec_RestsOfNumber.f]
      refine Evl.bind (rePrimes_ev l0 hl) ?_
      simp only [hd, Bool.false_eq_true, if_false]
      refine Evl.succ ?_
      simp only [spec_RestsOfNumber.j0, if_true]
      exact Evl.ret _
    · simp only [impl_RestsOfNumber.f]
      refine Evl.bind (areDifferent_ev l0 hl) ?_
      simp only [hd, Bool.false_eq_true, if_false]
      exact Evl.ret _
  | true =>
    have h6 := dif_len hd
    have hne : ∀ x ∈ l0, x ≠ 0 := fun x hx => by have := p6_pos ((dif_spec l0 [] hd).2 x hx).1; omega
    by_cases g : 0 ≤ a1 ∧ a1 ≤ 1000000000
    · refine ⟨l0.map fun p => Int.tmod a1 p, true, ?_, ?_, by rw [List.length_map]; omega⟩
      · simp only [spec_RestsOfNumber.f]
        refine Evl.bind (rePrimes_ev l0 hl) ?_
        simp only [hd, if_true, l1In_eq, decide_eq_true g, Option.bind_some, Bool.not_true]
        refine Evl.succ ?_
        simp only [spec_RestsOfNumber.j0, Bool.false_eq_true, if_false]
        exact spec_RestsOfNumber_l0 a1 l0 (by omega) hne l0 0 [] rfl (by simp; omega)
      · simp only [impl_RestsOfNumber.f]
        refine Evl.bind (areDifferent_ev l0 hl) ?_
        simp only [hd, if_true, if_neg (show ¬ a1 < 0 by omega), if_neg (show ¬ a1 > 1000000000 by omega)]
        exact Evl.bind (restsBy_ev a1 l0 (by omega) hne) (Evl.ret _)
    · refine ⟨[], false, ?_, ?_, by simp⟩
      · simp only [spec_RestsOfNumber.f]
        refine Evl.bind (rePrimes_ev l0 hl) ?_
        simp only [hd, if_true, l1In_eq, decide_eq_false g, Option.bind_some, Bool.not_false]
        refine Evl.succ ?_
        simp only [spec_RestsOfNumber.j0, if_true]
        exact Evl.ret _
      · simp only [impl_RestsOfNumber.f]
        refine Evl.bind (areDifferent_ev l0 hl) ?_
        simp only [hd, if_true]
        by_cases c : a1 < 0
        · simp only [if_pos c]
          exact Evl.ret _
        · simp only [if_neg c, if_pos (show a1 > 1000000000 by omega)]
          exact Evl.ret _

end Go.Proofs.Ytgoldeagghadhaa.L
