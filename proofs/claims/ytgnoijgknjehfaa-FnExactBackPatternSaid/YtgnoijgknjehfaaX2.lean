/- Patterns: the program's test is the reference's; patterns told from their last offset back. No condition beyond the lengths that the statements allow. -/
import Derived.Test.YtgnoijgknjehfaaE0
import Derived.Test.YtgnoijgknjehfaaE4
import Derived.Test.YtgnoijgknjehfaaPx1
import Derived.Test.YtgnoijgknjehfaaPx3
import Derived.Test.YtgnoijgknjehfaaPx4
namespace Go.Proofs.Ytgnoijgknjehfaa.L
open Go.RowKit Go.Proofs.YtgnoijgknjehfaaW.PrintWords Go.Proofs.Ytgnoijgknjehfaa.P Go.Proofs.Ytgnoijgknjehfaa.M
set_option linter.unusedVariables false
set_option linter.unusedSimpArgs false

/-- From the second offset on: rising, at most 60. -/
def chk : Int → List Int → Bool
  | _, [] => true
  | p, x :: s => decide (p < x) && (decide (x ≤ 60) && chk x s)
def pat : List Int → Bool
  | [] => false
  | x :: s => decide (s.length ≤ 7) && (decide (x = 0) && chk x s)
theorem pat_len {l : List Int} (h : pat l = true) : 1 ≤ l.length ∧ l.length ≤ 8 := by
  cases l with
  | nil => cases h
  | cons x s =>
    simp only [pat, Bool.and_eq_true, decide_eq_true_eq] at h
    rw [List.length_cons]
    omega

theorem isPattern_l0 (l : List Int) (hl : l.length ≤ 1099511627776) : ∀ (s : List Int) (i : Nat) (p : Int), 1 ≤ i → l[i - 1]? = some p → l.drop i = s →
    Evl (fun k => impl_isPattern.l0 k l l (l.length : Int) (i : Int)) (chk p s && decide (l.length ≤ 8)) := by
  intro s
  induction s with
  | nil =>
    intro i p h1 hp h
    have hi := drop_nil h
    refine Evl.succ ?_
    have c1 : ¬ (i : Int) < (l.length : Int) := by omega
    have c2 : (l.length : Int) ≥ 1 := by
      have := (List.getElem?_eq_some_iff.1 hp).1
      omega
    simp only [impl_isPattern.l0, if_neg c1, if_pos c2]
    refine (Evl.ret _).cast ?_
    simp only [chk, Bool.true_and]
    by_cases c : l.length ≤ 8
    · rw [decide_eq_true c, decide_eq_true (by omega)]
    · rw [decide_eq_false c, decide_eq_false (by omega)]
  | cons x s ih =>
    intro i p h1 hp h
    obtain ⟨hi, hx, hs⟩ := drop_cons h
    have c1 : (i : Int) < (l.length : Int) := by omega
    have c2 : (0 : Int) ≤ (i : Int) := by omega
    have c3 : ¬ (i : Int) = 0 := by omega
    have c4 : (i : Int) > 0 := by omega
    have hw0 : wrap64 ((i : Int) - 1) = ((i - 1 : Nat) : Int) := by rw [w64 (by omega) (by omega)]; omega
    have c5 : (0 : Int) ≤ ((i - 1 : Nat) : Int) := by omega
    have c6 : ((i - 1 : Nat) : Int) < (l.length : Int) := by omega
    have hrp : rd l ((i - 1 : Nat) : Int) = p := rd_of hp
    have hrx : rd l (i : Int) = x := rd_of hx
    have hw : wrap64 ((i : Int) + 1) = ((i + 1 : Nat) : Int) := by rw [w64 (by omega) (by omega)]; rfl
    refine Evl.succ ?_
    simp only [impl_isPattern.l0, if_pos c1, if_pos c2, if_neg c3, if_pos c4, hw0, if_pos c5, if_pos c6, hrp, hrx, hw]
    by_cases c7 : p ≥ x
    · simp only [if_pos c7]
      refine (Evl.ret _).cast ?_
      simp only [chk]
      rw [decide_eq_false (by omega)]
      rfl
    · simp only [if_neg c7]
      by_cases c8 : x > 60
      · simp only [if_pos c8]
        refine (Evl.ret _).cast ?_
        simp only [chk]
        rw [decide_eq_true (show p < x by omega), decide_eq_false (show ¬ x ≤ 60 by omega)]
        rfl
      · simp only [if_neg c8]
        refine (ih (i + 1) x (by omega) (by rw [Nat.add_sub_cancel]; exact hx) hs).cast ?_
        simp only [chk]
        rw [decide_eq_true (show p < x by omega), decide_eq_true (show x ≤ 60 by omega), Bool.true_and, Bool.true_and]
theorem isPattern_ev (l : List Int) (hl : l.length ≤ 1099511627776) : Evl (fun k => impl_isPattern.f k l) (pat l) := by
  simp only [impl_isPattern.f]
  cases l with
  | nil =>
    refine Evl.succ ?_
    have c1 : ¬ (0 : Int) < (([] : List Int).length : Int) := by simp
    have c2 : ¬ (([] : List Int).length : Int) ≥ 1 := by simp
    simp only [impl_isPattern.l0, if_neg c1, if_neg c2]
    exact Evl.ret _
  | cons x s =>
    have c1 : (0 : Int) < ((x :: s).length : Int) := by rw [List.length_cons]; omega
    have hrx : rd (x :: s) 0 = x := rfl
    have hw : wrap64 (0 + 1) = ((1 : Nat) : Int) := by rw [w64 (by omega) (by omega)]; rfl
    refine Evl.succ ?_
    simp only [impl_isPattern.l0, if_pos c1, if_pos (show (0 : Int) ≤ 0 by omega), if_true, hrx, if_neg (show ¬ (0 : Int) > 0 by omega), hw]
    by_cases c2 : x = 0
    · have c3 : ¬ x > 60 := by omega
      simp only [if_pos c2, if_neg c3]
      refine (isPattern_l0 (x :: s) hl s 1 x (by omega) rfl rfl).cast ?_
      simp only [pat, List.length_cons]
      rw [decide_eq_true c2, Bool.true_and, Bool.and_comm]
      by_cases c : s.length ≤ 7
      · rw [decide_eq_true c, decide_eq_true (by omega)]
      · rw [decide_eq_false c, decide_eq_false (by omega)]
    · simp only [if_neg c2]
      refine (Evl.ret _).cast ?_
      simp only [pat]
      rw [decide_eq_false c2, Bool.false_and, Bool.and_false]

/-- The reference's way: the bound is asked of the last one alone. -/
def sp : Int → List Int → Bool
  | p, [] => decide (p ≤ 60)
  | p, x :: s => if x ≤ p then false else sp x s
theorem sp_chk : ∀ (s : List Int) (p : Int), sp p s = (decide (p ≤ 60) && chk p s)
  | [], p => by simp [sp, chk]
  | x :: s, p => by
    unfold sp chk
    rw [sp_chk s x]
    by_cases c : x ≤ p
    · rw [if_pos c, decide_eq_false (show ¬ p < x by omega), Bool.false_and, Bool.and_false]
    · rw [if_neg c, decide_eq_true (show p < x by omega), Bool.true_and]
      by_cases c2 : x ≤ 60
      · simp [c2, show p ≤ 60 by omega]
      · rw [decide_eq_false c2, Bool.false_and, Bool.and_false]
theorem reGood_l0 (l : List Int) (hl : l.length ≤ 1099511627776) : ∀ (s : List Int) (i : Nat) (p : Int), 1 ≤ i → l[i - 1]? = some p → l.drop i = s →
    Evl (fun k => spec_reGood.l0 k l (i : Int)) (sp p s) := by
  intro s
  induction s with
  | nil =>
    intro i p h1 hp h
    have hi := drop_nil h
    have hlt := (List.getElem?_eq_some_iff.1 hp).1
    have hw : wrap64 ((l.length : Int) - 1) = ((i - 1 : Nat) : Int) := by rw [w64 (by omega) (by omega)]; omega
    have hrp : rd l ((i - 1 : Nat) : Int) = p := rd_of hp
    refine Evl.succ ?_
    simp only [spec_reGood.l0, if_neg (show ¬ (i : Int) < (l.length : Int) by omega), hw, if_pos (show (0 : Int) ≤ ((i - 1 : Nat) : Int) by omega), if_pos (show ((i - 1 : Nat) : Int) < (l.length : Int) by omega), hrp]
    exact Evl.ret _
  | cons x s ih =>
    intro i p h1 hp h
    obtain ⟨hi, hx, hs⟩ := drop_cons h
    have hw0 : wrap64 ((i : Int) - 1) = ((i - 1 : Nat) : Int) := by rw [w64 (by omega) (by omega)]; omega
    have hrp : rd l ((i - 1 : Nat) : Int) = p := rd_of hp
    have hrx : rd l (i : Int) = x := rd_of hx
    have hw : wrap64 ((i : Int) + 1) = ((i + 1 : Nat) : Int) := by rw [w64 (by omega) (by omega)]; rfl
    refine Evl.succ ?_
    simp only [spec_reGood.l0, if_pos (show (i : Int) < (l.length : Int) by omega), if_pos (show (0 : Int) ≤ (i : Int) by omega), hw0, if_pos (show (0 : Int) ≤ ((i - 1 : Nat) : Int) by omega), if_pos (show ((i - 1 : Nat) : Int) < (l.length : Int) by omega), hrp, hrx, hw]
    unfold sp
    by_cases c : x ≤ p
    · simp only [if_pos c]
      exact Evl.ret _
    · simp only [if_neg c]
      exact ih (i + 1) x (by omega) (by rw [Nat.add_sub_cancel]; exact hx) hs
theorem reGood_no (l : List Int) : Evl (fun k => spec_reGood.j0 k l true) false := by
  refine Evl.succ ?_
  simp only [spec_reGood.j0, if_true]
  exact Evl.ret _
theorem reGood_ev (l : List Int) (hl : l.length ≤ 1099511627776) : Evl (fun k => spec_reGood.f k l) (pat l) := by
  simp only [spec_reGood.f, l1In_eq, Option.bind_some]
  cases l with
  | nil =>
    rw [show decide (1 ≤ ((([] : List Int).length : Nat) : Int) ∧ ((([] : List Int).length : Nat) : Int) ≤ 8) = false from rfl]
    simp only [Bool.false_eq_true, if_false]
    exact reGood_no []
  | cons x s =>
    by_cases c : s.length ≤ 7
    · simp only [decide_eq_true (show 1 ≤ (((x :: s).length : Nat) : Int) ∧ (((x :: s).length : Nat) : Int) ≤ 8 by rw [List.length_cons]; omega), if_true, if_pos (show (0 : Int) < (((x :: s).length : Nat) : Int) by rw [List.length_cons]; omega)]
      have hrx : rd (x :: s) 0 = x := rfl
      rw [hrx]
      by_cases c2 : x = 0
      · subst c2
        refine Evl.succ ?_
        simp only [spec_reGood.j0, bne_self_eq_false, Bool.false_eq_true, if_false]
        refine (reGood_l0 (0 :: s) hl s 1 0 (by omega) rfl rfl).cast ?_
        rw [sp_chk]
        simp only [pat]
        rw [decide_eq_true c]
        rfl
      · rw [bne_iff_ne.2 c2]
        refine (reGood_no _).cast ?_
        simp only [pat]
        rw [decide_eq_false c2, Bool.false_and, Bool.and_false]
    · simp only [decide_eq_false (show ¬ (1 ≤ (((x :: s).length : Nat) : Int) ∧ (((x :: s).length : Nat) : Int) ≤ 8) by rw [List.length_cons]; omega), Bool.false_eq_true, if_false]
      refine (reGood_no _).cast ?_
      simp only [pat]
      rw [decide_eq_false c, Bool.false_and]

theorem FnExactIsPattern_main (l : List Int) (hm : l.length ≤ maxLen) (hl0 : l.length * 8 ≤ 140737488351232) (hw : ∀ x ∈ l, (Lit.int .i64 x).wf = true) (hl : l.length ≤ 1099511627776) :
    ∃ b, Evl (fun k => spec_IsPattern.f k l) b ∧ Evl (fun k => impl_IsPattern.f k l) b := by
  refine ⟨pat l, ?_, ?_⟩
  · simp only [spec_IsPattern.f]
    exact Evl.bind (reGood_ev l hl) (Evl.ret _)
  · simp only [impl_IsPattern.f]
    exact Evl.bind (isPattern_ev l hl) (Evl.ret _)
/-- What is gathered from index n - 1 down to 0. -/
def backL (l : List Int) : Nat → List Int
  | 0 => []
  | n + 1 => wrap64 (rd l ((l.length : Int) - 1) - rd l (n : Int)) :: backL l n
theorem backL_length (l : List Int) : ∀ n, (backL l n).length = n
  | 0 => rfl
  | n + 1 => by rw [backL, List.length_cons, backL_length l n]
theorem spec_BackPattern_l0 (l : List Int) (h1 : 1 ≤ l.length) (hl : l.length ≤ 8) : ∀ (n : Nat) (acc : List Int), n ≤ l.length → acc.length + n ≤ 8 → Evl (fun k => spec_BackPattern.l0 k l acc ((n : Int) - 1)) (acc ++ backL l n, true) := by
  intro n
  induction n with
  | zero =>
    intro acc _ _
    refine Evl.succ ?_
    simp only [spec_BackPattern.l0, if_neg (show ¬ ((0 : Nat) : Int) - 1 ≥ 0 by omega)]
    refine (Evl.ret _).cast ?_
    simp [backL]
  | succ n ih =>
    intro acc hn ha
    have e1 : ((n + 1 : Nat) : Int) - 1 = (n : Int) := by omega
    have hw0 : wrap64 ((l.length : Int) - 1) = (l.length : Int) - 1 := w64 (by omega) (by omega)
    have hw : wrap64 ((n : Int) - 1) = (n : Int) - 1 := w64 (by omega) (by omega)
    rw [e1]
    refine Evl.succ ?_
    simp only [spec_BackPattern.l0, if_pos (show (n : Int) ≥ 0 by omega), hw0, if_pos (show (0 : Int) ≤ (l.length : Int) - 1 by omega), if_pos (show (l.length : Int) - 1 < (l.length : Int) by omega), if_pos (show (0 : Int) ≤ (n : Int) by omega), if_pos (show (n : Int) < (l.length : Int) by omega), if_pos (show acc.length < 17592186044416 by omega), hw]
    refine (ih _ (by omega) (by rw [List.length_append, List.length_singleton]; omega)).cast ?_
    rw [backL, List.append_assoc]
    rfl
theorem impl_BackPattern_l0 (l : List Int) (h1 : 1 ≤ l.length) (hl : l.length ≤ 8) : ∀ (n : Nat) (acc : List Int), n ≤ l.length → acc.length + n ≤ 8 → Evl (fun k => impl_BackPattern.l0 k l acc ((n : Int) - 1)) (acc ++ backL l n, true) := by
  intro n
  induction n with
  | zero =>
    intro acc _ _
    refine Evl.succ ?_
    simp only [impl_BackPattern.l0, if_neg (show ¬ ((0 : Nat) : Int) - 1 ≥ 0 by omega)]
    refine (Evl.ret _).cast ?_
    simp [backL]
  | succ n ih =>
    intro acc hn ha
    have e1 : ((n + 1 : Nat) : Int) - 1 = (n : Int) := by omega
    have hw0 : wrap64 ((l.length : Int) - 1) = (l.length : Int) - 1 := w64 (by omega) (by omega)
    have hw : wrap64 ((n : Int) - 1) = (n : Int) - 1 := w64 (by omega) (by omega)
    rw [e1]
    refine Evl.succ ?_
    simp only [impl_BackPattern.l0, if_pos (show (n : Int) ≥ 0 by omega), hw0, if_pos (show (0 : Int) ≤ (l.length : Int) - 1 by omega), if_pos (show (l.length : Int) - 1 < (l.length : Int) by omega), if_pos (show (0 : Int) ≤ (n : Int) by omega), if_pos (show (n : Int) < (l.length : Int) by omega), if_pos (show acc.length < 17592186044416 by omega), hw]
    refine (ih _ (by omega) (by rw [List.length_append, List.length_singleton]; omega)).cast ?_
    rw [backL, List.append_assoc]
    rfl
theorem FnExactBackPattern_main (l : List Int) (hm : l.length ≤ maxLen) (hl0 : l.length * 8 ≤ 140737488351232) (hw : ∀ x ∈ l, (Lit.int .i64 x).wf = true) (hl : l.length ≤ 1099511627776) :
    ∃ r b, Evl (fun k => spec_BackPattern.f k l) (r, b) ∧ Evl (fun k => impl_BackPattern.f k l) (r, b) ∧ r.length ≤ 1099511627776 := by
  have hw0 : wrap64 ((l.length : Int) - 1) = (l.length : Int) - 1 := w64 (by omega) (by omega)
  cases hp : pat l with
  | true =>
    obtain ⟨h1, h8⟩ := pat_len hp
    refine ⟨backL l l.length, true, ?_, ?_, by rw [backL_length]; exact hl⟩
    · simp only [spec_BackPattern.f]
      refine Evl.bind (reGood_ev l hl) ?_
      simp only [hp, if_true, hw0]
      exact spec_BackPattern_l0 l h1 h8 l.length [] (Nat.le_refl _) (by simpa using h8)
    · simp only [impl_BackPattern.f]
      refine Evl.bind (isPattern_ev l hl) ?_
      simp only [hp, if_true, hw0]
      exact impl_BackPattern_l0 l h1 h8 l.length [] (Nat.le_refl _) (by simpa using h8)
  | false =>
    refine ⟨[], false, ?_, ?_, by simp⟩
    · simp only [spec_BackPattern.f]
      refine Evl.bind (reGood_ev l hl) ?_
      simp only [hp, Bool.false_eq_true, if_false]
      exact Evl.ret _
    · simp only [impl_BackPattern.f]
      refine Evl.bind (isPattern_ev l hl) ?_
      simp only [hp, Bool.false_eq_true, if_false]
      exact Evl.ret _

end Go.Proofs.Ytgnoijgknjehfaa.L
