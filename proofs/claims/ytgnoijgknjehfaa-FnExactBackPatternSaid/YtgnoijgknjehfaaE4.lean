/- Guards, radicals and smooth numbers of the program and of the reference. Conditions: numbers of at most 2 * 10^9. -/
import Derived.Test.YtgnoijgknjehfaaE3
import Derived.Test.YtgnoijgknjehfaaPx1
import Derived.Test.YtgnoijgknjehfaaPx2
import Derived.Test.YtgnoijgknjehfaaPx3
import Derived.Test.YtgnoijgknjehfaaPx6
import Derived.Test.YtgnoijgknjehfaaPx7
namespace Go.Proofs.Ytgnoijgknjehfaa.L
open Go.RowKit Go.Proofs.YtgnoijgknjehfaaW.PrintWords Go.Proofs.Ytgnoijgknjehfaa.P Go.Proofs.Ytgnoijgknjehfaa.M
set_option linter.unusedVariables false
set_option linter.unusedSimpArgs false

theorem l1In_eq (a lo hi : Int) : spec_l1In.f a lo hi = some (decide (lo ≤ a ∧ a ≤ hi)) := by
  unfold spec_l1In.f
  by_cases h : a ≥ lo
  · rw [if_pos h]
    by_cases h2 : a ≤ hi
    · rw [decide_eq_true h2, decide_eq_true ⟨h, h2⟩]
    · rw [decide_eq_false h2, decide_eq_false (fun c => h2 c.2)]
  · rw [if_neg h, decide_eq_false (fun c => h c.1)]
theorem isMost_eq (a : Int) : impl_isMost.f a = some (decide (0 ≤ a ∧ a ≤ 600)) := by
  unfold impl_isMost.f
  by_cases h : a ≥ 0
  · rw [if_pos h]
    by_cases h2 : a ≤ 600
    · rw [decide_eq_true h2, decide_eq_true ⟨h, h2⟩]
    · rw [decide_eq_false h2, decide_eq_false (fun c => h2 c.2)]
  · rw [if_neg h, decide_eq_false (fun c => h c.1)]
theorem prFactored_eq (a : Int) : spec_prFactored.f a = some (decide (1 ≤ a ∧ a ≤ 1000000000)) := by
  unfold spec_prFactored.f
  rw [l1In_eq]
  rfl
theorem isFactored_eq (a : Int) : impl_isFactored.f a = some (decide (1 ≤ a ∧ a ≤ 1000000000)) := by
  unfold impl_isFactored.f
  by_cases h : a ≥ 1
  · rw [if_pos h]
    by_cases h2 : a ≤ 1000000000
    · rw [decide_eq_true h2, decide_eq_true ⟨h, h2⟩]
    · rw [decide_eq_false h2, decide_eq_false (fun c => h2 c.2)]
  · rw [if_neg h, decide_eq_false (fun c => h c.1)]

theorem rdL_of {xs : List (List Int)} {i : Nat} {x : List Int} (h : xs[i]? = some x) : rd_L1 xs (i : Int) = x := by
  unfold rd_L1
  rw [Int.toNat_natCast, List.getD_eq_getElem?_getD, h]
  rfl
theorem fL_two {l : List (Nat × Nat)} {f : List Int} (h : f ∈ fL l) : f.length = 2 := by
  unfold fL at h
  obtain ⟨pe, _, rfl⟩ := List.mem_map.1 h
  rfl
theorem fL_length (l : List (Nat × Nat)) : (fL l).length = l.length := by unfold fL; exact List.length_map ..

/-- The product of the first ones of rows, as the program makes it. -/
def radW : Int → List (List Int) → Int
  | a, [] => a
  | a, f :: fs => radW (wrap64 (a * rd f 0)) fs
theorem spec_prRadical_l0 (xs : List (List Int)) (h2 : ∀ f ∈ xs, f.length = 2) (hl : xs.length ≤ 4000000000) : ∀ (s : List (List Int)) (i : Nat) (a : Int), xs.drop i = s → Evl (fun k => spec_prRadical.l0 k a xs (xs.length : Int) (i : Int)) (radW a s) := by
  intro s
  induction s with
  | nil =>
    intro i a h
    have hi := drop_nil h
    refine Evl.succ ?_
    have h1 : ¬ (i : Int) < (xs.length : Int) := by omega
    simp only [spec_prRadical.l0, if_neg h1]
    exact Evl.ret _
  | cons f s ih =>
    intro i a h
    obtain ⟨hi, hx, hs⟩ := drop_cons h
    have hw : wrap64 ((i : Int) + 1) = ((i + 1 : Nat) : Int) := by rw [w64 (by omega) (by omega)]; rfl
    have h1 : (i : Int) < (xs.length : Int) := by omega
    have h0 : (0 : Int) ≤ (i : Int) := by omega
    have hf := h2 f (List.mem_of_getElem? hx)
    have h3 : (0 : Int) < (f.length : Int) := by omega
    refine Evl.succ ?_
    simp only [spec_prRadical.l0, if_pos h1, if_pos h0, rdL_of hx, if_pos h3, hw]
    exact ih (i + 1) _ hs
theorem spec_prRadical_ev (n : Nat) (hb : n ≤ 2000000000) : Evl (fun k => spec_prRadical.f k (n : Int)) (radW 1 (fL (facs n))) := by
  simp only [spec_prRadical.f]
  refine Evl.bind (spec_prFactors_ev n hb) ?_
  refine spec_prRadical_l0 (fL (facs n)) (fun f hf => fL_two hf) ?_ _ 0 1 rfl
  rw [fL_length]
  have := facs_length n n (Nat.le_refl _)
  omega
theorem impl_radical_l0 (xs : List (List Int)) (h2 : ∀ f ∈ xs, f.length = 2) (hl : xs.length ≤ 4000000000) : ∀ (s : List (List Int)) (i : Nat) (a : Int), xs.drop i = s → Evl (fun k => impl_radical.l0 k a xs (xs.length : Int) (i : Int)) (radW a s) := by
  intro s
  induction s with
  | nil =>
    intro i a h
    have hi := drop_nil h
    refine Evl.succ ?_
    have h1 : ¬ (i : Int) < (xs.length : Int) := by omega
    simp only [impl_radical.l0, if_neg h1]
    exact Evl.ret _
  | cons f s ih =>
    intro i a h
    obtain ⟨hi, hx, hs⟩ := drop_cons h
    have hw : wrap64 ((i : Int) + 1) = ((i + 1 : Nat) : Int) := by rw [w64 (by omega) (by omega)]; rfl
    have h1 : (i : Int) < (xs.length : Int) := by omega
    have h0 : (0 : Int) ≤ (i : Int) := by omega
    have hf := h2 f (List.mem_of_getElem? hx)
    have h3 : (0 : Int) < (f.length : Int) := by omega
    refine Evl.succ ?_
    simp only [impl_radical.l0, if_pos h1, if_pos h0, rdL_of hx, if_pos h3, hw]
    exact ih (i + 1) _ hs
theorem impl_radical_ev (n : Nat) (hb : n ≤ 2000000000) : Evl (fun k => impl_radical.f k (n : Int)) (radW 1 (fL (facs n))) := by
  simp only [impl_radical.f]
  refine Evl.bind (impl_factors_ev n hb) ?_
  refine impl_radical_l0 (fL (facs n)) (fun f hf => fL_two hf) ?_ _ 0 1 rfl
  rw [fL_length]
  have := facs_length n n (Nat.le_refl _)
  omega

/-- Smooth: no prime factor is greater than the bound. -/
def smooth (n : Nat) (b : Int) : Bool := (facs n).all fun pe => decide ((pe.1 : Int) ≤ b)
theorem prSmooth_l0 (b : Int) (l : List (Nat × Nat)) (hl : l.length ≤ 4000000000) : ∀ (s : List (Nat × Nat)) (i : Nat), l.drop i = s → Evl (fun k => spec_prSmooth.l0 k b (fL l) ((fL l).length : Int) (i : Int)) (s.all fun pe => decide ((pe.1 : Int) ≤ b)) := by
  intro s
  induction s with
  | nil =>
    intro i h
    have hi := drop_nil h
    refine Evl.succ ?_
    have h1 : ¬ (i : Int) < ((fL l).length : Int) := by rw [fL_length]; omega
    simp only [spec_prSmooth.l0, if_neg h1]
    exact Evl.ret _
  | cons f s ih =>
    intro i h
    obtain ⟨hi, hx, hs⟩ := drop_cons h
    have hw : wrap64 ((i : Int) + 1) = ((i + 1 : Nat) : Int) := by rw [w64 (by omega) (by omega)]; rfl
    have h1 : (i : Int) < ((fL l).length : Int) := by rw [fL_length]; omega
    have h0 : (0 : Int) ≤ (i : Int) := by omega
    have hr : rd_L1 (fL l) (i : Int) = [(f.1 : Int), (f.2 : Int)] := rdL_of (by unfold fL; rw [List.getElem?_map, hx]; rfl)
    have h3 : (0 : Int) < (([(f.1 : Int), (f.2 : Int)] : List Int).length : Int) := by simp
    have h4 : rd [(f.1 : Int), (f.2 : Int)] 0 = (f.1 : Int) := rfl
    refine Evl.succ ?_
    simp only [spec_prSmooth.l0, if_pos h1, if_pos h0, hr, if_pos h3, h4, hw]
    by_cases h5 : (f.1 : Int) > b
    · simp only [if_pos h5]
      refine (Evl.ret _).cast ?_
      rw [List.all_cons, decide_eq_false (by omega)]
      rfl
    · simp only [if_neg h5]
      refine (ih (i + 1) hs).cast ?_
      rw [List.all_cons, decide_eq_true (by omega)]
      rfl
theorem prSmooth_ev (n : Nat) (b : Int) (hb : n ≤ 2000000000) : Evl (fun k => spec_prSmooth.f k (n : Int) b) (smooth n b) := by
  simp only [spec_prSmooth.f]
  refine Evl.bind (spec_prFactors_ev n hb) ?_
  have := facs_length n n (Nat.le_refl _)
  exact prSmooth_l0 b (facs n) (by omega) (facs n) 0 rfl
theorem smooth_last (n : Nat) (b : Int) {l : List (Nat × Nat)} {pe : Nat × Nat} (h : facs n = l ++ [pe]) : smooth n b = decide ((pe.1 : Int) ≤ b) := by
  have hs := facs_sorted n
  unfold smooth
  rw [h] at hs ⊢
  rw [List.pairwise_append] at hs
  by_cases hb : (pe.1 : Int) ≤ b
  · rw [decide_eq_true hb, List.all_eq_true]
    intro q hq
    rcases List.mem_append.1 hq with hq | hq
    · have := hs.2.2 q hq pe (List.mem_singleton.2 rfl)
      exact decide_eq_true (by omega)
    · rw [List.mem_singleton.1 hq]; exact decide_eq_true hb
  · rw [decide_eq_false hb, List.all_append]
    simp [hb]
theorem isSmooth_ev (n : Nat) (b : Int) (hb : n ≤ 2000000000) : Evl (fun k => impl_isSmooth.f k (n : Int) b) (smooth n b) := by
  simp only [impl_isSmooth.f]
  refine Evl.bind (impl_factors_ev n hb) ?_
  have hlen := facs_length n n (Nat.le_refl _)
  rcases List.eq_nil_or_concat (facs n) with h | ⟨l, pe, h⟩
  · have h1 : (((fL (facs n)).length : Nat) : Int) = 0 := by rw [fL_length, h]; rfl
    simp only [if_pos h1]
    refine (Evl.ret _).cast ?_
    unfold smooth
    rw [h]
    rfl
  · rw [List.concat_eq_append] at h
    rw [smooth_last n b h]
    have hl2 : l.length ≤ n := by rw [h] at hlen; simp at hlen; omega
    have hll : (fL (facs n)).length = l.length + 1 := by rw [fL_length, h]; simp
    have h1 : ¬ (((fL (facs n)).length : Nat) : Int) = 0 := by omega
    have hw : wrap64 (((fL (facs n)).length : Int) - 1) = ((l.length : Nat) : Int) := by rw [hll, w64 (by omega) (by omega)]; omega
    have h2 : (0 : Int) ≤ ((l.length : Nat) : Int) := by omega
    have h3 : ((l.length : Nat) : Int) < ((fL (facs n)).length : Int) := by omega
    have hr : rd_L1 (fL (facs n)) ((l.length : Nat) : Int) = [(pe.1 : Int), (pe.2 : Int)] := rdL_of (by unfold fL; rw [h]; simp)
    have h4 : (0 : Int) < (([(pe.1 : Int), (pe.2 : Int)] : List Int).length : Int) := by simp
    have h5 : rd [(pe.1 : Int), (pe.2 : Int)] 0 = (pe.1 : Int) := rfl
    simp only [if_neg h1, hw, if_pos h2, if_pos h3, hr, if_pos h4, h5]
    exact Evl.ret _

end Go.Proofs.Ytgnoijgknjehfaa.L
