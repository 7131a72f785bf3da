/- What the laws' own helpers come to: equal lists are told equal, what is marked is held. No condition. -/
import Derived.Test.YtgnoijgknjehfaaL0
import Derived.Test.YtgnoijgknjehfaaPx1
import Derived.Test.YtgnoijgknjehfaaPx2
import Derived.Test.YtgnoijgknjehfaaPx4
namespace Go.Proofs.Ytgnoijgknjehfaa.L
open Go.RowKit Go.Proofs.YtgnoijgknjehfaaW.PrintWords Go.Proofs.Ytgnoijgknjehfaa.P
set_option linter.unusedVariables false
set_option linter.unusedSimpArgs false

/-- n numbers from v on. -/
def iot : Int → Nat → List Int
  | _, 0 => []
  | v, n + 1 => v :: iot (v + 1) n
theorem iot_length : ∀ (n : Nat) (v : Int), (iot v n).length = n
  | 0, _ => rfl
  | n + 1, v => by rw [iot, List.length_cons, iot_length n]

theorem eqIntS_l0 (a : List Int) (hl : a.length ≤ 1099511627776) : ∀ (s : List Int) (i : Nat), a.drop i = s → Evl (fun k => laws_eqIntS.l0 k a a (i : Int)) true := by
  intro s
  induction s with
  | nil =>
    intro i h
    have hi := drop_nil h
    refine Evl.succ ?_
    have h1 : ¬ (i : Int) < (a.length : Int) := by omega
    simp only [laws_eqIntS.l0, if_neg h1]
    exact Evl.ret _
  | cons x s ih =>
    intro i h
    obtain ⟨hi, hx, hs⟩ := drop_cons h
    have hw : wrap64 ((i : Int) + 1) = ((i + 1 : Nat) : Int) := by rw [w64 (by omega) (by omega)]; rfl
    refine Evl.succ ?_
    have h1 : (i : Int) < (a.length : Int) := by omega
    have h2 : (0 : Int) ≤ (i : Int) := by omega
    simp only [laws_eqIntS.l0, if_pos h1, if_pos h2, if_true, hw]
    exact ih (i + 1) hs
theorem eqIntS_self (a : List Int) (hl : a.length ≤ 1099511627776) : Evl (fun k => laws_eqIntS.f k a a) true := by
  simp only [laws_eqIntS.f, if_true]
  exact eqIntS_l0 a hl a 0 rfl

theorem markIntS_l0 : ∀ (s pre : List Int) (v : Int) (i : Nat), pre.length = i → pre.length + s.length ≤ 1099511627776 → 0 ≤ v → v + s.length ≤ 1099511627800 → Evl (fun k => laws_markIntS.l0 k (pre ++ s) v (i : Int)) (v + s.length, pre ++ iot v s.length) := by
  intro s
  induction s with
  | nil =>
    intro pre v i hi _ _ _
    refine Evl.succ ?_
    have h1 : ¬ (i : Int) < ((pre ++ []).length : Int) := by rw [List.append_nil]; omega
    simp only [laws_markIntS.l0, if_neg h1]
    refine (Evl.ret _).cast ?_
    simp [iot]
  | cons x s ih =>
    intro pre v i hi hb hv hvb
    rw [List.length_cons] at hb hvb
    have hw : wrap64 ((i : Int) + 1) = ((i + 1 : Nat) : Int) := by rw [w64 (by omega) (by omega)]; rfl
    have hw2 : wrap64 (v + 1) = v + 1 := w64 (by omega) (by omega)
    refine Evl.succ ?_
    have h1 : (i : Int) < ((pre ++ x :: s).length : Int) := by rw [List.length_append, List.length_cons]; omega
    have h2 : (0 : Int) ≤ (i : Int) := by omega
    have hset : (pre ++ x :: s).set (i : Int).toNat v = (pre ++ [v]) ++ s := by
      rw [Int.toNat_natCast, ← hi, List.set_append_right _ _ (Nat.le_refl _), Nat.sub_self, List.set_cons_zero, List.append_assoc]
      rfl
    simp only [laws_markIntS.l0, if_pos h1, if_pos h2, hw, hw2, hset]
    have := ih (pre ++ [v]) (v + 1) (i + 1) (by rw [List.length_append, hi]; rfl) (by rw [List.length_append, List.length_singleton]; omega) (by omega) (by omega)
    refine this.cast ?_
    rw [List.length_cons, iot, List.append_assoc]
    refine Prod.ext ?_ rfl
    show v + 1 + (s.length : Int) = v + ((s.length + 1 : Nat) : Int)
    omega
theorem markIntS_ev (a : List Int) (hl : a.length ≤ 1099511627776) : Evl (fun k => laws_markIntS.f k a 1) (1 + a.length, iot 1 a.length) := by
  simp only [laws_markIntS.f]
  exact markIntS_l0 a [] 1 0 rfl (by simpa using hl) (by omega) (by omega)

theorem heldIntS_l0 (a : List Int) (hl : a.length ≤ 1099511627776) : ∀ (n : Nat) (v : Int) (i : Nat), a.drop i = iot v n → 0 ≤ v → v + n ≤ 1099511627800 → Evl (fun k => laws_heldIntS.l0 k a v (i : Int)) (v + n) := by
  intro n
  induction n with
  | zero =>
    intro v i h _ _
    have hi := drop_nil h
    refine Evl.succ ?_
    have h1 : ¬ (i : Int) < (a.length : Int) := by omega
    simp only [laws_heldIntS.l0, if_neg h1]
    refine (Evl.ret _).cast ?_
    omega
  | succ n ih =>
    intro v i h hv hb
    obtain ⟨hi, hx, hs⟩ := drop_cons h
    have hw : wrap64 ((i : Int) + 1) = ((i + 1 : Nat) : Int) := by rw [w64 (by omega) (by omega)]; rfl
    have hw2 : wrap64 (v + 1) = v + 1 := w64 (by omega) (by omega)
    have hr : rd a (i : Int) = v := rd_of hx
    refine Evl.succ ?_
    have h1 : (i : Int) < (a.length : Int) := by omega
    have h2 : (0 : Int) ≤ (i : Int) := by omega
    simp only [laws_heldIntS.l0, if_pos h1, if_pos h2, hr, if_true, hw, hw2]
    refine (ih (v + 1) (i + 1) hs (by omega) (by omega)).cast ?_
    omega
theorem heldIntS_ev (n : Nat) (hl : n ≤ 1099511627776) : Evl (fun k => laws_heldIntS.f k (iot 1 n) 1) (1 + n) := by
  simp only [laws_heldIntS.f]
  exact heldIntS_l0 (iot 1 n) (by rw [iot_length]; exact hl) n 1 0 rfl (by omega) (by omega)
theorem toIntS_l0 (a : List Int) (hl : a.length ≤ 1099511627776) : ∀ (s pre t : List Int) (i : Nat), pre.length = i → a = pre ++ s → t.length = s.length → Evl (fun k => laws_toIntS.l0 k a (pre ++ t) (i : Int)) a := by
  intro s
  induction s with
  | nil =>
    intro pre t i hi ha ht
    obtain rfl : t = [] := List.eq_nil_of_length_eq_zero ht
    refine Evl.succ ?_
    have h1 : ¬ (i : Int) < (a.length : Int) := by rw [ha, List.append_nil]; omega
    simp only [laws_toIntS.l0, if_neg h1]
    rw [← ha]
    exact Evl.ret _
  | cons x s ih =>
    intro pre t i hi ha ht
    obtain ⟨y, t, rfl⟩ : ∃ y t', t = y :: t' := by
      cases t with
      | nil => cases ht
      | cons y t => exact ⟨y, t, rfl⟩
    have hal : a.length = i + (s.length + 1) := by rw [ha, List.length_append, hi, List.length_cons]
    have h1 : (i : Int) < (a.length : Int) := by omega
    have h0 : (0 : Int) ≤ (i : Int) := by omega
    have h2 : (i : Int) < ((pre ++ y :: t).length : Int) := by rw [List.length_append, List.length_cons]; omega
    have hx : rd a (i : Int) = x := rd_of (by rw [ha, List.getElem?_append_right (by omega), hi, Nat.sub_self]; rfl)
    have hw : wrap64 ((i : Int) + 1) = ((i + 1 : Nat) : Int) := by rw [w64 (by omega) (by omega)]; rfl
    have hset : (pre ++ y :: t).set (i : Int).toNat x = (pre ++ [x]) ++ t := by
      rw [Int.toNat_natCast, ← hi, List.set_append_right _ _ (Nat.le_refl _), Nat.sub_self, List.set_cons_zero, List.append_assoc]
      rfl
    refine Evl.succ ?_
    simp only [laws_toIntS.l0, if_pos h1, if_pos h0, if_pos h2, hx, hw, hset]
    refine ih (pre ++ [x]) t (i + 1) (by rw [List.length_append, hi]; rfl) (by rw [ha, List.append_assoc]; rfl) ?_
    rw [List.length_cons, List.length_cons] at ht
    omega
theorem toIntS_ev (a : List Int) (hl : a.length ≤ 1099511627776) : Evl (fun k => laws_toIntS.f k a) a := by
  have h0 : (0 : Int) ≤ (a.length : Int) := by omega
  have h1 : ((a.length : Int)).toNat ≤ 35184372088832 := by omega
  simp only [laws_toIntS.f, if_pos h0, if_pos h1]
  exact toIntS_l0 a hl a [] (List.replicate _ 0) 0 rfl rfl (by rw [List.length_replicate]; exact Int.toNat_natCast _)

end Go.Proofs.Ytgnoijgknjehfaa.L
