-- Printed for this claim by a program of this session, out of the translation. Lean checks it.
import Derived.Test.YtjonkpeoiecchaaPx0
import Derived.Test.YtjonkpeoiecchaaPx2
namespace Go.Proofs.Ytjonkpeoiecchaa.P
open Go.RowKit Go.Proofs.YtjonkpeoiecchaaW.PrintWords Go.Proofs.YtjonkpeoiecchaaW.PrintLast Go.Proofs.YtjonkpeoiecchaaW.PrintMore
attribute [local go_sem] max2_int min2_int max_two min_two max_three min_three max_four min_four   -- for this text's walks alone
set_option linter.unusedVariables false
set_option linter.unusedSimpArgs false

/-! ### impl_IsPrime: function 12 -/
def impl_IsPrime.f (k : Nat) (a0 : Int) : Option (Bool × Bool) := if a0 < 0 then (some (false, false)) else (if a0 > 1000000000 then (some (false, false)) else ((impl_isPrime.f k a0).bind fun t135 => (some (t135, true))))
theorem impl_IsPrime.mono : ∀ a0 k, LeO (impl_IsPrime.f k a0) (impl_IsPrime.f (k + 1) a0) := by
  intro a0 k
  unfold impl_IsPrime.f
  repeat' first
      | (with_reducible exact impl_isPrime.mono _ _)
      | (with_reducible exact LeO.refl _)
      | (with_reducible exact LeO.none _)
      | (with_reducible refine LeO.ite ?_ ?_)
      | (with_reducible refine LeO.bind ?_ (fun _ => ?_))
      | exact impl_isPrime.mono _ _
      | exact LeO.none _
      | refine LeO.ite ?_ ?_
      | refine LeO.bind ?_ (fun _ => ?_)
set_option maxHeartbeats 8000000 in
set_option maxRecDepth 100000 in
theorem impl_IsPrime.calls (k : Nat) (a0 : Int) (r1 : Bool) (r2 : Bool) (w : World) (h : impl_IsPrime.f k a0 = some (r1, r2)) :
    Calls Try.prog 12 #[.int .i64 a0] w fun e w' => e = .returned (.tuple #[.bool r1, .bool r2]) ∧ Drawn0 w w' := by
  have H : (if a0 < 0 then (some (false, false)) else (if a0 > 1000000000 then (some (false, false)) else ((impl_isPrime.f k a0).bind fun t135 => (some (t135, true))))) = some (r1, r2) := h
  clear h
  by_cases c2 : a0 < 0
  · rw [if_pos c2] at H
    have c2b0 : decide (a0 < 0) = true := decide_eq_true c2
    clear c2
    simp only [Option.some.injEq, Prod.mk.injEq] at H
    obtain ⟨rfl, rfl⟩ := H
    go_enter Try.func12, Try.ntmps12
    go_wp2
    go_ret2
    exact ⟨by first | rfl | (simp; done) | (simp [*]; done), by repeat (first | exact Drawn0.refl _ | apply Drawn0.step)⟩
  · rw [if_neg c2] at H
    have c2b0 : decide (a0 < 0) = false := decide_eq_false c2
    clear c2
    by_cases c3 : a0 > 1000000000
    · rw [if_pos c3] at H
      have c3b0 : decide (1000000000 < a0) = true := decide_eq_true c3
      clear c3
      simp only [Option.some.injEq, Prod.mk.injEq] at H
      obtain ⟨rfl, rfl⟩ := H
      go_enter Try.func12, Try.ntmps12
      go_wp2
      go_ret2
      exact ⟨by first | rfl | (simp; done) | (simp [*]; done), by repeat (first | exact Drawn0.refl _ | apply Drawn0.step)⟩
    · rw [if_neg c3] at H
      have c3b0 : decide (1000000000 < a0) = false := decide_eq_false c3
      clear c3
      replace H := Option.bind_eq_some_iff.mp H
      obtain ⟨t135, A40, H⟩ := H
      replace H : (some (t135, true)) = some (r1, r2) := H
      have A4 := Aside0.mk A40
      clear A40
      simp only [Option.some.injEq, Prod.mk.injEq] at H
      obtain ⟨rfl, rfl⟩ := H
      go_enter Try.func12, Try.ntmps12
      go_wp2_with (first | ((with_reducible refine gate_callee (f := 63) rfl ?_); refine goesL_ (some 11) rfl rfl Try.func63 (by kernel_rfl) rfl #[.int .i64 a0] rfl (by (try simp only [List.map_toArray, List.map_cons, List.map_nil]); first | done | rfl | (simp only [List.length_drop, List.length_take]; rfl)) ?_; (with_reducible refine (impl_isPrime.calls k a0 t135 _ A4.out).mono ?_); rintro e w' ⟨rfl, ⟨nd, rfl⟩⟩; refine ⟨_, rfl, ?_⟩))
      go_ret2
      exact ⟨by first | rfl | (simp; done) | (simp [*]; done), by repeat (first | exact Drawn0.refl _ | apply Drawn0.step)⟩

/-! ### impl_isMost: function 66 -/
def impl_isMost.f (a0 : Int) : Option (Bool) := if a0 ≥ 0 then (some (decide (a0 ≤ 600))) else (some false)
set_option maxHeartbeats 8000000 in
set_option maxRecDepth 100000 in
theorem impl_isMost.calls (a0 : Int) (r : Bool) (w : World) (h : impl_isMost.f a0 = some r) :
    Calls Try.prog 66 #[.int .i64 a0] w fun e w' => e = .returned (.bool r) ∧ Drawn0 w w' := by
  have H : (if a0 ≥ 0 then (some (decide (a0 ≤ 600))) else (some false)) = some r := h
  clear h
  by_cases c2 : a0 ≥ 0
  · rw [if_pos c2] at H
    have c2b0 : decide (0 ≤ a0) = true := decide_eq_true c2
    clear c2
    obtain rfl := Option.some.inj H
    go_enter Try.func66, Try.ntmps66
    go_wp2
    go_ret
    exact ⟨by first | rfl | (simp; done) | (simp [*]; done), by repeat (first | exact Drawn0.refl _ | apply Drawn0.step)⟩
  · rw [if_neg c2] at H
    have c2b0 : decide (0 ≤ a0) = false := decide_eq_false c2
    clear c2
    obtain rfl := Option.some.inj H
    go_enter Try.func66, Try.ntmps66
    go_wp2
    go_ret
    exact ⟨by first | rfl | (simp; done) | (simp [*]; done), by repeat (first | exact Drawn0.refl _ | apply Drawn0.step)⟩

/-! ### impl_TwinsUpTo: function 13, by this session's hand -/
def impl_TwinsUpTo.flt (k : Nat) : List Int → Option (List Int)
  | [] => some []
  | x :: s => (impl_isPrime.f k (wrap64 (x + 2))).bind fun t => (impl_TwinsUpTo.flt k s).bind fun r => some (if t = true then x :: r else r)
def impl_TwinsUpTo.f (k : Nat) (a0 : Int) : Option (List Int × Bool) := (impl_isMost.f a0).bind fun t => if t = true then ((impl_primesBetween.f k 0 a0).bind fun l => (impl_TwinsUpTo.flt k l).bind fun r => some (r, true)) else some ([], false)
theorem impl_TwinsUpTo.flt_mono : ∀ (l : List Int) (k : Nat), LeO (impl_TwinsUpTo.flt k l) (impl_TwinsUpTo.flt (k + 1) l)
  | [], _ => LeO.refl _
  | x :: s, k => LeO.bind (impl_isPrime.mono _ _) fun _ => LeO.bind (impl_TwinsUpTo.flt_mono s k) fun _ => LeO.refl _
theorem impl_TwinsUpTo.mono : ∀ a0 k, LeO (impl_TwinsUpTo.f k a0) (impl_TwinsUpTo.f (k + 1) a0) := fun a0 k =>
  LeO.bind (LeO.refl _) fun _ => LeO.ite (LeO.bind (impl_primesBetween.mono _ _ _) fun l => LeO.bind (impl_TwinsUpTo.flt_mono l k) fun _ => LeO.refl _) (LeO.refl _)
def impl_TwinsUpTo.p (k : Nat) (x : Int) : Bool := !((impl_isPrime.f k (wrap64 (x + 2))).getD false)
theorem impl_TwinsUpTo.flt_spec (k : Nat) : ∀ (l r : List Int), impl_TwinsUpTo.flt k l = some r → (∀ x ∈ l, impl_isPrime.f k (wrap64 (x + 2)) = some (!impl_TwinsUpTo.p k x)) ∧ r = l.filter fun x => !impl_TwinsUpTo.p k x
  | [], r, h => by
    injection h with h
    exact ⟨fun x hx => absurd hx (by simp), h.symm⟩
  | x :: s, r, h => by
    obtain ⟨t, h1, h⟩ := Option.bind_eq_some_iff.mp h
    obtain ⟨q, h2, h⟩ := Option.bind_eq_some_iff.mp h
    injection h with h
    obtain ⟨g1, g2⟩ := impl_TwinsUpTo.flt_spec k s q h2
    have hp : impl_TwinsUpTo.p k x = !t := by unfold impl_TwinsUpTo.p; rw [h1]; rfl
    refine ⟨fun y hy => ?_, ?_⟩
    · rcases List.mem_cons.1 hy with rfl | hy
      · rw [h1, hp, Bool.not_not]
      · exact g1 y hy
    · rw [← h, List.filter_cons, hp, Bool.not_not, g2]
set_option maxRecDepth 100000 in
theorem impl_TwinsUpTo.closure (k : Nat) (x : Int) (t : Bool) (W : World) (h : impl_isPrime.f k (wrap64 (x + 2)) = some t) :
    Calls Try.prog 68 #[.int .i64 x] W fun e w' => e = .returned (.bool (!t)) ∧ Below W.heap.size W w' := by
  go_enter Try.func68, Try.ntmps68
  go_wp2_with (go_at_call 63; (with_reducible refine (impl_isPrime.calls k (wrap64 (x + 2)) t _ h).mono ?_); rintro e w' ⟨rfl, hD⟩)
  go_ret
  exact ⟨rfl, hD.below⟩
set_option maxRecDepth 100000 in
theorem impl_TwinsUpTo.calls (k : Nat) (a0 : Int) (r1 : List Int) (r2 : Bool) (w : World) (h : impl_TwinsUpTo.f k a0 = some (r1, r2)) :
    Calls Try.prog 13 #[.int .i64 a0] w fun e w' => ∃ v0_ : Value, e = .returned (.tuple #[v0_, .bool r2]) ∧ Kd.R (Kd.int .i64) 3 w' w.heap.size (fun _ => True) v0_ r1 ∧ Below w.heap.size w w' := by
  unfold impl_TwinsUpTo.f at h
  obtain ⟨t, ht, h⟩ := Option.bind_eq_some_iff.mp h
  cases t with
  | false =>
    simp only [Bool.false_eq_true, if_false, Option.some.injEq, Prod.mk.injEq] at h
    obtain ⟨rfl, rfl⟩ := h
    go_enter Try.func13, Try.ntmps13
    go_wp2_with (go_at_call 66; (with_reducible refine (impl_isMost.calls a0 false _ ht).mono ?_); rintro e w' ⟨rfl, hD⟩)
    go_ret2
    exact ⟨.slice none 0 0, rfl, Kd.R_nil _ _ _ _ _, hD.below⟩
  | true =>
    simp only [if_true] at h
    obtain ⟨l, hl, h⟩ := Option.bind_eq_some_iff.mp h
    obtain ⟨r, hr, h⟩ := Option.bind_eq_some_iff.mp h
    simp only [Option.some.injEq, Prod.mk.injEq] at h
    obtain ⟨rfl, rfl⟩ := h
    obtain ⟨g1, g2⟩ := impl_TwinsUpTo.flt_spec k l r hr
    have eg : ∀ args w, (callFunc 68 args).run Try.prog w = .ok (.enter 68 args) w := enters_of Try.func68 (by kernel_rfl) rfl
    have HCL : ∀ x ∈ l, ∀ W, Calls Try.prog 68 (#[.int .i64 x] ++ (#[] : Array Value)) W fun e w' => e = .returned (.bool (impl_TwinsUpTo.p k x)) ∧ Below W.heap.size W w' := fun x hx W => by
      have := impl_TwinsUpTo.closure k x _ W (g1 x hx)
      rw [Bool.not_not] at this
      exact this
    have HCLA := Aside0.mk HCL
    have HR := Aside0.mk g2
    clear HCL g1 g2 hr
    go_enter Try.func13, Try.ntmps13
    go_wp2_with (first | (go_at_call 66; (with_reducible refine (impl_isMost.calls a0 true _ ht).mono ?_); rintro e w1 ⟨rfl, hD⟩) | (go_at_call 62; (with_reducible refine (impl_primesBetween.calls k 0 a0 l _ hl).mono ?_); rintro e w2 ⟨v, rfl, ho, hb⟩) | (go_at_call 67; refine (delFunc 68 #[] eg (impl_TwinsUpTo.p k) w1 w2 (fun _ => True) v l (fun x hx W _ _ _ => HCLA.out x hx W) hb ho).mono ?_; rintro e w3 ⟨v2, rfl, ho2, hb2⟩))
    go_ret2
    exact ⟨v2, rfl, by rw [HR.out]; exact Kd.R_lower ho2 hD.below.size, below_then hD.below hD.below.size hb2⟩


end Go.Proofs.Ytjonkpeoiecchaa.P
