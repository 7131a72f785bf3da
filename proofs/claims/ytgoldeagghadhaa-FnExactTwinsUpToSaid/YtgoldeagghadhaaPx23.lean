-- Printed for this claim by a program of this session, out of the translation. Lean checks it.
import Derived.Test.YtgoldeagghadhaaPx0
import Derived.Test.YtgoldeagghadhaaPx1
import Derived.Test.YtgoldeagghadhaaPx3
import Derived.Test.YtgoldeagghadhaaPx21
namespace Go.Proofs.Ytgoldeagghadhaa.P
open Go.RowKit Go.Proofs.YtgoldeagghadhaaW.PrintWords Go.Proofs.YtgoldeagghadhaaW.PrintLast Go.Proofs.YtgoldeagghadhaaW.PrintMore
attribute [local go_sem] max2_int min2_int max_two min_two max_three min_three max_four min_four   -- for this text's walks alone
set_option linter.unusedVariables false
set_option linter.unusedSimpArgs false

/-! ### spec_TwinsUpTo: function 29 -/
def spec_TwinsUpTo.l0 : Nat → Int → List Int → Int → Option (List Int × Bool)
  | 0, _, _, _ => none
  | k + 1, x0, x4, x5 => if x5 ≤ x0 then ((spec_prIs.f k x5).bind fun t302 => (if t302 = true then ((spec_prIs.f k (wrap64 (x5 + 2))).bind fun t303 => (if t303 = true then (if x4.length < 17592186044416 then (spec_TwinsUpTo.l0 k x0 (x4 ++ [x5]) (wrap64 (x5 + 1))) else (none)) else (spec_TwinsUpTo.l0 k x0 x4 (wrap64 (x5 + 1))))) else (spec_TwinsUpTo.l0 k x0 x4 (wrap64 (x5 + 1))))) else (some (x4, true))
def spec_TwinsUpTo.f (k : Nat) (a0 : Int) : Option (List Int × Bool) := (spec_l1In.f a0 0 600).bind fun t301 => (if t301 = true then (spec_TwinsUpTo.l0 k a0 ([] : List Int) 2) else (some (([] : List Int), false)))
theorem spec_TwinsUpTo.mono_l : ∀ k, (∀ y0 y1 y2, LeO (spec_TwinsUpTo.l0 k y0 y1 y2) (spec_TwinsUpTo.l0 (k + 1) y0 y1 y2))
  | 0 => fun _ _ _ r h => by simp [spec_TwinsUpTo.l0] at h
  | k + 1 => by
    have ih0 := spec_TwinsUpTo.mono_l k
    · intro y0 y1 y2
      unfold spec_TwinsUpTo.l0
      repeat' first
      | (with_reducible exact ih0 _ _ _)
      | (with_reducible exact spec_prIs.mono _ _)
      | (with_reducible exact LeO.refl _)
      | (with_reducible exact LeO.none _)
      | (with_reducible refine LeO.ite ?_ ?_)
      | (with_reducible refine LeO.bind ?_ (fun _ => ?_))
      | exact ih0 _ _ _
      | exact spec_prIs.mono _ _
      | exact LeO.none _
      | refine LeO.ite ?_ ?_
      | refine LeO.bind ?_ (fun _ => ?_)
theorem spec_TwinsUpTo.mono : ∀ a0 k, LeO (spec_TwinsUpTo.f k a0) (spec_TwinsUpTo.f (k + 1) a0) := by
  intro a0 k
  have ih0 := spec_TwinsUpTo.mono_l k
  unfold spec_TwinsUpTo.f
  repeat' first
      | (with_reducible exact ih0 _ _ _)
      | (with_reducible exact spec_prIs.mono _ _)
      | (with_reducible exact LeO.refl _)
      | (with_reducible exact LeO.none _)
      | (with_reducible refine LeO.ite ?_ ?_)
      | (with_reducible refine LeO.bind ?_ (fun _ => ?_))
      | exact ih0 _ _ _
      | exact spec_prIs.mono _ _
      | exact LeO.none _
      | refine LeO.ite ?_ ?_
      | refine LeO.bind ?_ (fun _ => ?_)
set_option maxHeartbeats 8000000 in
set_option maxRecDepth 100000 in
theorem spec_TwinsUpTo.calls (k : Nat) (a0 : Int) (r1 : List Int) (r2 : Bool) (w : World) (h : spec_TwinsUpTo.f k a0 = some (r1, r2)) :
    Calls Try.prog 29 #[.int .i64 a0] w fun e w' => ∃ v0_ : Value, e = .returned (.tuple #[v0_, .bool r2]) ∧ Kd.R (Kd.int .i64) 3 w' w.heap.size (fun _ => True) v0_ r1 ∧ Below w.heap.size w w' := by
  have HB := Aside0.mk (Below.refl w.heap.size w)
  have H : ((spec_l1In.f a0 0 600).bind fun t301 => (if t301 = true then (spec_TwinsUpTo.l0 k a0 ([] : List Int) 2) else (some (([] : List Int), false)))) = some (r1, r2) := h
  clear h
  replace H := Option.bind_eq_some_iff.mp H
  obtain ⟨t301, A20, H⟩ := H
  replace H : (if t301 = true then (spec_TwinsUpTo.l0 k a0 ([] : List Int) 2) else (some (([] : List Int), false))) = some (r1, r2) := H
  have A2 := Aside0.mk A20
  clear A20
  by_cases c3 : t301 = true
  · subst c3
    have H1 : (spec_TwinsUpTo.l0 k a0 ([] : List Int) 2) = some (r1, r2) := by rw [if_pos rfl] at H; exact H
    clear H
    have H := H1
    clear H1
    have H' := Aside0.mk H
    clear H
    go_enter Try.func29, Try.ntmps29
    go_wp2_with (first | ((with_reducible refine gate_callee (f := 62) rfl ?_); refine goesL_ (some 7) rfl rfl Try.func62 (by kernel_rfl) rfl #[.int .i64 a0, .int .i64 0, .int .i64 600] rfl (by (try simp only [List.map_toArray, List.map_cons, List.map_nil]); first | done | rfl | (simp only [List.length_drop, List.length_take]; rfl)) ?_; (with_reducible refine (spec_l1In.calls a0 0 600 true _ A2.out).mono ?_); rintro e w' ⟨rfl, ⟨nd, rfl⟩⟩; refine ⟨_, rfl, ?_⟩))
    go_loopg [4, 5] k (fun kq v4 v5 w' => ∃ (x4_1 : List Int) (x5_1 : Int), v5 = .int .i64 x5_1 ∧ Aside0 (spec_TwinsUpTo.l0 kq a0 x4_1 x5_1 = some (r1, r2)) ∧ Aside0 (kq ≤ k) ∧ Aside0 (Kd.R (Kd.int .i64) 3 w' w.heap.size (fun _ => True) v4 x4_1) ∧ Aside0 (Below w.heap.size w w'))
    case atStart => exact ⟨(([] : List Int)), (2), (by first | rfl | (simp; done) | (simp [*]; done)), H', ⟨Nat.le_refl _⟩, ⟨by first | exact Kd.R_nil _ _ _ _ _ | exact Kd.N_nil _ _ _ _ _ | exact Kd.V_nil _ _ _ _ _ | exact Kd.Q_nil _ _ _ _ _ | exact Kd.S_nil _ _ _ _ _⟩, ⟨by repeat (first | (with_reducible first | exact HB.out | apply below_alloc | apply pw_below_drewN | apply below_drew1) | exact HB.out)⟩⟩
    case round =>
      clear H'
      try clear c2
      try clear p2
      try clear c3
      obtain ⟨x4_1, x5_1, rfl, HA, HK1, HO_4, HB⟩ := hrel
      cases gk with
      | zero => exact absurd HA.out (by simp [spec_TwinsUpTo.l0])
      | succ k1 =>
        have H := HA.out
        clear HA
        simp only [spec_TwinsUpTo.l0] at H
        by_cases c4 : x5_1 ≤ a0
        · rw [if_pos c4] at H
          have c4b0 : decide (x5_1 ≤ a0) = true := decide_eq_true c4
          clear c4
          replace H := Option.bind_eq_some_iff.mp H
          obtain ⟨t302, A50, H⟩ := H
          replace H : (if t302 = true then ((spec_prIs.f k1 (wrap64 (x5_1 + 2))).bind fun t303 => (if t303 = true then (if x4_1.length < 17592186044416 then (spec_TwinsUpTo.l0 k1 a0 (x4_1 ++ [x5_1]) (wrap64 (x5_1 + 1))) else (none)) else (spec_TwinsUpTo.l0 k1 a0 x4_1 (wrap64 (x5_1 + 1))))) else (spec_TwinsUpTo.l0 k1 a0 x4_1 (wrap64 (x5_1 + 1)))) = some (r1, r2) := H
          have A5 := Aside0.mk A50
          clear A50
          by_cases c6 : t302 = true
          · subst c6
            have H1 : ((spec_prIs.f k1 (wrap64 (x5_1 + 2))).bind fun t303 => (if t303 = true then (if x4_1.length < 17592186044416 then (spec_TwinsUpTo.l0 k1 a0 (x4_1 ++ [x5_1]) (wrap64 (x5_1 + 1))) else (none)) else (spec_TwinsUpTo.l0 k1 a0 x4_1 (wrap64 (x5_1 + 1))))) = some (r1, r2) := by rw [if_pos rfl] at H; exact H
            clear H
            have H := H1
            clear H1
            replace H := Option.bind_eq_some_iff.mp H
            obtain ⟨t303, A70, H⟩ := H
            replace H : (if t303 = true then (if x4_1.length < 17592186044416 then (spec_TwinsUpTo.l0 k1 a0 (x4_1 ++ [x5_1]) (wrap64 (x5_1 + 1))) else (none)) else (spec_TwinsUpTo.l0 k1 a0 x4_1 (wrap64 (x5_1 + 1)))) = some (r1, r2) := H
            have A7 := Aside0.mk A70
            clear A70
            by_cases c8 : t303 = true
            · subst c8
              have H1 : (if x4_1.length < 17592186044416 then (spec_TwinsUpTo.l0 k1 a0 (x4_1 ++ [x5_1]) (wrap64 (x5_1 + 1))) else (none)) = some (r1, r2) := by rw [if_pos rfl] at H; exact H
              clear H
              have H := H1
              clear H1
              by_cases c9 : x4_1.length < 17592186044416
              · rw [if_pos c9] at H
                have LMc9 := Aside0.mk c9
                clear c9
                obtain ⟨y304, hy304⟩ : ∃ y_ : List Int, y_ = (x4_1 ++ [x5_1]) := ⟨_, rfl⟩
                replace H : (spec_TwinsUpTo.l0 k1 a0 y304 (wrap64 (x5_1 + 1))) = some (r1, r2) := by first | (rw [hy304]; with_reducible exact H) | (have H2_ := (Option.bind_some _ _).symm.trans H; rw [hy304]; with_reducible exact H2_) | (have H2_ := (Option.bind_some _ _).symm.trans H; with_reducible exact H2_) | with_reducible exact H | (rw [hy304]; exact H) | exact H
                have Ny304 := Aside0.mk hy304
                clear hy304
                have H' := Aside0.mk H
                clear H
                go_wp2_with (first | ((with_reducible refine gate_callee (f := 69) rfl ?_); refine goesL_ (some 15) rfl rfl Try.func69 (by kernel_rfl) rfl #[.int .i64 x5_1] rfl (by (try simp only [List.map_toArray, List.map_cons, List.map_nil]); first | done | rfl | (simp only [List.length_drop, List.length_take]; rfl)) ?_; (with_reducible refine (spec_prIs.calls k1 x5_1 true _ A5.out).mono ?_); rintro e w' ⟨rfl, ⟨nd, rfl⟩⟩; refine ⟨_, rfl, ?_⟩) | (go_at_call 69; (with_reducible refine (spec_prIs.calls k1 (wrap64 (x5_1 + 2)) true _ A7.out).mono ?_); rintro e w' ⟨rfl, ⟨nd, rfl⟩⟩) | ((with_reducible refine gate_builtin (b := .append) (xs := #[.tmp 21, .tmp 23]) rfl ?_); at_builtin; refine Kd.R_append (Kd.int .i64) (w0 := w) w.heap.size rfl (.tmp 21) (.tmp 23) 28 3 (.int .i64 0) 8 rfl Try.underlying28 info3 rfl (by decide) (by omega) u4 x4_1 x5_1 [.int .i64 x5_1] (fun _ => True) (fun _ => False) rfl rfl ?aP (fun _ hk => hk.elim) ?aF ?aO ?aB ?aS ?aL ?_; (case aP => exact rfl); (case aB => exact (by repeat (first | (with_reducible first | exact HB.out | apply below_alloc | apply pw_below_drewN | apply below_drew1) | exact HB.out))); (case aF => exact (fun _ _ => trivial)); (case aO => exact (by (with_reducible repeat (first | apply Kd.R_alloc | apply Kd.R_drewN | apply Kd.R_drew)); exact HO_4.out)); (case aS => exact (below_size (by repeat (first | (with_reducible first | exact HB.out | apply below_alloc | apply pw_below_drewN | apply below_drew1) | exact HB.out)))); (case aL => have := LMc9.out; omega); intro v305 w10 ho hb hg hat; rw [← Ny304.out] at ho; have n0_ := Aside0.mk (hb); have n1_ := Aside0.mk (ho); clear HB; clear HO_4; have HB := n0_; have HO306 := n1_; clear n0_ n1_; clear ho hb hg hat))
                go_roundg k1
                case measure => have := HK1.out; omega
                case rel => exact ⟨(y304), (wrap64 (x5_1 + 1)), (by first | rfl | (simp; done) | (simp [*]; done)), H', ⟨by have := HK1.out; omega⟩, ⟨by (with_reducible repeat (first | apply Kd.R_alloc | apply Kd.R_drewN | apply Kd.R_drew)); exact HO306.out⟩, ⟨by repeat (first | (with_reducible first | exact HB.out | apply below_alloc | apply pw_below_drewN | apply below_drew1) | exact HB.out)⟩⟩
              · rw [if_neg c9] at H
                exact absurd H (by simp)
            · replace c8 := Bool.eq_false_iff.mpr c8
              subst c8
              have H1 : (spec_TwinsUpTo.l0 k1 a0 x4_1 (wrap64 (x5_1 + 1))) = some (r1, r2) := by rw [if_neg (show ¬ (false = true) by decide)] at H; exact H
              clear H
              have H := H1
              clear H1
              have H' := Aside0.mk H
              clear H
              go_wp2_with (first | ((with_reducible refine gate_callee (f := 69) rfl ?_); refine goesL_ (some 15) rfl rfl Try.func69 (by kernel_rfl) rfl #[.int .i64 x5_1] rfl (by (try simp only [List.map_toArray, List.map_cons, List.map_nil]); first | done | rfl | (simp only [List.length_drop, List.length_take]; rfl)) ?_; (with_reducible refine (spec_prIs.calls k1 x5_1 true _ A5.out).mono ?_); rintro e w' ⟨rfl, ⟨nd, rfl⟩⟩; refine ⟨_, rfl, ?_⟩) | (go_at_call 69; (with_reducible refine (spec_prIs.calls k1 (wrap64 (x5_1 + 2)) false _ A7.out).mono ?_); rintro e w' ⟨rfl, ⟨nd, rfl⟩⟩))
              go_roundg k1
              case measure => have := HK1.out; omega
              case rel => exact ⟨(x4_1), (wrap64 (x5_1 + 1)), (by first | rfl | (simp; done) | (simp [*]; done)), H', ⟨by have := HK1.out; omega⟩, ⟨by (with_reducible repeat (first | apply Kd.R_alloc | apply Kd.R_drewN | apply Kd.R_drew)); exact HO_4.out⟩, ⟨by repeat (first | (with_reducible first | exact HB.out | apply below_alloc | apply pw_below_drewN | apply below_drew1) | exact HB.out)⟩⟩
          · replace c6 := Bool.eq_false_iff.mpr c6
            subst c6
            have H1 : (spec_TwinsUpTo.l0 k1 a0 x4_1 (wrap64 (x5_1 + 1))) = some (r1, r2) := by rw [if_neg (show ¬ (false = true) by decide)] at H; exact H
            clear H
            have H := H1
            clear H1
            have H' := Aside0.mk H
            clear H
            go_wp2_with (first | ((with_reducible refine gate_callee (f := 69) rfl ?_); refine goesL_ (some 15) rfl rfl Try.func69 (by kernel_rfl) rfl #[.int .i64 x5_1] rfl (by (try simp only [List.map_toArray, List.map_cons, List.map_nil]); first | done | rfl | (simp only [List.length_drop, List.length_take]; rfl)) ?_; (with_reducible refine (spec_prIs.calls k1 x5_1 false _ A5.out).mono ?_); rintro e w' ⟨rfl, ⟨nd, rfl⟩⟩; refine ⟨_, rfl, ?_⟩))
            go_roundg k1
            case measure => have := HK1.out; omega
            case rel => exact ⟨(x4_1), (wrap64 (x5_1 + 1)), (by first | rfl | (simp; done) | (simp [*]; done)), H', ⟨by have := HK1.out; omega⟩, ⟨by (with_reducible repeat (first | apply Kd.R_alloc | apply Kd.R_drewN | apply Kd.R_drew)); exact HO_4.out⟩, ⟨by repeat (first | (with_reducible first | exact HB.out | apply below_alloc | apply pw_below_drewN | apply below_drew1) | exact HB.out)⟩⟩
        · rw [if_neg c4] at H
          have c4b0 : decide (x5_1 ≤ a0) = false := decide_eq_false c4
          clear c4
          simp only [Option.some.injEq, Prod.mk.injEq] at H
          obtain ⟨rfl, rfl⟩ := H
          go_wp2
          go_ret2
          exact ⟨_, by first | rfl | (simp [errW_none, errW_some] <;> rfl) | (simp [*, errW_none, errW_some] <;> rfl), by (with_reducible repeat (first | apply Kd.R_alloc | apply Kd.R_drewN | apply Kd.R_drew)); exact HO_4.out, by repeat (first | (with_reducible first | exact HB.out | apply below_alloc | apply pw_below_drewN | apply below_drew1) | exact HB.out)⟩
  · replace c3 := Bool.eq_false_iff.mpr c3
    subst c3
    have H1 : (some (([] : List Int), false)) = some (r1, r2) := by rw [if_neg (show ¬ (false = true) by decide)] at H; exact H
    clear H
    have H := H1
    clear H1
    simp only [Option.some.injEq, Prod.mk.injEq] at H
    obtain ⟨rfl, rfl⟩ := H
    go_enter Try.func29, Try.ntmps29
    go_wp2_with (first | ((with_reducible refine gate_callee (f := 62) rfl ?_); refine goesL_ (some 7) rfl rfl Try.func62 (by kernel_rfl) rfl #[.int .i64 a0, .int .i64 0, .int .i64 600] rfl (by (try simp only [List.map_toArray, List.map_cons, List.map_nil]); first | done | rfl | (simp only [List.length_drop, List.length_take]; rfl)) ?_; (with_reducible refine (spec_l1In.calls a0 0 600 false _ A2.out).mono ?_); rintro e w' ⟨rfl, ⟨nd, rfl⟩⟩; refine ⟨_, rfl, ?_⟩))
    go_ret2
    exact ⟨_, by first | rfl | (simp [errW_none, errW_some] <;> rfl) | (simp [*, errW_none, errW_some] <;> rfl), by first | exact Kd.R_nil _ _ _ _ _ | exact Kd.N_nil _ _ _ _ _ | exact Kd.V_nil _ _ _ _ _ | exact Kd.Q_nil _ _ _ _ _ | exact Kd.S_nil _ _ _ _ _, by repeat (first | (with_reducible first | exact HB.out | apply below_alloc | apply pw_below_drewN | apply below_drew1) | exact HB.out)⟩

/-! ### impl_TwinsUpTo: function 30, by this session's hand -/
def impl_TwinsUpTo.flt (k : Nat) : List Int → Option (List Int)
  | [] => some []
  | x :: s => (impl_isPrime.f k (wrap64 (x + 2))).bind fun t => (impl_TwinsUpTo.flt k s).bind fun r => some (if t = true then x :: r else r)
def impl_TwinsUpTo.f (k : Nat) (a0 : Int) : Option (List Int × Bool) := (impl_isMost.f a0).bind fun t => if t = true then ((impl_primesBetween.f k 0 a0).bind fun l => (impl_TwinsUpTo.flt k l).bind fun r => some (r, true)) else some ([], false)
theorem impl_TwinsUpTo.flt_mono : ∀ (l : List Int) (k : Nat), LeO (impl_TwinsUpTo.flt k l) (impl_TwinsUpTo.flt (k + 1) l)
  | [], _ => LeO.refl _
  | x :: s, k => LeO.bind (impl_isPrime.mono _ _) fun _ => LeO.bind (impl_TwinsUpTo.flt_mono s k) fun _ => LeO.refl _
theorem impl_TwinsUpTo.mono : ∀ a0 k, LeO (impl_TwinsUpTo.f k a0) (impl_TwinsUpTo.f (k + 1) a0) := fun a0 k =>
  LeO.bind (LeO.refl _) fun _ => LeO.ite (LeO.bind (impl_primesBetween.mono _ _ _) fun l => LeO.bind (impl_TwinsUpTo.flt_mono l k) fun _ => LeO.refl _) (LeO.refl _)
def impl_TwinsUpTo.p (k : Nat) (x : Int) : Bool := !((impl_isPrime.f k (wrap64 (x + 2))).getD false)
theorem impl_TwinsUpTo.flt_spec (k : Nat) : ∀ (l r : List Int), impl_TwinsUpTo.flt k l = some r → (∀ x ∈ l, impl_isPrime.f k (wrap64 (x + 2)) = some (!impl_TwinsUpTo.p k x)) ∧ r = l.filter fun x => !impl_TwinsUpTo.p k x
  | [], r, h => by
    injection h with h
    exact ⟨fun x hx => absurd hx (by simp), h.symm⟩
  | x :: s, r, h => by
    obtain ⟨t, h1, h⟩ := Option.bind_eq_some_iff.mp h
    obtain ⟨q, h2, h⟩ := Option.bind_eq_some_iff.mp h
    injection h with h
    obtain ⟨g1, g2⟩ := impl_TwinsUpTo.flt_spec k s q h2
    have hp : impl_TwinsUpTo.p k x = !t := by unfold impl_TwinsUpTo.p; rw [h1]; rfl
    refine ⟨fun y hy => ?_, ?_⟩
    · rcases List.mem_cons.1 hy with rfl | hy
      · rw [h1, hp, Bool.not_not]
      · exact g1 y hy
    · rw [← h, List.filter_cons, hp, Bool.not_not, g2]
set_option maxRecDepth 100000 in
theorem impl_TwinsUpTo.closure (k : Nat) (x : Int) (t : Bool) (W : World) (h : impl_isPrime.f k (wrap64 (x + 2)) = some t) :
    Calls Try.prog 74 #[.int .i64 x] W fun e w' => e = .returned (.bool (!t)) ∧ Below W.heap.size W w' := by
  go_enter Try.func74, Try.ntmps74
  go_wp2_with (go_at_call 75; (with_reducible refine (impl_isPrime.calls k (wrap64 (x + 2)) t _ h).mono ?_); rintro e w' ⟨rfl, hD⟩)
  go_ret
  exact ⟨rfl, hD.below⟩
set_option maxRecDepth 100000 in
theorem impl_TwinsUpTo.calls (k : Nat) (a0 : Int) (r1 : List Int) (r2 : Bool) (w : World) (h : impl_TwinsUpTo.f k a0 = some (r1, r2)) :
    Calls Try.prog 30 #[.int .i64 a0] w fun e w' => ∃ v0_ : Value, e = .returned (.tuple #[v0_, .bool r2]) ∧ Kd.R (Kd.int .i64) 3 w' w.heap.size (fun _ => True) v0_ r1 ∧ Below w.heap.size w w' := by
  unfold impl_TwinsUpTo.f at h
  obtain ⟨t, ht, h⟩ := Option.bind_eq_some_iff.mp h
  cases t with
  | false =>
    simp only [Bool.false_eq_true, if_false, Option.some.injEq, Prod.mk.injEq] at h
    obtain ⟨rfl, rfl⟩ := h
    go_enter Try.func30, Try.ntmps30
    go_wp2_with (go_at_call 70; (with_reducible refine (impl_isMost.calls a0 false _ ht).mono ?_); rintro e w' ⟨rfl, hD⟩)
    go_ret2
    exact ⟨.slice none 0 0, rfl, Kd.R_nil _ _ _ _ _, hD.below⟩
  | true =>
    simp only [if_true] at h
    obtain ⟨l, hl, h⟩ := Option.bind_eq_some_iff.mp h
    obtain ⟨r, hr, h⟩ := Option.bind_eq_some_iff.mp h
    simp only [Option.some.injEq, Prod.mk.injEq] at h
    obtain ⟨rfl, rfl⟩ := h
    obtain ⟨g1, g2⟩ := impl_TwinsUpTo.flt_spec k l r hr
    have eg : ∀ args w, (callFunc 74 args).run Try.prog w = .ok (.enter 74 args) w := enters_of Try.func74 (by kernel_rfl) rfl
    have HCL : ∀ x ∈ l, ∀ W, Calls Try.prog 74 (#[.int .i64 x] ++ (#[] : Array Value)) W fun e w' => e = .returned (.bool (impl_TwinsUpTo.p k x)) ∧ Below W.heap.size W w' := fun x hx W => by
      have := impl_TwinsUpTo.closure k x _ W (g1 x hx)
      rw [Bool.not_not] at this
      exact this
    have HCLA := Aside0.mk HCL
    have HR := Aside0.mk g2
    clear HCL g1 g2 hr
    go_enter Try.func30, Try.ntmps30
    go_wp2_with (first | (go_at_call 70; (with_reducible refine (impl_isMost.calls a0 true _ ht).mono ?_); rintro e w1 ⟨rfl, hD⟩) | (go_at_call 72; (with_reducible refine (impl_primesBetween.calls k 0 a0 l _ hl).mono ?_); rintro e w2 ⟨v, rfl, ho, hb⟩) | (go_at_call 71; refine (delFunc 74 #[] eg (impl_TwinsUpTo.p k) w1 w2 (fun _ => True) v l (fun x hx W _ _ _ => HCLA.out x hx W) hb ho).mono ?_; rintro e w3 ⟨v2, rfl, ho2, hb2⟩))
    go_ret2
    exact ⟨v2, rfl, by rw [HR.out]; exact Kd.R_lower ho2 hD.below.size, below_then hD.below hD.below.size hb2⟩


end Go.Proofs.Ytgoldeagghadhaa.P
