-- Printed for this claim by a program of this session, out of the translation. Lean checks it.
import Derived.Test.YtgoldeagghadhaaPx0
import Derived.Test.YtgoldeagghadhaaPx3
import Derived.Test.YtgoldeagghadhaaPx21
import Derived.Test.YtgoldeagghadhaaPx40
namespace Go.Proofs.Ytgoldeagghadhaa.P
open Go.RowKit Go.Proofs.YtgoldeagghadhaaW.PrintWords Go.Proofs.YtgoldeagghadhaaW.PrintLast Go.Proofs.YtgoldeagghadhaaW.PrintMore
attribute [local go_sem] max2_int min2_int max_two min_two max_three min_three max_four min_four   -- for this text's walks alone
set_option linter.unusedVariables false
set_option linter.unusedSimpArgs false

/-! ### impl_upTo: function 86 -/
def impl_upTo.l0 : Nat → Int → Int → List Int → Int → Option (List Int)
  | 0, _, _, _, _ => none
  | k + 1, x1, x2, x7, x8 => if x8 ≤ x1 then (if x7.length < 17592186044416 then (impl_upTo.l0 k x1 x2 (x7 ++ [x8]) (wrap64 (x8 + x2))) else (none)) else (some x7)
def impl_upTo.f (k : Nat) (a0 : Int) (a1 : Int) (a2 : Int) : Option (List Int) := impl_upTo.l0 k a1 a2 (([] : List Int)) a0
theorem impl_upTo.mono_l : ∀ k, (∀ y0 y1 y2 y3, LeO (impl_upTo.l0 k y0 y1 y2 y3) (impl_upTo.l0 (k + 1) y0 y1 y2 y3))
  | 0 => fun _ _ _ _ r h => by simp [impl_upTo.l0] at h
  | k + 1 => by
    have ih0 := impl_upTo.mono_l k
    · intro y0 y1 y2 y3
      unfold impl_upTo.l0
      repeat' first
      | (with_reducible exact ih0 _ _ _ _)
      | (with_reducible exact LeO.refl _)
      | (with_reducible exact LeO.none _)
      | (with_reducible refine LeO.ite ?_ ?_)
      | (with_reducible refine LeO.bind ?_ (fun _ => ?_))
      | exact ih0 _ _ _ _
      | exact LeO.none _
      | refine LeO.ite ?_ ?_
      | refine LeO.bind ?_ (fun _ => ?_)
theorem impl_upTo.mono : ∀ a0 a1 a2 k, LeO (impl_upTo.f k a0 a1 a2) (impl_upTo.f (k + 1) a0 a1 a2) := by
  intro a0 a1 a2 k
  have ih0 := impl_upTo.mono_l k
  unfold impl_upTo.f
  repeat' first
      | (with_reducible exact ih0 _ _ _ _)
      | (with_reducible exact LeO.refl _)
      | (with_reducible exact LeO.none _)
      | (with_reducible refine LeO.ite ?_ ?_)
      | (with_reducible refine LeO.bind ?_ (fun _ => ?_))
      | exact ih0 _ _ _ _
      | exact LeO.none _
      | refine LeO.ite ?_ ?_
      | refine LeO.bind ?_ (fun _ => ?_)
set_option maxHeartbeats 8000000 in
set_option maxRecDepth 100000 in
theorem impl_upTo.calls (k : Nat) (a0 : Int) (a1 : Int) (a2 : Int) (r : List Int) (w : World) (h : impl_upTo.f k a0 a1 a2 = some r) :
    Calls Try.prog 86 #[.int .i64 a0, .int .i64 a1, .int .i64 a2] w fun e w' => ∃ v0_ : Value, e = .returned (v0_) ∧ Kd.R (Kd.int .i64) 3 w' w.heap.size (fun _ => True) v0_ r ∧ Below w.heap.size w w' := by
  have HB := Aside0.mk (Below.refl w.heap.size w)
  have H : (impl_upTo.l0 k a1 a2 (([] : List Int)) a0) = some r := h
  clear h
  obtain ⟨y470, hy470⟩ : ∃ y_ : List Int, y_ = (([] : List Int)) := ⟨_, rfl⟩
  replace H : (impl_upTo.l0 k a1 a2 y470 a0) = some r := by first | (rw [hy470]; with_reducible exact H) | (have H2_ := (Option.bind_some _ _).symm.trans H; rw [hy470]; with_reducible exact H2_) | (have H2_ := (Option.bind_some _ _).symm.trans H; with_reducible exact H2_) | with_reducible exact H | (rw [hy470]; exact H) | exact H
  have Ny470 := Aside0.mk hy470
  clear hy470
  have H' := Aside0.mk H
  clear H
  go_enter Try.func86, Try.ntmps86
  go_wp2_with (first | ((with_reducible refine gate_dst (N := 9) rfl ?_); refine Kd.R_lit (Kd.int .i64) _ 3 ?hg (N := 9) ?hd (xs := ([] : List Int)) (inner := []) (ok := fun _ => True) (okp := fun _ => True) ?hr ?hp (fun _ hk => hk) trivial (Below.refl _ _) (Nat.le_refl _) (by simp) ?_; (case hd => rfl); (case hg => rfl); (case hr => first | (go_simp; done) | (go_simp; rfl)); (case hp => exact (Reps.none _ _)); intro v471 w4 ho5 hb hg_ hnew_; clear hg_ hnew_; (first | rw [← Ny470.out] at ho5 | (simp only [Int.reduceToNat] at ho5; rw [← Ny470.out] at ho5)); have n0_ := Aside0.mk (Kd.R_lower ho5 (below_size (by repeat (first | (with_reducible first | exact HB.out | apply below_alloc | apply pw_below_drewN | apply below_drew1) | exact HB.out)))); have n1_ := Aside0.mk (below_step (by repeat (first | (with_reducible first | exact HB.out | apply below_alloc | apply pw_below_drewN | apply below_drew1) | exact HB.out)) hb); clear HB; have HO472 := n0_; have HB := n1_; clear n0_ n1_; clear hb ho5))
  go_loopg [7, 8] k (fun kq v7 v8 w' => ∃ (x7_1 : List Int) (x8_1 : Int), v8 = .int .i64 x8_1 ∧ Aside0 (impl_upTo.l0 kq a1 a2 x7_1 x8_1 = some r) ∧ Aside0 (kq ≤ k) ∧ Aside0 (Kd.R (Kd.int .i64) 3 w' w.heap.size (fun _ => True) v7 x7_1) ∧ Aside0 (Below w.heap.size w w'))
  case atStart => exact ⟨(y470), (a0), (by first | rfl | (simp; done) | (simp [*]; done)), H', ⟨Nat.le_refl _⟩, ⟨by (with_reducible repeat (first | apply Kd.R_alloc | apply Kd.R_drewN | apply Kd.R_drew)); exact HO472.out⟩, ⟨by repeat (first | (with_reducible first | exact HB.out | apply below_alloc | apply pw_below_drewN | apply below_drew1) | exact HB.out)⟩⟩
  case round =>
    clear H'
    try clear p2
    obtain ⟨x7_1, x8_1, rfl, HA, HK1, HO_7, HB⟩ := hrel
    cases gk with
    | zero => exact absurd HA.out (by simp [impl_upTo.l0])
    | succ k1 =>
      have H := HA.out
      clear HA
      simp only [impl_upTo.l0] at H
      by_cases c6 : x8_1 ≤ a1
      · rw [if_pos c6] at H
        have c6b0 : decide (x8_1 ≤ a1) = true := decide_eq_true c6
        clear c6
        by_cases c7 : x7_1.length < 17592186044416
        · rw [if_pos c7] at H
          have LMc7 := Aside0.mk c7
          clear c7
          obtain ⟨y473, hy473⟩ : ∃ y_ : List Int, y_ = (x7_1 ++ [x8_1]) := ⟨_, rfl⟩
          replace H : (impl_upTo.l0 k1 a1 a2 y473 (wrap64 (x8_1 + a2))) = some r := by first | (rw [hy473]; with_reducible exact H) | (have H2_ := (Option.bind_some _ _).symm.trans H; rw [hy473]; with_reducible exact H2_) | (have H2_ := (Option.bind_some _ _).symm.trans H; with_reducible exact H2_) | with_reducible exact H | (rw [hy473]; exact H) | exact H
          have Ny473 := Aside0.mk hy473
          clear hy473
          have H' := Aside0.mk H
          clear H
          go_wp2_with (first | ((with_reducible refine gate_builtin (b := .append) (xs := #[.tmp 17, .tmp 19]) rfl ?_); at_builtin; refine Kd.R_append (Kd.int .i64) (w0 := w) w.heap.size rfl (.tmp 17) (.tmp 19) 28 3 (.int .i64 0) 8 rfl Try.underlying28 info3 rfl (by decide) (by omega) u7 x7_1 x8_1 [.int .i64 x8_1] (fun _ => True) (fun _ => False) rfl rfl ?aP (fun _ hk => hk.elim) ?aF ?aO ?aB ?aS ?aL ?_; (case aP => exact rfl); (case aB => exact (by repeat (first | (with_reducible first | exact HB.out | apply below_alloc | apply pw_below_drewN | apply below_drew1) | exact HB.out))); (case aF => exact (fun _ _ => trivial)); (case aO => exact (by (with_reducible repeat (first | apply Kd.R_alloc | apply Kd.R_drewN | apply Kd.R_drew)); exact HO_7.out)); (case aS => exact (below_size (by repeat (first | (with_reducible first | exact HB.out | apply below_alloc | apply pw_below_drewN | apply below_drew1) | exact HB.out)))); (case aL => have := LMc7.out; omega); intro v474 w8 ho hb hg hat; rw [← Ny473.out] at ho; have n0_ := Aside0.mk (hb); have n1_ := Aside0.mk (ho); clear HB; clear HO_7; have HB := n0_; have HO475 := n1_; clear n0_ n1_; clear ho hb hg hat))
          go_roundg k1
          case measure => have := HK1.out; omega
          case rel => exact ⟨(y473), (wrap64 (x8_1 + a2)), (by first | rfl | (simp; done) | (simp [*]; done)), H', ⟨by have := HK1.out; omega⟩, ⟨by (with_reducible repeat (first | apply Kd.R_alloc | apply Kd.R_drewN | apply Kd.R_drew)); exact HO475.out⟩, ⟨by repeat (first | (with_reducible first | exact HB.out | apply below_alloc | apply pw_below_drewN | apply below_drew1) | exact HB.out)⟩⟩
        · rw [if_neg c7] at H
          exact absurd H (by simp)
      · rw [if_neg c6] at H
        have c6b0 : decide (x8_1 ≤ a1) = false := decide_eq_false c6
        clear c6
        obtain rfl := Option.some.inj H
        go_wp2
        go_ret
        exact ⟨_, by first | rfl | (simp [errW_none, errW_some] <;> rfl) | (simp [*, errW_none, errW_some] <;> rfl), by (with_reducible repeat (first | apply Kd.R_alloc | apply Kd.R_drewN | apply Kd.R_drew)); exact HO_7.out, by repeat (first | (with_reducible first | exact HB.out | apply below_alloc | apply pw_below_drewN | apply below_drew1) | exact HB.out)⟩

/-! ### impl_PrimePlaces: function 43, by this session's hand -/
/-- Whether n and each offset together are primes. -/
def impl_PrimePlaces.allP (k : Nat) (n : Int) : List Int → Option Bool
  | [] => some true
  | o :: s => (impl_isPrime.f k (wrap64 (n + o))).bind fun t => (impl_PrimePlaces.allP k n s).bind fun r => some (t && r)
def impl_PrimePlaces.flt (k : Nat) (l0 : List Int) : List Int → Option (List Int)
  | [] => some []
  | x :: s => (impl_PrimePlaces.allP k x l0).bind fun t => (impl_PrimePlaces.flt k l0 s).bind fun r => some (if t = true then x :: r else r)
def impl_PrimePlaces.j0 (k : Nat) (l0 : List Int) (a1 : Int) (x : Bool) : Option (List Int × Bool) := if x = true then some ([], false) else ((impl_upTo.f k 1 a1 1).bind fun l => (impl_PrimePlaces.flt k l0 l).bind fun r => some (r, true))
def impl_PrimePlaces.f (k : Nat) (l0 : List Int) (a1 : Int) : Option (List Int × Bool) := (impl_isPattern.f k l0).bind fun t => if t = true then ((impl_isMost.f a1).bind fun t2 => impl_PrimePlaces.j0 k l0 a1 (!t2)) else impl_PrimePlaces.j0 k l0 a1 true
theorem impl_PrimePlaces.allP_mono (n : Int) : ∀ (l : List Int) (k : Nat), LeO (impl_PrimePlaces.allP k n l) (impl_PrimePlaces.allP (k + 1) n l)
  | [], _ => LeO.refl _
  | o :: s, k => LeO.bind (impl_isPrime.mono _ _) fun _ => LeO.bind (impl_PrimePlaces.allP_mono n s k) fun _ => LeO.refl _
theorem impl_PrimePlaces.flt_mono (l0 : List Int) : ∀ (l : List Int) (k : Nat), LeO (impl_PrimePlaces.flt k l0 l) (impl_PrimePlaces.flt (k + 1) l0 l)
  | [], _ => LeO.refl _
  | x :: s, k => LeO.bind (impl_PrimePlaces.allP_mono x l0 k) fun _ => LeO.bind (impl_PrimePlaces.flt_mono l0 s k) fun _ => LeO.refl _
theorem impl_PrimePlaces.j0_mono (l0 : List Int) (a1 : Int) (x : Bool) (k : Nat) : LeO (impl_PrimePlaces.j0 k l0 a1 x) (impl_PrimePlaces.j0 (k + 1) l0 a1 x) :=
  LeO.ite (LeO.refl _) (LeO.bind (impl_upTo.mono _ _ _ _) fun l => LeO.bind (impl_PrimePlaces.flt_mono l0 l k) fun _ => LeO.refl _)
theorem impl_PrimePlaces.mono : ∀ a0 a1 k, LeO (impl_PrimePlaces.f k a0 a1) (impl_PrimePlaces.f (k + 1) a0 a1) := fun a0 a1 k =>
  LeO.bind (impl_isPattern.mono _ _) fun _ => LeO.ite (LeO.bind (LeO.refl _) fun _ => impl_PrimePlaces.j0_mono _ _ _ _) (impl_PrimePlaces.j0_mono _ _ _ _)
def impl_PrimePlaces.q (k : Nat) (n o : Int) : Bool := !((impl_isPrime.f k (wrap64 (n + o))).getD false)
def impl_PrimePlaces.p (k : Nat) (l0 : List Int) (n : Int) : Bool := l0.any (impl_PrimePlaces.q k n)
theorem impl_PrimePlaces.allP_spec (k : Nat) (n : Int) : ∀ (l : List Int) (r : Bool), impl_PrimePlaces.allP k n l = some r → (∀ o ∈ l, impl_isPrime.f k (wrap64 (n + o)) = some (!impl_PrimePlaces.q k n o)) ∧ r = !(l.any (impl_PrimePlaces.q k n))
  | [], r, h => by
    injection h with h
    exact ⟨fun x hx => absurd hx (by simp), h.symm⟩
  | o :: s, r, h => by
    obtain ⟨t, h1, h⟩ := Option.bind_eq_some_iff.mp h
    obtain ⟨b, h2, h⟩ := Option.bind_eq_some_iff.mp h
    injection h with h
    obtain ⟨g1, g2⟩ := impl_PrimePlaces.allP_spec k n s b h2
    have hp : impl_PrimePlaces.q k n o = !t := by unfold impl_PrimePlaces.q; rw [h1]; rfl
    refine ⟨fun y hy => ?_, ?_⟩
    · rcases List.mem_cons.1 hy with rfl | hy
      · rw [h1, hp, Bool.not_not]
      · exact g1 y hy
    · rw [← h, List.any_cons, hp, Bool.not_or, Bool.not_not, g2]
theorem impl_PrimePlaces.flt_spec (k : Nat) (l0 : List Int) : ∀ (l r : List Int), impl_PrimePlaces.flt k l0 l = some r → (∀ x ∈ l, ∀ o ∈ l0, impl_isPrime.f k (wrap64 (x + o)) = some (!impl_PrimePlaces.q k x o)) ∧ r = l.filter fun x => !impl_PrimePlaces.p k l0 x
  | [], r, h => by
    injection h with h
    exact ⟨fun x hx => absurd hx (by simp), h.symm⟩
  | x :: s, r, h => by
    obtain ⟨t, h1, h⟩ := Option.bind_eq_some_iff.mp h
    obtain ⟨b, h2, h⟩ := Option.bind_eq_some_iff.mp h
    injection h with h
    obtain ⟨g1, g2⟩ := impl_PrimePlaces.flt_spec k l0 s b h2
    obtain ⟨f1, f2⟩ := impl_PrimePlaces.allP_spec k x l0 t h1
    have hp : impl_PrimePlaces.p k l0 x = !t := by unfold impl_PrimePlaces.p; rw [f2, Bool.not_not]
    refine ⟨fun y hy => ?_, ?_⟩
    · rcases List.mem_cons.1 hy with rfl | hy
      · exact f1
      · exact g1 y hy
    · rw [← h, List.filter_cons, hp, Bool.not_not, g2]
set_option maxRecDepth 100000 in
theorem impl_PrimePlaces.inner (k : Nat) (n o : Int) (t : Bool) (B : Nat) (W : World) (hc : W.cell? ⟨B, 0, none⟩ = some (.int .i64 n)) (h : impl_isPrime.f k (wrap64 (n + o)) = some t) :
    Calls Try.prog 89 #[.int .i64 o, .pointer (some ⟨B, 0, none⟩)] W fun e w' => e = .returned (.bool (!t)) ∧ Below W.heap.size W w' := by
  go_enter Try.func89, Try.ntmps89
  go_wp2_with (go_at_call 75; (with_reducible refine (impl_isPrime.calls k (wrap64 (n + o)) t _ h).mono ?_); rintro e w' ⟨rfl, hD⟩)
  go_ret
  exact ⟨rfl, hD.below⟩
set_option maxRecDepth 100000 in
theorem impl_PrimePlaces.closure (k : Nat) (n : Int) (B : Nat) (A0 : Option Addr) (c0 : Nat) (l0 : List Int) (W : World) (hc : W.cell? ⟨B, 0, none⟩ = some (.slice A0 l0.length c0)) (hr0 : Kd.C (Kd.int .i64) W A0 l0.length l0) (hc0 : l0.length ≤ c0)
    (h : ∀ o ∈ l0, impl_isPrime.f k (wrap64 (n + o)) = some (!impl_PrimePlaces.q k n o)) :
    Calls Try.prog 87 #[.int .i64 n, .pointer (some ⟨B, 0, none⟩)] W fun e w' => e = .returned (.bool (impl_PrimePlaces.p k l0 n)) ∧ Below W.heap.size W w' := by
  have hB : B < W.heap.size := World.block_lt_of_cell? W ⟨B, 0, none⟩ hc
  have HW := Aside0.mk (below_alloc (Below.refl W.heap.size W) (.cells #[.int .i64 n] 3))
  have hcell : (W.alloc (.cells #[.int .i64 n] 3)).cell? ⟨W.heap.size, 0, none⟩ = some (.int .i64 n) := by simp
  have hc2 : (W.alloc (.cells #[.int .i64 n] 3)).cell? ⟨B, 0, none⟩ = some (.slice A0 l0.length c0) := (World.cell?_alloc_lt _ _ _ hB).trans hc
  have eg : ∀ args w, (callFunc 89 args).run Try.prog w = .ok (.enter 89 args) w := enters_of Try.func89 (by kernel_rfl) rfl
  have hcall := conFunc 89 #[.pointer (some ⟨W.heap.size, 0, none⟩)] eg (impl_PrimePlaces.q k n) A0 c0 l0 (W.alloc (.cells #[.int .i64 n] 3)) (fun o ho W2 hb => by
    have := impl_PrimePlaces.inner k n o _ W.heap.size W2 (pw_cell_below hb hcell) (h o ho)
    rw [Bool.not_not] at this
    exact this) (Kd.C_alloc hr0 _) hc0
  clear hr0 hcell h
  go_enter Try.func87, Try.ntmps87
  go_wp2_with (go_at_call 88; refine hcall.mono ?_; rintro e w' ⟨rfl, hb'⟩)
  go_ret
  exact ⟨rfl, below_then HW.out HW.out.size hb'⟩
set_option maxRecDepth 100000 in
theorem impl_PrimePlaces.calls (k : Nat) (A0 : Option Addr) (c0 : Nat) (l0 : List Int) (a1 : Int) (r1 : List Int) (r2 : Bool) (w : World) (hr0 : Kd.C (Kd.int .i64) w A0 l0.length l0) (hc0 : l0.length ≤ c0) (h : impl_PrimePlaces.f k l0 a1 = some (r1, r2)) :
    Calls Try.prog 43 #[.slice A0 l0.length c0, .int .i64 a1] w fun e w' => ∃ v0_ : Value, e = .returned (.tuple #[v0_, .bool r2]) ∧ Kd.R (Kd.int .i64) 3 w' w.heap.size (fun _ => True) v0_ r1 ∧ Below w.heap.size w w' := by
  unfold impl_PrimePlaces.f at h
  have HW := Aside0.mk (below_alloc (Below.refl w.heap.size w) (.cells #[.slice A0 l0.length c0] 28))
  have HCELL := Aside0.mk (show (w.alloc (.cells #[.slice A0 l0.length c0] 28)).cell? ⟨w.heap.size, 0, none⟩ = some (.slice A0 l0.length c0) by simp)
  have HC0 := Aside0.mk (Kd.C_alloc hr0 (Obj.cells #[.slice A0 l0.length c0] 28))
  have HRW := Aside0.mk hr0
  clear hr0
  obtain ⟨t, ht, h⟩ := Option.bind_eq_some_iff.mp h
  cases t with
  | false =>
    simp only [Bool.false_eq_true, if_false, impl_PrimePlaces.j0, if_true, Option.some.injEq, Prod.mk.injEq] at h
    obtain ⟨rfl, rfl⟩ := h
    go_enter Try.func43, Try.ntmps43
    go_wp2_with (go_at_call 85; (with_reducible refine (impl_isPattern.calls k A0 c0 l0 false _ HC0.out hc0 ht).mono ?_); rintro e w' ⟨rfl, hD⟩)
    go_ret2
    exact ⟨.slice none 0 0, rfl, Kd.R_nil _ _ _ _ _, below_then HW.out HW.out.size hD.below⟩
  | true =>
    simp only [if_true] at h
    obtain ⟨t2, ht2, h⟩ := Option.bind_eq_some_iff.mp h
    cases t2 with
    | false =>
      simp only [Bool.not_false, impl_PrimePlaces.j0, if_true, Option.some.injEq, Prod.mk.injEq] at h
      obtain ⟨rfl, rfl⟩ := h
      go_enter Try.func43, Try.ntmps43
      go_wp2_with (first | (go_at_call 85; (with_reducible refine (impl_isPattern.calls k A0 c0 l0 true _ HC0.out hc0 ht).mono ?_); rintro e w' ⟨rfl, hD⟩) | (go_at_call 70; (with_reducible refine (impl_isMost.calls a1 false _ ht2).mono ?_); rintro e w'' ⟨rfl, hD2⟩))
      go_ret2
      exact ⟨.slice none 0 0, rfl, Kd.R_nil _ _ _ _ _, below_then HW.out HW.out.size (below_then hD.below hD.below.size hD2.below)⟩
    | true =>
      simp only [Bool.not_true, impl_PrimePlaces.j0, Bool.false_eq_true, if_false] at h
      obtain ⟨l, hl, h⟩ := Option.bind_eq_some_iff.mp h
      obtain ⟨r, hr, h⟩ := Option.bind_eq_some_iff.mp h
      simp only [Option.some.injEq, Prod.mk.injEq] at h
      obtain ⟨rfl, rfl⟩ := h
      obtain ⟨g1, g2⟩ := impl_PrimePlaces.flt_spec k l0 l r hr
      have eg : ∀ args w, (callFunc 87 args).run Try.prog w = .ok (.enter 87 args) w := enters_of Try.func87 (by kernel_rfl) rfl
      have HG := Aside0.mk g1
      have HR := Aside0.mk g2
      clear g1 g2 hr
      go_enter Try.func43, Try.ntmps43
      go_wp2_with (first | (go_at_call 85; (with_reducible refine (impl_isPattern.calls k A0 c0 l0 true _ HC0.out hc0 ht).mono ?_); rintro e w0 ⟨rfl, hD0⟩; have hc9 := pw_cell_below hD0.below HCELL.out; have hr9 := Kd.C_below HC0.out hD0.below) | (go_at_call 70; (with_reducible refine (impl_isMost.calls a1 true _ ht2).mono ?_); rintro e w1 ⟨rfl, hD⟩; have hc1 := pw_cell_below hD.below hc9; have hr1 := Kd.C_below hr9 hD.below) | (go_at_call 86; (with_reducible refine (impl_upTo.calls k 1 a1 1 l _ hl).mono ?_); rintro e w2 ⟨v, rfl, ho, hb⟩; have HO := Aside0.mk ho; have HB := Aside0.mk hb; have HC2 := Aside0.mk (pw_cell_below hb hc1); have HLT := Aside0.mk (World.block_lt_of_cell? _ _ hc1); have HR1 := Aside0.mk hr1; clear ho hb hc1 hr1) | (go_at_call 71; refine (delFunc 87 #[.pointer (some ⟨w.heap.size, 0, none⟩)] eg (impl_PrimePlaces.p k l0) w1 w2 (fun _ => True) v l (fun x hx W gb hgb hk => impl_PrimePlaces.closure k x w.heap.size A0 c0 l0 W (keep_cell hk HC2.out (fun e => by have h1 := Kd.R_base HO.out gb hgb; have h2 := HLT.out; simp only at e h2; omega)) (Kd.C_foot_came (Kd.heap_int .i64) HR1.out HB.out (Kd.R_base HO.out gb hgb) W hk) hc0 (HG.out x hx)) HB.out HO.out).mono ?_; rintro e w3 ⟨v2, rfl, ho2, hb2⟩))
      go_ret2
      exact ⟨v2, rfl, by rw [HR.out]; exact Kd.R_lower ho2 (below_then HW.out HW.out.size (below_then hD0.below hD0.below.size hD.below)).size, below_then HW.out HW.out.size (below_then hD0.below hD0.below.size (below_then hD.below hD.below.size hb2))⟩


end Go.Proofs.Ytgoldeagghadhaa.P
