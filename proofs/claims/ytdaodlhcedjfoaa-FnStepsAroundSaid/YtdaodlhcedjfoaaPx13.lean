-- Printed for this claim by a program of this session, out of the translation. Lean checks it.
import Derived.Test.YtdaodlhcedjfoaaPx0
import Derived.Test.YtdaodlhcedjfoaaPx5
import Derived.Test.YtdaodlhcedjfoaaPx6
namespace Go.Proofs.Ytdaodlhcedjfoaa.P
open Go.RowKit Go.Proofs.YtdaodlhcedjfoaaW.PrintWords Go.Proofs.YtdaodlhcedjfoaaW.PrintLast Go.Proofs.YtdaodlhcedjfoaaW.PrintMore
attribute [local go_sem] max2_int min2_int max_two min_two max_three min_three max_four min_four   -- for this text's walks alone
set_option linter.unusedVariables false
set_option linter.unusedSimpArgs false

/-! ### spec_FirstRun: function 48 -/
mutual
def spec_FirstRun.j0 : Nat → List (S45) → List Int → Int → Bool → Option (Int × Bool)
 | 0, _, _, _, _ => none
 | k + 1, x0, x1, x6, x25 => if x25 = true then (some (0, false)) else (spec_FirstRun.l0 k x0 x1 x6 x1 (x1.length : Int) 0)
def spec_FirstRun.l0 : Nat → List (S45) → List Int → Int → List Int → Int → Int → Option (Int × Bool)
 | 0, _, _, _, _, _, _ => none
 | k + 1, x0, x1, x6, x26, x27, x28 => if x28 < x27 then (if 0 ≤ x28 then (if x28 < (x26.length : Int) then (if (rd x26 x28) < 1 then (some (0, false)) else (spec_FirstRun.l0 k x0 x1 x6 x26 x27 (wrap64 (x28 + 1)))) else (none)) else (none)) else ((spec_whSpokes.f k x0 x6).bind fun t562 => ((spec_whSteps.f k x0 x6).bind fun t565 => (spec_FirstRun.l1 k x1 t565 t562 (t562.length : Int) 0)))
def spec_FirstRun.l1 : Nat → List Int → List Int → List Int → Int → Int → Option (Int × Bool)
 | 0, _, _, _, _, _ => none
 | k + 1, x1, x10, x41, x42, x43 => if x43 < x42 then (if 0 ≤ x43 then (if x43 < (x41.length : Int) then (spec_FirstRun.l2 k x1 x10 x43 (rd x41 x43) true x41 x42 x43 x1 (x1.length : Int) 0) else (none)) else (none)) else (some (0, false))
def spec_FirstRun.l2 : Nat → List Int → List Int → Int → Int → Bool → List Int → Int → Int → List Int → Int → Int → Option (Int × Bool)
 | 0, _, _, _, _, _, _, _, _, _, _, _ => none
 | k + 1, x1, x10, x11, x12, x13, x41, x42, x43, x48, x49, x50 => if x50 < x49 then (if 0 ≤ x50 then (if x50 < (x48.length : Int) then (if x13 = true then (if (x10.length : Int) = 0 then (none) else (if 0 ≤ (Int.tmod (wrap64 (x11 + x50)) (x10.length : Int)) then (if (Int.tmod (wrap64 (x11 + x50)) (x10.length : Int)) < (x10.length : Int) then (spec_FirstRun.l2 k x1 x10 x11 x12 ((rd x10 (Int.tmod (wrap64 (x11 + x50)) (x10.length : Int))) == (rd x48 x50)) x41 x42 x43 x48 x49 (wrap64 (x50 + 1))) else (none)) else (none))) else (spec_FirstRun.l2 k x1 x10 x11 x12 false x41 x42 x43 x48 x49 (wrap64 (x50 + 1)))) else (none)) else (none)) else (if x13 = true then (some (x12, true)) else (spec_FirstRun.l1 k x1 x10 x41 x42 (wrap64 (x43 + 1))))
end
def spec_FirstRun.f (k : Nat) (l0 : List (S45)) (l1 : List Int) : Option (Int × Bool) := (spec_whPeriod.f k l0).bind fun t559 => (if t559 = 0 then (spec_FirstRun.j0 k l0 l1 t559 true) else ((spec_l1In.f (l1.length : Int) 1 8).bind fun t560 => (spec_FirstRun.j0 k l0 l1 t559 (!t560))))
theorem spec_FirstRun.mono_l : ∀ k, (∀ y0 y1 y2 y3, LeO (spec_FirstRun.j0 k y0 y1 y2 y3) (spec_FirstRun.j0 (k + 1) y0 y1 y2 y3)) ∧ (∀ y0 y1 y2 y3 y4 y5, LeO (spec_FirstRun.l0 k y0 y1 y2 y3 y4 y5) (spec_FirstRun.l0 (k + 1) y0 y1 y2 y3 y4 y5)) ∧ (∀ y0 y1 y2 y3 y4, LeO (spec_FirstRun.l1 k y0 y1 y2 y3 y4) (spec_FirstRun.l1 (k + 1) y0 y1 y2 y3 y4)) ∧ (∀ y0 y1 y2 y3 y4 y5 y6 y7 y8 y9 y10, LeO (spec_FirstRun.l2 k y0 y1 y2 y3 y4 y5 y6 y7 y8 y9 y10) (spec_FirstRun.l2 (k + 1) y0 y1 y2 y3 y4 y5 y6 y7 y8 y9 y10))
 | 0 => ⟨fun _ _ _ _ r h => by simp [spec_FirstRun.j0] at h, fun _ _ _ _ _ _ r h => by simp [spec_FirstRun.l0] at h, fun _ _ _ _ _ r h => by simp [spec_FirstRun.l1] at h, fun _ _ _ _ _ _ _ _ _ _ _ r h => by simp [spec_FirstRun.l2] at h⟩
 | k + 1 => by
  obtain ⟨ih0, ih1, ih2, ih3⟩ := spec_FirstRun.mono_l k
  refine ⟨?_, ?_, ?_, ?_⟩
  ·intro y0 y1 y2 y3
   unfold spec_FirstRun.j0
   repeat' first | (with_reducible first | apply ih1 | apply LeO.refl | apply LeO.none | refine LeO.ite ?_ ?_ | refine LeO.bind ?_ fun _ => ?_) | refine LeO.ite ?_ ?_ | refine LeO.bind ?_ fun _ => ?_
  ·intro y0 y1 y2 y3 y4 y5
   unfold spec_FirstRun.l0
   repeat' first | (with_reducible first | apply ih1 | apply ih2 | apply spec_whSpokes.mono | apply spec_whSteps.mono | apply LeO.refl | apply LeO.none | refine LeO.ite ?_ ?_ | refine LeO.bind ?_ fun _ => ?_) | refine LeO.ite ?_ ?_ | refine LeO.bind ?_ fun _ => ?_
  ·intro y0 y1 y2 y3 y4
   unfold spec_FirstRun.l1
   repeat' first | (with_reducible first | apply ih3 | apply LeO.refl | apply LeO.none | refine LeO.ite ?_ ?_ | refine LeO.bind ?_ fun _ => ?_) | refine LeO.ite ?_ ?_ | refine LeO.bind ?_ fun _ => ?_
  ·intro y0 y1 y2 y3 y4 y5 y6 y7 y8 y9 y10
   unfold spec_FirstRun.l2
   repeat' first | (with_reducible first | apply ih2 | apply ih3 | apply LeO.refl | apply LeO.none | refine LeO.ite ?_ ?_ | refine LeO.bind ?_ fun _ => ?_) | refine LeO.ite ?_ ?_ | refine LeO.bind ?_ fun _ => ?_
theorem spec_FirstRun.mono : ∀ a0 a1 k, LeO (spec_FirstRun.f k a0 a1) (spec_FirstRun.f (k + 1) a0 a1) := by
 intro a0 a1 k
 obtain ⟨ih0, ih1, ih2, ih3⟩ := spec_FirstRun.mono_l k
 unfold spec_FirstRun.f
 repeat' first | (with_reducible first | apply ih0 | apply spec_whPeriod.mono | apply LeO.refl | apply LeO.none | refine LeO.ite ?_ ?_ | refine LeO.bind ?_ fun _ => ?_) | refine LeO.ite ?_ ?_ | refine LeO.bind ?_ fun _ => ?_
set_option maxHeartbeats 8000000 in
set_option maxRecDepth 100000 in
theorem spec_FirstRun.calls (k : Nat) (A0 : Option Addr) (c0 : Nat) (l0 : List (S45)) (A1 : Option Addr) (c1 : Nat) (l1 : List Int) (r1 : Int) (r2 : Bool) (w : World) (hr0 : Kd.C k45 w A0 l0.length l0) (hc0 : l0.length ≤ c0) (hr1 : Kd.C (Kd.int .i64) w A1 l1.length l1) (hc1 : l1.length ≤ c1) (h : spec_FirstRun.f k l0 l1 = some (r1, r2)) :
 Calls Try.prog 48 #[.slice A0 l0.length c0, .slice A1 l1.length c1] w fun e w' => e = .returned (.tuple #[.int .i64 r1, .bool r2]) ∧ Below w.heap.size w w' := by
 have HR0 := Aside0.mk hr0
 have HC0 := Aside0.mk hc0
 clear hr0 hc0
 have HR1 := Aside0.mk hr1
 have HC1 := Aside0.mk hc1
 clear hr1 hc1
 have HB := Aside0.mk (Below.refl w.heap.size w)
 have H : ((spec_whPeriod.f k l0).bind fun t559 => (if t559 = 0 then (spec_FirstRun.j0 k l0 l1 t559 true) else ((spec_l1In.f (l1.length : Int) 1 8).bind fun t560 => (spec_FirstRun.j0 k l0 l1 t559 (!t560))))) = some (r1, r2) := h
 clear h
 replace H := Option.bind_eq_some_iff.mp H
 obtain ⟨t559, A30, H⟩ := H
 try dsimp only at H
 have A3 := Aside0.mk A30
 clear A30
 have HC4 := Aside0.mk H
 clear H
 go_enter Try.func48, Try.ntmps48
 go_upto_region 2 with (first | ((with_reducible refine gate_callee (f := 51) rfl ?_); refine goesL_ (some 17) rfl rfl Try.func51 (by kernel_rfl) rfl #[.slice A0 l0.length c0] rfl (by simp only [List.map_toArray, List.map_cons, List.map_nil] <;> rfl) ?_; (with_reducible refine (spec_whPeriod.calls k _ _ l0 t559 _ ?side1 ?side2 A3.out).mono ?_); (case side1 => repeat (first | exact HR0.out | with_reducible first | refine Kd.C_alloc ?_ _ | refine Kd.C_drewN ?_ _ | refine Kd.C_drew ?_)); (case side2 => exact HC0.out); rintro e w5 ⟨rfl, hb⟩; refine ⟨_, rfl, ?_⟩; have n0_ := Aside0.mk (below_step (by repeat first | exact HB.out | apply below_alloc | apply pw_below_drewN | apply below_drew1) hb); clear HB; have HB := n0_; clear n0_; (try clear hb)))
 (try simp only [Act.put, List.setIfInBounds_toArray, List.set_cons_zero, List.set_cons_succ])
 go_cut [25] (fun v25 wc => ∃ (kq : Nat) (x25_3 : Bool), v25 = .bool x25_3 ∧ Aside0 (spec_FirstRun.j0 kq l0 l1 t559 x25_3 = some (r1, r2)) ∧ Aside0 (kq ≤ k) ∧ Aside0 (Below w.heap.size w wc))
 case first =>
  have H := HC4.out
  clear HC4
  by_cases c6 : t559 = 0
  ·rw [if_pos c6] at H
   have c6b0 : (t559 == 0) = true := beq_iff_eq.mpr c6
   have c6b1 : (t559 != 0) = false := bne_eq_false_iff_eq.mpr c6
   clear c6
   (first | rw [c6b0] | (simp only [i64_w, i32_w]; rw [c6b0]) | skip)
   have H' := Aside0.mk H
   clear H
   go_wp2
   go_meet
   case rel => exact ⟨_, (true), (by first | rfl | (simp; done) | (simp [*]; done)), H', ⟨by first | omega | exact Nat.le_refl _⟩, ⟨by repeat (first | exact HB.out | apply below_alloc | apply pw_below_drewN | apply below_drew1)⟩⟩
  ·rw [if_neg c6] at H
   have c6b0 : (t559 == 0) = false := beq_eq_false_iff_ne.mpr c6
   have c6b1 : (t559 != 0) = true := bne_iff_ne.mpr c6
   (first | rw [c6b0] | (simp only [i64_w, i32_w]; rw [c6b0]) | skip)
   replace H := Option.bind_eq_some_iff.mp H
   obtain ⟨t560, A70, H⟩ := H
   try dsimp only at H
   have A7 := Aside0.mk A70
   clear A70
   have H' := Aside0.mk H
   clear H
   go_wp2_with (first | (go_at_call 71; (with_reducible refine (spec_l1In.calls (l1.length : Int) 1 8 t560 _ A7.out).mono ?_); rintro e w' ⟨rfl, ⟨nd, rfl⟩⟩))
   go_meet
   case rel => exact ⟨_, (!t560), (by first | rfl | (simp; done) | (simp [*]; done)), H', ⟨by first | omega | exact Nat.le_refl _⟩, ⟨by repeat (first | exact HB.out | apply below_alloc | apply pw_below_drewN | apply below_drew1)⟩⟩
 case rest =>
  clear HC4
  obtain ⟨kq, x25_3, rfl, HA, HJ3, HB⟩ := hcut
  cases kq with
  | zero => exact absurd HA.out (by simp [spec_FirstRun.j0])
  | succ kj3 =>
   have H := HA.out
   clear HA
   simp only [spec_FirstRun.j0] at H
   by_cases c8 : x25_3 = true
   ·subst c8
    rw [if_pos rfl] at H
    try dsimp only at H
    simp only [Option.some.injEq, Prod.mk.injEq] at H
    obtain ⟨rfl, rfl⟩ := H
    go_wp2
    go_ret2
    exact ⟨by first | rfl | (simp [errW_none, errW_some] <;> rfl) | (simp [*, errW_none, errW_some] <;> rfl), by repeat (first | exact HB.out | apply below_alloc | apply pw_below_drewN | apply below_drew1)⟩
   ·replace c8 := Bool.eq_false_iff.mpr c8
    subst c8
    rw [if_neg (show ¬ (false = true) by decide)] at H
    try dsimp only at H
    have H' := Aside0.mk H
    clear H
    go_wp2
    go_loopg [28] kj3 (fun kq v28 w' => ∃ (x28_2 : Int), v28 = .int .i64 x28_2 ∧ Aside0 (spec_FirstRun.l0 kq l0 l1 t559 l1 (l1.length : Int) x28_2 = some (r1, r2)) ∧ Aside0 (kq ≤ kj3) ∧ Aside0 (Below w.heap.size w w'))
    case atStart => exact ⟨(0), (by first | rfl | (simp; done) | (simp [*]; done)), H', ⟨Nat.le_refl _⟩, ⟨by repeat (first | exact HB.out | apply below_alloc | apply pw_below_drewN | apply below_drew1)⟩⟩
    case round =>
     clear H'
     try clear c8
     obtain ⟨x28_2, rfl, HA, HK2, HB⟩ := hrel
     cases gk with
     | zero => exact absurd HA.out (by simp [spec_FirstRun.l0])
     | succ k2 =>
      have H := HA.out
      clear HA
      simp only [spec_FirstRun.l0] at H
      by_cases c9 : x28_2 < (l1.length : Int)
      ·rw [if_pos c9] at H
       have c9b0 : decide (x28_2 < (l1.length : Int)) = true := decide_eq_true c9
       clear c9
       by_cases c10 : 0 ≤ x28_2
       ·rw [if_pos c10] at H
        have c10b0 : decide (0 ≤ x28_2) = true := decide_eq_true c10
        clear c10
        by_cases c11 : x28_2 < (l1.length : Int)
        ·rw [if_pos c11] at H
         have c11b0 : decide (x28_2 < (l1.length : Int)) = true := decide_eq_true c11
         clear c11
         by_cases c12 : (rd l1 x28_2) < 1
         ·rw [if_pos c12] at H
          have c12b0 : decide ((rd l1 x28_2) < 1) = true := decide_eq_true c12
          clear c12
          simp only [Option.some.injEq, Prod.mk.injEq] at H
          obtain ⟨rfl, rfl⟩ := H
          have p561 : 0 ≤ (x28_2 : Int) := of_decide_eq_true (by first | (with_reducible assumption) | assumption)
          have q561 : x28_2 < (l1.length : Int) := of_decide_eq_true (by first | (with_reducible assumption) | assumption)
          obtain ⟨ad561, e561, hx561_0⟩ := Kd.at_int HR1.out x28_2 p561 q561
          cases e561
          replace hx561_0 := (HB.out.cell (World.block_lt_of_cell? w _ hx561_0)).trans hx561_0
          replace p561 := eq_true p561
          replace q561 := eq_true q561
          go_wp2
          go_ret2
          exact ⟨by first | rfl | (simp [errW_none, errW_some] <;> rfl) | (simp [*, errW_none, errW_some] <;> rfl), by repeat (first | exact HB.out | apply below_alloc | apply pw_below_drewN | apply below_drew1)⟩
         ·rw [if_neg c12] at H
          have c12b0 : decide ((rd l1 x28_2) < 1) = false := decide_eq_false c12
          clear c12
          have H' := Aside0.mk H
          clear H
          have p561 : 0 ≤ (x28_2 : Int) := of_decide_eq_true (by first | (with_reducible assumption) | assumption)
          have q561 : x28_2 < (l1.length : Int) := of_decide_eq_true (by first | (with_reducible assumption) | assumption)
          obtain ⟨ad561, e561, hx561_0⟩ := Kd.at_int HR1.out x28_2 p561 q561
          cases e561
          replace hx561_0 := (HB.out.cell (World.block_lt_of_cell? w _ hx561_0)).trans hx561_0
          replace p561 := eq_true p561
          replace q561 := eq_true q561
          go_wp2
          go_roundg k2
          case measure => have := HJ3.out; have := HK2.out; omega
          case rel => exact ⟨(wrap64 (x28_2 + 1)), (by first | rfl | (simp; done) | (simp [*]; done)), H', ⟨by have := HJ3.out; have := HK2.out; omega⟩, ⟨by repeat (first | exact HB.out | apply below_alloc | apply pw_below_drewN | apply below_drew1)⟩⟩
        ·rw [if_neg c11] at H
         exact absurd H (by simp)
       ·rw [if_neg c10] at H
        exact absurd H (by simp)
      ·rw [if_neg c9] at H
       have c9b0 : decide (x28_2 < (l1.length : Int)) = false := decide_eq_false c9
       clear c9
       replace H := Option.bind_eq_some_iff.mp H
       obtain ⟨t562, A130, H⟩ := H
       try dsimp only at H
       have A13 := Aside0.mk A130
       clear A130
       replace H := Option.bind_eq_some_iff.mp H
       obtain ⟨t565, A140, H⟩ := H
       try dsimp only at H
       have A14 := Aside0.mk A140
       clear A140
       have H' := Aside0.mk H
       clear H
       go_wp2_with (first | ((with_reducible refine gate_callee (f := 53) rfl ?_); refine goesL_ (some 37) rfl rfl Try.func53 (by kernel_rfl) rfl #[.slice A0 l0.length c0, .int .i64 t559] rfl (by simp only [List.map_toArray, List.map_cons, List.map_nil] <;> rfl) ?_; (with_reducible refine (spec_whSpokes.calls k2 _ _ l0 t559 t562 _ ?side1 ?side2 A13.out).mono ?_); (case side1 => repeat (first | exact (Kd.C_below HR0.out HB.out) | with_reducible first | refine Kd.C_alloc ?_ _ | refine Kd.C_drewN ?_ _ | refine Kd.C_drew ?_)); (case side2 => exact HC0.out); rintro e w15 ⟨v563, rfl, ho0, hb⟩; refine ⟨_, rfl, ?_⟩; have n0_ := Aside0.mk (Kd.R_lower ho0 (below_size (by repeat first | exact HB.out | apply below_alloc | apply pw_below_drewN | apply below_drew1))); have n1_ := Aside0.mk (below_step (by repeat first | exact HB.out | apply below_alloc | apply pw_below_drewN | apply below_drew1) hb); clear HB; have HO564 := n0_; have HB := n1_; clear n0_ n1_; (try clear hb); (try clear ho0)) | ((with_reducible refine gate_callee (f := 58) rfl ?_); refine goesL_ (some 40) rfl rfl Try.func58 (by kernel_rfl) rfl #[.slice A0 l0.length c0, .int .i64 t559] rfl (by simp only [List.map_toArray, List.map_cons, List.map_nil] <;> rfl) ?_; (with_reducible refine (spec_whSteps.calls k2 _ _ l0 t559 t565 _ ?side1 ?side2 A14.out).mono ?_); (case side1 => repeat (first | exact (Kd.C_below HR0.out HB.out) | with_reducible first | refine Kd.C_alloc ?_ _ | refine Kd.C_drewN ?_ _ | refine Kd.C_drew ?_)); (case side2 => exact HC0.out); rintro e w16 ⟨v566, rfl, ho0, hb⟩; refine ⟨_, rfl, ?_⟩; have n0_ := Aside0.mk (Kd.R_elder' (by (with_reducible repeat (first | apply Kd.R_alloc | apply Kd.R_drewN | apply Kd.R_drew)); exact HO564.out) (Kd.R_base ho0) hb); have n1_ := Aside0.mk (Kd.R_lower (Kd.R_new' ho0 (Kd.R_lt (by (with_reducible repeat (first | apply Kd.R_alloc | apply Kd.R_drewN | apply Kd.R_drew)); exact HO564.out))) (below_size (by repeat first | exact HB.out | apply below_alloc | apply pw_below_drewN | apply below_drew1))); have n2_ := Aside0.mk (below_step (by repeat first | exact HB.out | apply below_alloc | apply pw_below_drewN | apply below_drew1) hb); clear HO564; clear HB; have HO564 := n0_; have HO567 := n1_; have HB := n2_; clear n0_ n1_ n2_; (try clear hb); (try clear ho0); obtain ⟨Ao17, co17, eo17⟩ := Kd.R_slice HO564.out; subst eo17))
       go_loopg [43] k2 (fun kq v43 w' => ∃ (x43_3 : Int), v43 = .int .i64 x43_3 ∧ Aside0 (spec_FirstRun.l1 kq l1 t565 t562 (t562.length : Int) x43_3 = some (r1, r2)) ∧ Aside0 (kq ≤ k2) ∧ Aside0 (Kd.R (Kd.int .i64) 3 w' w.heap.size (fun k_ => some k_ ≠ ((.slice Ao17 t562.length co17) : Value).ownBlock) v566 t565) ∧ Aside0 (Kd.R (Kd.int .i64) 3 w' w.heap.size (fun k_ => some k_ ≠ (v566 : Value).ownBlock) (.slice Ao17 t562.length co17) t562) ∧ Aside0 (Below w.heap.size w w'))
       case atStart => exact ⟨(0), (by first | rfl | (simp; done) | (simp [*]; done)), H', ⟨Nat.le_refl _⟩, ⟨by (with_reducible repeat (first | apply Kd.R_alloc | apply Kd.R_drewN | apply Kd.R_drew)); exact Kd.R_mono HO567.out (fun _ hk => hk.2)⟩, ⟨by (with_reducible repeat (first | apply Kd.R_alloc | apply Kd.R_drewN | apply Kd.R_drew)); exact Kd.R_mono HO564.out (fun _ hk => hk.2)⟩, ⟨by repeat (first | exact HB.out | apply below_alloc | apply pw_below_drewN | apply below_drew1)⟩⟩
       case round =>
        clear H'
        try clear c9b0
        obtain ⟨x43_3, rfl, HA, HK3, HO_10, HO_41, HB⟩ := hrel
        cases gk with
        | zero => exact absurd HA.out (by simp [spec_FirstRun.l1])
        | succ k3 =>
         have H := HA.out
         clear HA
         simp only [spec_FirstRun.l1] at H
         by_cases c18 : x43_3 < (t562.length : Int)
         ·rw [if_pos c18] at H
          have c18b0 : decide (x43_3 < (t562.length : Int)) = true := decide_eq_true c18
          clear c18
          by_cases c19 : 0 ≤ x43_3
          ·rw [if_pos c19] at H
           have c19b0 : decide (0 ≤ x43_3) = true := decide_eq_true c19
           clear c19
           by_cases c20 : x43_3 < (t562.length : Int)
           ·rw [if_pos c20] at H
            have c20b0 : decide (x43_3 < (t562.length : Int)) = true := decide_eq_true c20
            clear c20
            have H' := Aside0.mk H
            clear H
            have p568 : 0 ≤ (x43_3 : Int) := of_decide_eq_true (by first | (with_reducible assumption) | assumption)
            have q568 : x43_3 < (t562.length : Int) := of_decide_eq_true (by first | (with_reducible assumption) | assumption)
            obtain ⟨ad568, e568, hx568_0⟩ := Kd.at_int (Kd.R_reads' HO_41.out).2.2 x43_3 p568 q568
            cases e568
            replace p568 := eq_true p568
            replace q568 := eq_true q568
            go_wp2
            go_loopg [13, 50] k3 (fun kq v13 v50 w' => ∃ (x13_4 : Bool) (x50_4 : Int), v13 = .bool x13_4 ∧ v50 = .int .i64 x50_4 ∧ Aside0 (spec_FirstRun.l2 kq l1 t565 x43_3 (rd t562 x43_3) x13_4 t562 (t562.length : Int) x43_3 l1 (l1.length : Int) x50_4 = some (r1, r2)) ∧ Aside0 (kq ≤ k3) ∧ Aside0 (Kd.R (Kd.int .i64) 3 w' w.heap.size (fun k_ => some k_ ≠ ((.slice (some ad568) t562.length co17) : Value).ownBlock) v566 t565) ∧ Aside0 (Kd.R (Kd.int .i64) 3 w' w.heap.size (fun k_ => some k_ ≠ (v566 : Value).ownBlock) (.slice (some ad568) t562.length co17) t562) ∧ Aside0 (Below w.heap.size w w'))
            case atStart => exact ⟨(true), (0), (by first | rfl | (simp; done) | (simp [*]; done)), (by first | rfl | (simp; done) | (simp [*]; done)), H', ⟨Nat.le_refl _⟩, ⟨by (with_reducible repeat (first | apply Kd.R_alloc | apply Kd.R_drewN | apply Kd.R_drew)); exact HO_10.out⟩, ⟨by (with_reducible repeat (first | apply Kd.R_alloc | apply Kd.R_drewN | apply Kd.R_drew)); exact HO_41.out⟩, ⟨by repeat (first | exact HB.out | apply below_alloc | apply pw_below_drewN | apply below_drew1)⟩⟩
            case round =>
             clear H'
             try clear c18b0
             try clear c19b0
             try clear c20b0
             try clear hx568_0
             try clear p568
             try clear q568
             obtain ⟨x13_4, x50_4, rfl, rfl, HA, HK4, HO_10, HO_41, HB⟩ := hrel
             cases gk with
             | zero => exact absurd HA.out (by simp [spec_FirstRun.l2])
             | succ k4 =>
              have H := HA.out
              clear HA
              simp only [spec_FirstRun.l2] at H
              by_cases c21 : x50_4 < (l1.length : Int)
              ·rw [if_pos c21] at H
               have c21b0 : decide (x50_4 < (l1.length : Int)) = true := decide_eq_true c21
               clear c21
               by_cases c22 : 0 ≤ x50_4
               ·rw [if_pos c22] at H
                have c22b0 : decide (0 ≤ x50_4) = true := decide_eq_true c22
                clear c22
                by_cases c23 : x50_4 < (l1.length : Int)
                ·rw [if_pos c23] at H
                 have c23b0 : decide (x50_4 < (l1.length : Int)) = true := decide_eq_true c23
                 clear c23
                 by_cases c24 : x13_4 = true
                 ·subst c24
                  rw [if_pos rfl] at H
                  try dsimp only at H
                  by_cases c25 : (t565.length : Int) = 0
                  ·rw [if_pos c25] at H
                   exact absurd H (by simp)
                  ·rw [if_neg c25] at H
                   have c25b0 : ((t565.length : Int) == 0) = false := beq_eq_false_iff_ne.mpr c25
                   have c25b1 : ((t565.length : Int) != 0) = true := bne_iff_ne.mpr c25
                   have c25b2 : ¬ (t565 = []) := fun h_ => c25 (by rw [h_]; rfl)
                   obtain ⟨ji26, hji26⟩ : ∃ j_ : Int, (Int.tmod (wrap64 (x43_3 + x50_4)) (t565.length : Int)) = j_ := ⟨_, rfl⟩
                   replace H : (if 0 ≤ (ji26) then (if (ji26) < (t565.length : Int) then (spec_FirstRun.l2 k4 l1 t565 x43_3 (rd t562 x43_3) ((rd t565 (ji26)) == (rd l1 x50_4)) t562 (t562.length : Int) x43_3 l1 (l1.length : Int) (wrap64 (x50_4 + 1))) else (none)) else (none)) = some (r1, r2) := by first | (rw [hji26] at H; exact H) | (simp only [hji26] at H ⊢; exact H)
                   by_cases c27 : 0 ≤ (ji26)
                   ·rw [if_pos c27] at H
                    have c27b0 : decide (0 ≤ (ji26)) = true := decide_eq_true c27
                    clear c27
                    by_cases c28 : (ji26) < (t565.length : Int)
                    ·rw [if_pos c28] at H
                     have c28b0 : decide ((ji26) < (t565.length : Int)) = true := decide_eq_true c28
                     clear c28
                     have H' := Aside0.mk H
                     clear H
                     have p569 : 0 ≤ (x50_4 : Int) := of_decide_eq_true (by first | (with_reducible assumption) | assumption)
                     have q569 : x50_4 < (l1.length : Int) := of_decide_eq_true (by first | (with_reducible assumption) | assumption)
                     obtain ⟨ad569, e569, hx569_0⟩ := Kd.at_int HR1.out x50_4 p569 q569
                     cases e569
                     replace hx569_0 := (HB.out.cell (World.block_lt_of_cell? w _ hx569_0)).trans hx569_0
                     replace p569 := eq_true p569
                     replace q569 := eq_true q569
                     obtain ⟨Ao29, co29, eo29⟩ := Kd.R_slice HO_10.out
                     subst eo29
                     have p570 : 0 ≤ ((ji26) : Int) := of_decide_eq_true (by first | (with_reducible assumption) | assumption)
                     have q570 : (ji26) < (t565.length : Int) := of_decide_eq_true (by first | (with_reducible assumption) | assumption)
                     obtain ⟨ad570, e570, hx570_0⟩ := Kd.at_int (Kd.R_reads' HO_10.out).2.2 (ji26) p570 q570
                     cases e570
                     replace p570 := eq_true p570
                     replace q570 := eq_true q570
                     go_wp2
                     first | go_roundg k4 | (try subst hji26; go_roundg k4)
                     case measure => have := HJ3.out; have := HK2.out; have := HK3.out; have := HK4.out; omega
                     case rel => exact ⟨(((rd t565 (ji26)) == (rd l1 x50_4))), (wrap64 (x50_4 + 1)), (by first | rfl | (simp; done) | (simp only [← hji26] <;> (first | rfl | simp)) | (simp [*]; done)), (by first | rfl | (simp; done) | (simp [*]; done)), H', ⟨by have := HJ3.out; have := HK2.out; have := HK3.out; have := HK4.out; omega⟩, ⟨by (with_reducible repeat (first | apply Kd.R_alloc | apply Kd.R_drewN | apply Kd.R_drew)); exact HO_10.out⟩, ⟨by (with_reducible repeat (first | apply Kd.R_alloc | apply Kd.R_drewN | apply Kd.R_drew)); exact HO_41.out⟩, ⟨by repeat (first | exact HB.out | apply below_alloc | apply pw_below_drewN | apply below_drew1)⟩⟩
                    ·rw [if_neg c28] at H
                     exact absurd H (by simp)
                   ·rw [if_neg c27] at H
                    exact absurd H (by simp)
                 ·replace c24 := Bool.eq_false_iff.mpr c24
                  subst c24
                  rw [if_neg (show ¬ (false = true) by decide)] at H
                  try dsimp only at H
                  have H' := Aside0.mk H
                  clear H
                  have p569 : 0 ≤ (x50_4 : Int) := of_decide_eq_true (by first | (with_reducible assumption) | assumption)
                  have q569 : x50_4 < (l1.length : Int) := of_decide_eq_true (by first | (with_reducible assumption) | assumption)
                  obtain ⟨ad569, e569, hx569_0⟩ := Kd.at_int HR1.out x50_4 p569 q569
                  cases e569
                  replace hx569_0 := (HB.out.cell (World.block_lt_of_cell? w _ hx569_0)).trans hx569_0
                  replace p569 := eq_true p569
                  replace q569 := eq_true q569
                  go_wp2
                  first | go_roundg k4 | (try subst hji26; go_roundg k4)
                  case measure => have := HJ3.out; have := HK2.out; have := HK3.out; have := HK4.out; omega
                  case rel => exact ⟨(false), (wrap64 (x50_4 + 1)), (by first | rfl | (simp; done) | (simp [*]; done)), (by first | rfl | (simp; done) | (simp [*]; done)), H', ⟨by have := HJ3.out; have := HK2.out; have := HK3.out; have := HK4.out; omega⟩, ⟨by (with_reducible repeat (first | apply Kd.R_alloc | apply Kd.R_drewN | apply Kd.R_drew)); exact HO_10.out⟩, ⟨by (with_reducible repeat (first | apply Kd.R_alloc | apply Kd.R_drewN | apply Kd.R_drew)); exact HO_41.out⟩, ⟨by repeat (first | exact HB.out | apply below_alloc | apply pw_below_drewN | apply below_drew1)⟩⟩
                ·rw [if_neg c23] at H
                 exact absurd H (by simp)
               ·rw [if_neg c22] at H
                exact absurd H (by simp)
              ·rw [if_neg c21] at H
               have c21b0 : decide (x50_4 < (l1.length : Int)) = false := decide_eq_false c21
               clear c21
               by_cases c30 : x13_4 = true
               ·subst c30
                rw [if_pos rfl] at H
                try dsimp only at H
                simp only [Option.some.injEq, Prod.mk.injEq] at H
                obtain ⟨rfl, rfl⟩ := H
                go_wp2
                go_ret2
                exact ⟨by first | rfl | (simp [errW_none, errW_some] <;> rfl) | (simp [*, errW_none, errW_some] <;> rfl), by repeat (first | exact HB.out | apply below_alloc | apply pw_below_drewN | apply below_drew1)⟩
               ·replace c30 := Bool.eq_false_iff.mpr c30
                subst c30
                rw [if_neg (show ¬ (false = true) by decide)] at H
                try dsimp only at H
                have H' := Aside0.mk H
                clear H
                go_wp2
                first | go_roundg k4 | (try subst hji26; go_roundg k4)
                case measure => have := HJ3.out; have := HK2.out; have := HK3.out; have := HK4.out; omega
                case rel => exact ⟨(wrap64 (x43_3 + 1)), (by first | rfl | (simp; done) | (simp [*]; done)), H', ⟨by have := HJ3.out; have := HK2.out; have := HK3.out; have := HK4.out; omega⟩, ⟨by (with_reducible repeat (first | apply Kd.R_alloc | apply Kd.R_drewN | apply Kd.R_drew)); exact HO_10.out⟩, ⟨by (with_reducible repeat (first | apply Kd.R_alloc | apply Kd.R_drewN | apply Kd.R_drew)); exact HO_41.out⟩, ⟨by repeat (first | exact HB.out | apply below_alloc | apply pw_below_drewN | apply below_drew1)⟩⟩
           ·rw [if_neg c20] at H
            exact absurd H (by simp)
          ·rw [if_neg c19] at H
           exact absurd H (by simp)
         ·rw [if_neg c18] at H
          have c18b0 : decide (x43_3 < (t562.length : Int)) = false := decide_eq_false c18
          clear c18
          simp only [Option.some.injEq, Prod.mk.injEq] at H
          obtain ⟨rfl, rfl⟩ := H
          go_wp2
          go_ret2
          exact ⟨by first | rfl | (simp [errW_none, errW_some] <;> rfl) | (simp [*, errW_none, errW_some] <;> rfl), by repeat (first | exact HB.out | apply below_alloc | apply pw_below_drewN | apply below_drew1)⟩

end Go.Proofs.Ytdaodlhcedjfoaa.P
