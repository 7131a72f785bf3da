/- AllOpen's law, walked by hand along the way on which it holds: what was told, marked and held. No condition beyond what the theorem names. -/
import Derived.Test.YtlngnnkkaepeeaaPx11
import Derived.Test.YtlngnnkkaepeeaaPx12
import Derived.Test.YtlngnnkkaepeeaaPx13
import Derived.Test.YtlngnnkkaepeeaaPx14
namespace Go.Proofs.Ytlngnnkkaepeeaa.P
open Go.RowKit Go.Proofs.YtlngnnkkaepeeaaW.PrintWords Go.Proofs.YtlngnnkkaepeeaaW.PrintLast Go.Proofs.YtlngnnkkaepeeaaW.PrintMore
set_option linter.unusedVariables false
set_option linter.unusedSimpArgs false

def laws_FnExactAllOpen.f (k : Nat) (a0 a1 : Int) : Option Bool :=
  (spec_AllOpen.f k a0 a1).bind fun w => (impl_AllOpen.f k a0 a1).bind fun g => (laws_eqIntSS.f k g.1 w.1).bind fun t => if t = true ∧ g.2 = w.2 then
    ((laws_markIntSS.f k g.1 1).bind fun m => (laws_heldIntSS.f k m.2 1).bind fun q => if 0 ≤ q ∧ q = m.1 then
      ((impl_AllOpen.f k a0 a1).bind fun h => (laws_eqIntSS.f k h.1 w.1).bind fun t2 => if t2 = true ∧ h.2 = w.2 then
        ((laws_heldIntSS.f k m.2 1).bind fun q2 => if 0 ≤ q2 ∧ q2 = m.1 then some true else none) else none) else none) else none
section
variable {k : Nat} {A B : Option Addr} {c d n m : Nat} {l l2 : List (List Int)} {w : World} {b b2 : Nat} {ok ok2 : Nat → Prop}
theorem heldSS_at {r : Int} (hS : Kd.S (Kd.slice 3 (Kd.int .i64)) 24 w b ok (.slice A n c) l) (h : laws_heldIntSS.f k l 1 = some r) :
    Calls Try.prog 43 #[.slice A n c, .int .i64 1] w fun e w' => e = .returned (.int .i64 r) ∧ Below w.heap.size w w' := by
  obtain ⟨hn, hc, hC⟩ := Kd.S_reads' hS
  subst hn
  exact (laws_heldIntSS.calls k A c l 1 r w hC hc h).mono fun e w' ⟨h1, h2⟩ => ⟨h1, Drawn0.below h2⟩
theorem eqSS_at {r : Bool} (hS : Kd.S (Kd.slice 3 (Kd.int .i64)) 24 w b ok (.slice A n c) l) (hS2 : Kd.S (Kd.slice 3 (Kd.int .i64)) 24 w b2 ok2 (.slice B m d) l2) (h : laws_eqIntSS.f k l l2 = some r) :
    Calls Try.prog 41 #[.slice A n c, .slice B m d] w fun e w' => e = .returned (.bool r) ∧ Below w.heap.size w w' := by
  obtain ⟨hn, hc, hC⟩ := Kd.S_reads' hS
  obtain ⟨hm, hd, hD⟩ := Kd.S_reads' hS2
  subst hn
  subst hm
  exact (laws_eqIntSS.calls k A c l B d l2 r w hC hc hD hd h).mono fun e w' ⟨h1, h2⟩ => ⟨h1, Drawn0.below h2⟩
end
set_option maxHeartbeats 8000000 in
set_option maxRecDepth 100000 in
theorem laws_FnExactAllOpen.calls (k : Nat) (a0 a1 : Int) (w : World) (h : laws_FnExactAllOpen.f k a0 a1 = some true) :
    Calls Try.prog 12 #[.int .i64 a0, .int .i64 a1] w fun e w' => e = .returned (.bool true) ∧ Below w.heap.size w w' := by
  unfold laws_FnExactAllOpen.f at h
  obtain ⟨⟨wl, wb⟩, h1, x1⟩ := Option.bind_eq_some_iff.mp h
  obtain ⟨⟨gl, gb⟩, h2, x2⟩ := Option.bind_eq_some_iff.mp x1
  obtain ⟨t, h3, x3⟩ := Option.bind_eq_some_iff.mp x2
  dsimp only at x3 h3
  by_cases c1 : t = true ∧ gb = wb
  case neg => rw [if_neg c1] at x3; cases x3
  rw [if_pos c1] at x3
  obtain ⟨⟨m1, ml⟩, h4, x4⟩ := Option.bind_eq_some_iff.mp x3
  obtain ⟨q, h5, x5⟩ := Option.bind_eq_some_iff.mp x4
  dsimp only at x5 h5
  by_cases c2 : 0 ≤ q ∧ q = m1
  case neg => rw [if_neg c2] at x5; cases x5
  rw [if_pos c2] at x5
  obtain ⟨⟨hl, hb⟩, h6, x6⟩ := Option.bind_eq_some_iff.mp x5
  obtain ⟨t2, h7, x7⟩ := Option.bind_eq_some_iff.mp x6
  dsimp only at x7 h7
  by_cases c3 : t2 = true ∧ hb = wb
  case neg => rw [if_neg c3] at x7; cases x7
  rw [if_pos c3] at x7
  obtain ⟨q2, h8, x8⟩ := Option.bind_eq_some_iff.mp x7
  by_cases c4 : 0 ≤ q2 ∧ q2 = m1
  case neg => rw [if_neg c4] at x8; cases x8
  clear h x1 x2 x3 x4 x5 x6 x7 x8
  obtain ⟨rfl, rfl⟩ := c1
  obtain ⟨c2, rfl⟩ := c2
  obtain ⟨rfl, rfl⟩ := c3
  obtain ⟨_, rfl⟩ := c4
  have d1 := decide_eq_false (show ¬ _ < (0 : Int) from Int.not_lt.2 c2)
  have E1 := Aside0.mk h1
  have E2 := Aside0.mk h2
  have E3 := Aside0.mk h3
  have E4 := Aside0.mk h4
  have E5 := Aside0.mk h5
  have E6 := Aside0.mk h6
  have E7 := Aside0.mk h7
  have E8 := Aside0.mk h8
  clear h1 h2 h3 h4 h5 h6 h7 h8
  cases hb
  all_goals
    go_enter Try.func12, Try.ntmps12
    go_wp2_with (first
      | (go_at_call 39; (refine (spec_AllOpen.calls k a0 a1 wl _ _ E1.out).mono ?_); rintro e w1 ⟨v1, rfl, ho1, hb1⟩; clear E1; obtain ⟨A1, c1, rfl⟩ := Kd.S_slice ho1; have S1 := Aside0.mk (Kd.S_mono (ok' := fun k => k < w1.heap.size) (Kd.S_bound ho1) (fun k hk => hk.2.2.1)); have B1 := Aside0.mk hb1; clear ho1 hb1)
      | (go_at_call 40; (refine (impl_AllOpen.calls k a0 a1 gl _ w1 E2.out).mono ?_); rintro e w2 ⟨v2, rfl, ho2, hb2⟩; clear E2; obtain ⟨A2, c2', rfl⟩ := Kd.S_slice ho2; have S2 := Aside0.mk (Kd.S_mono (ok' := fun k => w1.heap.size ≤ k) (Kd.S_bound ho2) (fun k hk => hk.2.1)); have B2 := Aside0.mk hb2; have S12 := Aside0.mk (Kd.S_below S1.out hb2); clear ho2 hb2)
      | (go_at_call 41; (refine (eqSS_at S2.out S12.out E3.out).mono ?_); rintro e w3 ⟨rfl, hb3⟩; clear E3; have S23 := Aside0.mk (Kd.S_below S2.out hb3); have S13 := Aside0.mk (Kd.S_below S12.out hb3); have B3 := Aside0.mk (below_then B2.out B2.out.size hb3); clear hb3)
      | (go_at_call 42; (refine (laws_markIntSS.calls k (fun k => w1.heap.size ≤ k) _ gl 1 _ ml w1 w3 B3.out S23.out E4.out).mono ?_); rintro e w4 ⟨rfl, ho4, hb4, hk4⟩; clear E4; have S4 := Aside0.mk ho4; have B4 := Aside0.mk hb4; have S14 := Aside0.mk (Kd.S_kept S13.out hk4 (fun k hk h => by omega)); clear ho4 hb4 hk4)
      | (go_at_call 43; (refine (heldSS_at S4.out E5.out).mono ?_); rintro e w5 ⟨rfl, hb5⟩; clear E5; have S5 := Aside0.mk (Kd.S_below S4.out hb5); have S15 := Aside0.mk (Kd.S_below S14.out hb5); have B5 := Aside0.mk (below_then B4.out B4.out.size hb5); clear hb5)
      | (go_at_call 40; (refine (impl_AllOpen.calls k a0 a1 hl _ w5 E6.out).mono ?_); rintro e w6 ⟨v6, rfl, ho6, hb6⟩; clear E6; obtain ⟨A6, c6, rfl⟩ := Kd.S_slice ho6; have S66 := Aside0.mk ho6; have S6 := Aside0.mk (Kd.S_below S5.out hb6); have S16 := Aside0.mk (Kd.S_below S15.out hb6); have B6 := Aside0.mk (below_then B5.out B5.out.size hb6); clear ho6 hb6)
      | (go_at_call 41; (refine (eqSS_at S66.out S16.out E7.out).mono ?_); rintro e w7 ⟨rfl, hb7⟩; clear E7; have S7 := Aside0.mk (Kd.S_below S6.out hb7); have B7 := Aside0.mk (below_then B6.out B6.out.size hb7); clear hb7)
      | (go_at_call 43; (refine (heldSS_at S7.out E8.out).mono ?_); rintro e w8 ⟨rfl, hb8⟩; clear E8; have B8 := Aside0.mk (below_then B7.out B7.out.size hb8); clear hb8))
    go_ret
    exact ⟨rfl, below_then B1.out B1.out.size B8.out⟩
def laws_FnExactAllOpen.Pure : Prop := ∀ (a0 a1 : Int), (Lit.int .i64 a0).wf = true → (Lit.int .i64 a1).wf = true → ∃ k, laws_FnExactAllOpen.f k a0 a1 = some true
theorem laws_FnExactAllOpen.walk (P : laws_FnExactAllOpen.Pure) (a0 : Int) (a1 : Int) (w : World) (w0 : (Lit.int .i64 a0).wf = true) (w1 : (Lit.int .i64 a1).wf = true) :
    Calls Try.prog 12 #[.int .i64 a0, .int .i64 a1] w fun e w' => e = .returned (.bool true) ∧ Below w.heap.size w w' := by
  obtain ⟨k, h⟩ := P a0 a1 w0 w1
  exact laws_FnExactAllOpen.calls k a0 a1 w h

end Go.Proofs.Ytlngnnkkaepeeaa.P
