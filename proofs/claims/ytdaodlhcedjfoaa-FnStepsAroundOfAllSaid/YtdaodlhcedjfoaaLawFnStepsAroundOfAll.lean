-- Printed for this claim by a program of this session, out of the translation. Lean checks it.
import Derived.Test.YtdaodlhcedjfoaaRows
import Derived.Test.YtdaodlhcedjfoaaEnter
import Derived.Test.YtdaodlhcedjfoaaPx11
import Derived.Test.YtdaodlhcedjfoaaPureFnStepsAroundOfAll
import Derived.WalkKit
import Derived.ProofKit
import Derived.OpenShut
import Derived.ShutString
import Derived.ChangeOld
import Derived.Below
import Derived.SizedLaws
import Derived.Test.YtdaodlhcedjfoaaWSized
import Derived.Test.YtdaodlhcedjfoaaXOpen
namespace Go.Proofs.Ytdaodlhcedjfoaa.fnStepsAroundOfAll
open Go.ChangeShapes Go.WideShapes Go.ChangeAt Go.RowKit
open Go.ChangeMaps (open_string shut_string)
open Go.Proofs.Ytdaodlhcedjfoaa.P Go.Proofs.YtdaodlhcedjfoaaW.PrintWords
set_option linter.unusedVariables false
theorem own : ownKnob Try.prog.godebug = none := by kernel_rfl
theorem laidOut : laidOutB Try.prog = true := by kernel_rfl
def IsRow (k : IntKind) (w : World) (a : Option Addr) (len cap : Nat) (zs : List Int) : Prop :=
  (a = none ∧ len = 0 ∧ cap = 0 ∧ zs = []) ∨
  ∃ x, a = some x ∧ len ≤ cap ∧ cap ≤ maxLen ∧ zs.length = cap ∧ (∀ i, i < zs.length → w.cell? (x.add i) = some (.int k (zs.getD i 0))) ∧ ∀ n ∈ zs, (Lit.int k n).wf = true
set_option maxRecDepth 100000 in
theorem lifted (os : Os) (started : os.Started) (H : Type) (enc : TypeId × Value → H) :
    ReturnsInHanded {} Try.checked os 6 .any (Rows.fnStepsAroundOfAllSpec.pre6 enc Try.prog Try.f6 Rows.fnStepsAroundOfAllRow.domain false) (Rows.fnStepsAroundOfAllSpec.post enc Try.prog Try.f6 false true false false) := by
  refine returnsInHanded_of_change_sized (C := Try.checked) own started (by kernel_rfl) Try.func6
    (ChangeSpec.witness6 (enc := enc) (C := Try.checked) false ⟨#[], #[.slice none 0 0, .slice none 0 0, .int .i64 0, .slice none 0 0, .int .i64 0, .slice none 0 0, .int .i64 0, .slice none 0 0, .slice none 0 0], []⟩ 8 (by kernel_rfl) (by kernel_rfl) (by kernel_rfl) (by kernel_rfl)) ?_
  intro W base args ds gs before hval0 hW hcnd hsz0 _
  have hsz : (DataW.weightsEach Try.prog (Try.f6.params.toList ++ Rows.fnStepsAroundOfAllSpec.plain.varTypes Try.prog) (ds ++ gs)).all (· ≤ reachBytes) = true := hsz0
  have hval : ∀ (j : Nat) t v, Try.f6.params[j]? = some t → args[j]? = some v → Value.okWide Try.prog W .any base t v := hval0
  have hW' := hW
  obtain ⟨p, q, hA0, hV, rfl, hfz, hnd⟩ := hW
  have hA : DataW.TrodAll enc Try.prog W 0 (fun _ => true) true Try.f6.params.toList args.toList ds p := hA0
  rw [Try.params6] at hA hval hsz
  obtain ⟨v0, vs0, d0, ds0, p0, q0, hargs, rfl, rfl, h0, r0⟩ := trodAll_cons hA
  obtain ⟨v1, vs1, d1, ds1, p1, q1, rfl, rfl, rfl, h1, r1⟩ := trodAll_cons r0
  obtain ⟨v2, vs2, d2, ds2, p2, q2, rfl, rfl, rfl, h2, r2⟩ := trodAll_cons r1
  obtain ⟨v3, vs3, d3, ds3, p3, q3, rfl, rfl, rfl, h3, r3⟩ := trodAll_cons r2
  obtain ⟨v4, vs4, d4, ds4, p4, q4, rfl, rfl, rfl, h4, r4⟩ := trodAll_cons r3
  obtain ⟨v5, vs5, d5, ds5, p5, q5, rfl, rfl, rfl, h5, r5⟩ := trodAll_cons r4
  obtain ⟨v6, vs6, d6, ds6, p6, q6, rfl, rfl, rfl, h6, r6⟩ := trodAll_cons r5
  obtain ⟨v7, vs7, d7, ds7, p7, q7, rfl, rfl, rfl, h7, r7⟩ := trodAll_cons r6
  obtain ⟨v8, vs8, d8, ds8, p8, q8, rfl, rfl, rfl, h8, r8⟩ := trodAll_cons r7
  obtain ⟨rfl, rfl, rfl⟩ := trodAll_nil r8
  obtain rfl : args = #[v0, v1, v2, v3, v4, v5, v6, v7, v8] := by cases args; simp_all
  obtain ⟨rfl, rfl⟩ := trodVars_none hV
  obtain ⟨a0, len0, cap0, rfl⟩ := okWide_slice Try.underlying22 (hval 0 22 v0 rfl rfl)
  have k0 := h0
  have lt0 : ∀ x ∈ p0, x.block < W.heap.size := by obtain ⟨m, hm⟩ := k0; exact DataW.trod_lt m _ _ _ hm
  obtain ⟨l0, w0⟩ : ∃ l : List (S45), l.length = len0 ∧ len0 ≤ cap0 ∧ Kd.C k45 W a0 len0 l ∧ (∀ x ∈ l, (Lit.int .i64 x.f0).wf = true ∧ (Lit.int .i64 x.f1).wf = true) := by
    obtain ⟨zs, hl, hc, hm, hr, hw⟩ := XOpen.open_pairs Try.underlying22 Try.underlying45 (by kernel_rfl) (by kernel_rfl) (by kernel_rfl) (by kernel_rfl) (by kernel_rfl) Try.underlying3 Try.underlying3 h0
    refine ⟨zs.map fun z => ⟨z.1, z.2⟩, by simpa using hl, hc, XOpen.reads_pairs (α := S45) (d := k45) (fun z => ⟨z.1, z.2⟩) (fun w z => k45_mk w _) rfl hl hm hr, ?_⟩
    intro x hx; obtain ⟨z, hz, rfl⟩ := List.mem_map.1 hx; exact hw z hz
  have y0 : len0 * 16 ≤ 140737488351232 := XOpen.sized_any hsz (j := 0) (t := 22) rfl rfl Try.underlying22 (by kernel_rfl) h0
  obtain ⟨a1, len1, cap1, rfl⟩ := okWide_slice Try.underlying22 (hval 1 22 v1 rfl rfl)
  have k1 := h1
  have lt1 : ∀ x ∈ p1, x.block < W.heap.size := by obtain ⟨m, hm⟩ := k1; exact DataW.trod_lt m _ _ _ hm
  obtain ⟨l1, w1⟩ : ∃ l : List (S45), l.length = len1 ∧ len1 ≤ cap1 ∧ Kd.C k45 W a1 len1 l ∧ (∀ x ∈ l, (Lit.int .i64 x.f0).wf = true ∧ (Lit.int .i64 x.f1).wf = true) := by
    obtain ⟨zs, hl, hc, hm, hr, hw⟩ := XOpen.open_pairs Try.underlying22 Try.underlying45 (by kernel_rfl) (by kernel_rfl) (by kernel_rfl) (by kernel_rfl) (by kernel_rfl) Try.underlying3 Try.underlying3 h1
    refine ⟨zs.map fun z => ⟨z.1, z.2⟩, by simpa using hl, hc, XOpen.reads_pairs (α := S45) (d := k45) (fun z => ⟨z.1, z.2⟩) (fun w z => k45_mk w _) rfl hl hm hr, ?_⟩
    intro x hx; obtain ⟨z, hz, rfl⟩ := List.mem_map.1 hx; exact hw z hz
  have y1 : len1 * 16 ≤ 140737488351232 := XOpen.sized_any hsz (j := 1) (t := 22) rfl rfl Try.underlying22 (by kernel_rfl) h1
  obtain ⟨a2, rfl, rfl, rfl, w2⟩ := open_int Try.underlying3 (hval 2 3 v2 rfl rfl) h2
  obtain ⟨a3, len3, cap3, rfl⟩ := okWide_slice Try.underlying22 (hval 3 22 v3 rfl rfl)
  have k3 := h3
  have lt3 : ∀ x ∈ p3, x.block < W.heap.size := by obtain ⟨m, hm⟩ := k3; exact DataW.trod_lt m _ _ _ hm
  obtain ⟨l3, w3⟩ : ∃ l : List (S45), l.length = len3 ∧ len3 ≤ cap3 ∧ Kd.C k45 W a3 len3 l ∧ (∀ x ∈ l, (Lit.int .i64 x.f0).wf = true ∧ (Lit.int .i64 x.f1).wf = true) := by
    obtain ⟨zs, hl, hc, hm, hr, hw⟩ := XOpen.open_pairs Try.underlying22 Try.underlying45 (by kernel_rfl) (by kernel_rfl) (by kernel_rfl) (by kernel_rfl) (by kernel_rfl) Try.underlying3 Try.underlying3 h3
    refine ⟨zs.map fun z => ⟨z.1, z.2⟩, by simpa using hl, hc, XOpen.reads_pairs (α := S45) (d := k45) (fun z => ⟨z.1, z.2⟩) (fun w z => k45_mk w _) rfl hl hm hr, ?_⟩
    intro x hx; obtain ⟨z, hz, rfl⟩ := List.mem_map.1 hx; exact hw z hz
  have y3 : len3 * 16 ≤ 140737488351232 := XOpen.sized_any hsz (j := 3) (t := 22) rfl rfl Try.underlying22 (by kernel_rfl) h3
  obtain ⟨a4, rfl, rfl, rfl, w4⟩ := open_int Try.underlying3 (hval 4 3 v4 rfl rfl) h4
  obtain ⟨a5, len5, cap5, rfl⟩ := okWide_slice Try.underlying22 (hval 5 22 v5 rfl rfl)
  have k5 := h5
  have lt5 : ∀ x ∈ p5, x.block < W.heap.size := by obtain ⟨m, hm⟩ := k5; exact DataW.trod_lt m _ _ _ hm
  obtain ⟨l5, w5⟩ : ∃ l : List (S45), l.length = len5 ∧ len5 ≤ cap5 ∧ Kd.C k45 W a5 len5 l ∧ (∀ x ∈ l, (Lit.int .i64 x.f0).wf = true ∧ (Lit.int .i64 x.f1).wf = true) := by
    obtain ⟨zs, hl, hc, hm, hr, hw⟩ := XOpen.open_pairs Try.underlying22 Try.underlying45 (by kernel_rfl) (by kernel_rfl) (by kernel_rfl) (by kernel_rfl) (by kernel_rfl) Try.underlying3 Try.underlying3 h5
    refine ⟨zs.map fun z => ⟨z.1, z.2⟩, by simpa using hl, hc, XOpen.reads_pairs (α := S45) (d := k45) (fun z => ⟨z.1, z.2⟩) (fun w z => k45_mk w _) rfl hl hm hr, ?_⟩
    intro x hx; obtain ⟨z, hz, rfl⟩ := List.mem_map.1 hx; exact hw z hz
  have y5 : len5 * 16 ≤ 140737488351232 := XOpen.sized_any hsz (j := 5) (t := 22) rfl rfl Try.underlying22 (by kernel_rfl) h5
  obtain ⟨a6, rfl, rfl, rfl, w6⟩ := open_int Try.underlying3 (hval 6 3 v6 rfl rfl) h6
  obtain ⟨a7, len7, cap7, rfl⟩ := okWide_slice Try.underlying22 (hval 7 22 v7 rfl rfl)
  have k7 := h7
  have lt7 : ∀ x ∈ p7, x.block < W.heap.size := by obtain ⟨m, hm⟩ := k7; exact DataW.trod_lt m _ _ _ hm
  obtain ⟨l7, w7⟩ : ∃ l : List (S45), l.length = len7 ∧ len7 ≤ cap7 ∧ Kd.C k45 W a7 len7 l ∧ (∀ x ∈ l, (Lit.int .i64 x.f0).wf = true ∧ (Lit.int .i64 x.f1).wf = true) := by
    obtain ⟨zs, hl, hc, hm, hr, hw⟩ := XOpen.open_pairs Try.underlying22 Try.underlying45 (by kernel_rfl) (by kernel_rfl) (by kernel_rfl) (by kernel_rfl) (by kernel_rfl) Try.underlying3 Try.underlying3 h7
    refine ⟨zs.map fun z => ⟨z.1, z.2⟩, by simpa using hl, hc, XOpen.reads_pairs (α := S45) (d := k45) (fun z => ⟨z.1, z.2⟩) (fun w z => k45_mk w _) rfl hl hm hr, ?_⟩
    intro x hx; obtain ⟨z, hz, rfl⟩ := List.mem_map.1 hx; exact hw z hz
  have y7 : len7 * 16 ≤ 140737488351232 := XOpen.sized_any hsz (j := 7) (t := 22) rfl rfl Try.underlying22 (by kernel_rfl) h7
  obtain ⟨a8, len8, cap8, rfl⟩ := okWide_slice Try.underlying27 (hval 8 27 v8 rfl rfl)
  have k8 := h8
  have lt8 : ∀ x ∈ p8, x.block < W.heap.size := by obtain ⟨m, hm⟩ := k8; exact DataW.trod_lt m _ _ _ hm
  obtain ⟨z8, w8⟩ : ∃ zs, IsRow .i64 W a8 len8 cap8 zs := by
    obtain ⟨fuel, hf⟩ := h8
    rcases open_ints Try.underlying27 Try.underlying3 (by kernel_rfl) hf with ⟨hcs, _⟩ | ⟨x, l, c, zs, hcs, _, hl, hm, hz, _, hcell, hwz⟩
    · simp [Value.cells] at hcs
      obtain ⟨rfl, rfl, rfl⟩ := hcs
      exact ⟨[], .inl ⟨rfl, rfl, rfl, rfl⟩⟩
    · simp [Value.cells] at hcs
      obtain ⟨rfl, rfl, rfl⟩ := hcs
      exact ⟨zs, .inr ⟨_, rfl, hl, hm, by simpa using hz, hcell, hwz⟩⟩
  have y8 : len8 * 8 ≤ 140737488351232 := Go.Proofs.YtdaodlhcedjfoaaW.PrintWords.sized_ints hsz (j := 8) (t := 27) rfl rfl Try.underlying27 Try.underlying3 (by kernel_rfl) (by kernel_rfl) h8
  clear hA0 hval0 hsz0 hsz
  refine (P.laws_FnStepsAroundOfAll.walk Pure.FnStepsAroundOfAll a0 len0 cap0 l0 a1 len1 cap1 l1 a2 a3 len3 cap3 l3 a4 a5 len5 cap5 l5 a6 a7 len7 cap7 l7 a8 len8 cap8 z8 W w0 y0 w1 y1 w2 w3 y3 w4 w5 y5 w6 w7 y7 w8 y8).mono fun e W' ⟨he, bel⟩ => ?_
  subst he
  exact ⟨_, rfl, _, _, _, [], _, [], hW', trodAll_mk1 (shut_bool Try.underlying4 _), (trodAll_cons_mk (Below.trod laidOut (by kernel_rfl) (of_decide_eq_true (by kernel_rfl)) k0 bel lt0) (trodAll_cons_mk (Below.trod laidOut (by kernel_rfl) (of_decide_eq_true (by kernel_rfl)) k1 bel lt1) (trodAll_cons_mk (shut_int Try.underlying3 w2) (trodAll_cons_mk (Below.trod laidOut (by kernel_rfl) (of_decide_eq_true (by kernel_rfl)) k3 bel lt3) (trodAll_cons_mk (shut_int Try.underlying3 w4) (trodAll_cons_mk (Below.trod laidOut (by kernel_rfl) (of_decide_eq_true (by kernel_rfl)) k5 bel lt5) (trodAll_cons_mk (shut_int Try.underlying3 w6) (trodAll_cons_mk (Below.trod laidOut (by kernel_rfl) (of_decide_eq_true (by kernel_rfl)) k7 bel lt7) (trodAll_cons_mk (Below.trod laidOut (by kernel_rfl) (of_decide_eq_true (by kernel_rfl)) k8 bel lt8) trodAll_mk0))))))))), rfl, bel.frame _, fun h => by cases h⟩
theorem over : Rows.fnStepsAroundOfAllRow.holds Try.pinned (OpenSpec.ofChange Rows.fnStepsAroundOfAllSpec) :=
  OpenClaim.holds_of_wide 6 Try.f6 rfl rfl rfl rfl rfl rfl rfl ⟨rfl, rfl, rfl, rfl, rfl⟩ rfl rfl rfl rfl rfl (by kernel_rfl) Try.func6 (Enter.joined (by kernel_rfl))
    (of_decide_eq_true (by kernel_rfl)) (by unfold Func.isWrapper; first | (rw [if_pos (by decide +kernel)]; kernel_rfl) | (rw [if_neg (by decide +kernel)]; exact ⟨rfl, rfl⟩))
    (fun os started H enc _ => lifted os started H enc)
theorem proved : Rows.FnStepsAroundOfAllSaid := over
#print axioms proved
end Go.Proofs.Ytdaodlhcedjfoaa.fnStepsAroundOfAll
namespace Go.Proofs.Ytdaodlhcedjfoaa
/-- The row, under a short name, for the claim. -/
theorem fnStepsAroundOfAll_holds : Rows.FnStepsAroundOfAllSaid := fnStepsAroundOfAll.proved
end Go.Proofs.Ytdaodlhcedjfoaa
