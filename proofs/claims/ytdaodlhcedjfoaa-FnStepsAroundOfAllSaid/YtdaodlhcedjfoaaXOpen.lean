/- How a law's argument reads: a slice of structs of two ints, a slice of slices of ints, opened for the printed walk; their sizes. No condition. -/
import Derived.Test.YtdaodlhcedjfoaaWWords
import Derived.SizedLaws
import Derived.ChangeSlices
import Derived.ChangeArms
import Derived.Deep.SlicePairs
import Derived.Deep.Matrix
namespace Go.Proofs.Ytdaodlhcedjfoaa.XOpen
open Go.ChangeShapes Go.WideShapes Go.Deep Go.Proofs.YtdaodlhcedjfoaaW.PrintWords
set_option linter.unusedVariables false
set_option linter.unusedSimpArgs false

section
variable {H : Type} {enc : TypeId × Value → H} {P : Program} {W : World} {base : Nat} {held : Bool}

theorem add_zero_ (a : Addr) (i : Nat) : (a.add i) = a.add (i * 1) := by rw [Nat.mul_one]

/-- A slice of structs of two ints: its elements as pairs. -/
theorem open_pairs {t e : TypeId} {f0 f1 : Field} {a : Option Addr} {len cap : Nat} {d : DataW H} {ps : List MemPlace}
    (ht : P.underlying t = some (.slice e)) (he : P.underlying e = some (.struct #[f0, f1])) (ce : P.cellsOf e = 2) (o0 : f0.offset = 0) (o1 : f1.offset = 1) (c0 : P.cellsOf f0.type = 1) (c1 : P.cellsOf f1.type = 1)
    (u0 : P.underlying f0.type = some (.int .i64)) (u1 : P.underlying f1.type = some (.int .i64))
    (h : DataW.Trod enc P W base (fun _ => true) held t (.slice a len cap) d ps) :
    ∃ zs : List (Int × Int), zs.length = len ∧ len ≤ cap ∧ len ≤ 9223372036854775807 ∧
      (0 < len → ∃ ad, a = some ad ∧ ∀ (i : Nat) (z : Int × Int), zs[i]? = some z → W.cell? (ad.add (i * 2)) = some (.int .i64 z.1) ∧ W.cell? (ad.add (i * 2 + 1)) = some (.int .i64 z.2)) ∧
      ∀ z ∈ zs, (Lit.int .i64 z.1).wf = true ∧ (Lit.int .i64 z.2).wf = true := by
  obtain ⟨fuel, hf⟩ := h
  rcases open_slice_pairs ht he ce o0 o1 c0 c1 hf with ⟨hcs, _⟩ | ⟨ad, l, c, m, n, V0, V1, D0, D1, P0, P1, hcs, _, hl, hm, hmm, _, hx⟩
  · simp [Value.cells] at hcs
    obtain ⟨rfl, rfl, rfl⟩ := hcs
    exact ⟨[], rfl, by simp, by simp, fun h => absurd h (by simp), fun z hz => absurd hz (by simp)⟩
  · simp [Value.cells] at hcs
    obtain ⟨rfl, rfl, rfl⟩ := hcs
    simp only [if_true] at hmm
    subst hmm
    have each : ∀ i, i < len → ∃ z : Int × Int, V0 i = .int .i64 z.1 ∧ V1 i = .int .i64 z.2 ∧ (Lit.int .i64 z.1).wf = true ∧ (Lit.int .i64 z.2).wf = true := by
      intro i hi
      obtain ⟨_, _, g0, g1⟩ := hx i (by omega)
      obtain ⟨n0, e0, _, w0⟩ := DataW.trod_int u0 g0
      obtain ⟨n1, e1, _, w1⟩ := DataW.trod_int u1 g1
      injection e0 with e0
      injection e1 with e1
      exact ⟨(n0, n1), e0, e1, w0, w1⟩
    obtain ⟨z, hz⟩ := choose_lt each
    unfold maxLen at hm
    refine ⟨(List.range len).map z, by simp, hl, by omega, fun _ => ⟨ad, rfl, fun i q hq => ?_⟩, fun q hq => ?_⟩
    · rw [List.getElem?_map] at hq
      have hi : i < len := by
        rcases Nat.lt_or_ge i len with h1 | h1
        · exact h1
        · rw [List.getElem?_eq_none (by simpa using h1)] at hq
          cases hq
      rw [List.getElem?_range hi] at hq
      simp only [Option.map_some, Option.some.injEq] at hq
      subst hq
      obtain ⟨g0, g1, _, _⟩ := hx i (by omega)
      rw [(hz i hi).1] at g0
      rw [(hz i hi).2.1] at g1
      exact ⟨g0, g1⟩
    · obtain ⟨i, hi, rfl⟩ := List.mem_map.1 hq
      have := hz i (List.mem_range.1 hi)
      exact this.2.2

/-- They read as whatever struct of two ints. -/
theorem reads_pairs {α : Type} {d : Kd α} (f : Int × Int → α) (hk : ∀ (w : World) (z : Int × Int), d.K w (f z) [.int .i64 z.1, .int .i64 z.2]) (hs : d.sz = 2)
    {a : Option Addr} {len : Nat} {zs : List (Int × Int)} (hl : zs.length = len) (hm : len ≤ 9223372036854775807)
    (hr : 0 < len → ∃ ad, a = some ad ∧ ∀ (i : Nat) (z : Int × Int), zs[i]? = some z → W.cell? (ad.add (i * 2)) = some (.int .i64 z.1) ∧ W.cell? (ad.add (i * 2 + 1)) = some (.int .i64 z.2)) :
    Kd.C d W a len (zs.map f) := by
  refine ⟨by rw [List.length_map]; exact hl, hm, fun hp => ?_⟩
  obtain ⟨ad, e, hc⟩ := hr hp
  refine ⟨ad, e, fun j p hj => ?_⟩
  rw [List.getElem?_map] at hj
  obtain ⟨z, hz, rfl⟩ := Option.map_eq_some_iff.1 hj
  obtain ⟨g0, g1⟩ := hc j z hz
  refine ⟨[.int .i64 z.1, .int .i64 z.2], by rw [hs]; rfl, hk W z, fun i u hu => ?_⟩
  rw [hs]
  match i, hu with
  | 0, hu =>
    injection hu with hu
    subst hu
    exact g0
  | 1, hu =>
    injection hu with hu
    subst hu
    exact g1

/-- A slice of slices of ints. -/
theorem open_rows {t e q : TypeId} {a : Option Addr} {len cap : Nat} {d : DataW H} {ps : List MemPlace}
    (ht : P.underlying t = some (.slice e)) (he : P.underlying e = some (.slice q)) (hq : P.underlying q = some (.int .i64)) (ce : P.cellsOf e = 1) (cq : P.cellsOf q = 1)
    (h : DataW.Trod enc P W base (fun _ => true) held t (.slice a len cap) d ps) :
    ∃ l : List (List Int), l.length = len ∧ len ≤ cap ∧ Kd.C (Kd.slice q (Kd.int .i64)) W a len l ∧ ∀ x ∈ l, x.length ≤ maxLen ∧ ∀ n ∈ x, (Lit.int .i64 n).wf = true := by
  obtain ⟨fuel, hf⟩ := h
  rcases open_int_rows ht he hq ce cq hf with ⟨hcs, _⟩ | ⟨ad, l, c, A, L, C, Z, hcs, _, hl, hm, _, hx⟩
  · simp [Value.cells] at hcs
    obtain ⟨rfl, rfl, rfl⟩ := hcs
    exact ⟨[], rfl, by simp, ⟨rfl, by simp, fun h => absurd h (by simp)⟩, fun x hx => absurd hx (by simp)⟩
  · simp [Value.cells] at hcs
    obtain ⟨rfl, rfl, rfl⟩ := hcs
    unfold maxLen at hm
    refine ⟨(List.range len).map fun r => (Z r).take (L r), by simp, hl, ⟨by simp, by omega, fun _ => ⟨ad, rfl, fun j p hj => ?_⟩⟩, fun x hxm => ?_⟩
    · rw [List.getElem?_map] at hj
      have hi : j < len := by
        rcases Nat.lt_or_ge j len with h1 | h1
        · exact h1
        · rw [List.getElem?_eq_none (by simpa using h1)] at hj
          cases hj
      rw [List.getElem?_range hi] at hj
      simp only [Option.map_some, Option.some.injEq] at hj
      subst hj
      obtain ⟨g, hLC, hCm, hZ, _, hnone, hcell⟩ := hx j (by omega)
      have hlen : ((Z j).take (L j)).length = L j := by rw [List.length_take, hZ]; omega
      refine ⟨[.slice (A j) (L j) (C j)], rfl, ⟨A j, C j, by rw [hlen], by rw [hlen]; exact hLC, ?_⟩, fun i u hu => ?_⟩
      · refine ⟨rfl, by rw [hlen]; unfold maxLen at hCm; omega, fun hp => ?_⟩
        rw [hlen] at hp
        cases hA : A j with
        | none => have := hnone hA; omega
        | some a' =>
          obtain ⟨_, hc⟩ := hcell a' hA
          refine ⟨a', rfl, fun i x hi => ⟨[.int .i64 x], rfl, rfl, fun i' u hu => ?_⟩⟩
          have hi0 : i' = 0 := by
            rcases Nat.eq_zero_or_pos i' with h0 | h0
            · exact h0
            · rw [List.getElem?_eq_none (by exact h0)] at hu
              cases hu
          subst hi0
          injection hu with hu
          subst hu
          have hil : i < L j := by
            have := (List.getElem?_eq_some_iff.1 hi).1
            omega
          show W.cell? (a'.add (i * 1 + 0)) = _
          rw [Nat.mul_one, Nat.add_zero, hc i (by omega)]
          rw [List.getElem?_take_of_lt hil] at hi
          rw [List.getD_eq_getElem?_getD, hi]
          rfl
      · have hi0 : i = 0 := by
          rcases Nat.eq_zero_or_pos i with h0 | h0
          · exact h0
          · rw [List.getElem?_eq_none (by exact h0)] at hu
            cases hu
        subst hi0
        injection hu with hu
        subst hu
        show W.cell? (ad.add (j * 1 + 0)) = _
        rw [Nat.mul_one, Nat.add_zero]
        exact g
    · obtain ⟨r, hr, rfl⟩ := List.mem_map.1 hxm
      have hr := List.mem_range.1 hr
      obtain ⟨_, hLC, hCm, hZ, hwf, _, _⟩ := hx r (by omega)
      refine ⟨?_, fun n hn => hwf n (List.mem_of_mem_take hn)⟩
      rw [List.length_take, hZ]
      omega

/-- Whatever slice is no longer than its weight allows. -/
theorem sized_any {t e : TypeId} {a : Option Addr} {len cap : Nat} {d : DataW H} {ps : List MemPlace} {ts : List TypeId} {ds : List (DataW H)} {j : Nat}
    (hsz : (DataW.weightsEach P ts ds).all (· ≤ reachBytes) = true) (ht : ts[j]? = some t) (hd : ds[j]? = some d) (hu : P.underlying t = some (.slice e)) {B : Nat} (hB : P.bytesOf e = B)
    (h : DataW.Trod enc P W base (fun _ => true) held t (.slice a len cap) d ps) : len * B ≤ 140737488351232 := by
  obtain ⟨fuel, hf⟩ := h
  rcases open_slice hu hf with ⟨hcs, _⟩ | ⟨ad, l, c, m, n, D, Pl, hcs, _, hl, _, hmm, hx, _⟩
  · simp [Value.cells] at hcs
    obtain ⟨rfl, rfl, rfl⟩ := hcs
    simp
  · simp [Value.cells] at hcs
    obtain ⟨rfl, rfl, rfl⟩ := hcs
    obtain ⟨hx, _⟩ := Prod.mk.inj hx
    subst hx
    have z := sized_slice hsz ht hd hu
    rw [hB] at z
    rw [List.length_map, List.length_range] at z
    exact Nat.le_trans (Nat.mul_le_mul_right _ (Nat.le_add_right _ _)) z
end
end Go.Proofs.Ytdaodlhcedjfoaa.XOpen
