/- slices.IndexFunc, ContainsFunc and DeleteFunc at []int, for whatever function value that tells a Bool of each number and leaves what lay there. Conditions: told in each theorem. -/
import Derived.Test.YtgoldeagghadhaaProg
import Derived.Below
import Derived.Deep.Draws
import Derived.Deep.AppendLies
import Derived.Maps.AppendAt
import Derived.OwnWalk
import Derived.Laws.BytesArg
import Derived.Laws.MakeOwn
import Derived.Laws.OwnMore
import Derived.Deep.OwnRows
import Derived.Tactics
import Derived.Lib.ConvBytes
import Derived.Laws.Slices
import Derived.WalkKit
import Derived.KernelRfl
import Derived.RowKit3
import Derived.Deep.LoopGhost
import Derived.Deep.QuietTactic
import Derived.BigQuiet
import Derived.WideLaws
import Derived.Deep.DeepCutAuto
import Derived.Deep.CutBlock
import Derived.Deep.RegionHeld3
import Derived.Laws.Rows
import Derived.Lib.AppendStr
import Derived.ArgAppend
import Derived.Laws.IdiomCopy
import Derived.OrdersHeld
import Derived.Laws.BitsLemmas
import Derived.RowKit
import Derived.Test.YtgoldeagghadhaaWWords
import Derived.Test.YtgoldeagghadhaaWLast
import Derived.Test.YtgoldeagghadhaaWTab
import Derived.Test.YtgoldeagghadhaaWFour
import Derived.Test.YtgoldeagghadhaaWQPut
import Derived.Test.YtgoldeagghadhaaWApart
import Derived.Test.YtgoldeagghadhaaWArr
import Derived.Test.YtgoldeagghadhaaWZeros
import Derived.Test.YtgoldeagghadhaaWFoot
import Derived.Test.YtgoldeagghadhaaWKept
import Derived.Test.YtgoldeagghadhaaWShare
import Derived.Test.YtgoldeagghadhaaWN
import Derived.Test.YtgoldeagghadhaaWFootNe
import Derived.Test.YtgoldeagghadhaaWAt
import Derived.Test.YtgoldeagghadhaaWEqStruct
import Derived.Test.YtgoldeagghadhaaWRepsOne
import Derived.Test.YtgoldeagghadhaaWInv
import Derived.Test.YtgoldeagghadhaaWInvWords
import Derived.Test.YtgoldeagghadhaaWGuard
import Derived.Test.YtgoldeagghadhaaWNEv
import Derived.Test.YtgoldeagghadhaaWMore
import Derived.Shelf.Abstract
import Derived.Lib.SliceRun
namespace Go.Proofs.Ytgoldeagghadhaa.P
open Go.RowKit Go.Proofs.YtgoldeagghadhaaW.PrintWords Go.Proofs.YtgoldeagghadhaaW.PrintLast Go.Proofs.YtgoldeagghadhaaW.PrintMore
set_option linter.unusedVariables false
set_option linter.unusedSimpArgs false

/-- The first number that p takes: its index, -1 for none. -/
def idxP (p : Int → Bool) : List Int → Int → Int
  | [], _ => -1
  | x :: s, i => if p x = true then i else idxP p s (i + 1)
theorem idxP_spec (p : Int → Bool) : ∀ (l : List Int) (i : Nat), (idxP p l i = -1 ∧ ∀ x ∈ l, p x = false) ∨ ∃ k, k < l.length ∧ idxP p l i = ((i + k : Nat) : Int) ∧ (∀ x, l[k]? = some x → p x = true) ∧ ∀ x ∈ l.take k, p x = false
  | [], i => .inl ⟨rfl, fun x hx => absurd hx (by simp)⟩
  | y :: s, i => by
    cases h : p y with
    | true => exact .inr ⟨0, by simp, by simp [idxP, h], fun x hx => by simp at hx; rw [← hx]; exact h, by simp⟩
    | false =>
      rcases idxP_spec p s (i + 1) with ⟨e, ha⟩ | ⟨k, hk, e, ht, ha⟩
      · refine .inl ⟨by simpa [idxP, h] using e, fun x hx => ?_⟩
        rcases List.mem_cons.1 hx with rfl | hx
        · exact h
        · exact ha x hx
      · refine .inr ⟨k + 1, by simpa using hk, ?_, fun x hx => ht x (by simpa using hx), fun x hx => ?_⟩
        · have : idxP p (y :: s) i = idxP p s ((i + 1 : Nat) : Int) := by simp [idxP, h]
          rw [this, e]
          congr 1
          omega
        · rw [List.take_succ_cons] at hx
          rcases List.mem_cons.1 hx with rfl | hx
          · exact h
          · exact ha x hx

set_option maxRecDepth 100000 in
theorem idxFunc (g : Nat) (lb : Array Value) (eg : ∀ args w, (callFunc g args).run Try.prog w = .ok (.enter g args) w) (p : Int → Bool) (A0 : Option Addr) (c0 : Nat) (l0 : List Int) (w : World)
    (hp : ∀ x ∈ l0, ∀ W, Below w.heap.size w W → Calls Try.prog g (#[.int .i64 x] ++ lb) W fun e w' => e = .returned (.bool (p x)) ∧ Below W.heap.size W w')
    (hr0 : Kd.C (Kd.int .i64) w A0 l0.length l0) (hc0 : l0.length ≤ c0) :
    Calls Try.prog 106 #[.slice A0 l0.length c0, .func (.func g) #[] lb] w fun e w' => e = .returned (.int .i64 (idxP p l0 0)) ∧ Below w.heap.size w w' := by
  have hmax := Kd.C_max hr0
  have HR0 := Aside0.mk hr0
  have HP := Aside0.mk hp
  clear hr0 hp
  go_enter Try.func106, Try.ntmps106
  go_wp2
  go_loopg [5, 8] l0.length (fun gg _ s8 wr => ∃ kk : Nat, kk ≤ l0.length ∧ l0.length - kk ≤ gg ∧ s8 = .int .i64 kk ∧ Aside0 (Below w.heap.size w wr) ∧ Aside0 (idxP p (l0.drop kk) kk = idxP p l0 0))
  case atStart => exact ⟨0, Nat.zero_le _, by omega, rfl, ⟨Below.refl _ w⟩, ⟨rfl⟩⟩
  case round =>
    obtain ⟨kk, hkk, hg, rfl, BW, A⟩ := hrel
    by_cases hlt : kk < l0.length
    · have hltz : (kk : Int) < (l0.length : Int) := by omega
      obtain ⟨ad, e0, hx0⟩ := Kd.at_int HR0.out (kk : Int) (by omega) hltz
      rw [Int.toNat_natCast] at hx0
      have hx : l0[kk]? = some (rd l0 (kk : Int)) := by
        unfold rd
        rw [Int.toNat_natCast, List.getD_eq_getElem?_getD, List.getElem?_eq_getElem hlt]
        rfl
      generalize rd l0 (kk : Int) = x at hx0 hx
      have hmem : x ∈ l0 := List.mem_of_getElem? hx
      have hd : l0.drop kk = x :: l0.drop (kk + 1) := by
        rw [List.drop_eq_getElem_cons hlt]
        rw [List.getElem?_eq_getElem hlt] at hx
        injection hx with hx
        rw [hx]
      have h0 := A.out
      rw [hd] at h0
      simp only [idxP] at h0
      have H1 := Aside0.mk h0
      have hcall := HP.out x hmem wr BW.out
      clear h0 hd hx A hmem
      cases e0
      replace hx0 := (BW.out.cell (World.block_lt_of_cell? w _ hx0)).trans hx0
      cases hq : p x with
      | true =>
        rw [hq] at hcall
        have hres := H1.out
        rw [if_pos hq] at hres
        have HRES := Aside0.mk hres
        clear hres H1 hq
        go_wp2_with (go_at_fn g; refine hcall.mono ?_; rintro e w' ⟨rfl, hb'⟩)
        go_ret
        exact ⟨by rw [← HRES.out]; rfl, below_then BW.out BW.out.size hb'⟩
      | false =>
        rw [hq] at hcall
        have hres := H1.out
        rw [if_neg (by rw [hq]; simp)] at hres
        have HRES := Aside0.mk hres
        clear hres H1 hq
        go_wp2_with (go_at_fn g; refine hcall.mono ?_; rintro e w' ⟨rfl, hb'⟩)
        go_roundg (l0.length - (kk + 1))
        case measure => omega
        case rel => exact ⟨kk + 1, by omega, by omega, by go_num, ⟨below_then BW.out BW.out.size hb'⟩, HRES⟩
    · have hltz : ¬ (kk : Int) < (l0.length : Int) := by omega
      obtain rfl : kk = l0.length := by omega
      have h0 := A.out
      rw [List.drop_length] at h0
      simp only [idxP] at h0
      have HRES := Aside0.mk h0
      clear A h0
      go_wp2
      go_ret
      exact ⟨by rw [← HRES.out]; rfl, BW.out⟩

set_option maxRecDepth 100000 in
theorem conFunc (g : Nat) (lb : Array Value) (eg : ∀ args w, (callFunc g args).run Try.prog w = .ok (.enter g args) w) (p : Int → Bool) (A0 : Option Addr) (c0 : Nat) (l0 : List Int) (w : World)
    (hp : ∀ x ∈ l0, ∀ W, Below w.heap.size w W → Calls Try.prog g (#[.int .i64 x] ++ lb) W fun e w' => e = .returned (.bool (p x)) ∧ Below W.heap.size W w')
    (hr0 : Kd.C (Kd.int .i64) w A0 l0.length l0) (hc0 : l0.length ≤ c0) :
    Calls Try.prog 88 #[.slice A0 l0.length c0, .func (.func g) #[] lb] w fun e w' => e = .returned (.bool (l0.any p)) ∧ Below w.heap.size w w' := by
  have hcall := idxFunc g lb eg p A0 c0 l0 w hp hr0 hc0
  have hany : decide (0 ≤ idxP p l0 0) = l0.any p := by
    rcases idxP_spec p l0 0 with ⟨e, ha⟩ | ⟨k, hk, e, ht, ha⟩
    · have e' : idxP p l0 0 = -1 := e
      rw [e']
      refine (Bool.eq_false_iff.2 fun c => ?_).symm
      obtain ⟨x, hx, h⟩ := List.any_eq_true.1 c
      rw [ha x hx] at h
      cases h
    · have e' : idxP p l0 0 = (k : Int) := by rw [← Nat.zero_add k]; exact e
      rw [e', decide_eq_true (by omega)]
      exact (List.any_eq_true.2 ⟨l0[k], List.getElem_mem _, ht _ (List.getElem?_eq_getElem hk)⟩).symm
  rw [← hany]
  clear hp hr0 hany
  go_enter Try.func88, Try.ntmps88
  go_wp2_with (go_at_call 106; refine hcall.mono ?_; rintro e w' ⟨rfl, hb'⟩)
  go_ret
  exact ⟨rfl, hb'⟩

theorem keepBut_below {w W W2 : World} {g : Nat} (h : KeepBut w W g none) (hb : Below W.heap.size W W2) : KeepBut w W2 g none :=
  ⟨Nat.le_trans h.1 hb.size, fun i hi hne hr => (hb.block i (Nat.lt_of_lt_of_le hi h.1)).trans (h.2 i hi hne hr)⟩
theorem R_cleared {W : World} {base gb n cap i : Nat} {ok : Nat → Prop} {dk : List Int} (h : Kd.R (Kd.int .i64) 3 W base ok (.slice (some ⟨gb, 0, none⟩) n cap) dk) (hi : i ≤ dk.length) (m : Nat) (hm : i + m = dk.length) :
    Kd.R (Kd.int .i64) 3 (W.setCells gb i (List.replicate m (.int .i64 0))) base ok (.slice (some ⟨gb, 0, none⟩) i cap) (dk.take i) := by
  have hown := Kd.own_of_R h
  have hn := (Kd.R_reads' h).1
  rcases hown.2 with ⟨h0, _⟩ | ⟨g', cap', cur, e, hg, hh, h1, h2, h3, h4⟩
  · cases h0
  · injection e with ea _ ec
    injection ea with ea
    injection ea with ea
    subst ea
    subst ec
    rw [Nat.mul_one] at h3 h4
    obtain ⟨cur', q1, q2, q3⟩ := setCells_row (List.replicate m (Value.int .i64 0)) i W cur hh (by rw [List.length_replicate]; omega)
    have hlen : (dk.take i).length = i := by rw [List.length_take]; omega
    refine Kd.R_of_own ?_ (fun k hk => ?_)
    · rw [hlen]
      refine ⟨by unfold encs; rw [List.length_map, List.length_take]; omega, .inr ⟨gb, cap, cur', rfl, hg, q1, by omega, h2, by rw [q2, h3, Nat.mul_one], ?_⟩⟩
      rw [Nat.mul_one, q3, List.append_assoc, List.take_append_of_le_length (by rw [List.length_take, Array.length_toList]; omega), List.take_take, Nat.min_self]
      have : cur.toList.take i = (cur.toList.take dk.length).take i := by rw [List.take_take, Nat.min_eq_left hi]
      rw [this, h4]
      unfold encs
      rw [← List.map_take]
    · exact h.1 k hk

set_option maxRecDepth 100000 in
theorem delFunc (g : Nat) (lb : Array Value) (eg : ∀ args w, (callFunc g args).run Try.prog w = .ok (.enter g args) w) (p : Int → Bool) (w0 w : World) (P0_ : Nat → Prop) (u : Value) (l : List Int)
    (hp : ∀ x ∈ l, ∀ W gb, u.ownBlock = some gb → KeepBut w W gb none → Calls Try.prog g (#[.int .i64 x] ++ lb) W fun e w' => e = .returned (.bool (p x)) ∧ Below W.heap.size W w')
    (hB : Below w0.heap.size w0 w) (ho : Kd.R (Kd.int .i64) 3 w w0.heap.size P0_ u l) :
    Calls Try.prog 71 #[u, .func (.func g) #[] lb] w fun e w' => ∃ v : Value, e = .returned v ∧ Kd.R (Kd.int .i64) 3 w' w0.heap.size P0_ v (l.filter fun x => !p x) ∧ Below w0.heap.size w0 w' := by
  have hown := Kd.own_of_R ho
  rcases hown.2 with ⟨rfl, h0⟩ | ⟨gb, cap, cur, rfl, hg, hh, h1, h2, h3, h4⟩
  · obtain rfl : l = [] := List.eq_nil_of_length_eq_zero (by omega)
    have hIF := idxFunc g lb eg p none 0 [] w (fun x hx => absurd hx (by simp)) (Kd.C_nil _ w) (by simp)
    have HO := Aside0.mk ho
    have HB := Aside0.mk hB
    clear ho hB hp hown
    go_enter Try.func71, Try.ntmps71
    go_wp2_with (go_at_call 106; refine hIF.mono ?_; rintro e w1 ⟨rfl, hb1⟩)
    go_ret
    exact ⟨_, rfl, Kd.R_below HO.out hb1, below_then HB.out HB.out.size hb1⟩
  · obtain ⟨_, hle, hC⟩ := Kd.R_reads' ho
    have hIF := idxFunc g lb eg p (some ⟨gb, 0, none⟩) cap l w (fun x hx W hb => hp x hx W gb rfl (KeepBut.of_below hb _ _)) hC hle
    have hmax : l.length ≤ 9223372036854775807 := Kd.C_max hC
    have hcapm : cap ≤ 9223372036854775807 := h2
    rcases idxP_spec p l 0 with ⟨e1, hall⟩ | ⟨k0, hk0, e1, ht, hall⟩
    · have e1' : idxP p l 0 = -1 := e1
      rw [e1'] at hIF
      have hfil : (l.filter fun x => !p x) = l := List.filter_eq_self.2 fun x hx => by rw [hall x hx]; rfl
      have HO := Aside0.mk ho
      have HB := Aside0.mk hB
      have HF := Aside0.mk hfil
      clear ho hB hp hown hfil hall e1 e1' hC hh h3 h4
      go_enter Try.func71, Try.ntmps71
      go_wp2_with (go_at_call 106; refine hIF.mono ?_; rintro e w1 ⟨rfl, hb1⟩)
      go_ret
      exact ⟨_, rfl, by rw [HF.out]; exact Kd.R_below HO.out hb1, below_then HB.out HB.out.size hb1⟩
    · have e1' : idxP p l 0 = (k0 : Int) := by rw [← Nat.zero_add k0]; exact e1
      rw [e1'] at hIF
      have hne1 : ((k0 : Int) == -1) = false := beq_eq_false_iff_ne.2 (by omega)
      have HO := Aside0.mk ho
      have HB := Aside0.mk hB
      have HP := Aside0.mk hp
      have HST := Aside0.mk (show l.take k0 = (l.take (k0 + 1)).filter fun x => !p x from by
        rw [List.take_add_one, List.filter_append]
        have f1 : ((l.take k0).filter fun x => !p x) = l.take k0 := List.filter_eq_self.2 fun x hx => by rw [hall x hx]; rfl
        have f2 : (l[k0]?.toList.filter fun x => !p x) = [] := by
          have hx : l[k0]? = some (l[k0]'hk0) := List.getElem?_eq_getElem hk0
          have := ht _ hx
          rw [hx]
          simp [this]
        rw [f1, f2, List.append_nil])
      have HG := Aside0.mk hg
      clear ho hB hp hown hall ht e1 e1' hC hh h3 h4 hg
      go_enter Try.func71, Try.ntmps71
      go_wp2_with (go_at_call 106; refine hIF.mono ?_; rintro e w1 ⟨rfl, hb1⟩)
      go_loopg [5, 6, 7] l.length (fun gg s5 s6 _ wr => ∃ (i j : Nat) (dk : List Int), s5 = .int .i64 i ∧ s6 = .int .i64 j ∧ j ≤ l.length ∧ l.length - j ≤ gg ∧ i < j ∧ dk.length = l.length ∧ Aside0 (dk.take i = (l.take j).filter fun x => !p x) ∧ Aside0 (dk.drop j = l.drop j) ∧ Aside0 (Kd.R (Kd.int .i64) 3 wr w0.heap.size P0_ (.slice (some ⟨gb, 0, none⟩) l.length cap) dk) ∧ Aside0 (KeepBut w wr gb none) ∧ Aside0 (Below w0.heap.size w0 wr))
      case atStart => exact ⟨k0, k0 + 1, l, rfl, by go_num, by omega, by omega, by omega, rfl, HST, ⟨rfl⟩, ⟨Kd.R_below HO.out hb1⟩, ⟨KeepBut.of_below hb1 _ _⟩, ⟨below_then HB.out HB.out.size hb1⟩⟩
      case round =>
        obtain ⟨i, j, dk, rfl, rfl, hjl, hgg, hij, hdl, HT, HD, HR, HK, HBB⟩ := hrel
        by_cases hlt : j < l.length
        · have hltz : (j : Int) < (l.length : Int) := by omega
          obtain ⟨cj, _⟩ := Kd.R_celln 0 HR.out (j : Int) (by omega) (by omega)
          rw [Int.toNat_natCast] at cj
          have hx : dk[j]? = some (rdOf 0 dk (j : Int)) := by
            unfold rdOf
            rw [Int.toNat_natCast, List.getD_eq_getElem?_getD, List.getElem?_eq_getElem (show j < dk.length by omega)]
            rfl
          generalize rdOf 0 dk (j : Int) = x at cj hx
          have hxl : l[j]? = some x := by
            have e1 : dk[j]? = (dk.drop j)[0]? := by rw [List.getElem?_drop]; rfl
            have e2 : l[j]? = (l.drop j)[0]? := by rw [List.getElem?_drop]; rfl
            rw [e2, ← HD.out, ← e1, hx]
          have hcall := HP.out x (List.mem_of_getElem? hxl) wr gb rfl HK.out
          have HXL := Aside0.mk hxl
          clear hx hxl
          cases hq : p x with
          | false =>
            rw [hq] at hcall
            go_wp2_with (go_at_fn g; refine hcall.mono ?_; rintro e w2 ⟨rfl, hb2⟩; have HR2 := Aside0.mk (Kd.R_below HR.out hb2); have HB2 := Aside0.mk hb2; clear hb2; obtain ⟨ci, fi⟩ := Kd.R_celln 0 HR2.out (i : Int) (by omega) (by omega); rw [Int.toNat_natCast] at ci fi)
            go_roundg (l.length - (j + 1))
            case measure => omega
            case rel =>
              refine ⟨i + 1, j + 1, dk.set i x, by go_num, by go_num, by omega, Nat.le_refl _, by omega, by rw [List.length_set]; exact hdl, ⟨?_⟩, ⟨?_⟩, ⟨?_⟩, ⟨?_⟩, ⟨?_⟩⟩
              · rw [List.take_add_one, List.take_set_of_le (by omega), HT.out, List.getElem?_set_self (by omega), List.take_add_one, List.filter_append, HXL.out]
                simp [hq]
              · rw [List.drop_set_of_lt (by omega), ← List.drop_drop, ← List.drop_drop, HD.out]
              · have := Kd.R_putn HR2.out (i : Int) x
                rw [Int.toNat_natCast] at this
                exact this
              · exact (keepBut_below HK.out HB2.out).set_ _ _
              · exact (below_then HBB.out HBB.out.size HB2.out).setCell HG.out _
          | true =>
            rw [hq] at hcall
            go_wp2_with (go_at_fn g; refine hcall.mono ?_; rintro e w2 ⟨rfl, hb2⟩)
            go_roundg (l.length - (j + 1))
            case measure => omega
            case rel =>
              refine ⟨i, j + 1, dk, rfl, by go_num, by omega, Nat.le_refl _, by omega, hdl, ⟨?_⟩, ⟨?_⟩, ⟨Kd.R_below HR.out hb2⟩, ⟨keepBut_below HK.out hb2⟩, ⟨below_then HBB.out HBB.out.size hb2⟩⟩
              · rw [HT.out, List.take_add_one, List.filter_append, HXL.out]
                simp [hq]
              · rw [← List.drop_drop, ← List.drop_drop, HD.out]
        · obtain rfl : j = l.length := by omega
          have hltz : ¬ (l.length : Int) < (l.length : Int) := by omega
          have hcells : ∀ m, m < l.length → (∃ v, wr.cell? ⟨gb, m, none⟩ = some v) ∧ wr.frozen? ⟨gb, m, none⟩ = false := fun m hm => by
            obtain ⟨c1, c2⟩ := Kd.R_celln 0 HR.out (m : Int) (by omega) (by omega)
            rw [Int.toNat_natCast] at c1 c2
            exact ⟨⟨_, c1⟩, c2⟩
          have hcl : ∀ ty, (Builtin.clear_ #[28] ty #[.slice (some ⟨gb, i, none⟩) (l.length - i) (cap - i)]).run Try.prog wr = .ok (.tuple #[]) (wr.setCells gb i (List.replicate (l.length - i) (.int .i64 0))) :=
            fun ty => Lib.run_clear_slice wr 28 3 ty (.int .i64 0) (by kernel_rfl) (fun _ => by kernel_rfl) rfl rfl gb i _ _ (by omega) (fun m hm => by obtain ⟨⟨v, hv⟩, _⟩ := hcells (i + m) (by omega); rw [hv]; rfl) (fun m hm => (hcells (i + m) (by omega)).2)
          clear hcells
          go_wp2
          go_ret
          have hfin : dk.take i = l.filter fun x => !p x := by rw [HT.out, List.take_length]
          refine ⟨_, rfl, ?_, ?_⟩
          · rw [← hfin]
            exact R_cleared HR.out (by omega) _ (by omega)
          · obtain ⟨s1, s2, s3, s4⟩ := setCells_same gb (List.replicate (l.length - i) (Value.int .i64 0)) i wr
            exact ⟨s1.trans HBB.out.os, s2.trans HBB.out.tape, s3.trans HBB.out.output, by rw [s4]; exact HBB.out.size, fun k hk => (setCells_far _ _ k (by have := HG.out; omega)).trans (HBB.out.block k hk)⟩

end Go.Proofs.Ytgoldeagghadhaa.P
