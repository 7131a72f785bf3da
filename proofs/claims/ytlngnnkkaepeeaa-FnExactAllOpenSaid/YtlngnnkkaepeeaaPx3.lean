-- Printed for this claim by a program of this session, out of the translation. Lean checks it.
import Derived.Test.YtlngnnkkaepeeaaPx0
import Derived.Test.YtlngnnkkaepeeaaPx2
namespace Go.Proofs.Ytlngnnkkaepeeaa.P
open Go.RowKit Go.Proofs.YtlngnnkkaepeeaaW.PrintWords Go.Proofs.YtlngnnkkaepeeaaW.PrintLast Go.Proofs.YtlngnnkkaepeeaaW.PrintMore
attribute [local go_sem] max2_int min2_int max_two min_two max_three min_three max_four min_four   -- for this text's walks alone
set_option linter.unusedVariables false
set_option linter.unusedSimpArgs false

/-! ### spec_reAll: function 63, by this session's hand -/
def spec_reLook.each (g : List Int → List (List Int) → Option (List (List Int))) (k : Nat) (b : List Int) : Nat → Int → List (List Int) → Option (List (List Int))
  | 0, _, acc => some acc
  | c + 1, x, acc => (spec_reClosing.f k (b ++ [x])).bind fun t => if t = 0 then (g (b ++ [x]) acc).bind fun a => spec_reLook.each g k b c (x + 1) a else spec_reLook.each g k b c (x + 1) acc
def spec_reLook.frm (w : Int) (m : Nat) (last : Int) : Int := if m = 0 then (if last + 1 > w then last + 1 else w) else last + 1
def spec_reLook.go (k : Nat) (w : Int) : Nat → List Int → List (List Int) → Option (List (List Int))
  | 0, b, acc => if rd b ((b.length : Int) - 1) = w then (if acc.length < 5864062014805 then some (acc ++ [b]) else none) else some acc
  | m + 1, b, acc => spec_reLook.each (spec_reLook.go k w m) k b (w + 1 - m - spec_reLook.frm w m (rd b ((b.length : Int) - 1))).toNat (spec_reLook.frm w m (rd b ((b.length : Int) - 1))) acc
def spec_reLook.Post (B : Nat) (w0 W : World) (P : Nat → Prop) (r : List (List Int)) (W' : World) : Prop :=
  ∃ v', W'.heap[B]? = some (.cells #[v'] 51 (0, 0)) ∧ Kd.S (Kd.slice 3 (Kd.int .i64)) 24 W' (B + 1) (fun k => P k ∨ W.heap.size ≤ k) v' r ∧ Kept W W' (fun k => P k ∨ k = B) ∧ Below B w0 W'
theorem spec_reLook.info : (Try.prog.info? 24).map (fun i => (i.zero, i.size, i.bytes)) = some (some (.slice none 0 0), 1, 24) := by kernel_rfl
set_option maxHeartbeats 8000000 in
set_option maxRecDepth 100000 in
theorem spec_reLook.leaf (k : Nat) (w : Int) (hw : 0 ≤ w ∧ w ≤ 1000) (B : Nat) (w0 : World) (b : List Int) (acc r : List (List Int)) (P : Nat → Prop) (A : Option Addr) (c : Nat) (v : Value) (W : World)
    (hl : 1 ≤ b.length ∧ b.length ≤ 100) (hR : Kd.C (Kd.int .i64) W A b.length b) (hc : b.length ≤ c)
    (hS : Kd.S (Kd.slice 3 (Kd.int .i64)) 24 W (B + 1) P v acc) (hcell : W.heap[B]? = some (.cells #[v] 51 (0, 0))) (hB : Below B w0 W) (h : spec_reLook.go k w 0 b acc = some r) :
    Calls Try.prog 84 #[.slice A b.length c, .int .i64 0, .int .i64 w, .pointer (some ⟨B, 0, none⟩)] W fun e W' => e = .returned (.tuple #[]) ∧ spec_reLook.Post B w0 W P r W' := by
  unfold spec_reLook.go at h
  have HR := Aside0.mk hR
  have HC := Aside0.mk hc
  have HS := Aside0.mk hS
  have HB := Aside0.mk hB
  have HH := Aside0.mk hcell
  obtain ⟨ad, e0, hx⟩ := Kd.at_int hR ((b.length : Int) - 1) (by omega) (by omega)
  have h1 : (0 : Int) ≤ (b.length : Int) - 1 := by omega
  have h2 : (b.length : Int) - 1 < (b.length : Int) := by omega
  have hBs : B < W.heap.size := blk_lt hcell
  subst e0
  rw [show ((b.length : Int) - 1).toNat = b.length - 1 by omega] at hx
  generalize rd b ((b.length : Int) - 1) = last at *
  clear hR hc hS hB hcell
  by_cases c1 : last = w
  · rw [if_pos c1] at h
    have c1b : (last == w) = true := beq_iff_eq.2 c1
    by_cases c2 : acc.length < 5864062014805
    case neg => rw [if_neg c2] at h; cases h
    rw [if_pos c2] at h
    injection h with h
    subst h
    have LM := Aside0.mk c2
    clear c1 c2
    have hcall : ∀ W', Below W.heap.size W W' → Calls Try.prog 104 #[.slice (some ad) b.length c] W' fun e w' => ∃ v0_ : Value, e = .returned v0_ ∧ Kd.R (Kd.int .i64) 3 w' W'.heap.size (fun _ => True) v0_ b ∧ Below W'.heap.size W' w' := fun W' hb => spec_l1Own.calls (some ad) c b b W' (Kd.C_below HR.out hb) HC.out (by unfold spec_l1Own.f; simp only [Option.bind_some, List.nil_append, List.length_nil]; rw [if_pos (by omega)])
    have HCALL := Aside0.mk hcall
    clear hcall
    have hcell : ∀ W', Below W.heap.size W W' → W'.cell? ⟨B, 0, none⟩ = some v := fun W' hb => by
      have := (hb.block B (blk_lt HH.out)).trans HH.out
      simp [World.cell?, this]
    have hcell0 := hcell _ (Below.refl _ _)
    go_enter Try.func84, Try.ntmps84
    go_wp2_with fail
    go_region_law (first
      | (go_simp; go_at_call 104; (with_reducible refine (HCALL.out W.drew (pw_below_drewN (Below.refl _ _) 1)).mono ?_); rintro e w1 ⟨v1, rfl, ho, hb⟩; obtain ⟨A1, c1, rfl⟩ := Kd.R_slice ho; have hbw := below_step (pw_below_drewN (Below.refl _ _) 1) hb; have hcell1 := hcell w1 hbw; have hcella := fun o => hcell (w1.alloc o) (below_alloc hbw o); have HO := Aside0.mk ho; have HB1 := Aside0.mk hbw; clear ho hb hbw)
      | (refine Kd.S_append_step (Kd.slice 3 (Kd.int .i64)) (w0 := w1) (B + 1) ?q1 (.tmp 24) (.tmp 27) 51 24 (.slice none 0 0) 24 ?q2 Try.underlying51 spec_reLook.info ?q3 ?q4 ?q5 v acc b [.slice A1 b.length c1] (fun k => P k ∨ W.heap.size ≤ k) (fun k => W.heap.size ≤ k) ?q6 ?q7 ?q8 ?q9 ?q10 ?q11 ?q12 ?q13 ?q14 ?_
         case q1 => rfl
         case q2 => rfl
         case q3 => rfl
         case q4 => decide
         case q5 => omega
         case q6 => rfl
         case q7 => rfl
         case q8 => exact Kd.M_row (Kd.R_mono (Kd.R_lower (Kd.R_bound HO.out) hBs) fun k hk => hk.2.1)
         case q9 => exact fun k hk => ⟨.inr hk, fun e => by have := Kd.S_lt HS.out k e.symm; omega⟩
         case q10 => exact fun k hk => .inr (Nat.le_trans HB1.out.size hk)
         case q11 => exact Kd.S_mono (Kd.S_below (Kd.S_bound HS.out) HB1.out) fun k hk => ⟨.inl hk.1, fun h => by have := hk.2.2.1; omega⟩
         case q12 => exact Below.refl _ _
         case q13 => exact Nat.le_trans hBs HB1.out.size
         case q14 => have := LM.out; omega
         intro v2 w2 ho2 hb2 hg2 hat2
         obtain ⟨A2, c2, e2⟩ := Kd.S_slice ho2
         rw [List.length_append, List.length_singleton] at e2
         subst e2
         have hblk2 := (hb2.block B (Nat.lt_succ_self B)).trans ((HB1.out.block B hBs).trans HH.out)
         have hcell2 := cell_of_one hblk2
         have hfree2 := free_of_one hblk2
         have HO2 := Aside0.mk ho2
         have HB2 := Aside0.mk hb2
         have HG2 := Aside0.mk hg2
         have HK2 := Aside0.mk hblk2
         clear ho2 hb2 hg2 hat2 hblk2))
    all_goals
      go_wp2_with fail
      (try simp only [Exit.inBlock, Exit.then])
      refine bodyPost_ret (results_none rfl _ _ _) rfl ?_
      exact ⟨rfl, _, one_setCell HK2.out, Kd.S_set HO2.out HK2.out (by decide) 0 _, (Kept.of_grown HG2.out (Kept.of_below HB1.out _) fun k hk => .inl (.inl ((Kd.S_R HS.out).1 k hk))).setCell (.inl (.inr rfl)) _, (((HB.out.trans (HB1.out.mono (Nat.le_of_lt hBs))).trans (HB2.out.mono (Nat.le_succ _))).setCell (Nat.le_refl _) _)⟩
  · rw [if_neg c1] at h
    injection h with h
    subst h
    have c1b : (last == w) = false := beq_eq_false_iff_ne.2 c1
    clear c1
    go_enter Try.func84, Try.ntmps84
    go_wp2_with fail
    (try simp only [Exit.inBlock, Exit.then])
    refine bodyPost_ret (results_none rfl _ _ _) rfl ?_
    exact ⟨rfl, v, HH.out, Kd.S_mono HS.out fun k hk => .inl hk, Kept.refl _ _, HB.out⟩
theorem spec_reLook.own_eq (b : List Int) (h : b.length ≤ 100) : spec_l1Own.f b = some b := by
  unfold spec_l1Own.f
  simp only [Option.bind_some, List.nil_append, List.length_nil]
  rw [if_pos (by omega)]
set_option maxHeartbeats 16000000 in
set_option maxRecDepth 100000 in
theorem spec_reLook.calls (k : Nat) (w : Int) (hw : 0 ≤ w ∧ w ≤ 1000) (B : Nat) (w0 : World) : ∀ (m : Nat) (b : List Int) (acc r : List (List Int)) (P okb : Nat → Prop) (A : Option Addr) (c : Nat) (v : Value) (W : World),
    (1 ≤ b.length ∧ b.length + m ≤ 100) → (∀ x ∈ b, 0 ≤ x ∧ x ≤ 2000) → Kd.R (Kd.int .i64) 3 W (B + 1) okb (.slice A b.length c) b → (∀ k, okb k → ¬ P k) →
    Kd.S (Kd.slice 3 (Kd.int .i64)) 24 W (B + 1) P v acc → W.heap[B]? = some (.cells #[v] 51 (0, 0)) → Below B w0 W → spec_reLook.go k w m b acc = some r →
    Calls Try.prog 84 #[.slice A b.length c, .int .i64 m, .int .i64 w, .pointer (some ⟨B, 0, none⟩)] W fun e W' => e = .returned (.tuple #[]) ∧ spec_reLook.Post B w0 W P r W' := by
  intro m
  induction m with
  | zero =>
    intro b acc r P okb A c v W hl hx hR hd hS hcell hB h
    obtain ⟨_, hc, hC⟩ := Kd.R_reads' hR
    exact spec_reLook.leaf k w hw B w0 b acc r P A c v W ⟨hl.1, hl.2⟩ hC hc hS hcell hB h
  | succ m ih =>
    intro b acc r P okb A c v W hl hx hR hd hS hcell hB h
    have hBs : B < W.heap.size := blk_lt hcell
    obtain ⟨_, hc, hC⟩ := Kd.R_reads' hR
    have hRb := Kd.R_bound hR
    obtain ⟨ad, e0, hcx⟩ := Kd.at_int hC ((b.length : Int) - 1) (by omega) (by omega)
    have hlast : 0 ≤ rd b ((b.length : Int) - 1) ∧ rd b ((b.length : Int) - 1) ≤ 2000 := by
      refine hx _ ?_
      unfold rd
      rw [List.getD_eq_getElem?_getD, show ((b.length : Int) - 1).toNat = b.length - 1 by omega, List.getElem?_eq_getElem (by omega)]
      exact List.getElem_mem _
    unfold spec_reLook.go at h
    rw [show ((b.length : Int) - 1).toNat = b.length - 1 by omega] at hcx
    generalize rd b ((b.length : Int) - 1) = last at *
    subst e0
    have h1 : (0 : Int) ≤ (b.length : Int) - 1 := by omega
    have h2 : (b.length : Int) - 1 < (b.length : Int) := by omega
    have hF : 0 ≤ spec_reLook.frm w m last ∧ spec_reLook.frm w m last ≤ 3000 := by unfold spec_reLook.frm; split <;> (try split) <;> omega
    have HE : ∃ F, spec_reLook.frm w m last = F := ⟨_, rfl⟩
    obtain ⟨F, hFe⟩ := HE
    rw [hFe] at h hF
    have HX := Aside0.mk hx
    have HRB := Aside0.mk hRb
    have HD := Aside0.mk hd
    have HS := Aside0.mk hS
    have HB := Aside0.mk hB
    have HH := Aside0.mk hcell
    have HG := Aside0.mk h
    have HC := Aside0.mk hc
    have IH := Aside0.mk ih
    have HKEEP : Aside0 (∀ W', Kept W W' (fun k => P k ∨ k = B) → Kd.C (Kd.int .i64) W' (some ad) b.length b) := ⟨fun W' hk => (Kd.R_reads' (Kd.R_kept (Kd.R_mono hRb fun k hk => (⟨hk.1, hk.2.1⟩ : okb k ∧ B + 1 ≤ k)) hk fun k h1 h2 => h2.elim (fun h3 => hd k h1.1 h3) fun h3 => by have := h1.2; omega)).2.2⟩
    clear hx hRb hd hS hB hcell h hc ih hR hC
    have hcase : (m = 0 ∧ spec_l1Most.f (last + 1) w = some F) ∨ (1 ≤ m ∧ F = last + 1) := by
      rw [← hFe]
      unfold spec_reLook.frm spec_l1Most.f
      rcases Nat.eq_zero_or_pos m with hm | hm
      · refine .inl ⟨hm, ?_⟩
        rw [if_pos hm]
        split <;> rfl
      · exact .inr ⟨hm, if_neg (by omega)⟩
    clear hFe
    have HFB := Aside0.mk hF
    clear hF
    rcases hcase with ⟨hm, hF1⟩ | ⟨hm, hFe⟩
    case' inl =>
      have hmz : (m : Int) ≤ 0 := by omega
      have HF1 := Aside0.mk hF1
      clear hF1 hm
      go_enter Try.func84, Try.ntmps84
      go_wp2_with (go_at_call 105; (with_reducible refine (spec_l1Most.calls (last + 1) w F _ HF1.out).mono ?_); rintro e w' ⟨rfl, ⟨nd, rfl⟩⟩)
    case' inr =>
      subst hFe
      have hmz : (1 : Int) ≤ (m : Int) := by omega
      clear hm
      go_enter Try.func84, Try.ntmps84
      go_wp2_with fail
    case' inl =>
      go_loopg [9] (w + 1 - m - (F)).toNat (fun gg s9 wr => ∃ (x : Int) (acc1 : List (List Int)) (v1 : Value), s9 = .int .i64 x ∧ Aside0 (0 ≤ x ∧ x ≤ 5000) ∧ (w + 1 - m - x).toNat ≤ gg ∧ Aside0 (spec_reLook.each (spec_reLook.go k w m) k b (w + 1 - m - x).toNat x acc1 = some r) ∧ Aside0 (wr.heap[B]? = some (.cells #[v1] 51 (0, 0))) ∧ Aside0 (Kd.S (Kd.slice 3 (Kd.int .i64)) 24 wr (B + 1) (fun k => P k ∨ W.heap.size ≤ k) v1 acc1) ∧ Aside0 (Kept W wr (fun k => P k ∨ k = B)) ∧ Aside0 (Below B w0 wr))
      case atStart => exact ⟨_, acc, v, rfl, ⟨by have := HFB.out; omega⟩, Nat.le_refl _, HG, ⟨HH.out⟩, ⟨Kd.S_mono (Kd.S_below HS.out (by first | exact Below.refl _ _ | exact pw_below_drewN (Below.refl _ _) _)) fun k hk => .inl hk⟩, ⟨Kept.of_below (by first | exact Below.refl _ _ | exact pw_below_drewN (Below.refl _ _) _) _⟩, ⟨HB.out.trans (by first | exact Below.refl _ _ | exact pw_below_drewN (Below.refl _ _) _)⟩⟩
      case round =>
        clear HG
        obtain ⟨x, acc1, v1, rfl, HXB, hgg, HA, HH1, HS1, HK1, HB1⟩ := hrel
        have hxb := HXB.out
        by_cases hxw : x + m ≤ w
        · obtain ⟨c', hc'⟩ : ∃ c', (w + 1 - m - x).toNat = c' + 1 := ⟨(w + 1 - m - x).toNat - 1, by omega⟩
          have hA := HA.out
          rw [hc'] at hA
          simp only [spec_reLook.each] at hA
          obtain ⟨y, hy⟩ : ∃ y, y = b ++ [x] := ⟨_, rfl⟩
          rw [← hy] at hA
          obtain ⟨t, ht, hA⟩ := Option.bind_eq_some_iff.mp hA
          have hcc : (w + 1 - m - (x + 1)).toNat = c' := by omega
          rw [← hcc] at hA
          have HT := Aside0.mk ht
          have HY := Aside0.mk hy
          have hyl : y.length = b.length + 1 := by rw [hy, List.length_append, List.length_singleton]
          have HYL := Aside0.mk hyl
          have HYX : Aside0 (∀ z ∈ y, 0 ≤ z ∧ z ≤ 2000) := ⟨fun z hz => by
            rw [hy] at hz
            rcases List.mem_append.1 hz with h3 | h3
            · exact HX.out z h3
            · rw [List.mem_singleton.1 h3]; omega⟩
          have HL := Aside0.mk hl
          have hBr : B < wr.heap.size := blk_lt HH1.out
          have HCN := Aside0.mk (⟨hc', hcc, hgg⟩ : (w + 1 - m - x).toNat = c' + 1 ∧ (w + 1 - m - (x + 1)).toNat = c' ∧ (w + 1 - m - x).toNat ≤ gk)
          clear HA ht hy hyl hl hc' hcc hgg
          by_cases ct : t = 0
          · rw [if_pos ct] at hA
            subst ct
            obtain ⟨a2, ha, hA⟩ := Option.bind_eq_some_iff.mp hA
            have HA2 := Aside0.mk ha
            have HA := Aside0.mk hA
            clear ha hA
            go_wp2_with (first
              | (go_at_call 104; (with_reducible refine (spec_l1Own.calls (some ad) c b b wr (HKEEP.out wr HK1.out) HC.out (spec_reLook.own_eq b (by have := HL.out; omega))).mono ?_); rintro e w1 ⟨u1, rfl, ho1, hb1⟩; have HO1 := Aside0.mk ho1; have HW1 := Aside0.mk hb1; clear ho1 hb1)
              | ((with_reducible refine gate_builtin (b := .append) (xs := #[.tmp 52, .tmp 54]) rfl ?_); at_builtin; refine Kd.R_append (Kd.int .i64) (w0 := w1) (B + 1) rfl (.tmp 52) (.tmp 54) 24 3 (.int .i64 0) 8 rfl Try.underlying24 info3 rfl (by decide) (by omega) u1 b x [.int .i64 x] (fun k => wr.heap.size ≤ k) (fun _ => False) rfl rfl ?aP (fun _ hk => hk.elim) ?aF ?aO ?aB ?aS ?aL ?_; (case aP => exact rfl); (case aB => exact Below.refl _ _); (case aF => exact fun k hk => Nat.le_trans HW1.out.size hk); (case aO => exact Kd.R_mono (Kd.R_lower (Kd.R_bound HO1.out) hBr) fun k hk => hk.2.1); (case aS => exact Nat.le_trans hBr HW1.out.size); (case aL => have := HL.out; omega); intro u2 w2 ho2 hb2 hg2 hat2; rw [← HY.out] at ho2; obtain ⟨A2, c2, rfl⟩ := Kd.R_slice ho2; have HO2 := Aside0.mk ho2; have HW2 := Aside0.mk hb2; have HG2 := Aside0.mk hg2; clear ho2 hb2 hg2 hat2)
              | (go_at_call 55; (with_reducible refine (spec_reClosing.calls k A2 c2 y _ w2 (Kd.R_reads' HO2.out).2.2 (Kd.R_reads' HO2.out).2.1 HT.out).mono ?_); rintro e w3 ⟨rfl, hb3⟩; have hw12 := HW1.out.grown HG2.out HW1.out.size (Kd.R_base HO1.out); have HBW := Aside0.mk (hw12.trans (hb3.mono hw12.size)); have HO3 := Aside0.mk (Kd.R_below HO2.out hb3); clear hb3 hw12)
              | (go_at_call 84; (with_reducible refine (IH.out y acc1 a2 (fun k => (P k ∨ W.heap.size ≤ k) ∧ k < wr.heap.size) (fun k => wr.heap.size ≤ k) A2 c2 v1 w3 ?b1 ?b2 ?b3 ?b4 ?b5 ?b6 ?b7 HA2.out).mono ?_); (case b1 => have := HYL.out; have := HL.out; omega); (case b2 => exact HYX.out); (case b3 => exact HO3.out); (case b4 => exact fun k h3 h4 => by have := h4.2; omega); (case b5 => exact Kd.S_mono (Kd.S_below (Kd.S_bound HS1.out) HBW.out) fun k hk => ⟨hk.1, hk.2.2.1⟩); (case b6 => exact (HBW.out.block B hBr).trans HH1.out); (case b7 => exact HB1.out.trans (HBW.out.mono (Nat.le_of_lt hBr))); rintro e w5 ⟨rfl, v5, hc5, hS5, hK5, hB5⟩; have HH5 := Aside0.mk hc5; have HS5 := Aside0.mk hS5; have HK5 := Aside0.mk hK5; have HB5 := Aside0.mk hB5; clear hc5 hS5 hK5 hB5))
            go_roundg (w + 1 - m - (x + 1)).toNat
            case measure => have := HCN.out; omega
            case rel => exact ⟨x + 1, a2, v5, by go_num, ⟨by omega⟩, Nat.le_refl _, HA, HH5, ⟨Kd.S_mono HS5.out fun k hk => hk.elim (fun h3 => h3.1) fun h3 => .inr (Nat.le_trans HK1.out.1 (Nat.le_trans HBW.out.size h3))⟩, ⟨(HK1.out.below HBW.out).then_ HK5.out fun k h3 => h3.elim (fun h4 => h4.1.elim (fun h5 => .inl (.inl h5)) fun h5 => .inr h5) fun h4 => .inl (.inr h4)⟩, HB5⟩
          · rw [if_neg ct] at hA
            have HA := Aside0.mk hA
            have ctb : (t == 0) = false := beq_eq_false_iff_ne.2 ct
            clear hA ct
            go_wp2_with (first
              | (go_at_call 104; (with_reducible refine (spec_l1Own.calls (some ad) c b b wr (HKEEP.out wr HK1.out) HC.out (spec_reLook.own_eq b (by have := HL.out; omega))).mono ?_); rintro e w1 ⟨u1, rfl, ho1, hb1⟩; have HO1 := Aside0.mk ho1; have HW1 := Aside0.mk hb1; clear ho1 hb1)
              | ((with_reducible refine gate_builtin (b := .append) (xs := #[.tmp 52, .tmp 54]) rfl ?_); at_builtin; refine Kd.R_append (Kd.int .i64) (w0 := w1) (B + 1) rfl (.tmp 52) (.tmp 54) 24 3 (.int .i64 0) 8 rfl Try.underlying24 info3 rfl (by decide) (by omega) u1 b x [.int .i64 x] (fun k => wr.heap.size ≤ k) (fun _ => False) rfl rfl ?aP (fun _ hk => hk.elim) ?aF ?aO ?aB ?aS ?aL ?_; (case aP => exact rfl); (case aB => exact Below.refl _ _); (case aF => exact fun k hk => Nat.le_trans HW1.out.size hk); (case aO => exact Kd.R_mono (Kd.R_lower (Kd.R_bound HO1.out) hBr) fun k hk => hk.2.1); (case aS => exact Nat.le_trans hBr HW1.out.size); (case aL => have := HL.out; omega); intro u2 w2 ho2 hb2 hg2 hat2; rw [← HY.out] at ho2; obtain ⟨A2, c2, rfl⟩ := Kd.R_slice ho2; have HO2 := Aside0.mk ho2; have HW2 := Aside0.mk hb2; have HG2 := Aside0.mk hg2; clear ho2 hb2 hg2 hat2)
              | (go_at_call 55; (with_reducible refine (spec_reClosing.calls k A2 c2 y _ w2 (Kd.R_reads' HO2.out).2.2 (Kd.R_reads' HO2.out).2.1 HT.out).mono ?_); rintro e w3 ⟨rfl, hb3⟩; have hw12 := HW1.out.grown HG2.out HW1.out.size (Kd.R_base HO1.out); have HBW := Aside0.mk (hw12.trans (hb3.mono hw12.size)); have HO3 := Aside0.mk (Kd.R_below HO2.out hb3); clear hb3 hw12))
            go_roundg (w + 1 - m - (x + 1)).toNat
            case measure => have := HCN.out; omega
            case rel => exact ⟨x + 1, acc1, v1, by go_num, ⟨by omega⟩, Nat.le_refl _, HA, ⟨(HBW.out.block B hBr).trans HH1.out⟩, ⟨Kd.S_below HS1.out HBW.out⟩, ⟨HK1.out.below HBW.out⟩, ⟨HB1.out.trans (HBW.out.mono (Nat.le_of_lt hBr))⟩⟩
        · have hc0 : (w + 1 - m - x).toNat = 0 := by omega
          have hA := HA.out
          rw [hc0] at hA
          simp only [spec_reLook.each] at hA
          injection hA with hA
          subst hA
          clear HA hc0
          go_wp2_with fail
          go_end0
          exact ⟨rfl, v1, HH1.out, HS1.out, HK1.out, HB1.out⟩
    case' inr =>
      go_loopg [9] (w + 1 - m - (last + 1)).toNat (fun gg s9 wr => ∃ (x : Int) (acc1 : List (List Int)) (v1 : Value), s9 = .int .i64 x ∧ Aside0 (0 ≤ x ∧ x ≤ 5000) ∧ (w + 1 - m - x).toNat ≤ gg ∧ Aside0 (spec_reLook.each (spec_reLook.go k w m) k b (w + 1 - m - x).toNat x acc1 = some r) ∧ Aside0 (wr.heap[B]? = some (.cells #[v1] 51 (0, 0))) ∧ Aside0 (Kd.S (Kd.slice 3 (Kd.int .i64)) 24 wr (B + 1) (fun k => P k ∨ W.heap.size ≤ k) v1 acc1) ∧ Aside0 (Kept W wr (fun k => P k ∨ k = B)) ∧ Aside0 (Below B w0 wr))
      case atStart => exact ⟨_, acc, v, rfl, ⟨by have := HFB.out; omega⟩, Nat.le_refl _, HG, ⟨HH.out⟩, ⟨Kd.S_mono (Kd.S_below HS.out (by first | exact Below.refl _ _ | exact pw_below_drewN (Below.refl _ _) _)) fun k hk => .inl hk⟩, ⟨Kept.of_below (by first | exact Below.refl _ _ | exact pw_below_drewN (Below.refl _ _) _) _⟩, ⟨HB.out.trans (by first | exact Below.refl _ _ | exact pw_below_drewN (Below.refl _ _) _)⟩⟩
      case round =>
        clear HG
        obtain ⟨x, acc1, v1, rfl, HXB, hgg, HA, HH1, HS1, HK1, HB1⟩ := hrel
        have hxb := HXB.out
        by_cases hxw : x + m ≤ w
        · obtain ⟨c', hc'⟩ : ∃ c', (w + 1 - m - x).toNat = c' + 1 := ⟨(w + 1 - m - x).toNat - 1, by omega⟩
          have hA := HA.out
          rw [hc'] at hA
          simp only [spec_reLook.each] at hA
          obtain ⟨y, hy⟩ : ∃ y, y = b ++ [x] := ⟨_, rfl⟩
          rw [← hy] at hA
          obtain ⟨t, ht, hA⟩ := Option.bind_eq_some_iff.mp hA
          have hcc : (w + 1 - m - (x + 1)).toNat = c' := by omega
          rw [← hcc] at hA
          have HT := Aside0.mk ht
          have HY := Aside0.mk hy
          have hyl : y.length = b.length + 1 := by rw [hy, List.length_append, List.length_singleton]
          have HYL := Aside0.mk hyl
          have HYX : Aside0 (∀ z ∈ y, 0 ≤ z ∧ z ≤ 2000) := ⟨fun z hz => by
            rw [hy] at hz
            rcases List.mem_append.1 hz with h3 | h3
            · exact HX.out z h3
            · rw [List.mem_singleton.1 h3]; omega⟩
          have HL := Aside0.mk hl
          have hBr : B < wr.heap.size := blk_lt HH1.out
          have HCN := Aside0.mk (⟨hc', hcc, hgg⟩ : (w + 1 - m - x).toNat = c' + 1 ∧ (w + 1 - m - (x + 1)).toNat = c' ∧ (w + 1 - m - x).toNat ≤ gk)
          clear HA ht hy hyl hl hc' hcc hgg
          by_cases ct : t = 0
          · rw [if_pos ct] at hA
            subst ct
            obtain ⟨a2, ha, hA⟩ := Option.bind_eq_some_iff.mp hA
            have HA2 := Aside0.mk ha
            have HA := Aside0.mk hA
            clear ha hA
            go_wp2_with (first
              | (go_at_call 104; (with_reducible refine (spec_l1Own.calls (some ad) c b b wr (HKEEP.out wr HK1.out) HC.out (spec_reLook.own_eq b (by have := HL.out; omega))).mono ?_); rintro e w1 ⟨u1, rfl, ho1, hb1⟩; have HO1 := Aside0.mk ho1; have HW1 := Aside0.mk hb1; clear ho1 hb1)
              | ((with_reducible refine gate_builtin (b := .append) (xs := #[.tmp 52, .tmp 54]) rfl ?_); at_builtin; refine Kd.R_append (Kd.int .i64) (w0 := w1) (B + 1) rfl (.tmp 52) (.tmp 54) 24 3 (.int .i64 0) 8 rfl Try.underlying24 info3 rfl (by decide) (by omega) u1 b x [.int .i64 x] (fun k => wr.heap.size ≤ k) (fun _ => False) rfl rfl ?aP (fun _ hk => hk.elim) ?aF ?aO ?aB ?aS ?aL ?_; (case aP => exact rfl); (case aB => exact Below.refl _ _); (case aF => exact fun k hk => Nat.le_trans HW1.out.size hk); (case aO => exact Kd.R_mono (Kd.R_lower (Kd.R_bound HO1.out) hBr) fun k hk => hk.2.1); (case aS => exact Nat.le_trans hBr HW1.out.size); (case aL => have := HL.out; omega); intro u2 w2 ho2 hb2 hg2 hat2; rw [← HY.out] at ho2; obtain ⟨A2, c2, rfl⟩ := Kd.R_slice ho2; have HO2 := Aside0.mk ho2; have HW2 := Aside0.mk hb2; have HG2 := Aside0.mk hg2; clear ho2 hb2 hg2 hat2)
              | (go_at_call 55; (with_reducible refine (spec_reClosing.calls k A2 c2 y _ w2 (Kd.R_reads' HO2.out).2.2 (Kd.R_reads' HO2.out).2.1 HT.out).mono ?_); rintro e w3 ⟨rfl, hb3⟩; have hw12 := HW1.out.grown HG2.out HW1.out.size (Kd.R_base HO1.out); have HBW := Aside0.mk (hw12.trans (hb3.mono hw12.size)); have HO3 := Aside0.mk (Kd.R_below HO2.out hb3); clear hb3 hw12)
              | (go_at_call 84; (with_reducible refine (IH.out y acc1 a2 (fun k => (P k ∨ W.heap.size ≤ k) ∧ k < wr.heap.size) (fun k => wr.heap.size ≤ k) A2 c2 v1 w3 ?b1 ?b2 ?b3 ?b4 ?b5 ?b6 ?b7 HA2.out).mono ?_); (case b1 => have := HYL.out; have := HL.out; omega); (case b2 => exact HYX.out); (case b3 => exact HO3.out); (case b4 => exact fun k h3 h4 => by have := h4.2; omega); (case b5 => exact Kd.S_mono (Kd.S_below (Kd.S_bound HS1.out) HBW.out) fun k hk => ⟨hk.1, hk.2.2.1⟩); (case b6 => exact (HBW.out.block B hBr).trans HH1.out); (case b7 => exact HB1.out.trans (HBW.out.mono (Nat.le_of_lt hBr))); rintro e w5 ⟨rfl, v5, hc5, hS5, hK5, hB5⟩; have HH5 := Aside0.mk hc5; have HS5 := Aside0.mk hS5; have HK5 := Aside0.mk hK5; have HB5 := Aside0.mk hB5; clear hc5 hS5 hK5 hB5))
            go_roundg (w + 1 - m - (x + 1)).toNat
            case measure => have := HCN.out; omega
            case rel => exact ⟨x + 1, a2, v5, by go_num, ⟨by omega⟩, Nat.le_refl _, HA, HH5, ⟨Kd.S_mono HS5.out fun k hk => hk.elim (fun h3 => h3.1) fun h3 => .inr (Nat.le_trans HK1.out.1 (Nat.le_trans HBW.out.size h3))⟩, ⟨(HK1.out.below HBW.out).then_ HK5.out fun k h3 => h3.elim (fun h4 => h4.1.elim (fun h5 => .inl (.inl h5)) fun h5 => .inr h5) fun h4 => .inl (.inr h4)⟩, HB5⟩
          · rw [if_neg ct] at hA
            have HA := Aside0.mk hA
            have ctb : (t == 0) = false := beq_eq_false_iff_ne.2 ct
            clear hA ct
            go_wp2_with (first
              | (go_at_call 104; (with_reducible refine (spec_l1Own.calls (some ad) c b b wr (HKEEP.out wr HK1.out) HC.out (spec_reLook.own_eq b (by have := HL.out; omega))).mono ?_); rintro e w1 ⟨u1, rfl, ho1, hb1⟩; have HO1 := Aside0.mk ho1; have HW1 := Aside0.mk hb1; clear ho1 hb1)
              | ((with_reducible refine gate_builtin (b := .append) (xs := #[.tmp 52, .tmp 54]) rfl ?_); at_builtin; refine Kd.R_append (Kd.int .i64) (w0 := w1) (B + 1) rfl (.tmp 52) (.tmp 54) 24 3 (.int .i64 0) 8 rfl Try.underlying24 info3 rfl (by decide) (by omega) u1 b x [.int .i64 x] (fun k => wr.heap.size ≤ k) (fun _ => False) rfl rfl ?aP (fun _ hk => hk.elim) ?aF ?aO ?aB ?aS ?aL ?_; (case aP => exact rfl); (case aB => exact Below.refl _ _); (case aF => exact fun k hk => Nat.le_trans HW1.out.size hk); (case aO => exact Kd.R_mono (Kd.R_lower (Kd.R_bound HO1.out) hBr) fun k hk => hk.2.1); (case aS => exact Nat.le_trans hBr HW1.out.size); (case aL => have := HL.out; omega); intro u2 w2 ho2 hb2 hg2 hat2; rw [← HY.out] at ho2; obtain ⟨A2, c2, rfl⟩ := Kd.R_slice ho2; have HO2 := Aside0.mk ho2; have HW2 := Aside0.mk hb2; have HG2 := Aside0.mk hg2; clear ho2 hb2 hg2 hat2)
              | (go_at_call 55; (with_reducible refine (spec_reClosing.calls k A2 c2 y _ w2 (Kd.R_reads' HO2.out).2.2 (Kd.R_reads' HO2.out).2.1 HT.out).mono ?_); rintro e w3 ⟨rfl, hb3⟩; have hw12 := HW1.out.grown HG2.out HW1.out.size (Kd.R_base HO1.out); have HBW := Aside0.mk (hw12.trans (hb3.mono hw12.size)); have HO3 := Aside0.mk (Kd.R_below HO2.out hb3); clear hb3 hw12))
            go_roundg (w + 1 - m - (x + 1)).toNat
            case measure => have := HCN.out; omega
            case rel => exact ⟨x + 1, acc1, v1, by go_num, ⟨by omega⟩, Nat.le_refl _, HA, ⟨(HBW.out.block B hBr).trans HH1.out⟩, ⟨Kd.S_below HS1.out HBW.out⟩, ⟨HK1.out.below HBW.out⟩, ⟨HB1.out.trans (HBW.out.mono (Nat.le_of_lt hBr))⟩⟩
        · have hc0 : (w + 1 - m - x).toNat = 0 := by omega
          have hA := HA.out
          rw [hc0] at hA
          simp only [spec_reLook.each] at hA
          injection hA with hA
          subst hA
          clear HA hc0
          go_wp2_with fail
          go_end0
          exact ⟨rfl, v1, HH1.out, HS1.out, HK1.out, HB1.out⟩
theorem spec_reLook.each_mono (g g' : List Int → List (List Int) → Option (List (List Int))) (hg : ∀ b acc, LeO (g b acc) (g' b acc)) (k : Nat) (b : List Int) : ∀ (c : Nat) (x : Int) (acc : List (List Int)), LeO (spec_reLook.each g k b c x acc) (spec_reLook.each g' (k + 1) b c x acc)
  | 0, _, _ => LeO.refl _
  | c + 1, x, acc => by
    unfold spec_reLook.each
    exact LeO.bind (spec_reClosing.mono _ _) fun t => LeO.ite (LeO.bind (hg _ _) fun a => spec_reLook.each_mono g g' hg k b c (x + 1) a) (spec_reLook.each_mono g g' hg k b c (x + 1) acc)
theorem spec_reLook.go_mono (k : Nat) (w : Int) : ∀ (m : Nat) (b : List Int) (acc : List (List Int)), LeO (spec_reLook.go k w m b acc) (spec_reLook.go (k + 1) w m b acc)
  | 0, b, acc => by
    unfold spec_reLook.go
    exact LeO.refl _
  | m + 1, b, acc => by
    unfold spec_reLook.go
    exact spec_reLook.each_mono _ _ (fun b acc => spec_reLook.go_mono k w m b acc) k b _ _ acc
def spec_reAll.f (k : Nat) (a0 : Int) (a1 : Int) : Option (List (List Int)) := if 1 ≤ a0 ∧ a0 ≤ 50 ∧ 0 ≤ a1 ∧ a1 ≤ 1000 then spec_reLook.go k a1 (a0 - 1).toNat [0] [] else none
theorem spec_reAll.mono : ∀ a0 a1 k, LeO (spec_reAll.f k a0 a1) (spec_reAll.f (k + 1) a0 a1) := by
  intro a0 a1 k
  unfold spec_reAll.f
  exact LeO.ite (spec_reLook.go_mono k a1 _ _ _) (LeO.refl _)
set_option maxHeartbeats 8000000 in
set_option maxRecDepth 100000 in
theorem spec_reAll.calls (k : Nat) (a0 : Int) (a1 : Int) (r : List (List Int)) (w : World) (h : spec_reAll.f k a0 a1 = some r) :
    Calls Try.prog 63 #[.int .i64 a0, .int .i64 a1] w fun e w' => ∃ v0_ : Value, e = .returned (v0_) ∧ Kd.S (Kd.slice 3 (Kd.int .i64)) 24 w' w.heap.size (fun _ => True) v0_ r ∧ Below w.heap.size w w' := by
  unfold spec_reAll.f at h
  by_cases c1 : 1 ≤ a0 ∧ a0 ≤ 50 ∧ 0 ≤ a1 ∧ a1 ≤ 1000
  case neg => rw [if_neg c1] at h; cases h
  rw [if_pos c1] at h
  obtain ⟨m, hm⟩ : ∃ m, (a0 - 1).toNat = m := ⟨_, rfl⟩
  have hm2 : a0 - 1 = (m : Int) := by omega
  rw [hm] at h
  obtain rfl : a0 = (m : Int) + 1 := by omega
  obtain ⟨y, hy⟩ : ∃ y : List Int, y = [0] := ⟨_, rfl⟩
  rw [← hy] at h
  have HY := Aside0.mk hy
  have HH := Aside0.mk h
  have hm50 : (m : Int) ≤ 50 := by omega
  have HB0 := Aside0.mk c1.2.2
  have HYL : Aside0 (y.length = 1 ∧ ∀ x ∈ y, 0 ≤ x ∧ x ≤ 2000) := ⟨by rw [hy]; exact ⟨rfl, fun x hx => by rw [List.mem_singleton.1 hx]; omega⟩⟩
  clear h hy hm c1 hm2
  have hone : ((w.alloc (.cells #[.slice none 0 0] 51)).heap[w.heap.size]? = some (.cells #[.slice none 0 0] 51 (0, 0))) := heap_alloc_new _ _
  have HONE := Aside0.mk hone
  clear hone
  go_enter Try.func63, Try.ntmps63
  go_wp2_with (first
    | ((with_reducible refine gate_dst (N := 6) rfl ?_); refine Kd.R_lit (Kd.int .i64) _ 3 ?hg (N := 6) ?hd (xs := ([0] : List Int)) (inner := [.int .i64 0]) (ok := fun _ => True) (okp := fun _ => True) ?hr ?hp (fun _ hk => hk) trivial (Below.refl _ _) (Nat.le_refl _) (by simp) ?_; (case hd => rfl); (case hg => rfl); (case hr => first | (go_simp; done) | (go_simp; rfl)); (case hp => exact (Reps.one (show Kd.M (Kd.int .i64) _ _ _ 0 [.int .i64 0] from rfl) (Reps.none _ _))); intro u1 w1 ho1 hb1 hg_ hnew_; clear hg_ hnew_; rw [← HY.out] at ho1; obtain ⟨A1, c1, rfl⟩ := Kd.R_slice ho1; have HO1 := Aside0.mk ho1; have HW1 := Aside0.mk hb1; clear ho1 hb1)
    | (go_at_call 84; (with_reducible refine (spec_reLook.calls k a1 HB0.out w.heap.size w m y [] r (fun _ => False) (fun k => w.heap.size + 1 ≤ k) A1 c1 (.slice none 0 0) w1 ?b1 ?b2 ?b3 ?b4 ?b5 ?b6 ?b7 HH.out).mono ?_); (case b1 => have := HYL.out.1; omega); (case b2 => exact HYL.out.2); (case b3 => exact Kd.R_mono (Kd.R_lower (Kd.R_bound HO1.out) (by simp)) fun k hk => by have := hk.2.1; simp at this; omega); (case b4 => exact fun _ _ h => h); (case b5 => exact Kd.S_nil _ _ _ _ _); (case b6 => exact (HW1.out.block _ (by simp)).trans HONE.out); (case b7 => exact ((Below.refl _ _).alloc (Nat.le_refl _) _).trans (HW1.out.mono (by simp))); rintro e w2 ⟨rfl, v2, hc2, hS2, hK2, hB2⟩; have hcell2 := cell_of_one hc2; have HS2 := Aside0.mk hS2; have HB2 := Aside0.mk hB2; clear hc2 hS2 hK2 hB2))
  go_ret
  exact ⟨_, rfl, Kd.S_mono (Kd.S_lower HS2.out (Nat.le_succ _)) fun _ _ => trivial, HB2.out⟩


end Go.Proofs.Ytlngnnkkaepeeaa.P
