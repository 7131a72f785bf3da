-- Printed for this claim by a program of this session, out of the translation. Lean checks it.
import Derived.Test.YtlngnnkkaepeeaaPx0
import Derived.Test.YtlngnnkkaepeeaaPx5
namespace Go.Proofs.Ytlngnnkkaepeeaa.P
open Go.RowKit Go.Proofs.YtlngnnkkaepeeaaW.PrintWords Go.Proofs.YtlngnnkkaepeeaaW.PrintLast Go.Proofs.YtlngnnkkaepeeaaW.PrintMore
attribute [local go_sem] max2_int min2_int max_two min_two max_three min_three max_four min_four   -- for this text's walks alone
set_option linter.unusedVariables false
set_option linter.unusedSimpArgs false

/-! ### impl_openPatterns: function 64, by this session's hand -/
def impl_openPatterns.each (g : List Int → List (List Int) → Option (List (List Int))) (n w : Int) (b : List Int) : Nat → Int → List (List Int) → Option (List (List Int))
  | 0, _, acc => some acc
  | c + 1, o, acc => if (b.length : Int) + 1 < n ∨ o = w then (g (b ++ [o]) acc).bind fun a => impl_openPatterns.each g n w b c (o + 1) a else impl_openPatterns.each g n w b c (o + 1) acc
def impl_openPatterns.go (k : Nat) (n w : Int) : Nat → List Int → List (List Int) → Option (List (List Int))
  | 0, _, _ => none
  | d + 1, b, acc => if (b.length : Int) = n then (if rd b ((b.length : Int) - 1) = w then (impl_isOpen.f k b).bind fun t => if t = true then (if acc.length < 5864062014805 then some (acc ++ [b]) else none) else some acc else some acc)
      else impl_openPatterns.each (impl_openPatterns.go k n w d) n w b (w - rd b ((b.length : Int) - 1)).toNat (rd b ((b.length : Int) - 1) + 1) acc
theorem impl_openPatterns.each_mono (g g' : List Int → List (List Int) → Option (List (List Int))) (hg : ∀ b acc, LeO (g b acc) (g' b acc)) (n w : Int) (b : List Int) : ∀ (c : Nat) (x : Int) (acc : List (List Int)), LeO (impl_openPatterns.each g n w b c x acc) (impl_openPatterns.each g' n w b c x acc)
  | 0, _, _ => LeO.refl _
  | c + 1, x, acc => by
    unfold impl_openPatterns.each
    exact LeO.ite (LeO.bind (hg _ _) fun a => impl_openPatterns.each_mono g g' hg n w b c (x + 1) a) (impl_openPatterns.each_mono g g' hg n w b c (x + 1) acc)
theorem impl_openPatterns.go_mono (k : Nat) (n w : Int) : ∀ (d : Nat) (b : List Int) (acc : List (List Int)), LeO (impl_openPatterns.go k n w d b acc) (impl_openPatterns.go (k + 1) n w d b acc)
  | 0, b, acc => LeO.refl _
  | d + 1, b, acc => by
    unfold impl_openPatterns.go
    exact LeO.ite (LeO.ite (LeO.bind (impl_isOpen.mono _ _) fun t => LeO.refl _) (LeO.refl _)) (impl_openPatterns.each_mono _ _ (fun b acc => impl_openPatterns.go_mono k n w d b acc) n w b _ _ acc)
def impl_openPatterns.f (k : Nat) (a0 : Int) (a1 : Int) : Option (List (List Int)) := if 1 ≤ a0 ∧ a0 ≤ 50 ∧ 0 ≤ a1 ∧ a1 ≤ 1000 then impl_openPatterns.go k a0 a1 50 [0] [] else none
theorem impl_openPatterns.mono : ∀ a0 a1 k, LeO (impl_openPatterns.f k a0 a1) (impl_openPatterns.f (k + 1) a0 a1) := by
  intro a0 a1 k
  unfold impl_openPatterns.f
  exact LeO.ite (impl_openPatterns.go_mono k a0 a1 _ _ _) (LeO.refl _)
theorem impl_openPatterns.info : (Try.prog.info? 24).map (fun i => (i.zero, i.size, i.bytes)) = some (some (.slice none 0 0), 1, 24) := by kernel_rfl
def impl_openPatterns.fv (Bn Bw Bo Bg : Nat) : Value := .func (.func 85) #[] #[.pointer (some ⟨Bn, 0, none⟩), .pointer (some ⟨Bw, 0, none⟩), .pointer (some ⟨Bo, 0, none⟩), .pointer (some ⟨Bg, 0, none⟩)]
def impl_openPatterns.Free (Bn Bw Bo Bg k : Nat) : Prop := k ≠ Bn ∧ k ≠ Bw ∧ k ≠ Bo ∧ k ≠ Bg
structure impl_openPatterns.Cells (n w : Int) (Bn Bw Bo Bg : Nat) (W : World) : Prop where
  n : W.heap[Bn]? = some (.cells #[.int .i64 n] 3 (0, 0))
  w : W.heap[Bw]? = some (.cells #[.int .i64 w] 3 (0, 0))
  g : ∃ ty, W.heap[Bg]? = some (.cells #[impl_openPatterns.fv Bn Bw Bo Bg] ty (0, 0))
def impl_openPatterns.Post (Bo base : Nat) (w0 W : World) (P okb : Nat → Prop) (r : List (List Int)) (W' : World) : Prop :=
  ∃ v', W'.heap[Bo]? = some (.cells #[v'] 51 (0, 0)) ∧ Kd.S (Kd.slice 3 (Kd.int .i64)) 24 W' base (fun k => P k ∨ okb k ∨ W.heap.size ≤ k) v' r ∧ Kept W W' (fun k => P k ∨ k = Bo) ∧ Below base w0 W'
theorem impl_openPatterns.Cells.kept {n w : Int} {Bn Bw Bo Bg : Nat} {W W' : World} {S : Nat → Prop} (h : impl_openPatterns.Cells n w Bn Bw Bo Bg W) (hk : Kept W W' S) (hn : ¬ S Bn) (hw : ¬ S Bw) (hg : ¬ S Bg) : impl_openPatterns.Cells n w Bn Bw Bo Bg W' := by
  obtain ⟨ty, hty⟩ := h.g
  exact ⟨blk_kept h.n hk hn, blk_kept h.w hk hw, ty, blk_kept hty hk hg⟩
set_option maxHeartbeats 8000000 in
set_option maxRecDepth 100000 in
theorem impl_openPatterns.leaf (k : Nat) (n w : Int) (Bn Bw Bo Bg base : Nat) (w0 : World) (d : Nat) (b : List Int) (acc r : List (List Int)) (P okb : Nat → Prop) (A : Option Addr) (c : Nat) (v : Value) (W : World)
    (hl : 1 ≤ b.length ∧ b.length ≤ 100) (hn : (b.length : Int) = n) (hR : Kd.R (Kd.int .i64) 3 W base okb (.slice A b.length c) b) (hd : ∀ k, okb k → ¬ P k)
    (hS : Kd.S (Kd.slice 3 (Kd.int .i64)) 24 W base P v acc) (hC : impl_openPatterns.Cells n w Bn Bw Bo Bg W) (hcell : W.heap[Bo]? = some (.cells #[v] 51 (0, 0))) (hbo : base ≤ Bo) (hP : ∀ k, P k → k ≠ Bo) (hO : ∀ k, okb k → k ≠ Bo) (hB : Below base w0 W) (h : impl_openPatterns.go k n w (d + 1) b acc = some r) :
    Calls Try.prog 85 #[.slice A b.length c, .pointer (some ⟨Bn, 0, none⟩), .pointer (some ⟨Bw, 0, none⟩), .pointer (some ⟨Bo, 0, none⟩), .pointer (some ⟨Bg, 0, none⟩)] W fun e W' => e = .returned (.tuple #[]) ∧ impl_openPatterns.Post Bo base w0 W P okb r W' := by
  unfold impl_openPatterns.go at h
  rw [if_pos hn] at h
  obtain ⟨_, hc, hCb⟩ := Kd.R_reads' hR
  obtain ⟨ad, e0, hx⟩ := Kd.at_int hCb ((b.length : Int) - 1) (by omega) (by omega)
  rw [show ((b.length : Int) - 1).toNat = b.length - 1 by omega] at hx
  generalize rd b ((b.length : Int) - 1) = last at *
  have h1 : (0 : Int) ≤ (b.length : Int) - 1 := by omega
  have h2 : (b.length : Int) - 1 < (b.length : Int) := by omega
  have hBs : Bo < W.heap.size := blk_lt hcell
  have hcn := cell_of_one hC.n
  have hcw := cell_of_one hC.w
  have hco := cell_of_one hcell
  have hfo := free_of_one hcell
  have hnb : ((b.length : Int) == n) = true := beq_iff_eq.2 hn
  subst e0
  have HR := Aside0.mk hR
  have HC := Aside0.mk hc
  have HCB := Aside0.mk hCb
  have HD := Aside0.mk hd
  have HS := Aside0.mk hS
  have HB := Aside0.mk hB
  have HH := Aside0.mk hcell
  have HP := Aside0.mk hP
  have HO := Aside0.mk hO
  have HBO := Aside0.mk hbo
  clear hR hc hCb hd hS hB hcell hC hP hO hbo hn
  by_cases c1 : last = w
  · rw [if_pos c1] at h
    have c1b : (last == w) = true := beq_iff_eq.2 c1
    obtain ⟨t, ht, h⟩ := Option.bind_eq_some_iff.mp h
    have HT := Aside0.mk ht
    clear c1 ht
    cases t with
    | false =>
      simp only [Bool.false_eq_true, if_false] at h
      injection h with h
      subst h
      go_enter Try.func85, Try.ntmps85
      go_wp2_with (go_at_call 57; (with_reducible refine (impl_isOpen.calls k (some ad) c b false W HCB.out HC.out HT.out).mono ?_); rintro e w1 ⟨rfl, hb1⟩; have HW1 := Aside0.mk hb1; clear hb1)
      (try simp only [Exit.inBlock, Exit.then])
      refine bodyPost_ret (results_none rfl _ _ _) rfl ?_
      exact ⟨rfl, v, (HW1.out.block Bo hBs).trans HH.out, Kd.S_mono (Kd.S_below HS.out HW1.out) fun k hk => .inl hk, Kept.of_below HW1.out _, HB.out.trans (HW1.out.mono (Nat.le_trans HBO.out (Nat.le_of_lt hBs)))⟩
    | true =>
      simp only [if_true] at h
      by_cases c2 : acc.length < 5864062014805
      case neg => rw [if_neg c2] at h; cases h
      rw [if_pos c2] at h
      injection h with h
      subst h
      have LM := Aside0.mk c2
      clear c2
      go_enter Try.func85, Try.ntmps85
      go_wp2_with (first
        | (go_at_call 57; (with_reducible refine (impl_isOpen.calls k (some ad) c b true W HCB.out HC.out HT.out).mono ?_); rintro e w1 ⟨rfl, hb1⟩; have hblk1 := (hb1.block Bo hBs).trans HH.out; have hco1 := cell_of_one hblk1; have hfo1 := free_of_one hblk1; have HW1 := Aside0.mk hb1; have HH1 := Aside0.mk hblk1; clear hb1 hblk1)
        | ((with_reducible refine gate_builtin (b := .append) (xs := #[.tmp 25, .tmp 27]) rfl ?_); at_builtin; refine Kd.S_append (Kd.slice 3 (Kd.int .i64)) (w0 := w1) base rfl (.tmp 25) (.tmp 27) 51 24 (.slice none 0 0) 24 rfl Try.underlying51 impl_openPatterns.info rfl (by decide) (by omega) v acc b [.slice (some ad) b.length c] (fun k => P k ∨ okb k ∨ W.heap.size ≤ k) okb rfl rfl ?aP ?aD ?aF ?aO ?aB ?aS ?aL ?_; (case aP => exact Kd.M_row (Kd.R_below HR.out HW1.out)); (case aD => exact fun k hk => ⟨.inr (.inl hk), fun e => HD.out k hk ((Kd.S_R HS.out).1 k e.symm)⟩); (case aF => exact fun k hk => .inr (.inr (Nat.le_trans HW1.out.size hk))); (case aO => exact Kd.S_mono (Kd.S_below HS.out HW1.out) fun k hk => ⟨.inl hk, fun h => HD.out k h hk⟩); (case aB => exact Below.refl _ _); (case aS => exact Nat.le_trans HBO.out (Nat.le_trans (Nat.le_of_lt hBs) HW1.out.size)); (case aL => have := LM.out; omega); intro v2 w2 ho2 hb2 hg2 hat2; have hblk2 := (hg2.block Bo (Nat.lt_of_lt_of_le hBs HW1.out.size) (fun e => HP.out Bo ((Kd.S_R HS.out).1 Bo e.symm) rfl)).trans HH1.out; have hco2 := cell_of_one hblk2; have hfo2 := free_of_one hblk2; obtain ⟨A2, c2, e2⟩ := Kd.S_slice ho2; rw [List.length_append, List.length_singleton] at e2; subst e2; have HO2 := Aside0.mk ho2; have HB2 := Aside0.mk hb2; have HG2 := Aside0.mk hg2; have HH2 := Aside0.mk hblk2; clear ho2 hb2 hg2 hat2 hblk2))
      (try simp only [Exit.inBlock, Exit.then])
      refine bodyPost_ret (results_none rfl _ _ _) rfl ?_
      exact ⟨rfl, _, one_setCell HH2.out, Kd.S_set HO2.out HH2.out (by decide) 0 _, (Kept.of_grown HG2.out (Kept.of_below HW1.out _) fun k hk => .inl (.inl ((Kd.S_R HS.out).1 k hk))).setCell (.inl (.inr rfl)) _, (((HB.out.trans (HW1.out.mono (Nat.le_trans HBO.out (Nat.le_of_lt hBs)))).trans HB2.out).setCell HBO.out _)⟩
  · rw [if_neg c1] at h
    injection h with h
    subst h
    have c1b : (last == w) = false := beq_eq_false_iff_ne.2 c1
    clear c1
    go_enter Try.func85, Try.ntmps85
    go_wp2_with fail
    (try simp only [Exit.inBlock, Exit.then])
    refine bodyPost_ret (results_none rfl _ _ _) rfl ?_
    exact ⟨rfl, v, HH.out, Kd.S_mono HS.out fun k hk => .inl hk, Kept.refl _ _, HB.out⟩
theorem impl_openPatterns.reps {R : Int → List Value → Prop} (hR : ∀ x, R x [.int .i64 x]) : ∀ xs : List Int, Reps R 1 xs (xs.map (Value.int .i64))
  | [] => Reps.none _ _
  | x :: s => Reps.one (hR x) (impl_openPatterns.reps hR s)
theorem impl_openPatterns.lit (W : World) (base g : Nat) (xs : List Int) (hg : g = W.heap.size) (hb : base ≤ g) (hm : xs.length ≤ 100) : Kd.R (Kd.int .i64) 3 (W.alloc (.cells (xs.map (Value.int .i64)).toArray 3)) base (fun k => k = g) (.slice (some ⟨g, 0, none⟩) xs.length xs.length) xs := by
  subst hg
  refine ⟨fun k hk => by simpa [Value.ownBlock] using hk.symm, xs.map (Value.int .i64), ?_, ?_⟩
  · have h2 := World.ownsRow_lit (base := base) (e := 3) (size := (Kd.int .i64).sz) W (xs.map (Value.int .i64)).toArray xs.length hb (by simp [maxLen]; omega) (by show _ = xs.length * 1; simp)
    simpa using h2
  · exact impl_openPatterns.reps (R := (Kd.int .i64).M _ base _) (fun x => rfl) xs
set_option maxHeartbeats 32000000 in
set_option maxRecDepth 100000 in
theorem impl_openPatterns.grow (k : Nat) (n w : Int) (hn : 1 ≤ n ∧ n ≤ 50) (hw : 0 ≤ w ∧ w ≤ 1000) (Bn Bw Bo Bg base : Nat) (w0 : World) (hbo : base ≤ Bo) (hno : Bn ≠ Bo) (hwo : Bw ≠ Bo) (hgo : Bg ≠ Bo) : ∀ (d : Nat) (b : List Int) (acc r : List (List Int)) (P okb : Nat → Prop) (A : Option Addr) (c : Nat) (v : Value) (W : World),
    (1 ≤ b.length ∧ b.length + d ≤ 100) → (∀ x ∈ b, 0 ≤ x ∧ x ≤ 2000) → Kd.R (Kd.int .i64) 3 W base okb (.slice A b.length c) b → (∀ k, okb k → ¬ P k) → (∀ k, P k → impl_openPatterns.Free Bn Bw Bo Bg k) → (∀ k, okb k → impl_openPatterns.Free Bn Bw Bo Bg k) →
    Kd.S (Kd.slice 3 (Kd.int .i64)) 24 W base P v acc → impl_openPatterns.Cells n w Bn Bw Bo Bg W → W.heap[Bo]? = some (.cells #[v] 51 (0, 0)) → Below base w0 W → impl_openPatterns.go k n w d b acc = some r →
    Calls Try.prog 85 #[.slice A b.length c, .pointer (some ⟨Bn, 0, none⟩), .pointer (some ⟨Bw, 0, none⟩), .pointer (some ⟨Bo, 0, none⟩), .pointer (some ⟨Bg, 0, none⟩)] W fun e W' => e = .returned (.tuple #[]) ∧ impl_openPatterns.Post Bo base w0 W P okb r W' := by
  intro d
  induction d with
  | zero => intro b acc r P okb A c v W _ _ _ _ _ _ _ _ _ _ h; cases h
  | succ d ih =>
    intro b acc r P okb A c v W hl hx hR hd hP hO hS hC hcell hB h
    by_cases hnb : (b.length : Int) = n
    · exact impl_openPatterns.leaf k n w Bn Bw Bo Bg base w0 d b acc r P okb A c v W ⟨hl.1, by omega⟩ hnb hR hd hS hC hcell hbo (fun k hk => (hP k hk).2.2.1) (fun k hk => (hO k hk).2.2.1) hB h
    have hBs : Bo < W.heap.size := blk_lt hcell
    obtain ⟨_, hc, hCb⟩ := Kd.R_reads' hR
    obtain ⟨ad, e0, hcx⟩ := Kd.at_int hCb ((b.length : Int) - 1) (by omega) (by omega)
    have hlast : 0 ≤ rd b ((b.length : Int) - 1) ∧ rd b ((b.length : Int) - 1) ≤ 2000 := by
      refine hx _ ?_
      unfold rd
      rw [List.getD_eq_getElem?_getD, show ((b.length : Int) - 1).toNat = b.length - 1 by omega, List.getElem?_eq_getElem (by omega)]
      exact List.getElem_mem _
    unfold impl_openPatterns.go at h
    rw [if_neg hnb] at h
    rw [show ((b.length : Int) - 1).toNat = b.length - 1 by omega] at hcx
    generalize rd b ((b.length : Int) - 1) = last at *
    subst e0
    have h1 : (0 : Int) ≤ (b.length : Int) - 1 := by omega
    have h2 : (b.length : Int) - 1 < (b.length : Int) := by omega
    have hlb : b.length ≤ 99 := by omega
    have hl1 : 1 ≤ b.length := hl.1
    have hnbb : ((b.length : Int) == n) = false := beq_eq_false_iff_ne.2 hnb
    have hcn := cell_of_one hC.n
    have HX := Aside0.mk hx
    have HD := Aside0.mk hd
    have HP := Aside0.mk hP
    have HO := Aside0.mk hO
    have HS := Aside0.mk hS
    have HB := Aside0.mk hB
    have HH := Aside0.mk hcell
    have HCL := Aside0.mk hC
    have HG := Aside0.mk h
    have HC := Aside0.mk hc
    have IH := Aside0.mk ih
    have HBO := Aside0.mk hbo
    have HL := Aside0.mk hl
    have HNE := Aside0.mk (⟨hno, hwo, hgo⟩ : Bn ≠ Bo ∧ Bw ≠ Bo ∧ Bg ≠ Bo)
    have HKEEP : Aside0 (∀ W', Kept W W' (fun k => P k ∨ k = Bo) → Kd.C (Kd.int .i64) W' (some ad) b.length b) := ⟨fun W' hk => (Kd.R_reads' (Kd.R_kept hR hk fun k h1 h2 => h2.elim (fun h3 => hd k h1 h3) fun h3 => (hO k h1).2.2.1 h3)).2.2⟩
    have HCLK : Aside0 (∀ W', Kept W W' (fun k => P k ∨ k = Bo) → impl_openPatterns.Cells n w Bn Bw Bo Bg W') := ⟨fun W' hk => hC.kept hk (fun h3 => h3.elim (fun h4 => (hP _ h4).1 rfl) hno) (fun h3 => h3.elim (fun h4 => (hP _ h4).2.1 rfl) hwo) (fun h3 => h3.elim (fun h4 => (hP _ h4).2.2.2 rfl) hgo)⟩
    have HNEW : Aside0 (∀ k, W.heap.size ≤ k → impl_openPatterns.Free Bn Bw Bo Bg k) := ⟨fun k hk => ⟨fun e => by have := blk_lt hC.n; omega, fun e => by have := blk_lt hC.w; omega, fun e => by omega, fun e => by obtain ⟨ty, hty⟩ := hC.g; have := blk_lt hty; omega⟩⟩
    clear hx hd hP hO hS hB hcell hC h hc ih hR hCb hl hnb hbo hno hwo hgo
    go_enter Try.func85, Try.ntmps85
    go_wp2_with fail
    go_loopg [7] (w - last).toNat (fun gg s7 wr => ∃ (x : Int) (acc1 : List (List Int)) (v1 : Value), s7 = .int .i64 x ∧ Aside0 (0 ≤ x ∧ x ≤ 5000) ∧ (w + 1 - x).toNat ≤ gg ∧ Aside0 (impl_openPatterns.each (impl_openPatterns.go k n w d) n w b (w + 1 - x).toNat x acc1 = some r) ∧ Aside0 (wr.heap[Bo]? = some (.cells #[v1] 51 (0, 0))) ∧ Aside0 (Kd.S (Kd.slice 3 (Kd.int .i64)) 24 wr base (fun k => P k ∨ W.heap.size ≤ k) v1 acc1) ∧ Aside0 (Kept W wr (fun k => P k ∨ k = Bo)) ∧ Aside0 (Below base w0 wr))
    case atStart => exact ⟨last + 1, acc, v, by first | rfl | go_num, ⟨by omega⟩, by omega, ⟨by rw [show w + 1 - (last + 1) = w - last by omega]; exact HG.out⟩, HH, ⟨Kd.S_mono HS.out fun k hk => .inl hk⟩, ⟨Kept.refl _ _⟩, HB⟩
    case round =>
      clear HG hcn
      obtain ⟨x, acc1, v1, rfl, HXB, hgg, HA, HH1, HS1, HK1, HB1⟩ := hrel
      have hxb := HXB.out
      have hCL1 := HCLK.out wr HK1.out
      have hcn := cell_of_one hCL1.n
      have hcw := cell_of_one hCL1.w
      obtain ⟨tyg, hgg1⟩ := hCL1.g
      have HGG := Aside0.mk hgg1
      have HCL1 := Aside0.mk hCL1
      clear hCL1 hgg1
      by_cases hxw : x ≤ w
      · obtain ⟨c', hc'⟩ : ∃ c', (w + 1 - x).toNat = c' + 1 := ⟨(w + 1 - x).toNat - 1, by omega⟩
        have hA := HA.out
        rw [hc'] at hA
        simp only [impl_openPatterns.each] at hA
        obtain ⟨y, hy⟩ : ∃ y, y = b ++ [x] := ⟨_, rfl⟩
        rw [← hy] at hA
        have hcc : (w + 1 - (x + 1)).toNat = c' := by omega
        rw [← hcc] at hA
        have HY := Aside0.mk hy
        have hyl : y.length = b.length + 1 := by rw [hy, List.length_append, List.length_singleton]
        have HYL := Aside0.mk hyl
        have HYX : Aside0 (∀ z ∈ y, 0 ≤ z ∧ z ≤ 2000) := ⟨fun z hz => by
          rw [hy] at hz
          rcases List.mem_append.1 hz with h3 | h3
          · exact HX.out z h3
          · rw [List.mem_singleton.1 h3]; omega⟩
        have hBr : Bo < wr.heap.size := blk_lt HH1.out
        have HCN := Aside0.mk (⟨hc', hcc, hgg⟩ : (w + 1 - x).toNat = c' + 1 ∧ (w + 1 - (x + 1)).toNat = c' ∧ (w + 1 - x).toNat ≤ gk)
        have hgcell : ∀ W', Below wr.heap.size wr W' → W'.cell? ⟨Bg, 0, none⟩ = some (.func (.func 85) #[] #[.pointer (some ⟨Bn, 0, none⟩), .pointer (some ⟨Bw, 0, none⟩), .pointer (some ⟨Bo, 0, none⟩), .pointer (some ⟨Bg, 0, none⟩)]) := fun W' hb => cell_of_one ((hb.block Bg (blk_lt HGG.out)).trans HGG.out)
        have HGC := Aside0.mk hgcell
        have hcg0 := hgcell _ (Below.refl _ _)
        clear HA hy hyl hc' hcc hgg hgcell
        by_cases hgo : (b.length : Int) + 1 < n ∨ x = w
        · rw [if_pos hgo] at hA
          obtain ⟨a2, ha, hA⟩ := Option.bind_eq_some_iff.mp hA
          have HA2 := Aside0.mk ha
          have HA := Aside0.mk hA
          clear ha hA
          rcases (show (b.length : Int) + 1 < n ∨ (¬ (b.length : Int) + 1 < n ∧ x = w) by omega) with hc1 | ⟨hc1, hc2⟩
          case' inl =>
            clear hgo
            go_wp2_with fail
          case' inr =>
            have hc2b : (x == w) = true := beq_iff_eq.2 hc2
            clear hgo hc2
            go_wp2_with fail
          all_goals
            have hcgA : ∀ o, (wr.alloc o).cell? ⟨Bg, 0, none⟩ = some (.func (.func 85) #[] #[.pointer (some ⟨Bn, 0, none⟩), .pointer (some ⟨Bw, 0, none⟩), .pointer (some ⟨Bo, 0, none⟩), .pointer (some ⟨Bg, 0, none⟩)]) := fun o => HGC.out _ (below_alloc (Below.refl _ _) o)
            have hcgB : ∀ o o2, ((wr.alloc o).alloc o2).cell? ⟨Bg, 0, none⟩ = some (.func (.func 85) #[] #[.pointer (some ⟨Bn, 0, none⟩), .pointer (some ⟨Bw, 0, none⟩), .pointer (some ⟨Bo, 0, none⟩), .pointer (some ⟨Bg, 0, none⟩)]) := fun o o2 => HGC.out _ (below_alloc (below_alloc (Below.refl _ _) o) o2)
            go_region_law (first
              | (refine Kd.R_append_rows_step (Kd.int .i64) (w0 := wr) wr.heap.size ?q1 (.tmp 47) (.tmp 48) 24 3 (.int .i64 0) 8 ?q2 Try.underlying24 info3 ?q3 ?q4 ?q5 _ [] b (some ad) b.length c (fun k => wr.heap.size ≤ k) (fun _ => False) rfl rfl ?qO ?qR (fun _ _ h => h) (fun _ h => h.elim) ?qF ?qB ?qS ?qL ?_
                 case q1 => rfl
                 case q2 => rfl
                 case q3 => rfl
                 case q4 => decide
                 case q5 => omega
                 case qO => first
                   | exact Kd.R_mono (Kd.R_drewN (impl_openPatterns.lit wr wr.heap.size _ [] rfl (Nat.le_refl _) (by simp)) 1) (fun k hk => by omega)
                   | exact Kd.R_mono (Kd.R_drewN (Kd.R_alloc (impl_openPatterns.lit wr wr.heap.size _ [] rfl (Nat.le_refl _) (by simp)) _) 1) (fun k hk => by omega)
                   | exact Kd.R_mono (Kd.R_drewN (impl_openPatterns.lit (wr.alloc _) wr.heap.size _ [] (by simp) (by simp) (by simp)) 1) (fun k hk => by omega)
                 case qR => exact Kd.C_below (HKEEP.out wr HK1.out) (by repeat (first | exact Below.refl _ _ | apply below_drew1 | apply below_alloc))
                 case qF => exact fun k hk => by simp at hk; omega
                 case qB => exact (by repeat (first | exact Below.refl _ _ | apply below_drew1 | apply below_alloc))
                 case qS => simp <;> omega
                 case qL => simp <;> omega
                 intro u49 w1 ho1 hb1 hg1 hat1
                 rw [List.nil_append] at ho1
                 have hcg1 := HGC.out w1 hb1
                 have hcg1A : ∀ o, (w1.alloc o).cell? ⟨Bg, 0, none⟩ = some (.func (.func 85) #[] #[.pointer (some ⟨Bn, 0, none⟩), .pointer (some ⟨Bw, 0, none⟩), .pointer (some ⟨Bo, 0, none⟩), .pointer (some ⟨Bg, 0, none⟩)]) := fun o => HGC.out _ (below_alloc hb1 o)
                 have HO1 := Aside0.mk ho1
                 have HW1 := Aside0.mk hb1
                 have HG1 := Aside0.mk hg1
                 (first
                   | (have HCX := Aside0.mk (Kd.R_grown (Kd.R_drewN (impl_openPatterns.lit (wr.alloc _) wr.heap.size (wr.heap.size + 1) [x] (by simp) (Nat.le_succ _) (by simp)) 1) HG1.out (fun k hk e => by have hk2 : k = wr.heap.size + 1 := hk; have e2 : some k = some wr.heap.size := e; injection e2 with e2; omega)))
                   | (have HCX := Aside0.mk (Kd.R_grown (Kd.R_drewN (Kd.R_alloc (impl_openPatterns.lit wr wr.heap.size wr.heap.size [x] rfl (Nat.le_refl _) (by simp)) _) 1) HG1.out (fun k hk e => by have hk2 : k = wr.heap.size := hk; have e2 : some k = some (wr.heap.size + 1) := e; injection e2 with e2; omega)))
                   | skip)
                 clear ho1 hb1 hg1 hat1)
              | (refine Kd.R_append_rows_step (Kd.int .i64) (w0 := wr) wr.heap.size ?q1 (.tmp 49) (.tmp 51) 24 3 (.int .i64 0) 8 ?q2 Try.underlying24 info3 ?q3 ?q4 ?q5 u49 b [x] _ 1 1 (fun k => wr.heap.size ≤ k) (fun _ => False) rfl rfl ?qO ?qR (fun _ _ h => h) (fun _ h => h.elim) ?qF ?qB ?qS ?qL ?_
                 case q1 => rfl
                 case q2 => rfl
                 case q3 => rfl
                 case q4 => decide
                 case q5 => omega
                 case qO => first | exact HO1.out | exact Kd.R_alloc HO1.out _
                 case qR => first
                   | exact (Kd.R_reads' HCX.out).2.2
                   | exact (Kd.R_reads' (impl_openPatterns.lit w1 wr.heap.size _ [x] rfl HW1.out.size (by simp))).2.2
                 case qF => first | exact fun k hk => Nat.le_trans HW1.out.size hk | exact fun k hk => by have := HW1.out.size; simp at hk; omega
                 case qB => first | exact HW1.out | exact below_alloc HW1.out _
                 case qS => first | exact HW1.out.size | (have := HW1.out.size; simp <;> omega)
                 case qL => omega
                 intro u52 w3 ho3 hb3 hg3 hat3
                 rw [← HY.out] at ho3
                 obtain ⟨A2, c2, rfl⟩ := Kd.R_slice ho3
                 have hcg3 := HGC.out w3 hb3
                 have HO3 := Aside0.mk ho3
                 have HBW := Aside0.mk hb3
                 clear hg3 hat3)
              | (go_simp; go_at_call 85; (with_reducible refine (IH.out y acc1 a2 (fun k => (P k ∨ W.heap.size ≤ k) ∧ k < wr.heap.size) (fun k => wr.heap.size ≤ k) A2 c2 v1 w3 ?b1 ?b2 ?b3 ?b4 ?b5 ?b6 ?b7 ?b8 ?b9 ?b10 HA2.out).mono ?_); (case b1 => have := HYL.out; have := HL.out; omega); (case b2 => exact HYX.out); (case b3 => exact Kd.R_lower HO3.out (Nat.le_trans HBO.out (Nat.le_of_lt hBr))); (case b4 => exact fun k h3 h4 => by have := h4.2; omega); (case b5 => exact fun k h3 => h3.1.elim (HP.out k) (HNEW.out k)); (case b6 => exact fun k h3 => HNEW.out k (Nat.le_trans HK1.out.1 h3)); (case b7 => exact Kd.S_mono (Kd.S_below (Kd.S_bound HS1.out) HBW.out) fun k hk => ⟨hk.1, hk.2.2.1⟩); (case b8 => exact HCLK.out w3 (HK1.out.below HBW.out)); (case b9 => exact (HBW.out.block Bo hBr).trans HH1.out); (case b10 => exact HB1.out.trans (HBW.out.mono (Nat.le_trans HBO.out (Nat.le_of_lt hBr)))); rintro e w5 ⟨rfl, v5, hc5, hS5, hK5, hB5⟩; have HH5 := Aside0.mk hc5; have HS5 := Aside0.mk hS5; have HK5 := Aside0.mk hK5; have HB5 := Aside0.mk hB5; clear hc5 hS5 hK5 hB5))
            all_goals
              (try go_wp2_with fail)
              go_roundg (w + 1 - (x + 1)).toNat
              case measure => have := HCN.out; omega
              case rel => exact ⟨x + 1, a2, v5, by go_num, ⟨by omega⟩, Nat.le_refl _, HA, HH5, ⟨Kd.S_mono HS5.out fun k hk => hk.elim (fun h3 => h3.1) fun h3 => .inr (h3.elim (fun h4 => Nat.le_trans HK1.out.1 h4) fun h4 => Nat.le_trans HK1.out.1 (Nat.le_trans HBW.out.size h4))⟩, ⟨(HK1.out.below HBW.out).then_ HK5.out fun k h3 => h3.elim (fun h4 => h4.1.elim (fun h5 => .inl (.inl h5)) fun h5 => .inr h5) fun h4 => .inl (.inr h4)⟩, HB5⟩
        · rw [if_neg hgo] at hA
          have HA := Aside0.mk hA
          have hc1 : ¬ (b.length : Int) + 1 < n := fun h3 => hgo (.inl h3)
          have hc2b : (x == w) = false := beq_eq_false_iff_ne.2 fun h3 => hgo (.inr h3)
          clear hA hgo
          go_wp2_with fail
          go_roundg (w + 1 - (x + 1)).toNat
          case measure => have := HCN.out; omega
          case rel => exact ⟨x + 1, acc1, v1, by go_num, ⟨by omega⟩, Nat.le_refl _, HA, HH1, HS1, HK1, HB1⟩
      · have hc0 : (w + 1 - x).toNat = 0 := by omega
        have hA := HA.out
        rw [hc0] at hA
        simp only [impl_openPatterns.each] at hA
        injection hA with hA
        subst hA
        clear HA hc0
        go_wp2_with fail
        go_end0
        exact ⟨rfl, v1, HH1.out, Kd.S_mono HS1.out fun k hk => hk.elim .inl fun h3 => .inr (.inr h3), HK1.out, HB1.out⟩
theorem impl_openPatterns.at_new (W : World) (o : Obj) (g : Nat) (hg : g = W.heap.size) : (W.alloc o).heap[g]? = some o := by
  subst hg
  exact heap_alloc_new W o
theorem impl_openPatterns.at_old {W : World} {g : Nat} {x : Obj} (o : Obj) (hx : W.heap[g]? = some x) : (W.alloc o).heap[g]? = some x := (Below.heap_alloc W o g (blk_lt hx)).trans hx
theorem impl_openPatterns.lit0 {α : Type} (d : Kd α) (e : Nat) (W : World) (base g : Nat) (hg : g = W.heap.size) (hb : base ≤ g) : Kd.R d e (W.alloc (.cells #[] e)) base (fun k => k = g) (.slice (some ⟨g, 0, none⟩) 0 0) [] := by
  subst hg
  refine ⟨fun k hk => by simpa [Value.ownBlock] using hk.symm, [], ?_, Reps.none _ _⟩
  have h2 := World.ownsRow_lit (base := base) (e := e) (size := d.sz) W #[] 0 hb (by simp [maxLen]) (by simp)
  simpa using h2
set_option maxHeartbeats 8000000 in
set_option maxRecDepth 100000 in
theorem impl_openPatterns.calls (k : Nat) (a0 : Int) (a1 : Int) (r : List (List Int)) (w : World) (h : impl_openPatterns.f k a0 a1 = some r) :
    Calls Try.prog 64 #[.int .i64 a0, .int .i64 a1] w fun e w' => ∃ v0_ : Value, e = .returned (v0_) ∧ Kd.S (Kd.slice 3 (Kd.int .i64)) 24 w' w.heap.size (fun _ => True) v0_ r ∧ Below w.heap.size w w' := by
  unfold impl_openPatterns.f at h
  by_cases c1 : 1 ≤ a0 ∧ a0 ≤ 50 ∧ 0 ≤ a1 ∧ a1 ≤ 1000
  case neg => rw [if_neg c1] at h; cases h
  rw [if_pos c1] at h
  obtain ⟨y, hy⟩ : ∃ y : List Int, y = [0] := ⟨_, rfl⟩
  rw [← hy] at h
  have HY := Aside0.mk hy
  have HYL : Aside0 (y.length = 1 ∧ ∀ x ∈ y, 0 ≤ x ∧ x ≤ 2000) := ⟨by rw [hy]; exact ⟨rfl, fun x hx => by rw [List.mem_singleton.1 hx]; omega⟩⟩
  have HG := Aside0.mk h
  have HA := Aside0.mk c1
  clear h hy c1
  have hmf : ∀ (fn : Fn) (first cap : Array Value) (w : World), (Instr.makeFunc fn first cap).run Try.prog w = .ok (.func fn first cap) w := fun _ _ _ _ => rfl
  have hsf : ∀ (a : Addr) (fn : Fn) (p q : Array Value) (m : Mode) (W : World), (store a (.func fn p q) m).run Try.prog W = stored Try.prog W a (.func fn p q) m := fun a fn p q m W => run_store Try.prog W a _ m rfl
  go_enter Try.func64, Try.ntmps64
  go_wp2_with (first
    | ((with_reducible refine gate_dst (N := 10) rfl ?_); refine Kd.R_lit (Kd.int .i64) _ 3 ?hg (N := 10) ?hd (xs := ([0] : List Int)) (inner := [.int .i64 0]) (ok := fun _ => True) (okp := fun _ => True) ?hr ?hp (fun _ hk => hk) trivial (Below.refl _ _) (Nat.le_refl _) (by simp) ?_; (case hd => rfl); (case hg => rfl); (case hr => first | (go_simp; done) | (go_simp; rfl)); (case hp => exact (Reps.one (show Kd.M (Kd.int .i64) _ _ _ 0 [.int .i64 0] from rfl) (Reps.none _ _))); intro u1 w1 ho1 hb1 hg_ hnew_; clear hg_ hnew_; rw [← HY.out] at ho1; obtain ⟨A1, c1, rfl⟩ := Kd.R_slice ho1; have HO1 := Aside0.mk ho1; have HW1 := Aside0.mk hb1; clear ho1 hb1)
    | (go_at_call 85; (with_reducible refine (impl_openPatterns.grow k a0 a1 ⟨HA.out.1, HA.out.2.1⟩ HA.out.2.2 w.heap.size (w.heap.size + 1) (w.heap.size + 1 + 1 + 1) (w.heap.size + 1 + 1 + 1 + 1) w.heap.size w ?b0 ?b1 ?b2 ?b3 50 y [] r (fun k => k = w.heap.size + 1 + 1) (fun k => w.heap.size + 5 ≤ k) A1 c1 (.slice (some ⟨w.heap.size + 1 + 1, 0, none⟩) 0 0) w1 ?b4 ?b5 ?b6 ?b7 ?b8 ?b9 ?b10 ?b11 ?b12 ?b13 HG.out).mono ?_); (case b0 => omega); (case b1 => omega); (case b2 => omega); (case b3 => omega); (case b4 => have := HYL.out.1; omega); (case b5 => exact HYL.out.2); (case b6 => exact Kd.R_mono (Kd.R_lower (Kd.R_bound HO1.out) (by simp <;> omega)) fun k hk => by have := hk.2.1; simp at this <;> omega); (case b7 => exact fun k h3 h4 => by have h5 : w.heap.size + 5 ≤ k := h3; have h6 : k = w.heap.size + 1 + 1 := h4; omega); (case b8 => exact fun k h4 => by have h6 : k = w.heap.size + 1 + 1 := h4; subst h6; unfold impl_openPatterns.Free; omega); (case b9 => exact fun k h3 => by have h5 : w.heap.size + 5 ≤ k := h3; unfold impl_openPatterns.Free; omega); (case b10 => exact ⟨fun _ => 0, Kd.R_below (Kd.R_alloc (Kd.R_alloc (impl_openPatterns.lit0 _ _ _ _ _ (by simp) (by omega)) _) _) HW1.out⟩); (case b11 => exact ⟨(HW1.out.block _ (by simp <;> omega)).trans (impl_openPatterns.at_old _ (impl_openPatterns.at_old _ (impl_openPatterns.at_old _ (impl_openPatterns.at_old _ (impl_openPatterns.at_new w _ _ rfl))))), (HW1.out.block _ (by simp <;> omega)).trans (impl_openPatterns.at_old _ (impl_openPatterns.at_old _ (impl_openPatterns.at_old _ (impl_openPatterns.at_new _ _ _ (by simp <;> omega))))), 68, (HW1.out.block _ (by simp <;> omega)).trans (impl_openPatterns.at_new _ _ _ (by simp <;> omega))⟩); (case b12 => exact (HW1.out.block _ (by simp <;> omega)).trans (impl_openPatterns.at_old _ (impl_openPatterns.at_new _ _ _ (by simp <;> omega)))); (case b13 => exact (by repeat (first | exact Below.refl _ _ | apply below_alloc) : Below w.heap.size w _).trans (HW1.out.mono (by simp <;> omega))); rintro e w2 ⟨rfl, v2, hc2, hS2, hK2, hB2⟩; have hcell2 := cell_of_one hc2; have HS2 := Aside0.mk hS2; have HB2 := Aside0.mk hB2; clear hc2 hS2 hK2 hB2))
  go_ret
  exact ⟨_, rfl, Kd.S_mono HS2.out fun _ _ => trivial, HB2.out⟩


end Go.Proofs.Ytlngnnkkaepeeaa.P
