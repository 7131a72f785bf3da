/- the law of counting anew, for all that is drawn: what both functions compute. No condition beyond 64 bits and the lengths that the statement's guards give. -/
import Derived.Test.YtjonkpeoiecchaaPx0
import Derived.Test.YtjonkpeoiecchaaPx5
import Derived.Test.YtjonkpeoiecchaaPx8
import Derived.Test.YtjonkpeoiecchaaPx9
import Derived.Test.YtjonkpeoiecchaaPx10
import Derived.Test.YtjonkpeoiecchaaPx11
import Derived.Test.YtjonkpeoiecchaaPx12
import Derived.Test.YtjonkpeoiecchaaPx13
import Derived.Test.YtjonkpeoiecchaaPx14
import Derived.Test.YtjonkpeoiecchaaPx15
import Derived.Test.YtjonkpeoiecchaaPx17
import Derived.Test.YtjonkpeoiecchaaPx19
import Derived.Laws.Bits64b
import Derived.Test.YtjonkpeoiecchaaPx1
import Derived.Test.YtjonkpeoiecchaaPx2
import Derived.Test.YtjonkpeoiecchaaPx3
import Derived.Test.YtjonkpeoiecchaaPx16
import Derived.Test.YtjonkpeoiecchaaPx18
import Derived.Test.YtjonkpeoiecchaaPx20
/-! ## L0 -/
namespace Go.Proofs.Ytjonkpeoiecchaa.L
open Go.RowKit Go.Proofs.YtjonkpeoiecchaaW.PrintWords
set_option linter.unusedVariables false
set_option linter.unusedSimpArgs false

/-- With enough rounds g tells r. -/
def Evl {α : Type} (g : Nat → Option α) (r : α) : Prop := ∃ K, ∀ k, K ≤ k → g k = some r
theorem Evl.ret {α : Type} (r : α) : Evl (fun _ => some r) r := ⟨0, fun _ _ => rfl⟩
theorem Evl.bind {α β : Type} {g : Nat → Option α} {f : Nat → α → Option β} {a : α} {r : β} (h : Evl g a) (h2 : Evl (fun k => f k a) r) : Evl (fun k => (g k).bind (f k)) r := by
  obtain ⟨K, hK⟩ := h
  obtain ⟨K2, hK2⟩ := h2
  refine ⟨max K K2, fun k hk => ?_⟩
  show (g k).bind (f k) = some r
  rw [hK k (Nat.le_trans (Nat.le_max_left _ _) hk), Option.bind_some]
  exact hK2 k (Nat.le_trans (Nat.le_max_right _ _) hk)
theorem Evl.succ {α : Type} {g : Nat → Option α} {r : α} (h : Evl (fun k => g (k + 1)) r) : Evl g r := by
  obtain ⟨K, hK⟩ := h
  refine ⟨K + 1, fun k hk => ?_⟩
  obtain ⟨m, rfl⟩ : ∃ m, k = m + 1 := ⟨k - 1, by omega⟩
  exact hK m (by omega)
theorem Evl.congr {α : Type} {g g' : Nat → Option α} {r : α} (h : ∀ k, g k = g' k) (h2 : Evl g' r) : Evl g r := by
  obtain ⟨K, hK⟩ := h2
  exact ⟨K, fun k hk => (h k).trans (hK k hk)⟩
theorem Evl.get {α : Type} {g : Nat → Option α} {r : α} (h : Evl g r) : ∃ k, g k = some r := by
  obtain ⟨K, hK⟩ := h
  exact ⟨K, hK K (Nat.le_refl _)⟩
theorem Evl.cast {α : Type} {g : Nat → Option α} {r r' : α} (h : Evl g r) (e : r = r') : Evl g r' := e ▸ h

theorem w64 {x : Int} (h0 : -9223372036854775808 ≤ x) (h1 : x ≤ 9223372036854775807) : wrap64 x = x := by
  unfold wrap64
  omega
theorem drop_nil {α : Type} {xs : List α} {i : Nat} (h : xs.drop i = []) : xs.length ≤ i := by
  simpa using h
theorem drop_cons {α : Type} {xs s : List α} {x : α} {i : Nat} (h : xs.drop i = x :: s) : i < xs.length ∧ xs[i]? = some x ∧ xs.drop (i + 1) = s := by
  have hl : i < xs.length := by
    rcases Nat.lt_or_ge i xs.length with h1 | h1
    · exact h1
    · rw [List.drop_of_length_le h1] at h
      cases h
  rw [List.drop_eq_getElem_cons hl] at h
  injection h with h1 h2
  exact ⟨hl, by rw [List.getElem?_eq_getElem hl, h1], h2⟩
theorem rd_of {xs : List Int} {i : Nat} {x : Int} (h : xs[i]? = some x) : rd xs (i : Int) = x := by
  unfold rd
  rw [Int.toNat_natCast, List.getD_eq_getElem?_getD, h]
  rfl
theorem rd_nat {xs : List Int} {i : Nat} (h : i < xs.length) : rd xs (i : Int) = xs[i] := rd_of (List.getElem?_eq_getElem h)

end Go.Proofs.Ytjonkpeoiecchaa.L

/-! ## M8 -/
namespace Go.Proofs.Ytjonkpeoiecchaa.M
set_option linter.unusedVariables false
set_option linter.unusedSimpArgs false

theorem dm (n k : Nat) (hk : 1 ≤ k) : ∃ d r, n = k * d + r ∧ r < k ∧ n / k = d ∧ n % k = r := ⟨n / k, n % k, (Nat.div_add_mod n k).symm, Nat.mod_lt _ hk, rfl, rfl⟩
theorem div_of {k d r : Nat} (h : r < k) : (k * d + r) / k = d ∧ (k * d + r) % k = r := by
  have hk : 0 < k := by omega
  constructor
  · rw [Nat.mul_add_div hk, Nat.div_eq_of_lt h, Nat.add_zero]
  · rw [Nat.mul_add_mod, Nat.mod_eq_of_lt h]
theorem sdiv {i k : Nat} (hk : 2 ≤ k) : (i + 1) / k = i / k + (if (i + 1) % k = 0 then 1 else 0) := by
  obtain ⟨d, r, h, hr, h1, h2⟩ := dm i k (by omega)
  rw [h1]
  clear h1 h2
  rcases Nat.lt_or_ge (r + 1) k with g | g
  · have := div_of (d := d) g
    have e : i + 1 = k * d + (r + 1) := by omega
    rw [e, this.1, this.2]
    rfl
  · have e0 : k * (d + 1) = k * d + k := Nat.mul_succ k d
    have e : i + 1 = k * (d + 1) + 0 := by omega
    have := div_of (k := k) (d := d + 1) (r := 0) (by omega)
    rw [e, this.1, this.2]
    rfl
theorem stp {n k : Nat} (hk : 2 ≤ k) (hn : n % k ≠ 0) : 1 ≤ n - n / k ∧ n - n / k + (n - n / k - 1) / (k - 1) = n := by
  obtain ⟨d, r, h, hr, h1, h2⟩ := dm n k (by omega)
  rw [h2] at hn
  rw [h1]
  clear h1 h2
  obtain ⟨c, rfl⟩ : ∃ c, k = c + 1 := ⟨k - 1, by omega⟩
  have e : (c + 1) * d = c * d + d := Nat.succ_mul c d
  have := div_of (k := c) (d := d) (r := r - 1) (by omega)
  have e2 : n - d - 1 = c * d + (r - 1) := by omega
  have e3 : (n - d - 1) / (c + 1 - 1) = d := by rw [Nat.add_sub_cancel, e2]; exact this.1
  rw [e3]
  clear e3 this
  omega
theorem pts {p k : Nat} (hk : 2 ≤ k) (hp : 1 ≤ p) : (p + (p - 1) / (k - 1)) % k ≠ 0 ∧ (p + (p - 1) / (k - 1)) - (p + (p - 1) / (k - 1)) / k = p := by
  obtain ⟨c, rfl⟩ : ∃ c, k = c + 1 := ⟨k - 1, by omega⟩
  rw [Nat.add_sub_cancel]
  obtain ⟨d, r, h, hr, h1, h2⟩ := dm (p - 1) c (by omega)
  rw [h1]
  clear h1 h2
  have e : (c + 1) * d = c * d + d := Nat.succ_mul c d
  have e2 : p + d = (c + 1) * d + (r + 1) := by omega
  have := div_of (k := c + 1) (d := d) (r := r + 1) (by omega)
  rw [e2, this.1, this.2]
  clear this
  omega

/-- The index of the step by which a place falls. -/
def fal : List Nat → Nat → Nat → Option Nat
  | [], _, _ => none
  | k :: s, i, n => if n % k = 0 then some i else fal s (i + 1) (n - n / k)
/-- The place that is left behind all steps. -/
def plc : List Nat → Nat → Option Nat
  | [], n => some n
  | k :: s, n => if n % k = 0 then none else plc s (n - n / k)
/-- The place before all steps. -/
def bak : List Nat → Nat → Nat
  | [], m => m
  | k :: s, m => bak s m + (bak s m - 1) / (k - 1)
theorem fal_some : ∀ (q : List Nat) (i n j : Nat), fal q i n = some j → i ≤ j ∧ j < i + q.length
  | [], i, n, j, h => by cases h
  | k :: s, i, n, j, h => by
    unfold fal at h
    rw [List.length_cons]
    split at h
    · injection h with h
      omega
    · have := fal_some s (i + 1) _ j h
      clear h
      omega
theorem fal_or : ∀ (q : List Nat) (i n : Nat), (∃ j, fal q i n = some j ∧ plc q n = none) ∨ (fal q i n = none ∧ ∃ m, plc q n = some m)
  | [], i, n => Or.inr ⟨rfl, n, rfl⟩
  | k :: s, i, n => by
    unfold fal plc
    by_cases c : n % k = 0
    · rw [if_pos c, if_pos c]
      exact Or.inl ⟨i, rfl, rfl⟩
    · rw [if_neg c, if_neg c]
      exact fal_or s (i + 1) _
theorem plc_bak : ∀ (q : List Nat) (n m : Nat), (∀ k ∈ q, 2 ≤ k) → 1 ≤ n → plc q n = some m → 1 ≤ m ∧ m ≤ n ∧ bak q m = n
  | [], n, m, _, hn, h => by
    unfold plc at h
    injection h with h
    subst h
    exact ⟨hn, Nat.le_refl _, rfl⟩
  | k :: s, n, m, hq, hn, h => by
    unfold plc at h
    have hk := hq k (List.mem_cons_self ..)
    split at h
    · cases h
    · rename_i c
      have hs := stp hk c
      have ih := plc_bak s _ m (fun x hx => hq x (List.mem_cons_of_mem _ hx)) hs.1 h
      refine ⟨ih.1, Nat.le_trans ih.2.1 (Nat.sub_le _ _), ?_⟩
      rw [bak, ih.2.2]
      exact hs.2
theorem bak_plc : ∀ (q : List Nat) (m : Nat), (∀ k ∈ q, 2 ≤ k) → 1 ≤ m → 1 ≤ bak q m ∧ plc q (bak q m) = some m ∧ bak q m ≤ m * 2 ^ q.length
  | [], m, _, h => ⟨h, rfl, by simp [bak]⟩
  | k :: s, m, hq, h => by
    have hk := hq k (List.mem_cons_self ..)
    obtain ⟨i1, i2, i3⟩ := bak_plc s m (fun x hx => hq x (List.mem_cons_of_mem _ hx)) h
    have hp := pts hk i1
    have hd : (bak s m - 1) / (k - 1) ≤ bak s m - 1 := Nat.div_le_self _ _
    have e : bak (k :: s) m = bak s m + (bak s m - 1) / (k - 1) := rfl
    rw [e]
    refine ⟨Nat.le_trans i1 (Nat.le_add_right _ _), ?_, ?_⟩
    · rw [plc, if_neg hp.1, hp.2]
      exact i2
    · rw [List.length_cons, Nat.pow_succ, ← Nat.mul_assoc]
      clear hp e i2 hq hk h
      generalize m * 2 ^ s.length = z at *
      generalize (bak s m - 1) / (k - 1) = y at *
      generalize bak s m = x at *
      omega
theorem bak_le {q : List Nat} {m : Nat} (h2 : ∀ k ∈ q, 2 ≤ k) (hl : q.length ≤ 12) (h1 : 1 ≤ m) (hm : m ≤ 1001) : bak q m ≤ 5000000 := by
  have h := (bak_plc q m h2 h1).2.2
  have hp : 2 ^ q.length ≤ 2 ^ 12 := Nat.pow_le_pow_right (by omega) hl
  have := Nat.mul_le_mul hm hp
  have e : 1001 * 2 ^ 12 = 4100096 := by decide
  rw [e] at this
  exact Nat.le_trans h (Nat.le_trans this (by omega))

/-- What is left of a list without each k-th number. -/
def out (k : Nat) : List Int → Nat → List Int
  | [], _ => []
  | x :: s, i => if (i + 1) % k = 0 then out k s (i + 1) else x :: out k s (i + 1)
theorem out_append (k : Nat) : ∀ (a b : List Int) (i : Nat), out k (a ++ b) i = out k a i ++ out k b (i + a.length)
  | [], b, i => rfl
  | x :: a, b, i => by
    have e : i + (x :: a).length = i + 1 + a.length := by rw [List.length_cons]; omega
    rw [List.cons_append, out, out, out_append k a b (i + 1), e]
    split
    · rfl
    · rfl
theorem out_sub (k : Nat) : ∀ (l : List Int) (i : Nat), (out k l i).Sublist l
  | [], i => List.Sublist.slnil
  | x :: s, i => by
    rw [out]
    split
    · exact (out_sub k s (i + 1)).cons x
    · exact (out_sub k s (i + 1)).cons_cons x
theorem out_len {k : Nat} (hk : 2 ≤ k) : ∀ (l : List Int) (i : Nat), (out k l i).length + (i + l.length) / k = l.length + i / k
  | [], i => by simp [out]
  | x :: s, i => by
    have ih := out_len hk s (i + 1)
    have hd := sdiv (i := i) hk
    have e : i + (x :: s).length = i + 1 + s.length := by rw [List.length_cons]; omega
    rw [out, e, List.length_cons]
    split
    · rename_i c
      rw [if_pos c] at hd
      rw [hd] at ih
      clear hd e c
      generalize (i + 1 + s.length) / k = A at *
      generalize i / k = B at *
      omega
    · rename_i c
      rw [if_neg c] at hd
      rw [hd] at ih
      rw [List.length_cons]
      clear hd e c
      generalize (i + 1 + s.length) / k = A at *
      generalize i / k = B at *
      omega
theorem out_len0 {k : Nat} (hk : 2 ≤ k) (l : List Int) : (out k l 0).length = l.length - l.length / k := by
  have h := out_len hk l 0
  rw [Nat.zero_add, Nat.zero_div, Nat.add_zero] at h
  generalize l.length / k = z at *
  omega
def outs : List Nat → List Int → List Int
  | [], l => l
  | k :: s, l => outs s (out k l 0)
theorem outs_sub : ∀ (q : List Nat) (l : List Int), (outs q l).Sublist l
  | [], l => List.Sublist.refl _
  | k :: s, l => (outs_sub s (out k l 0)).trans (out_sub k l 0)
def cn : List Nat → Nat → Nat
  | [], n => n
  | k :: s, n => cn s (n - n / k)
theorem outs_len : ∀ (q : List Nat) (l : List Int), (∀ k ∈ q, 2 ≤ k) → (outs q l).length = cn q l.length
  | [], l, _ => rfl
  | k :: s, l, hq => by
    rw [outs, cn, outs_len s _ (fun x hx => hq x (List.mem_cons_of_mem _ hx)), out_len0 (hq k (List.mem_cons_self ..))]
theorem out_place {k : Nat} (hk : 2 ≤ k) (a : List Int) (c : ¬ (a.length + 1) % k = 0) : a.length + 1 - (a.length + 1) / k = (out k a 0).length + 1 := by
  have hl := out_len0 hk a
  have hd := sdiv (i := a.length) hk
  rw [if_neg c, Nat.add_zero] at hd
  have hle : a.length / k ≤ a.length := Nat.div_le_self _ _
  rw [hd, hl]
  clear hd hl c
  generalize a.length / k = z at *
  omega
theorem outs_at : ∀ (q : List Nat) (a : List Int) (x : Int) (b : List Int) (m : Nat), (∀ k ∈ q, 2 ≤ k) → plc q (a.length + 1) = some m → ∃ a' b', outs q (a ++ x :: b) = a' ++ x :: b' ∧ a'.length + 1 = m
  | [], a, x, b, m, _, h => by
    unfold plc at h
    injection h with h
    exact ⟨a, b, rfl, h⟩
  | k :: s, a, x, b, m, hq, h => by
    have hk := hq k (List.mem_cons_self ..)
    unfold plc at h
    split at h
    · cases h
    · rename_i c
      rw [out_place hk a c] at h
      obtain ⟨a', b', h1, h2⟩ := outs_at s (out k a 0) x (out k b (a.length + 1)) m (fun x hx => hq x (List.mem_cons_of_mem _ hx)) h
      refine ⟨a', b', ?_, h2⟩
      rw [outs, out_append, Nat.zero_add, out, if_neg c]
      exact h1
theorem outs_gone : ∀ (q : List Nat) (a : List Int) (x : Int) (b : List Int), (∀ k ∈ q, 2 ≤ k) → x ∉ a → x ∉ b → plc q (a.length + 1) = none → x ∉ outs q (a ++ x :: b)
  | [], a, x, b, _, _, _, h => by cases h
  | k :: s, a, x, b, hq, ha, hb, h => by
    have hk := hq k (List.mem_cons_self ..)
    unfold plc at h
    rw [outs, out_append, Nat.zero_add, out]
    split at h
    · rename_i c
      rw [if_pos c]
      intro hx
      rcases List.mem_append.1 ((outs_sub s _).subset hx) with g | g
      · exact ha ((out_sub k a 0).subset g)
      · exact hb ((out_sub k b _).subset g)
    · rename_i c
      rw [if_neg c]
      rw [out_place hk a c] at h
      exact outs_gone s (out k a 0) x (out k b (a.length + 1)) (fun x hx => hq x (List.mem_cons_of_mem _ hx)) (fun g => ha ((out_sub k a 0).subset g)) (fun g => hb ((out_sub k b _).subset g)) h
theorem outs_snoc : ∀ (q : List Nat) (k : Nat) (l : List Int), outs (q ++ [k]) l = out k (outs q l) 0
  | [], k, l => rfl
  | j :: s, k, l => by rw [List.cons_append, outs, outs, outs_snoc s k]
def up : Nat → Nat → List Int
  | 0, _ => []
  | m + 1, n => (n : Int) :: up m (n + 1)
theorem up_len : ∀ (m n : Nat), (up m n).length = m
  | 0, n => rfl
  | m + 1, n => by rw [up, List.length_cons, up_len m (n + 1)]
theorem up_append : ∀ (m k n : Nat), up (m + k) n = up m n ++ up k (n + m)
  | 0, k, n => by rw [Nat.zero_add]; rfl
  | m + 1, k, n => by
    rw [show m + 1 + k = (m + k) + 1 by omega, up, up, up_append m k (n + 1), show n + 1 + m = n + (m + 1) by omega]
    rfl
theorem up_mem : ∀ (m n : Nat) (x : Int), x ∈ up m n → (n : Int) ≤ x ∧ x < n + m
  | 0, n, x, h => by cases h
  | m + 1, n, x, h => by
    unfold up at h
    rcases List.mem_cons.1 h with e | e
    · omega
    · have := up_mem m (n + 1) x e
      omega
theorem up_sorted : ∀ (m n : Nat), (up m n).Pairwise (· < ·)
  | 0, n => List.Pairwise.nil
  | m + 1, n => by
    unfold up
    refine List.Pairwise.cons (fun x hx => ?_) (up_sorted m (n + 1))
    have := up_mem _ _ x hx
    omega
theorem up_split (a b : Nat) : up (a + (b + 1)) 1 = up a 1 ++ ((a + 1 : Nat) : Int) :: up b (a + 2) := by
  rw [up_append, up, show 1 + a = a + 1 by omega]
theorem left_yes {q : List Nat} (hq : ∀ k ∈ q, 2 ≤ k) {n most p : Nat} (h1 : 1 ≤ n) (hn : n ≤ most) (h : plc q n = some p) : 1 ≤ p ∧ (outs q (up most 1))[p - 1]? = some (n : Int) := by
  obtain ⟨a, rfl⟩ : ∃ a, n = a + 1 := ⟨n - 1, by omega⟩
  obtain ⟨b, rfl⟩ : ∃ b, most = a + (b + 1) := ⟨most - a - 1, by omega⟩
  rw [up_split]
  have hl := up_len a 1
  obtain ⟨a', b', e1, e2⟩ := outs_at q (up a 1) ((a + 1 : Nat) : Int) (up b (a + 2)) p hq (by rw [hl]; exact h)
  rw [e1]
  refine ⟨by omega, ?_⟩
  rw [List.getElem?_append_right (by omega), show p - 1 - a'.length = 0 by omega]
  rfl
theorem left_no {q : List Nat} (hq : ∀ k ∈ q, 2 ≤ k) {n most : Nat} (h1 : 1 ≤ n) (hn : n ≤ most) (h : plc q n = none) : (n : Int) ∉ outs q (up most 1) := by
  obtain ⟨a, rfl⟩ : ∃ a, n = a + 1 := ⟨n - 1, by omega⟩
  obtain ⟨b, rfl⟩ : ∃ b, most = a + (b + 1) := ⟨most - a - 1, by omega⟩
  rw [up_split]
  have hl := up_len a 1
  refine outs_gone q (up a 1) _ _ hq (fun g => ?_) (fun g => ?_) (by rw [hl]; exact h)
  · have := up_mem _ _ _ g
    omega
  · have := up_mem _ _ _ g
    omega

end Go.Proofs.Ytjonkpeoiecchaa.M

/-! ## X23 -/
namespace Go.Proofs.Ytjonkpeoiecchaa.L
open Go.RowKit Go.Proofs.YtjonkpeoiecchaaW.PrintWords Go.Proofs.Ytjonkpeoiecchaa.P Go.Proofs.Ytjonkpeoiecchaa.M
set_option linter.unusedVariables false
set_option linter.unusedSimpArgs false

def okS (l : List Int) : Bool := decide (l.length ≤ 12) && l.all fun x => decide (2 ≤ x ∧ x ≤ 400)
def nl (q : List Nat) : List Int := q.map fun (p : Nat) => (p : Int)
def nt (l : List Int) : List Nat := l.map Int.toNat
theorem nl_len (q : List Nat) : (nl q).length = q.length := by unfold nl; exact List.length_map ..
theorem nt_nl : ∀ q : List Nat, nt (nl q) = q
  | [] => rfl
  | k :: s => by
    show (k : Int).toNat :: nt (nl s) = k :: s
    rw [nt_nl s, Int.toNat_natCast]
structure GS (q : List Nat) : Prop where
  len : q.length ≤ 12
  two : ∀ k ∈ q, 2 ≤ k
  most : ∀ k ∈ q, k ≤ 400
theorem nl_nt : ∀ l : List Int, (∀ x ∈ l, 2 ≤ x ∧ x ≤ 400) → l = nl (nt l)
  | [], _ => rfl
  | x :: s, h => by
    have hx := h x (List.mem_cons_self ..)
    show x :: s = ((x.toNat : Nat) : Int) :: nl (nt s)
    rw [← nl_nt s (fun y hy => h y (List.mem_cons_of_mem _ hy)), Int.toNat_of_nonneg (by omega)]
theorem okS_nl {l : List Int} (h : okS l = true) : ∃ q, l = nl q ∧ GS q := by
  unfold okS at h
  rw [Bool.and_eq_true] at h
  have h1 := of_decide_eq_true h.1
  have h2 : ∀ x ∈ l, 2 ≤ x ∧ x ≤ 400 := fun x hx => of_decide_eq_true (List.all_eq_true.1 h.2 x hx)
  refine ⟨nt l, nl_nt l h2, ⟨by unfold nt; rw [List.length_map]; exact h1, fun k hk => ?_, fun k hk => ?_⟩⟩
  · unfold nt at hk
    obtain ⟨x, hx, rfl⟩ := List.mem_map.1 hk
    have := h2 x hx
    omega
  · unfold nt at hk
    obtain ⟨x, hx, rfl⟩ := List.mem_map.1 hk
    have := h2 x hx
    omega
theorem okS_of {q : List Nat} (h : GS q) : okS (nl q) = true := by
  unfold okS
  rw [nl_len, decide_eq_true h.len, Bool.true_and]
  refine List.all_eq_true.2 fun x hx => ?_
  unfold nl at hx
  obtain ⟨k, hk, rfl⟩ := List.mem_map.1 hx
  have h2 := h.two k hk
  have h3 := h.most k hk
  exact decide_eq_true (by omega)
theorem nl_at {q : List Nat} {i k : Nat} (h : q[i]? = some k) : rd (nl q) (i : Int) = (k : Int) := by
  refine rd_of ?_
  unfold nl
  rw [List.getElem?_map, h]
  rfl
theorem any_all : ∀ l : List Int, (!(l.any impl_areSteps.p)) = l.all fun x => decide (2 ≤ x ∧ x ≤ 400)
  | [] => rfl
  | x :: s => by
    rw [List.any_cons, List.all_cons, Bool.not_or, any_all s]
    congr 1
    unfold impl_areSteps.p
    by_cases c : x < 2
    · rw [if_pos c, decide_eq_false (by omega)]; rfl
    · rw [if_neg c]
      by_cases c2 : x > 400
      · rw [decide_eq_true c2, decide_eq_false (by omega)]; rfl
      · rw [decide_eq_false c2, decide_eq_true (by omega)]; rfl
theorem areSteps_eq (l : List Int) : impl_areSteps.f l = some (okS l) := by
  unfold impl_areSteps.f okS
  by_cases hl : (l.length : Int) ≤ 12
  · rw [if_pos hl, decide_eq_true (show l.length ≤ 12 by omega), Bool.true_and, any_all]
  · rw [if_neg hl, decide_eq_false (show ¬ l.length ≤ 12 by omega), Bool.false_and]
theorem in_eq (a lo hi : Int) : spec_l1In.f a lo hi = some (decide (lo ≤ a ∧ a ≤ hi)) := by
  unfold spec_l1In.f
  by_cases h : a ≥ lo
  · rw [if_pos h]
    by_cases h2 : a ≤ hi
    · rw [decide_eq_true h2, decide_eq_true ⟨h, h2⟩]
    · rw [decide_eq_false h2, decide_eq_false (fun c => h2 c.2)]
  · rw [if_neg h, decide_eq_false (fun c => h c.1)]
theorem isAnew_eq (a : Int) : impl_isAnew.f a = some (decide (0 ≤ a ∧ a ≤ 400)) := by
  unfold impl_isAnew.f
  by_cases h : a ≥ 0
  · rw [if_pos h]
    by_cases h2 : a ≤ 400
    · rw [decide_eq_true h2, decide_eq_true ⟨h, h2⟩]
    · rw [decide_eq_false h2, decide_eq_false (fun c => h2 c.2)]
  · rw [if_neg h, decide_eq_false (fun c => h c.1)]
theorem l1All_l0 (l : List Int) (hl : l.length ≤ 12) : ∀ (s : List Int) (i : Nat), l.drop i = s → Evl (fun k => spec_l1All.l0 k 2 400 l (l.length : Int) (i : Int)) (s.all fun x => decide (2 ≤ x ∧ x ≤ 400)) := by
  intro s
  induction s with
  | nil =>
    intro i h
    have hi := drop_nil h
    refine Evl.succ ?_
    simp only [spec_l1All.l0, if_neg (show ¬ (i : Int) < (l.length : Int) by omega)]
    exact Evl.ret _
  | cons x s ih =>
    intro i h
    obtain ⟨hi, hx, hs⟩ := drop_cons h
    have hw : wrap64 ((i : Int) + 1) = ((i + 1 : Nat) : Int) := by rw [w64 (by omega) (by omega)]; rfl
    refine Evl.succ ?_
    simp only [spec_l1All.l0, if_pos (show (i : Int) < (l.length : Int) by omega), if_pos (show (0 : Int) ≤ (i : Int) by omega), rd_of hx, in_eq, Option.bind_some, hw]
    rw [List.all_cons]
    by_cases c : 2 ≤ x ∧ x ≤ 400
    · simp only [decide_eq_true c, if_true, Bool.true_and]
      exact ih (i + 1) hs
    · simp only [decide_eq_false c, Bool.false_eq_true, if_false, Bool.false_and]
      exact Evl.ret _
theorem cnGood_ev (l : List Int) : Evl (fun k => spec_cnGood.f k l) (okS l) := by
  simp only [spec_cnGood.f]
  by_cases hl : (l.length : Int) ≤ 12
  · simp only [if_pos hl, spec_l1All.f]
    refine Evl.bind (l1All_l0 l (by omega) l 0 rfl) ?_
    refine (Evl.ret _).cast ?_
    unfold okS
    rw [decide_eq_true (show l.length ≤ 12 by omega), Bool.true_and]
  · simp only [if_neg hl]
    refine (Evl.ret _).cast ?_
    unfold okS
    rw [decide_eq_false (show ¬ l.length ≤ 12 by omega), Bool.false_and]
theorem stepN (n k : Nat) (h : n ≤ 4000000000000000000) : wrap64 ((n : Int) - wrap64 (Int.tdiv (n : Int) (k : Int))) = ((n - n / k : Nat) : Int) := by
  have e : Int.tdiv (n : Int) (k : Int) = ((n / k : Nat) : Int) := rfl
  have hle := Nat.div_le_self n k
  rw [e]
  generalize n / k = z at *
  rw [w64 (x := (z : Int)) (by omega) (by omega), w64 (by omega) (by omega)]
  omega
theorem tmodN (n k : Nat) : Int.tmod (n : Int) (k : Int) = ((n % k : Nat) : Int) := rfl
theorem without_l0 (k : Nat) (hk : 2 ≤ k) (xs : List Int) (hl : xs.length ≤ 1000) : ∀ (s : List Int) (i : Nat) (acc : List Int), xs.drop i = s → acc.length + s.length ≤ 10000 → Evl (fun r => impl_withoutEach.l0 r (k : Int) acc xs (xs.length : Int) (i : Int)) (acc ++ out k s i) ∧ Evl (fun r => spec_cnOut.l0 r (k : Int) acc xs (xs.length : Int) (i : Int)) (acc ++ out k s i) := by
  intro s
  induction s with
  | nil =>
    intro i acc h ha
    have hi := drop_nil h
    rw [out, List.append_nil]
    constructor
    · refine Evl.succ ?_
      simp only [impl_withoutEach.l0, if_neg (show ¬ (i : Int) < (xs.length : Int) by omega)]
      exact Evl.ret _
    · refine Evl.succ ?_
      simp only [spec_cnOut.l0, if_neg (show ¬ (i : Int) < (xs.length : Int) by omega)]
      exact Evl.ret _
  | cons x s ih =>
    intro i acc h ha
    obtain ⟨hi, hx, hs⟩ := drop_cons h
    rw [List.length_cons] at ha
    have hw : wrap64 ((i : Int) + 1) = ((i + 1 : Nat) : Int) := by rw [w64 (by omega) (by omega)]; rfl
    have hz : ¬ (k : Int) = 0 := by omega
    have hi1 : (i : Int) < (xs.length : Int) := by omega
    have hi0 : (0 : Int) ≤ (i : Int) := by omega
    have hal : acc.length < 17592186044416 := by omega
    rw [out]
    by_cases c : (i + 1) % k = 0
    · have c' : (((i + 1) % k : Nat) : Int) = 0 := by rw [c]; rfl
      have := ih (i + 1) acc hs (by omega)
      rw [if_pos c]
      constructor
      · refine Evl.succ ?_
        simp only [impl_withoutEach.l0, if_pos hi1, if_pos hi0, if_neg hz, hw, tmodN, if_pos c']
        exact this.1
      · refine Evl.succ ?_
        simp only [spec_cnOut.l0, if_pos hi1, if_pos hi0, if_neg hz, hw, tmodN, if_pos c']
        exact this.2
    · have c' : ¬ (((i + 1) % k : Nat) : Int) = 0 := fun d => c (Int.ofNat.inj d)
      have := ih (i + 1) (acc ++ [x]) hs (by rw [List.length_append, List.length_singleton]; omega)
      rw [List.append_assoc] at this
      rw [if_neg c]
      constructor
      · refine Evl.succ ?_
        simp only [impl_withoutEach.l0, if_pos hi1, if_pos hi0, if_neg hz, hw, tmodN, if_neg c', if_pos hal, rd_of hx]
        exact this.1
      · refine Evl.succ ?_
        simp only [spec_cnOut.l0, if_pos hi1, if_pos hi0, if_neg hz, hw, tmodN, if_neg c', if_pos hal, rd_of hx]
        exact this.2
theorem counted_l0 (q : List Nat) (hq : GS q) : ∀ (s : List Nat) (i : Nat) (L : List Int), q.drop i = s → L.length ≤ 1000 → Evl (fun r => impl_countedOut.l0 r L (nl q) ((nl q).length : Int) (i : Int)) (outs s L) ∧ Evl (fun r => spec_cnLeft.l0 r L (nl q) ((nl q).length : Int) (i : Int)) (outs s L) := by
  intro s
  have hlen := hq.len
  induction s with
  | nil =>
    intro i L h hL
    have hi := drop_nil h
    rw [nl_len]
    constructor
    · refine Evl.succ ?_
      simp only [impl_countedOut.l0, if_neg (show ¬ (i : Int) < (q.length : Int) by omega)]
      exact Evl.ret _
    · refine Evl.succ ?_
      simp only [spec_cnLeft.l0, if_neg (show ¬ (i : Int) < (q.length : Int) by omega)]
      exact Evl.ret _
  | cons x s ih =>
    intro i L h hL
    obtain ⟨hi, hx, hs⟩ := drop_cons h
    have h2 := hq.two x (List.mem_of_getElem? hx)
    have hw : wrap64 ((i : Int) + 1) = ((i + 1 : Nat) : Int) := by rw [w64 (by omega) (by omega)]; rfl
    have hsub := (out_sub x L 0).length_le
    have := ih (i + 1) (out x L 0) hs (by omega)
    have hwo := without_l0 x h2 L hL L 0 [] rfl (by simp; omega)
    rw [nl_len] at this ⊢
    have hi1 : (i : Int) < (q.length : Int) := by omega
    have hi2 : (i : Int) < ((nl q).length : Int) := by rw [nl_len]; omega
    have hi0 : (0 : Int) ≤ (i : Int) := by omega
    constructor
    · refine Evl.succ ?_
      simp only [impl_countedOut.l0, if_pos hi1, if_pos hi0, if_pos hi2, nl_at hx, impl_withoutEach.f, hw]
      exact Evl.bind hwo.1 this.1
    · refine Evl.succ ?_
      simp only [spec_cnLeft.l0, if_pos hi1, if_pos hi0, if_pos hi2, nl_at hx, spec_cnOut.f, hw]
      exact Evl.bind hwo.2 this.2
theorem up_l0 (most : Nat) (hm : most ≤ 1000) : ∀ (m n : Nat) (acc : List Int), n + m = most + 1 → acc.length + m ≤ 10000 → Evl (fun r => impl_upTo.l0 r (most : Int) 1 acc (n : Int)) (acc ++ up m n) ∧ Evl (fun r => spec_cnUp.l0 r 1 (most : Int) acc (n : Int)) (acc ++ up m n) := by
  intro m
  induction m with
  | zero =>
    intro n acc h ha
    rw [up, List.append_nil]
    constructor
    · refine Evl.succ ?_
      simp only [impl_upTo.l0, if_neg (show ¬ (n : Int) ≤ (most : Int) by omega)]
      exact Evl.ret _
    · refine Evl.succ ?_
      simp only [spec_cnUp.l0, if_neg (show ¬ (n : Int) ≤ (most : Int) by omega)]
      exact Evl.ret _
  | succ m ih =>
    intro n acc h ha
    have hw : wrap64 ((n : Int) + 1) = ((n + 1 : Nat) : Int) := by rw [w64 (by omega) (by omega)]; rfl
    have := ih (n + 1) (acc ++ [(n : Int)]) (by omega) (by rw [List.length_append, List.length_singleton]; omega)
    rw [List.append_assoc] at this
    constructor
    · refine Evl.succ ?_
      simp only [impl_upTo.l0, if_pos (show (n : Int) ≤ (most : Int) by omega), if_pos (show acc.length < 17592186044416 by omega), hw]
      exact this.1
    · refine Evl.succ ?_
      simp only [spec_cnUp.l0, if_pos (show (n : Int) ≤ (most : Int) by omega), if_pos (show acc.length < 17592186044416 by omega), hw]
      exact this.2

end Go.Proofs.Ytjonkpeoiecchaa.L

/-! ## X24 -/
namespace Go.Proofs.Ytjonkpeoiecchaa.L
open Go.RowKit Go.Proofs.YtjonkpeoiecchaaW.PrintWords Go.Proofs.Ytjonkpeoiecchaa.P Go.Proofs.Ytjonkpeoiecchaa.M
set_option linter.unusedVariables false
set_option linter.unusedSimpArgs false

def lbA (l : List Int) (n : Int) : List Int × Bool := if okS l = true ∧ (0 ≤ n ∧ n ≤ 400) then (outs (nt l) (up n.toNat 1), true) else ([], false)
def cbA (l : List Int) (n : Int) : Int × Bool := (((lbA l n).1.length : Int), (lbA l n).2)
def sfV : Option Nat → Int × Bool
  | some j => ((j : Int), true)
  | none => (0, false)
def rbV : Option Nat → Int × Bool
  | some m => ((m : Int) - 1, true)
  | none => (0, false)
def sfA (l : List Int) (n : Int) : Int × Bool := if okS l = true ∧ (1 ≤ n ∧ n ≤ 10000) then sfV (fal (nt l) 0 n.toNat) else (0, false)
def rbA (l : List Int) (n : Int) : Int × Bool := if okS l = true ∧ (1 ≤ n ∧ n ≤ 10000) then rbV (plc (nt l) n.toNat) else (0, false)
def nrA (l : List Int) (r : Int) : Int × Bool := if okS l = true ∧ (0 ≤ r ∧ r ≤ 1000) then (((bak (nt l) (r.toNat + 1) : Nat) : Int), true) else (0, false)

theorem left_ev (q : List Nat) (hq : GS q) (n : Nat) (hn : n ≤ 400) : Evl (fun k => (impl_upTo.f k 1 (n : Int) 1).bind fun t => impl_countedOut.f k t (nl q)) (outs q (up n 1)) ∧ Evl (fun k => spec_cnLeft.f k (nl q) (n : Int)) (outs q (up n 1)) := by
  have hu := up_l0 n (by omega) n 1 [] (by omega) (by simp; omega)
  have hc := counted_l0 q hq q 0 (up n 1) rfl (by rw [up_len]; omega)
  constructor
  · simp only [impl_upTo.f, impl_countedOut.f]
    exact Evl.bind hu.1 hc.1
  · simp only [spec_cnLeft.f, spec_cnUp.f]
    exact Evl.bind hu.2 hc.2
theorem impl_lb_ev (l : List Int) (n : Int) : Evl (fun k => impl_LeftByCounting.f k l n) (lbA l n) := by
  have no : Evl (fun k => impl_LeftByCounting.j0 k l n true) ([], false) := by
    refine Evl.succ ?_
    simp only [impl_LeftByCounting.j0, if_true]
    exact Evl.ret _
  simp only [impl_LeftByCounting.f, areSteps_eq, isAnew_eq, Option.bind_some]
  unfold lbA
  by_cases g : okS l = true
  · by_cases g2 : 0 ≤ n ∧ n ≤ 400
    · rw [if_pos ⟨g, g2⟩]
      simp only [if_pos g, decide_eq_true g2, Bool.not_true]
      obtain ⟨q, rfl, hq⟩ := okS_nl g
      obtain ⟨m, rfl⟩ := Int.eq_ofNat_of_zero_le g2.1
      rw [nt_nl, Int.toNat_natCast]
      refine Evl.succ ?_
      simp only [impl_LeftByCounting.j0, Bool.false_eq_true, if_false, impl_upTo.f, impl_countedOut.f]
      refine Evl.bind (up_l0 m (by omega) m 1 [] (by omega) (by simp; omega)).1 ?_
      refine Evl.bind (counted_l0 q hq q 0 (up m 1) rfl (by rw [up_len]; omega)).1 ?_
      exact Evl.ret _
    · rw [if_neg fun d => g2 d.2]
      simp only [if_pos g, decide_eq_false g2, Bool.not_false]
      exact no
  · rw [if_neg fun d => g d.1]
    simp only [if_neg g]
    exact no
theorem impl_cb_ev (l : List Int) (n : Int) : Evl (fun k => impl_CountByCounting.f k l n) (cbA l n) := by
  have no : Evl (fun k => impl_CountByCounting.j0 k l n true) (0, false) := by
    refine Evl.succ ?_
    simp only [impl_CountByCounting.j0, if_true]
    exact Evl.ret _
  simp only [impl_CountByCounting.f, areSteps_eq, isAnew_eq, Option.bind_some]
  unfold cbA lbA
  by_cases g : okS l = true
  · by_cases g2 : 0 ≤ n ∧ n ≤ 400
    · rw [if_pos ⟨g, g2⟩]
      simp only [if_pos g, decide_eq_true g2, Bool.not_true]
      obtain ⟨q, rfl, hq⟩ := okS_nl g
      obtain ⟨m, rfl⟩ := Int.eq_ofNat_of_zero_le g2.1
      rw [nt_nl, Int.toNat_natCast]
      refine Evl.succ ?_
      simp only [impl_CountByCounting.j0, Bool.false_eq_true, if_false, impl_upTo.f, impl_countedOut.f]
      refine Evl.bind (up_l0 m (by omega) m 1 [] (by omega) (by simp; omega)).1 ?_
      refine Evl.bind (counted_l0 q hq q 0 (up m 1) rfl (by rw [up_len]; omega)).1 ?_
      exact Evl.ret _
    · rw [if_neg fun d => g2 d.2]
      simp only [if_pos g, decide_eq_false g2, Bool.not_false]
      exact no
  · rw [if_neg fun d => g d.1]
    simp only [if_neg g]
    exact no
theorem spec_lb_ev (l : List Int) (n : Int) : Evl (fun k => spec_LeftByCounting.f k l n) (lbA l n) := by
  simp only [spec_LeftByCounting.f, spec_cnMost.f, in_eq, Option.bind_some]
  refine Evl.bind (cnGood_ev l) ?_
  unfold lbA
  by_cases g : okS l = true
  · by_cases g2 : 0 ≤ n ∧ n ≤ 400
    · rw [if_pos ⟨g, g2⟩]
      simp only [if_pos g, decide_eq_true g2, if_true]
      obtain ⟨q, rfl, hq⟩ := okS_nl g
      obtain ⟨m, rfl⟩ := Int.eq_ofNat_of_zero_le g2.1
      rw [nt_nl, Int.toNat_natCast]
      exact Evl.bind (left_ev q hq m (by omega)).2 (Evl.ret _)
    · rw [if_neg fun d => g2 d.2]
      simp only [if_pos g, decide_eq_false g2, Bool.false_eq_true, if_false]
      exact Evl.ret _
  · rw [if_neg fun d => g d.1]
    simp only [if_neg g]
    exact Evl.ret _
theorem count_l0 (q : List Nat) (hq : GS q) : ∀ (s : List Nat) (i n : Nat), q.drop i = s → n ≤ 1000 → Evl (fun r => spec_CountByCounting.l0 r (n : Int) (nl q) (q.length : Int) (i : Int)) (((cn s n : Nat) : Int), true) := by
  intro s
  have hlen := hq.len
  induction s with
  | nil =>
    intro i n h hn
    have hi := drop_nil h
    refine Evl.succ ?_
    simp only [spec_CountByCounting.l0, if_neg (show ¬ (i : Int) < (q.length : Int) by omega)]
    exact Evl.ret _
  | cons x s ih =>
    intro i n h hn
    obtain ⟨hi, hx, hs⟩ := drop_cons h
    have h2 := hq.two x (List.mem_of_getElem? hx)
    have hw : wrap64 ((i : Int) + 1) = ((i + 1 : Nat) : Int) := by rw [w64 (by omega) (by omega)]; rfl
    refine Evl.succ ?_
    simp only [spec_CountByCounting.l0, if_pos (show (i : Int) < (q.length : Int) by omega), if_pos (show (0 : Int) ≤ (i : Int) by omega), if_pos (show (i : Int) < ((nl q).length : Int) by rw [nl_len]; omega), nl_at hx, if_neg (show ¬ (x : Int) = 0 by omega), stepN n x (by omega), hw]
    exact ih (i + 1) _ hs (Nat.le_trans (Nat.sub_le _ _) hn)
theorem spec_cb_ev (l : List Int) (n : Int) : Evl (fun k => spec_CountByCounting.f k l n) (cbA l n) := by
  have no : Evl (fun k => spec_CountByCounting.j0 k l n true) (0, false) := by
    refine Evl.succ ?_
    simp only [spec_CountByCounting.j0, if_true]
    exact Evl.ret _
  simp only [spec_CountByCounting.f, spec_cnMost.f, in_eq, Option.bind_some]
  refine Evl.bind (cnGood_ev l) ?_
  unfold cbA lbA
  by_cases g : okS l = true
  · by_cases g2 : 0 ≤ n ∧ n ≤ 400
    · rw [if_pos ⟨g, g2⟩]
      simp only [if_pos g, decide_eq_true g2, Bool.not_true]
      obtain ⟨q, rfl, hq⟩ := okS_nl g
      obtain ⟨m, rfl⟩ := Int.eq_ofNat_of_zero_le g2.1
      rw [nt_nl, Int.toNat_natCast]
      refine Evl.succ ?_
      simp only [spec_CountByCounting.j0, Bool.false_eq_true, if_false, nl_len]
      refine (count_l0 q hq q 0 m rfl (by omega)).cast ?_
      rw [outs_len q _ hq.two, up_len]
    · rw [if_neg fun d => g2 d.2]
      simp only [if_pos g, decide_eq_false g2, Bool.not_false]
      exact no
  · rw [if_neg fun d => g d.1]
    simp only [if_neg g]
    exact no

end Go.Proofs.Ytjonkpeoiecchaa.L

/-! ## X25 -/
namespace Go.Proofs.Ytjonkpeoiecchaa.L
open Go.RowKit Go.Proofs.YtjonkpeoiecchaaW.PrintWords Go.Proofs.Ytjonkpeoiecchaa.P Go.Proofs.Ytjonkpeoiecchaa.M
set_option linter.unusedVariables false
set_option linter.unusedSimpArgs false

def cfV : Option Nat → Option Nat → Int × Int
  | some j, _ => ((j : Int), 0)
  | none, some m => (-1, (m : Int) - 1)
  | none, none => (0, 0)
theorem fall_l0 (q : List Nat) (hq : GS q) : ∀ (s : List Nat) (i n : Nat), q.drop i = s → n ≤ 10000 → Evl (fun r => impl_StepOfFall.l0 r (n : Int) (nl q) (q.length : Int) (i : Int)) (sfV (fal s i n)) ∧ Evl (fun r => impl_RankBehind.l0 r (n : Int) (nl q) (q.length : Int) (i : Int)) (rbV (plc s n)) ∧ Evl (fun r => spec_cnFall.l0 r (n : Int) (nl q) (q.length : Int) (i : Int)) (cfV (fal s i n) (plc s n)) := by
  intro s
  have hlen := hq.len
  induction s with
  | nil =>
    intro i n h hn
    have hi := drop_nil h
    have hw : wrap64 ((n : Int) - 1) = (n : Int) - 1 := w64 (by omega) (by omega)
    have hg : ¬ (i : Int) < (q.length : Int) := by omega
    refine ⟨?_, ?_, ?_⟩
    · refine Evl.succ ?_
      simp only [impl_StepOfFall.l0, if_neg hg]
      exact Evl.ret _
    · refine Evl.succ ?_
      simp only [impl_RankBehind.l0, if_neg hg, hw]
      exact Evl.ret _
    · refine Evl.succ ?_
      simp only [spec_cnFall.l0, if_neg hg, hw]
      exact Evl.ret _
  | cons x s ih =>
    intro i n h hn
    obtain ⟨hi, hx, hs⟩ := drop_cons h
    have h2 := hq.two x (List.mem_of_getElem? hx)
    have hw : wrap64 ((i : Int) + 1) = ((i + 1 : Nat) : Int) := by rw [w64 (by omega) (by omega)]; rfl
    have hi1 : (i : Int) < (q.length : Int) := by omega
    have hi2 : (i : Int) < ((nl q).length : Int) := by rw [nl_len]; omega
    have hi0 : (0 : Int) ≤ (i : Int) := by omega
    have hz : ¬ (x : Int) = 0 := by omega
    have hst := stepN n x (by omega)
    by_cases c : n % x = 0
    · have c' : ((n % x : Nat) : Int) = 0 := by rw [c]; rfl
      have e1 : fal (x :: s) i n = some i := by rw [fal, if_pos c]
      have e2 : plc (x :: s) n = none := by rw [plc, if_pos c]
      rw [e1, e2]
      refine ⟨?_, ?_, ?_⟩
      · refine Evl.succ ?_
        simp only [impl_StepOfFall.l0, if_pos hi1, if_pos hi0, if_pos hi2, nl_at hx, if_neg hz, tmodN, if_pos c']
        exact Evl.ret _
      · refine Evl.succ ?_
        simp only [impl_RankBehind.l0, if_pos hi1, if_pos hi0, if_pos hi2, nl_at hx, if_neg hz, tmodN, if_pos c']
        exact Evl.ret _
      · refine Evl.succ ?_
        simp only [spec_cnFall.l0, if_pos hi1, if_pos hi0, if_pos hi2, nl_at hx, if_neg hz, tmodN, if_pos c']
        exact Evl.ret _
    · have c' : ¬ ((n % x : Nat) : Int) = 0 := fun d => c (Int.ofNat.inj d)
      have e1 : fal (x :: s) i n = fal s (i + 1) (n - n / x) := by rw [fal, if_neg c]
      have e2 : plc (x :: s) n = plc s (n - n / x) := by rw [plc, if_neg c]
      have := ih (i + 1) (n - n / x) hs (Nat.le_trans (Nat.sub_le _ _) hn)
      rw [e1, e2]
      refine ⟨?_, ?_, ?_⟩
      · refine Evl.succ ?_
        simp only [impl_StepOfFall.l0, if_pos hi1, if_pos hi0, if_pos hi2, nl_at hx, if_neg hz, tmodN, if_neg c', hst, hw]
        exact this.1
      · refine Evl.succ ?_
        simp only [impl_RankBehind.l0, if_pos hi1, if_pos hi0, if_pos hi2, nl_at hx, if_neg hz, tmodN, if_neg c', hst, hw]
        exact this.2.1
      · refine Evl.succ ?_
        simp only [spec_cnFall.l0, if_pos hi1, if_pos hi0, if_pos hi2, nl_at hx, if_neg hz, tmodN, if_neg c', hst, hw]
        exact this.2.2
theorem impl_fall_ev (l : List Int) (n : Int) : Evl (fun k => impl_StepOfFall.f k l n) (sfA l n) ∧ Evl (fun k => impl_RankBehind.f k l n) (rbA l n) := by
  have no1 : Evl (fun k => impl_StepOfFall.j0 k l n true) (0, false) := by
    refine Evl.succ ?_
    simp only [impl_StepOfFall.j0, if_true]
    exact Evl.ret _
  have no2 : Evl (fun k => impl_RankBehind.j0 k l n true) (0, false) := by
    refine Evl.succ ?_
    simp only [impl_RankBehind.j0, if_true]
    exact Evl.ret _
  simp only [impl_StepOfFall.f, impl_RankBehind.f, areSteps_eq, Option.bind_some]
  unfold sfA rbA
  by_cases g : okS l = true
  · by_cases g2 : 1 ≤ n ∧ n ≤ 10000
    · rw [if_pos ⟨g, g2⟩, if_pos ⟨g, g2⟩]
      simp only [if_pos g, if_neg (show ¬ n < 1 by omega), decide_eq_false (show ¬ n > 10000 by omega)]
      obtain ⟨q, rfl, hq⟩ := okS_nl g
      obtain ⟨m, rfl⟩ := Int.eq_ofNat_of_zero_le (show 0 ≤ n by omega)
      rw [nt_nl, Int.toNat_natCast]
      have := fall_l0 q hq q 0 m rfl (by omega)
      constructor
      · refine Evl.succ ?_
        simp only [impl_StepOfFall.j0, Bool.false_eq_true, if_false, nl_len]
        exact this.1
      · refine Evl.succ ?_
        simp only [impl_RankBehind.j0, Bool.false_eq_true, if_false, nl_len]
        exact this.2.1
    · rw [if_neg fun d => g2 d.2, if_neg fun d => g2 d.2]
      simp only [if_pos g]
      by_cases c : n < 1
      · simp only [if_pos c]
        exact ⟨no1, no2⟩
      · simp only [if_neg c, decide_eq_true (show n > 10000 by omega)]
        exact ⟨no1, no2⟩
  · rw [if_neg fun d => g d.1, if_neg fun d => g d.1]
    simp only [if_neg g]
    exact ⟨no1, no2⟩
theorem spec_fall_ev (l : List Int) (n : Int) : Evl (fun k => spec_StepOfFall.f k l n) (sfA l n) ∧ Evl (fun k => spec_RankBehind.f k l n) (rbA l n) := by
  have no1 : Evl (fun k => spec_StepOfFall.j0 k l n true) (0, false) := by
    refine Evl.succ ?_
    simp only [spec_StepOfFall.j0, if_true]
    exact Evl.ret _
  have no2 : Evl (fun k => spec_RankBehind.j0 k l n true) (0, false) := by
    refine Evl.succ ?_
    simp only [spec_RankBehind.j0, if_true]
    exact Evl.ret _
  have hg := cnGood_ev l
  simp only [spec_StepOfFall.f, spec_RankBehind.f, spec_cnNumber.f, in_eq, Option.bind_some]
  unfold sfA rbA
  by_cases g : okS l = true
  · rw [g] at hg
    by_cases g2 : 1 ≤ n ∧ n ≤ 10000
    · rw [if_pos ⟨g, g2⟩, if_pos ⟨g, g2⟩]
      obtain ⟨q, rfl, hq⟩ := okS_nl g
      obtain ⟨m, rfl⟩ := Int.eq_ofNat_of_zero_le (show 0 ≤ n by omega)
      rw [nt_nl, Int.toNat_natCast]
      have := (fall_l0 q hq q 0 m rfl (by omega)).2.2
      constructor
      · refine Evl.bind hg ?_
        simp only [if_true, decide_eq_true g2, Bool.not_true]
        refine Evl.succ ?_
        simp only [spec_StepOfFall.j0, Bool.false_eq_true, if_false, spec_cnFall.f, nl_len]
        refine Evl.bind this ?_
        rcases fal_or q 0 m with ⟨j, e1, e2⟩ | ⟨e1, p, e2⟩
        · rw [e1, e2]
          simp only [cfV, sfV, if_neg (show ¬ (j : Int) < 0 by omega)]
          exact Evl.ret _
        · rw [e1, e2]
          simp only [cfV, sfV, if_pos (show (-1 : Int) < 0 by omega)]
          exact Evl.ret _
      · refine Evl.bind hg ?_
        simp only [if_true, decide_eq_true g2, Bool.not_true]
        refine Evl.succ ?_
        simp only [spec_RankBehind.j0, Bool.false_eq_true, if_false, spec_cnFall.f, nl_len]
        refine Evl.bind this ?_
        rcases fal_or q 0 m with ⟨j, e1, e2⟩ | ⟨e1, p, e2⟩
        · rw [e1, e2]
          simp only [cfV, rbV, if_pos (show (j : Int) ≥ 0 by omega)]
          exact Evl.ret _
        · rw [e1, e2]
          simp only [cfV, rbV, if_neg (show ¬ (-1 : Int) ≥ 0 by omega)]
          exact Evl.ret _
    · rw [if_neg fun d => g2 d.2, if_neg fun d => g2 d.2]
      constructor
      · refine Evl.bind hg ?_
        simp only [if_true, decide_eq_false g2, Bool.not_false]
        exact no1
      · refine Evl.bind hg ?_
        simp only [if_true, decide_eq_false g2, Bool.not_false]
        exact no2
  · rw [if_neg fun d => g d.1, if_neg fun d => g d.1]
    constructor
    · refine Evl.bind hg ?_
      simp only [if_neg g]
      exact no1
    · refine Evl.bind hg ?_
      simp only [if_neg g]
      exact no2

end Go.Proofs.Ytjonkpeoiecchaa.L

/-! ## X26 -/
namespace Go.Proofs.Ytjonkpeoiecchaa.L
open Go.RowKit Go.Proofs.YtjonkpeoiecchaaW.PrintWords Go.Proofs.Ytjonkpeoiecchaa.P Go.Proofs.Ytjonkpeoiecchaa.M
set_option linter.unusedVariables false
set_option linter.unusedSimpArgs false

theorem tdivN (a b : Nat) : Int.tdiv (a : Int) (b : Int) = ((a / b : Nat) : Int) := rfl
theorem nr_a (p k z p' : Nat) (hk : 2 ≤ k) (hk4 : k ≤ 400) (hp : 1 ≤ p) (hp5 : p ≤ 5000000) (hp' : p' ≤ 5000000) (hd : p' = p + z) : wrap64 ((k : Int) - 1) = ((k - 1 : Nat) : Int) ∧ wrap64 ((p : Int) - 1) = ((p - 1 : Nat) : Int) ∧ wrap64 ((p : Int) + wrap64 (z : Int)) = (p' : Int) ∧ ¬ ((k - 1 : Nat) : Int) = 0 ∧ ¬ (p' : Int) > 1000000000000 := by
  refine ⟨?_, ?_, ?_, by omega, by omega⟩
  · rw [w64 (by omega) (by omega)]; omega
  · rw [w64 (by omega) (by omega)]; omega
  · rw [w64 (x := (z : Int)) (by omega) (by omega), w64 (by omega) (by omega)]; omega
theorem nr_step (q : List Nat) (hql : q.length ≤ 12) (R : Int × Bool) (i k p z p' : Nat) (hil : i < q.length) (hx : q[i]? = some k) (hk : 2 ≤ k) (hk4 : k ≤ 400) (hp : 1 ≤ p) (hp5 : p ≤ 5000000) (hp' : p' ≤ 5000000) (hz : (p - 1) / (k - 1) = z) (hd : p' = p + z) (ih1 : Evl (fun r => impl_NumberOfRank.l0 r (nl q) (p' : Int) ((i : Int) - 1)) R) (ih2 : Evl (fun r => spec_NumberOfRank.l0 r (nl q) (p' : Int) ((i : Int) - 1)) R) : Evl (fun r => impl_NumberOfRank.l0 r (nl q) (p : Int) (i : Int)) R ∧ Evl (fun r => spec_NumberOfRank.l0 r (nl q) (p : Int) (i : Int)) R := by
  obtain ⟨hk1, hp1, hs, hzz, hbig⟩ := nr_a p k z p' hk hk4 hp hp5 hp' hd
  have HT := tdivN (p - 1) (k - 1)
  rw [hz] at HT
  clear hz hk hk4 hp hp5 hp' hd
  have hw : wrap64 ((i : Int) - 1) = (i : Int) - 1 := by
    clear HT hk1 hp1 hs hzz hbig ih1 ih2 hx
    exact w64 (by omega) (by omega)
  have hge : (i : Int) ≥ 0 := Int.natCast_nonneg _
  have hge0 : (0 : Int) ≤ (i : Int) := Int.natCast_nonneg _
  have hlt : (i : Int) < ((nl q).length : Int) := by rw [nl_len]; exact Int.ofNat_lt.2 hil
  constructor
  · refine Evl.succ ?_
    simp only [impl_NumberOfRank.l0, if_pos hge, if_pos hge0, if_pos hlt, nl_at hx, hk1, if_neg hzz, hp1, HT, hs, hw]
    exact ih1
  · refine Evl.succ ?_
    simp only [spec_NumberOfRank.l0, if_pos hge, if_pos hge0, if_pos hlt, nl_at hx, hk1, if_neg hzz, hp1, HT, hs, hw, if_neg hbig]
    exact ih2
theorem number_l0 (q : List Nat) (hq : GS q) (m : Nat) (h1 : 1 ≤ m) (hm : m ≤ 1001) : ∀ i : Nat, i ≤ q.length → Evl (fun r => impl_NumberOfRank.l0 r (nl q) ((bak (q.drop i) m : Nat) : Int) ((i : Int) - 1)) (((bak q m : Nat) : Int), true) ∧ Evl (fun r => spec_NumberOfRank.l0 r (nl q) ((bak (q.drop i) m : Nat) : Int) ((i : Int) - 1)) (((bak q m : Nat) : Int), true) := by
  have hlen := hq.len
  have hb : ∀ i, bak (q.drop i) m ≤ 5000000 := fun i => bak_le (fun k hk => hq.two k (List.mem_of_mem_drop hk)) (by rw [List.length_drop]; omega) h1 hm
  have hb1 : ∀ i, 1 ≤ bak (q.drop i) m := fun i => (bak_plc _ m (fun k hk => hq.two k (List.mem_of_mem_drop hk)) h1).1
  intro i
  induction i with
  | zero =>
    intro hi
    have h0 := hb 0
    rw [List.drop_zero] at h0 ⊢
    have hneg : ¬ (((0 : Nat) : Int) - 1 ≥ 0) := by omega
    have hbig : ¬ ((bak q m : Nat) : Int) > 1000000000000 := by
      clear hb hb1
      generalize bak q m = z at *
      omega
    constructor
    · refine Evl.succ ?_
      simp only [impl_NumberOfRank.l0, if_neg hneg, if_neg hbig]
      exact Evl.ret _
    · refine Evl.succ ?_
      simp only [spec_NumberOfRank.l0, if_neg hneg]
      exact Evl.ret _
  | succ i ih =>
    intro hi
    have hil : i < q.length := hi
    have hx : q[i]? = some q[i] := List.getElem?_eq_getElem hil
    have hd : bak (q.drop i) m = bak (q.drop (i + 1)) m + (bak (q.drop (i + 1)) m - 1) / (q[i] - 1) := by
      rw [List.drop_eq_getElem_cons hil, bak]
    have ei : ((i + 1 : Nat) : Int) - 1 = (i : Int) := by rw [Int.natCast_add]; exact Int.add_sub_cancel _ _
    obtain ⟨ih1, ih2⟩ := ih (Nat.le_of_lt hil)
    rw [ei]
    exact nr_step q hlen _ i q[i] _ _ _ hil hx (hq.two _ (List.getElem_mem _)) (hq.most _ (List.getElem_mem _)) (hb1 (i + 1)) (hb (i + 1)) (hb i) rfl hd ih1 ih2

theorem impl_nr_ev (l : List Int) (r : Int) : Evl (fun k => impl_NumberOfRank.f k l r) (nrA l r) := by
  have no : Evl (fun k => impl_NumberOfRank.j0 k l r true) (0, false) := by
    refine Evl.succ ?_
    simp only [impl_NumberOfRank.j0, if_true]
    exact Evl.ret _
  simp only [impl_NumberOfRank.f, areSteps_eq, Option.bind_some]
  unfold nrA
  by_cases g : okS l = true
  · by_cases g2 : 0 ≤ r ∧ r ≤ 1000
    · rw [if_pos ⟨g, g2⟩]
      simp only [if_pos g, if_neg (show ¬ r < 0 by omega), decide_eq_false (show ¬ r > 1000 by omega)]
      obtain ⟨q, rfl, hq⟩ := okS_nl g
      obtain ⟨m, rfl⟩ := Int.eq_ofNat_of_zero_le g2.1
      rw [nt_nl, Int.toNat_natCast]
      have hlen := hq.len
      have hw1 : wrap64 ((m : Int) + 1) = ((m + 1 : Nat) : Int) := by rw [w64 (by omega) (by omega)]; rfl
      have hw2 : wrap64 (((nl q).length : Int) - 1) = (q.length : Int) - 1 := by rw [nl_len, w64 (by omega) (by omega)]
      have := (number_l0 q hq (m + 1) (by omega) (by omega) q.length (Nat.le_refl _)).1
      rw [List.drop_length] at this
      refine Evl.succ ?_
      simp only [impl_NumberOfRank.j0, Bool.false_eq_true, if_false, hw1, hw2]
      exact this
    · rw [if_neg fun d => g2 d.2]
      simp only [if_pos g]
      by_cases c : r < 0
      · simp only [if_pos c]
        exact no
      · simp only [if_neg c, decide_eq_true (show r > 1000 by omega)]
        exact no
  · rw [if_neg fun d => g d.1]
    simp only [if_neg g]
    exact no
theorem spec_nr_ev (l : List Int) (r : Int) : Evl (fun k => spec_NumberOfRank.f k l r) (nrA l r) := by
  have no : Evl (fun k => spec_NumberOfRank.j0 k l r true) (0, false) := by
    refine Evl.succ ?_
    simp only [spec_NumberOfRank.j0, if_true]
    exact Evl.ret _
  simp only [spec_NumberOfRank.f, in_eq, Option.bind_some]
  refine Evl.bind (cnGood_ev l) ?_
  unfold nrA
  by_cases g : okS l = true
  · by_cases g2 : 0 ≤ r ∧ r ≤ 1000
    · rw [if_pos ⟨g, g2⟩]
      simp only [if_pos g, decide_eq_true g2, Bool.not_true]
      obtain ⟨q, rfl, hq⟩ := okS_nl g
      obtain ⟨m, rfl⟩ := Int.eq_ofNat_of_zero_le g2.1
      rw [nt_nl, Int.toNat_natCast]
      have hlen := hq.len
      have hw1 : wrap64 ((m : Int) + 1) = ((m + 1 : Nat) : Int) := by rw [w64 (by omega) (by omega)]; rfl
      have hw2 : wrap64 (((nl q).length : Int) - 1) = (q.length : Int) - 1 := by rw [nl_len, w64 (by omega) (by omega)]
      have := (number_l0 q hq (m + 1) (by omega) (by omega) q.length (Nat.le_refl _)).2
      rw [List.drop_length] at this
      refine Evl.succ ?_
      simp only [spec_NumberOfRank.j0, Bool.false_eq_true, if_false, hw1, hw2]
      exact this
    · rw [if_neg fun d => g2 d.2]
      simp only [if_pos g, decide_eq_false g2, Bool.not_false]
      exact no
  · rw [if_neg fun d => g d.1]
    simp only [if_neg g]
    exact no
theorem tSame_l0 (a : List Int) (hl : a.length ≤ 1099511627776) : ∀ (s : List Int) (i : Nat), a.drop i = s → Evl (fun k => laws_tSame.l0 k a a (a.length : Int) (i : Int)) true := by
  intro s
  induction s with
  | nil =>
    intro i h
    have hi := drop_nil h
    refine Evl.succ ?_
    simp only [laws_tSame.l0, if_neg (show ¬ (i : Int) < (a.length : Int) by omega)]
    exact Evl.ret _
  | cons x s ih =>
    intro i h
    obtain ⟨hi, hx, hs⟩ := drop_cons h
    have hw : wrap64 ((i : Int) + 1) = ((i + 1 : Nat) : Int) := by rw [w64 (by omega) (by omega)]; rfl
    refine Evl.succ ?_
    simp only [laws_tSame.l0, if_pos (show (i : Int) < (a.length : Int) by omega), if_pos (show (0 : Int) ≤ (i : Int) by omega), if_true, hw]
    exact ih (i + 1) hs
theorem tSame_self (a : List Int) (hl : a.length ≤ 1099511627776) : Evl (fun k => laws_tSame.f k a a) true := by
  simp only [laws_tSame.f, if_true]
  exact tSame_l0 a hl a 0 rfl
theorem tHas_l0 (l : List Int) (hl : l.length ≤ 1099511627776) (x : Int) : ∀ (s : List Int) (i : Nat), l.drop i = s → Evl (fun k => laws_tHas.l0 k x l (l.length : Int) (i : Int)) (decide (x ∈ s)) := by
  intro s
  induction s with
  | nil =>
    intro i h
    have hi := drop_nil h
    refine Evl.succ ?_
    simp only [laws_tHas.l0, if_neg (show ¬ (i : Int) < (l.length : Int) by omega)]
    refine (Evl.ret _).cast ?_
    simp
  | cons y s ih =>
    intro i h
    obtain ⟨hi, hx, hs⟩ := drop_cons h
    have hw : wrap64 ((i : Int) + 1) = ((i + 1 : Nat) : Int) := by rw [w64 (by omega) (by omega)]; rfl
    refine Evl.succ ?_
    simp only [laws_tHas.l0, if_pos (show (i : Int) < (l.length : Int) by omega), if_pos (show (0 : Int) ≤ (i : Int) by omega), rd_of hx, hw]
    by_cases e : y = x
    · simp only [if_pos e]
      refine (Evl.ret _).cast ?_
      rw [e]
      simp
    · simp only [if_neg e]
      refine (ih (i + 1) hs).cast ?_
      have : (x ∈ y :: s) ↔ x ∈ s := by rw [List.mem_cons]; exact ⟨fun h => h.resolve_left fun c => e c.symm, .inr⟩
      exact decide_eq_decide.2 this.symm
theorem tHas_ev (l : List Int) (hl : l.length ≤ 1099511627776) (x : Int) : Evl (fun k => laws_tHas.f k l x) (decide (x ∈ l)) := by
  simp only [laws_tHas.f]
  exact tHas_l0 l hl x l 0 rfl
theorem before_lt {l : List Int} (hs : l.Pairwise (· < ·)) {i : Nat} {x : Int} (hx : l[i]? = some x) (hi : 0 < i) : rd l ((i - 1 : Nat) : Int) < x := by
  obtain ⟨h1, h2⟩ := List.getElem?_eq_some_iff.1 hx
  have h3 : i - 1 < l.length := by omega
  rw [rd_nat h3, ← h2]
  exact List.pairwise_iff_getElem.1 hs _ _ h3 h1 (by omega)
theorem tRises_l0 (l : List Int) (lo hi : Int) (hl : l.length ≤ 1000000) (hb : ∀ x ∈ l, lo ≤ x ∧ x ≤ hi) (hp : l.Pairwise (· < ·)) : ∀ (s : List Int) (i : Nat), l.drop i = s → Evl (fun k => laws_tRises.l0 k l lo hi l (l.length : Int) (i : Int)) true := by
  intro s
  induction s with
  | nil =>
    intro i h
    have hi := drop_nil h
    refine Evl.succ ?_
    simp only [laws_tRises.l0, if_neg (show ¬ (i : Int) < (l.length : Int) by omega)]
    exact Evl.ret _
  | cons y s ih =>
    intro i h
    obtain ⟨hi', hy, hs⟩ := drop_cons h
    have hby := hb y (List.mem_of_getElem? hy)
    have hw : wrap64 ((i : Int) + 1) = ((i + 1 : Nat) : Int) := by rw [w64 (by omega) (by omega)]; rfl
    have g1 : (i : Int) < (l.length : Int) := by omega
    have g2 : (0 : Int) ≤ (i : Int) := by omega
    have g3 : ¬ y < lo := by omega
    have g4 : ¬ y > hi := by omega
    refine Evl.succ ?_
    simp only [laws_tRises.l0, if_pos g1, if_pos g2, rd_of hy, if_neg g3, if_neg g4, hw]
    by_cases c : 0 < i
    · have hw1 : wrap64 ((i : Int) - 1) = ((i - 1 : Nat) : Int) := by rw [w64 (by omega) (by omega)]; omega
      have hlt := before_lt hp hy c
      have g5 : (i : Int) > 0 := by omega
      have g6 : (0 : Int) ≤ ((i - 1 : Nat) : Int) := by omega
      have g7 : ((i - 1 : Nat) : Int) < (l.length : Int) := by omega
      have g8 : ¬ rd l ((i - 1 : Nat) : Int) ≥ y := by omega
      simp only [if_pos g5, hw1, if_pos g6, if_pos g7, if_neg g8]
      exact ih (i + 1) hs
    · have g5 : ¬ (i : Int) > 0 := by omega
      simp only [if_neg g5]
      exact ih (i + 1) hs
theorem tRises_ev (l : List Int) (lo hi : Int) (hl : l.length ≤ 1000000) (hb : ∀ x ∈ l, lo ≤ x ∧ x ≤ hi) (hp : l.Pairwise (· < ·)) : Evl (fun k => laws_tRises.f k l lo hi) true := by
  simp only [laws_tRises.f]
  exact tRises_l0 l lo hi hl hb hp l 0 rfl

end Go.Proofs.Ytjonkpeoiecchaa.L

/-! ## E12 -/
namespace Go.Proofs.Ytjonkpeoiecchaa.L
open Go.RowKit Go.Proofs.YtjonkpeoiecchaaW.PrintWords Go.Proofs.Ytjonkpeoiecchaa.P
set_option linter.unusedVariables false
set_option linter.unusedSimpArgs false

def Rg (v : Int) : Prop := -9223372036854775808 ≤ v ∧ v ≤ 9223372036854775807
theorem Rg.wf {v : Int} (h : Rg v) : (Lit.int .i64 v).wf = true := by
  have := wrap64_wf v
  rwa [w64 h.1 h.2] at this
theorem Rg.wrap (n : Int) : Rg (wrap64 n) := by unfold Rg wrap64; omega
theorem u8_range {x : Int} (h : (Lit.int .u8 x).wf = true) : 0 ≤ x ∧ x ≤ 255 := by
  simp [Lit.wf, IntKind.min, IntKind.max, IntKind.signed, IntKind.bits] at h
  omega
theorem bits255 (s : Int) : 0 ≤ wrap64 (Go.bits .and .u64 (IntKind.u64.wrap s / 1099511627776) 255) ∧ wrap64 (Go.bits .and .u64 (IntKind.u64.wrap s / 1099511627776) 255) ≤ 255 := by
  have h0 : 0 ≤ IntKind.u64.wrap s ∧ IntKind.u64.wrap s < 18446744073709551616 := by rw [IntKind.wrap_u64]; omega
  generalize IntKind.u64.wrap s = z at *
  obtain ⟨n, hn⟩ := Int.eq_ofNat_of_zero_le (show 0 ≤ z / 1099511627776 by omega)
  have hb : Go.bits .and .u64 (n : Int) 255 = ((n &&& 255 : Nat) : Int) := Go.bits_and_u64_nat n 255 (by omega) (by omega)
  have hle : n &&& 255 ≤ 255 := Nat.and_le_right
  rw [hn, hb]
  generalize n &&& 255 = y at *
  rw [w64 (by omega) (by omega)]
  omega
theorem next_some (l : List Int) (hl : ∀ x ∈ l, 0 ≤ x ∧ x ≤ 255) (p s : Int) (h0 : 0 ≤ p) (h1 : p ≤ 1000000) : ∃ b s', spec_l1Cur_next.f l p s = some (b, p + 1, s') ∧ 0 ≤ b ∧ b ≤ 255 := by
  have hw : wrap64 (p + 1) = p + 1 := w64 (by omega) (by omega)
  simp only [spec_l1Cur_next.f, hw, if_pos h0]
  by_cases g : p < (l.length : Int)
  · have hr : 0 ≤ rd l p ∧ rd l p ≤ 255 := by
      obtain ⟨i, rfl⟩ := Int.eq_ofNat_of_zero_le h0
      rw [rd_nat (by omega)]
      exact hl _ (List.getElem_mem _)
    have hwr : wrap64 (rd l p) = rd l p := w64 (by omega) (by omega)
    simp only [if_pos g, if_pos (show p + 1 ≤ (l.length : Int) by omega), hwr]
    exact ⟨_, _, rfl, hr⟩
  · simp only [if_neg g, if_neg (show ¬ p + 1 ≤ (l.length : Int) by omega)]
    exact ⟨_, _, rfl, bits255 _⟩
theorem pick_some (l : List Int) (hl : ∀ x ∈ l, 0 ≤ x ∧ x ≤ 255) (p s n : Int) (h0 : 0 ≤ p) (h1 : p ≤ 100000) (hn : 1 ≤ n) (hn2 : n ≤ 60000) : ∃ r p' s', spec_l1Cur_pick.f l p s n = some (r, p', s') ∧ 0 ≤ r ∧ r < n ∧ p ≤ p' ∧ p' ≤ p + 2 := by
  simp only [spec_l1Cur_pick.f]
  by_cases g : n ≤ 1
  · simp only [if_pos g]
    exact ⟨_, _, _, rfl, by omega, by omega, by omega, by omega⟩
  · obtain ⟨b, s1, e1, b0, b1⟩ := next_some l hl p s h0 (by omega)
    obtain ⟨c, s2, e2, c0, c1⟩ := next_some l hl (p + 1) s1 (by omega) (by omega)
    have hz : ¬ n = 0 := by omega
    simp only [if_neg g, e1, Option.bind_some, if_neg hz]
    by_cases g2 : n > 200
    · have w1 : wrap64 (b * 256) = b * 256 := w64 (by omega) (by omega)
      have w2 : wrap64 (b * 256 + c) = b * 256 + c := w64 (by omega) (by omega)
      simp only [if_pos g2, e2, Option.bind_some, w1, w2]
      exact ⟨_, _, _, rfl, Int.tmod_nonneg _ (by omega), Int.tmod_lt_of_pos _ (by omega), by omega, by omega⟩
    · simp only [if_neg g2]
      exact ⟨_, _, _, rfl, Int.tmod_nonneg _ (by omega), Int.tmod_lt_of_pos _ (by omega), by omega, by omega⟩
theorem among_some (l : List Int) (hl : ∀ x ∈ l, 0 ≤ x ∧ x ≤ 255) (p s : Int) (xs : List Int) (h0 : 0 ≤ p) (h1 : p ≤ 100000) (hn : 1 ≤ xs.length) (hn2 : xs.length ≤ 60000) : ∃ v p' s', spec_l1Cur_among.f l p s xs = some (v, p', s') ∧ v ∈ xs ∧ p ≤ p' ∧ p' ≤ p + 2 := by
  obtain ⟨r, p', s', e, r0, r1, q0, q1⟩ := pick_some l hl p s (xs.length : Int) h0 h1 (by omega) (by omega)
  simp only [spec_l1Cur_among.f, e, Option.bind_some, if_pos r0, if_pos r1]
  refine ⟨_, _, _, rfl, ?_, q0, q1⟩
  obtain ⟨i, rfl⟩ := Int.eq_ofNat_of_zero_le r0
  rw [rd_nat (by omega)]
  exact List.getElem_mem _
theorem big_some (a b : List Int) : ∃ t, laws_big.f a b = some t := by
  simp only [laws_big.f]
  split
  · exact ⟨_, rfl⟩
  · exact ⟨_, rfl⟩

end Go.Proofs.Ytjonkpeoiecchaa.L

/-! ## E13 -/
namespace Go.Proofs.Ytjonkpeoiecchaa.L
open Go.RowKit Go.Proofs.YtjonkpeoiecchaaW.PrintWords Go.Proofs.Ytjonkpeoiecchaa.P
set_option linter.unusedVariables false
set_option linter.unusedSimpArgs false

theorem steps_l1 (l : List Int) (hl : ∀ x ∈ l, 0 ≤ x ∧ x ≤ 255) : ∀ (j : Nat) (acc : List Int) (p s : Int), acc.length + j = 13 → 0 ≤ p → p + 2 * j ≤ 900 → ∃ v p' s', Evl (fun k => spec_l1Cur_steps.l1 k acc l p s) (v, p', s') ∧ 0 ≤ p' ∧ p' ≤ 1000 := by
  intro j
  induction j with
  | zero =>
    intro acc p s ha h0 h1
    obtain ⟨r, p1, s1, e, r0, r1, q0, q1⟩ := pick_some l hl p s 2 h0 (by omega) (by omega) (by omega)
    have hw : wrap64 (12 + r) = 12 + r := w64 (by omega) (by omega)
    refine ⟨acc, p1, s1, ?_, by omega, by omega⟩
    refine Evl.succ ?_
    simp only [spec_l1Cur_steps.l1, e, Option.bind_some, hw, if_neg (show ¬ (acc.length : Int) < 12 + r by omega)]
    exact Evl.ret _
  | succ j ih =>
    intro acc p s ha h0 h1
    obtain ⟨r, p1, s1, e, r0, r1, q0, q1⟩ := pick_some l hl p s 2 h0 (by omega) (by omega) (by omega)
    have hw : wrap64 (12 + r) = 12 + r := w64 (by omega) (by omega)
    by_cases c : (acc.length : Int) < 12 + r
    · obtain ⟨v, p', s', h, h2, h3⟩ := ih (acc ++ [3]) p1 s1 (by rw [List.length_append, List.length_singleton]; omega) (by omega) (by omega)
      refine ⟨v, p', s', ?_, h2, h3⟩
      refine Evl.succ ?_
      simp only [spec_l1Cur_steps.l1, e, Option.bind_some, hw, if_pos c, if_pos (show acc.length < 17592186044416 by omega)]
      exact h
    · refine ⟨acc, p1, s1, ?_, by omega, by omega⟩
      refine Evl.succ ?_
      simp only [spec_l1Cur_steps.l1, e, Option.bind_some, hw, if_neg c]
      exact Evl.ret _
theorem steps_l0 (l : List Int) (hl : ∀ x ∈ l, 0 ≤ x ∧ x ≤ 255) : ∀ (m : Nat) (acc : List Int) (p s : Int), acc.length + m ≤ 10 → 0 ≤ p → p + 2 * m ≤ 100 → ∃ v p' s', Evl (fun k => spec_l1Cur_steps.l0 k acc (m : Int) l p s) (v, p', s') ∧ 0 ≤ p' ∧ p' ≤ 1000 := by
  intro m
  induction m with
  | zero =>
    intro acc p s ha h0 h1
    obtain ⟨r, p1, s1, e, r0, r1, q0, q1⟩ := pick_some l hl p s 16 h0 (by omega) (by omega) (by omega)
    by_cases c : r = 0
    · obtain ⟨u, p2, s2, e2, _, q2, q3⟩ := among_some l hl p1 s1 [0, 1, 400, 401, -1, 4611686018427387904] (by omega) (by omega) (by decide) (by decide)
      refine ⟨acc ++ [u], p2, s2, ?_, by omega, by omega⟩
      refine Evl.succ ?_
      simp only [spec_l1Cur_steps.l0, if_neg (show ¬ ((0 : Nat) : Int) > 0 by omega), e, Option.bind_some, if_pos c, e2, if_pos (show acc.length < 17592186044416 by omega)]
      exact Evl.ret _
    · by_cases c2 : r = 1
      · obtain ⟨v, p', s', h, h2, h3⟩ := steps_l1 l hl (13 - acc.length) acc p1 s1 (by omega) (by omega) (by omega)
        refine ⟨v, p', s', ?_, h2, h3⟩
        refine Evl.succ ?_
        simp only [spec_l1Cur_steps.l0, if_neg (show ¬ ((0 : Nat) : Int) > 0 by omega), e, Option.bind_some, if_neg c, if_pos c2]
        exact h
      · refine ⟨acc, p1, s1, ?_, by omega, by omega⟩
        refine Evl.succ ?_
        simp only [spec_l1Cur_steps.l0, if_neg (show ¬ ((0 : Nat) : Int) > 0 by omega), e, Option.bind_some, if_neg c, if_neg c2]
        exact Evl.ret _
  | succ m ih =>
    intro acc p s ha h0 h1
    obtain ⟨r, p1, s1, e, r0, r1, q0, q1⟩ := pick_some l hl p s 7 h0 (by omega) (by omega) (by omega)
    have hw : wrap64 (((m + 1 : Nat) : Int) - 1) = (m : Int) := by rw [w64 (by omega) (by omega)]; omega
    obtain ⟨v, p', s', h, h2, h3⟩ := ih (acc ++ [wrap64 (2 + r)]) p1 s1 (by rw [List.length_append, List.length_singleton]; omega) (by omega) (by omega)
    refine ⟨v, p', s', ?_, h2, h3⟩
    refine Evl.succ ?_
    simp only [spec_l1Cur_steps.l0, if_pos (show ((m + 1 : Nat) : Int) > 0 by omega), e, Option.bind_some, if_pos (show acc.length < 17592186044416 by omega), hw]
    exact h
theorem steps_some (l : List Int) (hl : ∀ x ∈ l, 0 ≤ x ∧ x ≤ 255) (p s : Int) (h0 : 0 ≤ p) (h1 : p ≤ 20) : ∃ v p' s', Evl (fun k => spec_l1Cur_steps.f k l p s) (v, p', s') ∧ 0 ≤ p' ∧ p' ≤ 1000 := by
  obtain ⟨r, p1, s1, e, r0, r1, q0, q1⟩ := pick_some l hl p s 5 h0 (by omega) (by omega) (by omega)
  obtain ⟨m, rfl⟩ := Int.eq_ofNat_of_zero_le r0
  obtain ⟨v, p', s', h, h2, h3⟩ := steps_l0 l hl m [] p1 s1 (by simp; omega) (by omega) (by omega)
  refine ⟨v, p', s', ?_, h2, h3⟩
  simp only [spec_l1Cur_steps.f, e, Option.bind_some]
  exact h
theorem anew_some (l : List Int) (hl : ∀ x ∈ l, 0 ≤ x ∧ x ≤ 255) (p s : Int) (h0 : 0 ≤ p) (h1 : p ≤ 10000) : ∃ v p' s', spec_l1Cur_anew.f l p s = some (v, p', s') := by
  obtain ⟨r, p1, s1, e, r0, r1, q0, q1⟩ := pick_some l hl p s 12 h0 (by omega) (by omega) (by omega)
  simp only [spec_l1Cur_anew.f, spec_l1Cur_one.f, e, Option.bind_some]
  by_cases g : (r == 0) = true
  · obtain ⟨v, p2, s2, e2, hv, q2, q3⟩ := among_some l hl p1 s1 [-1, 0, 1, 2, 400, 401, 4611686018427387904] (by omega) (by omega) (by decide) (by decide)
    simp only [if_pos g, e2, Option.bind_some]
    exact ⟨_, _, _, rfl⟩
  · obtain ⟨v, p2, s2, e2, v0, v1, q2, q3⟩ := pick_some l hl p1 s1 100 (by omega) (by omega) (by omega) (by omega)
    simp only [if_neg g, e2, Option.bind_some]
    exact ⟨_, _, _, rfl⟩
theorem traced_some (l : List Int) (hl : ∀ x ∈ l, 0 ≤ x ∧ x ≤ 255) (p s : Int) (h0 : 0 ≤ p) (h1 : p ≤ 10000) : ∃ v p' s', spec_l1Cur_traced.f l p s = some (v, p', s') := by
  obtain ⟨r, p1, s1, e, r0, r1, q0, q1⟩ := pick_some l hl p s 12 h0 (by omega) (by omega) (by omega)
  simp only [spec_l1Cur_traced.f, spec_l1Cur_one.f, e, Option.bind_some]
  by_cases g : (r == 0) = true
  · obtain ⟨v, p2, s2, e2, hv, q2, q3⟩ := among_some l hl p1 s1 [-1, 0, 10000, 10001, 4611686018427387904] (by omega) (by omega) (by decide) (by decide)
    simp only [if_pos g, e2, Option.bind_some]
    exact ⟨_, _, _, rfl⟩
  · obtain ⟨v, p2, s2, e2, v0, v1, q2, q3⟩ := pick_some l hl p1 s1 90 (by omega) (by omega) (by omega) (by omega)
    simp only [if_neg g, e2, Option.bind_some]
    exact ⟨_, _, _, rfl⟩
theorem drawLeft_some (l : List Int) (hl : ∀ x ∈ l, 0 ≤ x ∧ x ≤ 255) : ∃ v n, Evl (fun k => spec_DrawLeftByCounting.f k l) (v, n) := by
  obtain ⟨v, p, s, h, h0, h1⟩ := steps_some l hl 0 0 (by omega) (by omega)
  obtain ⟨n, p2, s2, e⟩ := anew_some l hl p s h0 (by omega)
  refine ⟨v, n, ?_⟩
  simp only [spec_DrawLeftByCounting.f]
  refine Evl.bind h ?_
  simp only [e, Option.bind_some]
  exact Evl.ret _
theorem drawFall_some (l : List Int) (hl : ∀ x ∈ l, 0 ≤ x ∧ x ≤ 255) : ∃ v n, Evl (fun k => spec_DrawStepOfFall.f k l) (v, n) := by
  obtain ⟨v, p, s, h, h0, h1⟩ := steps_some l hl 0 0 (by omega) (by omega)
  obtain ⟨n, p2, s2, e⟩ := traced_some l hl p s h0 (by omega)
  refine ⟨v, n, ?_⟩
  simp only [spec_DrawStepOfFall.f]
  refine Evl.bind h ?_
  simp only [e, Option.bind_some]
  exact Evl.ret _
theorem drawNumber_some (l : List Int) (hl : ∀ x ∈ l, 0 ≤ x ∧ x ≤ 255) : ∃ v n, Evl (fun k => spec_DrawNumberOfRank.f k l) (v, n) := by
  obtain ⟨r, p1, s1, e, r0, r1, q0, q1⟩ := pick_some l hl 0 0 12 (by omega) (by omega) (by omega) (by omega)
  simp only [spec_DrawNumberOfRank.f, spec_l1Cur_one.f, e, Option.bind_some]
  by_cases g : (r == 0) = true
  · obtain ⟨v, p2, s2, e2, hv, q2, q3⟩ := among_some l hl p1 s1 [-1, 1000, 1001] (by omega) (by omega) (by decide) (by decide)
    simp only [if_pos g, e2, Option.bind_some]
    exact ⟨_, _, Evl.ret _⟩
  · obtain ⟨v, p, s, h, h0, h1⟩ := steps_some l hl p1 s1 (by omega) (by omega)
    obtain ⟨n, p2, s2, e2, v0, v1, q2, q3⟩ := pick_some l hl p s 60 h0 (by omega) (by omega) (by omega)
    simp only [if_neg g]
    refine ⟨v, n, ?_⟩
    refine Evl.bind h ?_
    simp only [e2, Option.bind_some]
    exact Evl.ret _

end Go.Proofs.Ytjonkpeoiecchaa.L

/-! ## X27 -/
namespace Go.Proofs.Ytjonkpeoiecchaa.L
open Go.RowKit Go.Proofs.YtjonkpeoiecchaaW.PrintWords Go.Proofs.Ytjonkpeoiecchaa.P Go.Proofs.Ytjonkpeoiecchaa.M
set_option linter.unusedVariables false
set_option linter.unusedSimpArgs false

theorem nr_back {q : List Nat} (hq : GS q) {n p : Nat} (h1 : 1 ≤ n) (hn : n ≤ 400) (h : plc q n = some p) : nrA (nl q) ((p : Int) - 1) = ((n : Int), true) := by
  obtain ⟨a, b, c⟩ := plc_bak q n p hq.two h1 h
  unfold nrA
  rw [if_pos ⟨okS_of hq, by omega, by omega⟩, nt_nl, show ((p : Int) - 1).toNat + 1 = p by omega, c]
theorem CA_j3 (z : List Int) (s : List Int) (n : Int) (t : List Int) (r : Int) (d1 : Evl (fun k => spec_DrawStepOfFall.f k z) (s, n)) (d2 : Evl (fun k => spec_DrawNumberOfRank.f k z) (t, r)) : Evl (fun k => laws_FnCountedAnew.j3 k z) true := by
  refine Evl.succ ?_
  simp only [laws_FnCountedAnew.j3]
  refine Evl.bind d1 ?_
  dsimp only
  refine Evl.bind (impl_fall_ev s n).1 ?_
  refine Evl.bind (spec_fall_ev s n).1 ?_
  refine Evl.bind (impl_fall_ev s n).2 ?_
  refine Evl.bind (spec_fall_ev s n).2 ?_
  refine Evl.bind d2 ?_
  dsimp only
  refine Evl.bind (impl_nr_ev t r) ?_
  refine Evl.bind (spec_nr_ev t r) ?_
  simp only [bne_self_eq_false, Bool.false_eq_true, if_false, if_true]
  unfold nrA
  by_cases g : okS t = true ∧ (0 ≤ r ∧ r ≤ 1000)
  · rw [if_pos g]
    simp only [if_true]
    by_cases c : ((bak (nt t) (r.toNat + 1) : Nat) : Int) ≤ 10000
    · simp only [if_pos c]
      refine Evl.bind (impl_fall_ev t _).2 ?_
      obtain ⟨q, rfl, hq⟩ := okS_nl g.1
      rw [nt_nl] at c ⊢
      obtain ⟨b1, b2, b3⟩ := bak_plc q (r.toNat + 1) hq.two (by omega)
      have e : rbA (nl q) ((bak q (r.toNat + 1) : Nat) : Int) = (r, true) := by
        unfold rbA
        rw [if_pos ⟨okS_of hq, by omega, c⟩, nt_nl, Int.toNat_natCast, b2]
        show ((((r.toNat + 1 : Nat) : Int) - 1, true) : Int × Bool) = (r, true)
        rw [show (((r.toNat + 1 : Nat) : Int) - 1) = r by omega]
      rw [e]
      simp only [if_true]
      exact (Evl.ret _).cast (beq_self_eq_true _)
    · simp only [if_neg c]
      exact Evl.ret _
  · rw [if_neg g]
    simp only [Bool.false_eq_true, if_false]
    exact Evl.ret _
theorem outs_le (q : List Nat) (most : Nat) : (outs q (up most 1)).length ≤ most := by
  have := (outs_sub q (up most 1)).length_le
  rw [up_len] at this
  exact this
theorem CA_end (z : List Int) (q : List Nat) (hq : GS q) (most : Nat) (hm : most ≤ 400) (hR : Evl (fun k => laws_FnCountedAnew.j3 k z) true) : Evl (fun k => laws_FnCountedAnew.l0 k z (nl q) (most : Int) (outs q (up most 1)) ((outs q (up most 1)).length : Int) ((most + 1 : Nat) : Int)) true := by
  refine Evl.succ ?_
  simp only [laws_FnCountedAnew.l0, if_neg (show ¬ ((most + 1 : Nat) : Int) ≤ (most : Int) by omega)]
  rcases List.eq_nil_or_concat q with rfl | ⟨s, k, rfl⟩
  · simp only [if_neg (show ¬ ((nl []).length : Int) > 0 by rw [nl_len]; decide)]
    exact hR
  · rw [List.concat_eq_append] at hq ⊢
    have hl : (nl (s ++ [k])).length = s.length + 1 := by rw [nl_len, List.length_append]; rfl
    have hlen := hq.len
    rw [List.length_append, List.length_singleton] at hlen
    have hk2 := hq.two k (List.mem_append_right _ (List.mem_singleton.2 rfl))
    have hqs : GS s := ⟨by omega, fun x hx => hq.two x (List.mem_append_left _ hx), fun x hx => hq.most x (List.mem_append_left _ hx)⟩
    have hw : wrap64 (((nl (s ++ [k])).length : Int) - 1) = (s.length : Int) := by rw [hl, w64 (by omega) (by omega)]; omega
    have ht : (nl (s ++ [k])).take s.length = nl s := by
      unfold nl
      rw [List.map_append, List.take_append_of_le_length (by rw [List.length_map]; exact Nat.le_refl _), List.take_of_length_le (by rw [List.length_map]; exact Nat.le_refl _)]
    have hr : rd (nl (s ++ [k])) (s.length : Int) = (k : Int) := nl_at (by rw [List.getElem?_append_right (Nat.le_refl _), Nat.sub_self]; rfl)
    have g1 : ((nl (s ++ [k])).length : Int) > 0 := by omega
    have g2 : (0 : Int) ≤ (s.length : Int) := by omega
    have g3 : (s.length : Int) ≤ ((nl (s ++ [k])).length : Int) := by omega
    have g4 : (s.length : Int) < ((nl (s ++ [k])).length : Int) := by omega
    have g5 : ¬ (k : Int) = 0 := by omega
    simp only [if_pos g1, hw, if_pos g2, if_pos g3, Int.toNat_natCast, ht]
    refine Evl.bind (impl_lb_ev (nl s) (most : Int)) ?_
    have e : lbA (nl s) (most : Int) = (outs s (up most 1), true) := by
      unfold lbA
      rw [if_pos ⟨okS_of hqs, by omega, by omega⟩, nt_nl, Int.toNat_natCast]
    rw [e]
    have hle := outs_le s most
    have hout := out_len0 hk2 (outs s (up most 1))
    rw [← outs_snoc] at hout
    have hd : (((outs s (up most 1)).length : Nat) : Int) / (k : Int) = (((outs s (up most 1)).length / k : Nat) : Int) := (Int.natCast_ediv _ _).symm
    have hdl := Nat.div_le_self (outs s (up most 1)).length k
    have g6 : ((outs (s ++ [k]) (up most 1)).length : Int) = wrap64 (((outs s (up most 1)).length : Int) - wrap64 (((outs s (up most 1)).length : Int) / (k : Int))) := by
      rw [hd, hout]
      clear hout hd g1 g2 g3 g4 hr ht hw e
      generalize (outs s (up most 1)).length / k = y at *
      generalize (outs s (up most 1)).length = x at *
      rw [w64 (x := (y : Int)) (by omega) (by omega), w64 (by omega) (by omega)]
      omega
    simp only [if_pos g4, if_true, hr, if_neg g5, if_pos g6]
    exact hR
theorem CA_l0 (z : List Int) (q : List Nat) (hq : GS q) (most : Nat) (hm : most ≤ 400) (hR : Evl (fun k => laws_FnCountedAnew.j3 k z) true) : ∀ (m n : Nat), m + n = most + 1 → 1 ≤ n → Evl (fun k => laws_FnCountedAnew.l0 k z (nl q) (most : Int) (outs q (up most 1)) ((outs q (up most 1)).length : Int) (n : Int)) true := by
  intro m
  induction m with
  | zero =>
    intro n h h1
    obtain rfl : n = most + 1 := by omega
    exact CA_end z q hq most hm hR
  | succ m ih =>
    intro n h h1
    have hnm : n ≤ most := by omega
    have hle := outs_le q most
    have hw : wrap64 ((n : Int) + 1) = ((n + 1 : Nat) : Int) := by rw [w64 (by omega) (by omega)]; rfl
    have ih' := ih (n + 1) (by omega) (by omega)
    have hfa := (impl_fall_ev (nl q) (n : Int)).1
    have hra := (impl_fall_ev (nl q) (n : Int)).2
    have es : sfA (nl q) (n : Int) = sfV (fal q 0 n) := by unfold sfA; rw [if_pos ⟨okS_of hq, by omega, by omega⟩, nt_nl, Int.toNat_natCast]
    have er : rbA (nl q) (n : Int) = rbV (plc q n) := by unfold rbA; rw [if_pos ⟨okS_of hq, by omega, by omega⟩, nt_nl, Int.toNat_natCast]
    rw [es] at hfa
    rw [er] at hra
    have hH := tHas_ev (outs q (up most 1)) (by omega) (n : Int)
    have g0 : (n : Int) ≤ (most : Int) := by omega
    refine Evl.succ ?_
    simp only [laws_FnCountedAnew.l0, if_pos g0]
    refine Evl.bind hfa ?_
    refine Evl.bind hra ?_
    rcases fal_or q 0 n with ⟨j, e1, e2⟩ | ⟨e1, p, e2⟩
    · have hno := left_no hq.two h1 hnm e2
      have hj := fal_some q 0 n j e1
      rw [decide_eq_false hno] at hH
      rw [e1, e2]
      simp only [sfV, rbV, show (true == false) = false from rfl, Bool.false_eq_true, if_false]
      refine Evl.bind hH ?_
      have g1 : ¬ (j : Int) < 0 := by omega
      have g2 : ¬ (j : Int) ≥ ((nl q).length : Int) := by rw [nl_len]; omega
      simp only [bne_self_eq_false, Bool.false_eq_true, if_false, if_true, if_neg g1, if_neg g2]
      refine Evl.succ ?_
      simp only [laws_FnCountedAnew.j2, Bool.false_eq_true, if_false, hw]
      exact ih'
    · obtain ⟨hp1, hat⟩ := left_yes hq.two h1 hnm e2
      obtain ⟨hpl, hpv⟩ := List.getElem?_eq_some_iff.1 hat
      have hin : (n : Int) ∈ outs q (up most 1) := List.mem_of_getElem? hat
      rw [decide_eq_true hin] at hH
      rw [e1, e2]
      simp only [sfV, rbV, show (false == true) = false from rfl, Bool.false_eq_true, if_false]
      refine Evl.bind hH ?_
      have ep : (p : Int) - 1 = ((p - 1 : Nat) : Int) := by omega
      have g1 : (0 : Int) ≤ (p : Int) - 1 := by omega
      have g2 : (p : Int) - 1 < ((outs q (up most 1)).length : Int) := by omega
      have hrd : rd (outs q (up most 1)) ((p : Int) - 1) = (n : Int) := by rw [ep]; exact rd_of hat
      simp only [bne_self_eq_false, Bool.false_eq_true, if_false, if_true, if_pos g1, if_pos g2, hrd]
      refine Evl.succ ?_
      simp only [laws_FnCountedAnew.j2, Bool.false_eq_true, if_false, if_true]
      refine Evl.bind (impl_nr_ev (nl q) ((p : Int) - 1)) ?_
      rw [nr_back hq h1 (by omega) e2]
      simp only [if_true, hw]
      exact ih'
theorem CA_j0 (z : List Int) (s : List Int) (n : Int) (hR : Evl (fun k => laws_FnCountedAnew.j3 k z) true) : Evl (fun k => laws_FnCountedAnew.j0 k z s n (lbA s n).1 (lbA s n).2 (cbA s n).1 false) true := by
  refine Evl.succ ?_
  have ec : (cbA s n).1 = ((lbA s n).1.length : Int) := rfl
  simp only [laws_FnCountedAnew.j0, Bool.false_eq_true, if_false, ec, if_true]
  unfold lbA
  by_cases g : okS s = true ∧ (0 ≤ n ∧ n ≤ 400)
  · rw [if_pos g]
    simp only [if_true]
    obtain ⟨q, rfl, hq⟩ := okS_nl g.1
    obtain ⟨m, rfl⟩ := Int.eq_ofNat_of_zero_le g.2.1
    rw [nt_nl, Int.toNat_natCast]
    have hle := outs_le q m
    have hsub := outs_sub q (up m 1)
    refine Evl.bind (tRises_ev (outs q (up m 1)) 1 (m : Int) (by omega) (fun x hx => ?_) ((up_sorted m 1).sublist hsub)) ?_
    · have := up_mem m 1 x (hsub.subset hx)
      omega
    simp only [if_true]
    exact CA_l0 z q hq m (by omega) hR m 1 (by omega) (Nat.le_refl _)
  · rw [if_neg g]
    simp only [Bool.false_eq_true, if_false]
    exact hR
theorem lbA_ok {s : List Int} {n : Int} (h : (lbA s n).2 = true) : okS s = true := by
  unfold lbA at h
  split at h
  · rename_i g
    exact g.1
  · cases h
theorem lbA_len (s : List Int) (n : Int) : (lbA s n).1.length ≤ 400 := by
  unfold lbA
  split
  · rename_i g
    have := outs_le (nt s) n.toNat
    show (outs (nt s) (up n.toNat 1)).length ≤ 400
    omega
  · exact Nat.zero_le _
theorem FnCountedAnew_law (l0 l1 : List Int) (hm0 : l0.length ≤ maxLen) (hl0 : l0.length * 1 ≤ 140737488351232) (hw0 : ∀ x ∈ l0, (Lit.int .u8 x).wf = true) (hm1 : l1.length ≤ maxLen) (hl1 : l1.length * 1 ≤ 140737488351232) (hw1 : ∀ x ∈ l1, (Lit.int .u8 x).wf = true) : Evl (fun k => laws_FnCountedAnew.f k l0 l1) true := by
  have hb0 := fun x hx => u8_range (hw0 x hx)
  have hb1 := fun x hx => u8_range (hw1 x hx)
  obtain ⟨t, ht⟩ := big_some l0 l1
  obtain ⟨s, n, ea⟩ := drawLeft_some l0 hb0
  obtain ⟨s2, n2, e2⟩ := drawFall_some l1 hb1
  obtain ⟨s3, n3, e3⟩ := drawNumber_some l1 hb1
  have hR := CA_j3 l1 s2 n2 s3 n3 e2 e3
  simp only [laws_FnCountedAnew.f, ht, Option.bind_some]
  by_cases gt : t = true
  · simp only [if_pos gt]
    exact Evl.ret _
  simp only [if_neg gt]
  refine Evl.bind ea ?_
  dsimp only
  refine Evl.bind (impl_lb_ev s n) ?_
  refine Evl.bind (spec_lb_ev s n) ?_
  refine Evl.bind (impl_cb_ev s n) ?_
  refine Evl.bind (spec_cb_ev s n) ?_
  have e4 : ((cbA s n).2 != (lbA s n).2) = false := bne_self_eq_false _
  simp only [bne_self_eq_false, e4, Bool.false_eq_true, if_false, if_true]
  refine Evl.bind (tSame_self (lbA s n).1 (by have := lbA_len s n; omega)) ?_
  have hg := cnGood_ev s
  have fin := CA_j0 l1 s n hR
  simp only [if_true, impl_IsStepList.f, spec_IsStepList.f, areSteps_eq, Option.bind_some]
  by_cases g : (lbA s n).2 = true
  · simp only [if_pos g, if_pos (lbA_ok g)]
    refine Evl.bind (Evl.bind hg (Evl.ret _)) ?_
    simp only [bne_self_eq_false]
    exact fin
  · simp only [if_neg g]
    refine Evl.bind (Evl.bind hg (Evl.ret _)) ?_
    simp only [bne_self_eq_false]
    exact fin

end Go.Proofs.Ytjonkpeoiecchaa.L
