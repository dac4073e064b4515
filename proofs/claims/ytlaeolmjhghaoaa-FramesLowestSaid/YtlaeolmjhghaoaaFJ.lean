/-
  The plain part of FramesLowest.
-/
import Derived.Test.YtlaeolmjhghaoaaFD
import Derived.Laws.BitsAllLaws
set_option linter.unusedSimpArgs false
set_option linter.unusedVariables false
namespace Go.Proofs.Ytlaeolmjhghaoaa
open Go.RowKit

theorem i64_and63 (n : Int) : bits .and .i64 n 63 = n % 64 := by
  show IntKind.i64.wrap ((BitVec.ofInt 64 n &&& BitVec.ofInt 64 63).toNat : Int) = _
  have e : (BitVec.ofInt 64 n &&& BitVec.ofInt 64 63).toNat = (BitVec.ofInt 64 n).toNat % 64 := by
    rw [BitVec.toNat_and, show (BitVec.ofInt 64 63).toNat = 2 ^ 6 - 1 by decide, Nat.and_two_pow_sub_one_eq_mod]
  rw [e, BitVec.toNat_ofInt]
  have h : (((n % ((2 ^ 64 : Nat) : Int)).toNat % 64 : Nat) : Int) = n % 64 := by omega
  rw [h]
  exact IntWalk.i64_in _ (by omega)
/-- the lowest of those that are free is taken. -/
theorem take_is (n x m : Nat) (hn : n ≤ 64) (hm : m < n) (h1 : ∀ i, i < m → x.testBit i = true) (h2 : x.testBit m = false) : tN n x = m ∧ tE n x = 0 ∧ tX n x = x ||| 2 ^ m := by
  have h : fst n x = m := fst_is n x m hn hm h1 h2
  have h4 : lowest (op n x) ≠ 64 := (fst_ok n x hn).2.2.2.1 (by rw [h]; exact hm)
  have e : lowest (op n x) = m := by unfold fst at h; rwa [if_neg h4] at h
  rw [tN_def, tE_def, tX_def, if_neg h4, if_neg h4, if_neg h4, e]
  exact ⟨rfl, rfl, rfl⟩
theorem take_full (n x : Nat) (hn : n ≤ 64) (h1 : ∀ i, i < n → x.testBit i = true) : tN n x = 0 ∧ tE n x = 15 ∧ tX n x = x := by
  obtain ⟨f1, f2, f3, f4⟩ := fst_ok n x hn
  have hnot : ¬ fst n x < n := fun h => by
    have := f3 h
    rw [bools_at n x _ h, h1 _ h] at this
    simp at this
  have h4 : lowest (op n x) = 64 := by
    rcases Nat.decEq (lowest (op n x)) 64 with h | h
    · exact (hnot (f4.2 h)).elim
    · exact h
  rw [tN_def, tE_def, tX_def, if_pos h4, if_pos h4, if_pos h4]
  exact ⟨rfl, rfl, rfl⟩
/-- some number is free, and the lowest one: m. -/
theorem low_free (n x : Nat) (hn : n ≤ 64) (h : ∃ i, i < n ∧ x.testBit i = false) : ∃ m, m < n ∧ (∀ i, i < m → x.testBit i = true) ∧ x.testBit m = false := by
  obtain ⟨f1, f2, f3, f4⟩ := fst_ok n x hn
  have hlt : fst n x < n := by
    rcases Nat.lt_or_ge (fst n x) n with h2 | h2
    · exact h2
    · obtain ⟨i, hi, hb⟩ := h
      have := f2 i (by omega)
      rw [bools_at n x i hi, hb] at this
      simp at this
  refine ⟨fst n x, hlt, fun i hi => ?_, ?_⟩
  · have := f2 i hi
    rwa [bools_at n x i (by omega)] at this
  · have := f3 hlt
    rwa [bools_at n x _ hlt] at this
theorem set_bit (x m i : Nat) : (x ||| 2 ^ m).testBit i = (x.testBit i || decide (m = i)) := by
  rw [Nat.testBit_or, Nat.testBit_two_pow]
theorem full_bit (m i : Nat) : (2 ^ m - 1).testBit i = decide (i < m) := Nat.testBit_two_pow_sub_one m i
theorem full_next (m : Nat) : (2 ^ m - 1) ||| 2 ^ m = 2 ^ (m + 1) - 1 := by
  apply Nat.eq_of_testBit_eq
  intro i
  rw [set_bit, full_bit, full_bit]
  rcases Nat.lt_trichotomy i m with h | h | h
  · simp [h, show i < m + 1 by omega]
  · simp [h]
  · simp [show ¬ i < m by omega, show ¬ i < m + 1 by omega, show ¬ m = i by omega]
/-- how many of n are taken. -/
def cnt (n x : Nat) : Nat := (ones x).length
theorem filt_one (p q : Nat → Bool) (j : Nat) (hp : p j = true) (hq : q j = false) (h : ∀ i, i ≠ j → p i = q i) : ∀ n, ((List.range n).filter p).length = ((List.range n).filter q).length + (if j < n then 1 else 0)
  | 0 => rfl
  | n + 1 => by
    rw [List.range_succ, List.filter_append, List.filter_append, List.length_append, List.length_append, filt_one p q j hp hq h n]
    rcases Nat.lt_trichotomy n j with h2 | h2 | h2
    · have e := h n (by omega)
      simp only [List.filter_cons, List.filter_nil, e, show ¬ j < n by omega, show ¬ j < n + 1 by omega]
      cases q n <;> simp
    · subst h2
      simp only [List.filter_cons, List.filter_nil, hp, hq]
      simp
    · have e := h n (by omega)
      simp only [List.filter_cons, List.filter_nil, e, show j < n by omega, show j < n + 1 by omega]
      cases q n <;> simp <;> omega
theorem ones_filt (x : Nat) : ones x = (List.range 64).filter fun i => x.testBit i := by rw [ones_def]; unfold onesTo; rfl
/-- one more is taken. -/
theorem ones_more (x m : Nat) (hm : m < 64) (h : x.testBit m = false) : (ones (x ||| 2 ^ m)).length = (ones x).length + 1 := by
  have := filt_one (fun i => (x ||| 2 ^ m).testBit i) (fun i => x.testBit i) m (by simp [set_bit]) h (fun i hi => by simp [set_bit, Ne.symm hi]) 64
  rw [if_pos hm] at this
  rw [ones_filt, ones_filt]; exact this
theorem ones_full (n : Nat) (hn : n ≤ 64) : (ones (2 ^ n - 1)).length = n := by
  induction n with
  | zero => rw [ones_filt]; decide
  | succ k ih =>
    have h := ih (by omega)
    have := ones_more (2 ^ k - 1) k (by omega) (by simp [full_bit])
    rw [full_next, h] at this
    exact this
/-- fewer than n are taken: some one is free. -/
theorem some_free (n x : Nat) (hn : n ≤ 64) (h : (ones x).length < n) : ∃ i, i < n ∧ x.testBit i = false := by
  by_cases g : ∃ i, i < n ∧ x.testBit i = false
  · exact g
  · exfalso
    have hall : ∀ i, i < n → x.testBit i = true := fun i hi => by
      cases hb : x.testBit i
      · exact (g ⟨i, hi, hb⟩).elim
      · rfl
    have hle : ((List.range n).filter fun i => x.testBit i).length ≤ (ones x).length := by
      rw [ones_filt, show (64 : Nat) = n + (64 - n) by omega, List.range_add, List.filter_append, List.length_append]
      omega
    have e : ((List.range n).filter fun i => x.testBit i) = List.range n := List.filter_eq_self.2 fun a ha => hall a (List.mem_range.1 ha)
    rw [e, List.length_range] at hle
    omega
/-- one that is taken, given back. -/
theorem give_taken (n x j : Nat) (hn : n ≤ 64) (hj : j < n) (h : x.testBit j = true) : gE n x (j : Int) = 0 ∧ (∀ i, i < n → (gX n x (j : Int)).testBit i = (x.testBit i && !decide (j = i))) ∧ (ones (gX n x (j : Int))).length + 1 = (ones x).length := by
  have hp : 2 ^ j < 2 ^ 64 := Nat.pow_lt_pow_right (by decide) (by omega)
  have e : 18446744073709551615 - 2 ^ j = 2 ^ 64 - (2 ^ j + 1) := by omega
  have hb : ∀ i, i < 64 → (x &&& (18446744073709551615 - 2 ^ j)).testBit i = (x.testBit i && !decide (j = i)) := fun i hi => by
    rw [Nat.testBit_and, e, Nat.testBit_two_pow_sub_succ hp, Nat.testBit_two_pow]
    simp [hi]
  have g : gX n x (j : Int) = x &&& (18446744073709551615 - 2 ^ j) := by rw [gX_def]; simp [hj, h]
  refine ⟨by rw [gE_def]; simp [hj, h], fun i hi => by rw [g]; exact hb i (by omega), ?_⟩
  have hx : (List.range 64).filter (fun i => (x &&& (18446744073709551615 - 2 ^ j)).testBit i) = (List.range 64).filter (fun i => x.testBit i && !decide (j = i)) :=
    List.filter_congr fun i hi => hb i (List.mem_range.1 hi)
  have := filt_one (fun i => x.testBit i) (fun i => x.testBit i && !decide (j = i)) j h (by simp) (fun i hi => by simp [Ne.symm hi]) 64
  rw [if_pos (by omega)] at this
  rw [g, ones_filt, ones_filt, hx]
  exact this.symm
theorem give_free (n x j : Nat) (hn : n ≤ 64) (hj : j < n) (h : x.testBit j = false) : gE n x (j : Int) = 13 ∧ gX n x (j : Int) = x := by
  exact ⟨by rw [gE_def]; simp [hj, h], by rw [gX_def]; simp [h]⟩
/-- the remainder, made one that is not below zero. -/
theorem rem_is (K : Int) (n : Nat) (h1 : 1 ≤ n) : ∃ j : Nat, j < n ∧ (K.tmod n + n).tmod n = (j : Int) ∧ -(n : Int) < K.tmod n ∧ K.tmod n < n := by
  have hlt : (K.tmod n).natAbs < n := by
    have := Int.natAbs_tmod K n
    rw [this]
    exact Nat.mod_lt _ (by simp; omega)
  refine ⟨((K.tmod n + n).tmod n).toNat, ?_, ?_, by omega, by omega⟩
  · have h0 : 0 ≤ K.tmod n + n := by omega
    rw [Int.tmod_eq_emod_of_nonneg h0]
    have h2 := Int.emod_lt_of_pos (K.tmod n + n) (show (0 : Int) < n by omega)
    have h3 := Int.emod_nonneg (K.tmod n + n) (show (n : Int) ≠ 0 by omega)
    omega
  · have h0 : 0 ≤ K.tmod n + n := by omega
    rw [Int.tmod_eq_emod_of_nonneg h0]
    have h3 := Int.emod_nonneg (K.tmod n + n) (show (n : Int) ≠ 0 by omega)
    omega
end Go.Proofs.Ytlaeolmjhghaoaa
