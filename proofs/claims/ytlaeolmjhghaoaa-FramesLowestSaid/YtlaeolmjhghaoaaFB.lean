/-
  The plain part of FramesPlay: a pool's bits and the reference's bools.
-/
import Derived.Test.YtlaeolmjhghaoaaFA
set_option linter.unusedSimpArgs false
set_option linter.unusedVariables false
namespace Go.Proofs.Ytlaeolmjhghaoaa
open Go.RowKit

/-- the bools of x, of n numbers. -/
def bools (n x : Nat) : List Bool := (List.range n).map x.testBit
theorem bools_len (n x : Nat) : (bools n x).length = n := by unfold bools; simp
theorem bools_at (n x i : Nat) (h : i < n) : (bools n x).getD i false = x.testBit i := by
  unfold bools; simp [List.getD, h]
theorem bools_zero (n : Nat) : bools n 0 = List.replicate n false := by
  unfold bools
  apply List.ext_getElem
  · simp
  · intro i h1 h2; simp
theorem idx_ones (n x : Nat) (hn : n ≤ 64) (hx : x < 2 ^ n) : idx (bools n x) n = ones x := by
  have hhi : ∀ i, n ≤ i → x.testBit i = false := fun i hi => Nat.testBit_lt_two_pow (Nat.lt_of_lt_of_le hx (Nat.pow_le_pow_right (by decide) hi))
  have e : List.range 64 = List.range n ++ (List.range (64 - n)).map (n + ·) := by
    rw [← List.range_add]; congr 1; omega
  rw [ones_def]
  unfold idx onesTo
  rw [e, List.filter_append]
  have h2 : ((List.range (64 - n)).map (n + ·)).filter (fun i => x.testBit i) = [] := by
    rw [List.filter_eq_nil_iff]
    intro a ha
    obtain ⟨b, _, rfl⟩ := List.mem_map.1 ha
    rw [hhi _ (by omega)]; simp
  rw [h2, List.append_nil]
  apply List.filter_congr
  intro i hi
  rw [bools_at n x i (List.mem_range.1 hi)]
theorem bools_set (n x m : Nat) (hm : m < n) : bools n (x ||| 2 ^ m) = (bools n x).set m true := by
  unfold bools
  apply List.ext_getElem
  · simp
  · intro i h1 h2
    rw [List.getElem_set]
    simp only [List.getElem_map, List.getElem_range, Nat.testBit_or, Nat.testBit_two_pow]
    split
    · subst_vars; simp
    · rename_i h; simp [h]
theorem bools_clear (n x m : Nat) (hm : m < n) (hn : n ≤ 64) : bools n (x &&& (18446744073709551615 - 2 ^ m)) = (bools n x).set m false := by
  have hp : 2 ^ m < 2 ^ 64 := Nat.pow_lt_pow_right (by decide) (by omega)
  have e : 18446744073709551615 - 2 ^ m = 2 ^ 64 - (2 ^ m + 1) := by omega
  unfold bools
  apply List.ext_getElem
  · simp
  · intro i h1 h2
    have hi : i < n := by simpa using h1
    have hi64 : i < 64 := by omega
    rw [List.getElem_set]
    simp only [List.getElem_map, List.getElem_range, Nat.testBit_and, e, Nat.testBit_two_pow_sub_succ hp, Nat.testBit_two_pow]
    split
    · subst_vars; simp
    · rename_i h; simp [h, hi64]
/-- the first that is free, or n. -/
def fst (n x : Nat) : Nat := if lowest (op n x) = 64 then n else lowest (op n x)
theorem fst_ok (n x : Nat) (hn : n ≤ 64) : fst n x ≤ n ∧ (∀ i, i < fst n x → (bools n x).getD i false = true) ∧ (fst n x < n → (bools n x).getD (fst n x) false = false) ∧ (fst n x < n ↔ lowest (op n x) ≠ 64) := by
  unfold fst
  by_cases h : lowest (op n x) = 64
  · rw [if_pos h]
    have hz := lowest_no h
    refine ⟨Nat.le_refl _, fun i hi => ?_, fun h => by omega, by simp [h]⟩
    rw [bools_at n x i hi]
    have := hz i (by omega)
    rw [op_bit n x i hn] at this
    simpa [hi] using this
  · rw [if_neg h]
    obtain ⟨l1, l2, l3⟩ := lowest_is h
    rw [op_bit n x _ hn] at l2
    simp only [Bool.and_eq_true, decide_eq_true_eq, Bool.not_eq_true'] at l2
    refine ⟨by omega, fun i hi => ?_, fun _ => by rw [bools_at n x _ l2.1]; exact l2.2, ⟨fun _ => h, fun _ => l2.1⟩⟩
    have h3 := l3 i hi
    rw [op_bit n x i hn] at h3
    rw [bools_at n x i (by omega)]
    have : i < n := by omega
    simpa [this] using h3
end Go.Proofs.Ytlaeolmjhghaoaa
