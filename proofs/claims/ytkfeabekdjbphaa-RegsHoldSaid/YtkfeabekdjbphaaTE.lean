
/-
  Contract of the reference's Encode, of a span that may be.
-/
import Derived.Test.YtkfeabekdjbphaaTD
set_option linter.unusedSimpArgs false
namespace Go.Proofs.Ytkfeabekdjbphaa
open Go.RowKit Go.Sort

theorem run_req2 (a b c d : Nat) (W : World) : (binOp .eql 67 (.agg #[.int .u64 a, .int .u64 b]) (.agg #[.int .u64 c, .int .u64 d])).run Try.prog W = .ok (.bool (eq2 a b c d)) W := by
  have e : eq2 a b c d = (decide (a = c) && decide (b = d)) := by unfold eq2; rfl
  rw [e]
  by_cases h1 : a = c
  · by_cases h2 : b = d
    · simp [go_sem, h1, h2]
    · have h2' : ¬ ((b : Int) = d) := by omega
      simp [go_sem, h1, h2, h2']
  · have h1' : ¬ ((a : Int) = c) := by omega
    simp [go_sem, h1, h1']
theorem fB_rem (b t : Nat) : (((kb b t : Nat) : Int) / 2 ^ (ex b t - 1)) % 16384 = ((fB b t : Nat) : Int) := by
  have e : fB b t = qd b (ex b t - 1) % 16384 := by unfold fB; rfl
  have e2 : (2 : Int) ^ (ex b t - 1) = ((2 ^ (ex b t - 1) : Nat) : Int) := by simp
  rw [e, kb_def, e2, ← Int.natCast_ediv, Nat.mul_div_cancel _ (pow_pos2 _)]
  omega
theorem fT_rem (b t : Nat) : (((kt b t : Nat) : Int) / 2 ^ (ex b t - 1)) % 4096 = ((fT b t : Nat) : Int) := by
  have e : fT b t = qu t (ex b t - 1) % 4096 := by unfold fT; rfl
  have e2 : (2 : Int) ^ (ex b t - 1) = ((2 ^ (ex b t - 1) : Nat) : Int) := by simp
  rw [e, kt_def, e2, ← Int.natCast_ediv, Nat.mul_div_cancel _ (pow_pos2 _)]
  omega

theorem div_nonneg (a x : Nat) : (0 : Int) ≤ (a : Int) / 2 ^ x := by
  have e2 : (2 : Int) ^ x = ((2 ^ x : Nat) : Int) := by simp
  rw [e2, ← Int.natCast_ediv]; exact Int.natCast_nonneg _
theorem fB_tmod (b t : Nat) : (((kb b t : Nat) : Int) / 2 ^ (ex b t - 1)).tmod 16384 = ((fB b t : Nat) : Int) := by
  rw [Int.tmod_eq_emod_of_nonneg (div_nonneg _ _), fB_rem]
theorem fT_tmod (b t : Nat) : (((kt b t : Nat) : Int) / 2 ^ (ex b t - 1)).tmod 4096 = ((fT b t : Nat) : Int) := by
  rw [Int.tmod_eq_emod_of_nonneg (div_nonneg _ _), fT_rem]

end Go.Proofs.Ytkfeabekdjbphaa
