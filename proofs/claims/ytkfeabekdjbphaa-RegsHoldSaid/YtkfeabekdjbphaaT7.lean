
/-
  Contracts of bounds.Encode, bounds.Rounded: of every span.
-/
import Derived.Test.YtkfeabekdjbphaaT6
set_option linter.unusedSimpArgs false
namespace Go.Proofs.Ytkfeabekdjbphaa
open Go.RowKit

/-- two spans are one. -/
def eq2 (a b c d : Nat) : Bool := decide (a = c) && decide (b = d)
theorem run_eq2 (a b c d : Nat) (W : World) : (binOp .eql 65 (.agg #[.int .u64 a, .int .u64 b]) (.agg #[.int .u64 c, .int .u64 d])).run Try.prog W = .ok (.bool (eq2 a b c d)) W := by
  by_cases h1 : a = c
  · by_cases h2 : b = d
    · simp [go_sem, eq2, h1, h2]
    · have h2' : ¬ ((b : Int) = d) := by omega
      simp [go_sem, eq2, h1, h2, h2']
  · have h1' : ¬ ((a : Int) = c) := by omega
    simp [go_sem, eq2, h1, h1']
attribute [irreducible] eq2

/-- the lowest bits of how many steps. -/
theorem low_bits (k x q n : Nat) (m : Int) (hk : k = q * 2 ^ x) (hk2 : k < 18446744073709551616) (hn : n < 64) (hm : m = ((2 ^ n - 1 : Nat) : Int)) :
    bits .and .u64 ((k : Int) / 2 ^ x) m = ((q % 2 ^ n : Nat) : Int) := by
  have h := get_bits k x n hk2 hn
  rw [hm, h, hk, Nat.mul_div_cancel _ (pow_pos2 x)]
theorem fB_bits (b t : Nat) (hb : b ≤ t) (ht : t ≤ 281474976710656) : bits .and .u64 (((kb b t : Nat) : Int) / 2 ^ (ex b t - 1)) 16383 = ((fB b t : Nat) : Int) := by
  have h1 := kb_le b t
  rw [low_bits (kb b t) (ex b t - 1) (qd b (ex b t - 1)) 14 16383 (kb_def b t) (by omega) (by decide) (by decide)]
  unfold fB; rfl
theorem fT_bits (b t : Nat) (hb : b ≤ t) (ht : t ≤ 281474976710656) : bits .and .u64 (((kt b t : Nat) : Int) / 2 ^ (ex b t - 1)) 4095 = ((fT b t : Nat) : Int) := by
  have h1 := kt_le48 hb ht
  rw [low_bits (kt b t) (ex b t - 1) (qu t (ex b t - 1)) 12 4095 (kt_def b t) (by omega) (by decide) (by decide)]
  unfold fT; rfl

end Go.Proofs.Ytkfeabekdjbphaa
