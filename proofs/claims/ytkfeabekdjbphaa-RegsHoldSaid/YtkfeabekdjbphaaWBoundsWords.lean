
/-
  The walk of the law BoundsWords: of any two words it returns true, and only makes new memory.
-/
import Derived.Test.YtkfeabekdjbphaaT9
set_option linter.unusedSimpArgs false
namespace Go.Proofs.Ytkfeabekdjbphaa
open Go.RowKit Go.Sort

/-- the lowest 32 bits. -/
def lo (x : Nat) : Nat := x % 4294967296
theorem lo_def (x : Nat) : lo x = x % 4294967296 := rfl
theorem wd_of (x : Nat) : wd (oB x) (oT x) (oE x) = lo x := by rw [wd_def, oB_def, oT_def, oE_def, lo_def]; omega
theorem lo_bits (x : Nat) (hx : x < 18446744073709551616) : bits .and .u64 (x : Int) 4294967295 = ((lo x : Nat) : Int) := by
  rw [show (4294967295 : Int) = ((2 ^ 32 - 1 : Nat) : Int) from by decide, u64_and_nat _ _ hx (by decide), and_mask, lo_def]
theorem of_eq_iff (x y : Nat) : (oB x = oB y ∧ oT x = oT y ∧ oE x = oE y) ↔ lo x = lo y := by
  rw [oB_def, oT_def, oE_def, oB_def, oT_def, oE_def, lo_def, lo_def]; omega
attribute [irreducible] lo
theorem run_eq3_same (a b c : Nat) (W : World) : (binOp .eql 80 (.agg #[.int .u64 a, .int .u64 b, .int .u64 c]) (.agg #[.int .u64 a, .int .u64 b, .int .u64 c])).run Try.prog W = .ok (.bool true) W := by
  simp [go_sem]
theorem run_eq3_other (a b c d e f : Nat) (h : ¬ (a = d ∧ b = e ∧ c = f)) (W : World) : (binOp .eql 80 (.agg #[.int .u64 a, .int .u64 b, .int .u64 c]) (.agg #[.int .u64 d, .int .u64 e, .int .u64 f])).run Try.prog W = .ok (.bool false) W := by
  by_cases h1 : a = d
  · by_cases h2 : b = e
    · have h3 : ¬ ((c : Int) = f) := by intro h'; exact h ⟨h1, h2, by omega⟩
      simp [go_sem, h1, h2, h3]
    · have h2' : ¬ ((b : Int) = e) := by omega
      simp [go_sem, h1, h2']
  · have h1' : ¬ ((a : Int) = d) := by omega
    simp [go_sem, h1']
theorem word_of (x : Nat) (w : World) :
    Calls Try.prog 45 #[.agg #[.int .u64 (oB x : Nat), .int .u64 (oT x : Nat), .int .u64 (oE x : Nat)]] w fun r w' => r = .returned (.int .u64 (lo x : Nat)) ∧ Below w.heap.size w w' := by
  have h := word_any (oB x) (oT x) (oE x) (by rw [oB_def]; omega) (by rw [oT_def]; omega) (by rw [oE_def]; omega) w
  rw [wd_of] at h
  exact h
theorem word_one (w : World) :
    Calls Try.prog 45 #[.agg #[.int .u64 1, .int .u64 1, .int .u64 1]] w fun r w' => r = .returned (.int .u64 67125249) ∧ Below w.heap.size w w' := by
  have h := word_any 1 1 1 (by decide) (by decide) (by decide) w
  rw [wd_def] at h
  exact h

end Go.Proofs.Ytkfeabekdjbphaa
