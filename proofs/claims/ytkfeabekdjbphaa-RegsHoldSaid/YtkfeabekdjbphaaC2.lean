
/-
  Contracts of field.Lay on three parts, and of capab.meta.
-/
import Derived.Test.YtkfeabekdjbphaaC1
import Derived.Deep.RegionHeld3
set_option linter.unusedSimpArgs false
set_option linter.unusedVariables false
namespace Go.Proofs.Ytkfeabekdjbphaa
open Go.RowKit Go.Sort

theorem lay_put0 (v : Nat) (hv : v < 4294967296) (w : World) : Calls Try.prog 51 #[.int .u64 0, .int .i64 0, .int .i64 32, .int .u64 v] w fun r w' => r = .returned (.int .u64 v) ∧ ∃ k, w' = w.drewN k := by
  have h := put_any 0 0 32 v (by decide) (by decide) (by decide) (by decide) (by omega) w
  have e : 0 + v % 2 ^ 32 * 2 ^ 0 = v := by omega
  rw [e] at h
  exact h
theorem lay_put1 (v p : Nat) (hv : v < 4294967296) (hp : p < 18446744073709551616) (w : World) : Calls Try.prog 51 #[.int .u64 v, .int .i64 32, .int .i64 9, .int .u64 p] w fun r w' => r = .returned (.int .u64 (v + p % 512 * 4294967296 : Nat)) ∧ ∃ k, w' = w.drewN k :=
  put_any v 32 9 p (by omega) (by decide) (by decide) (by decide) hp w
theorem lay_put2 (v y : Nat) (hv : v < 281474976710656) (hp : y < 18446744073709551616) (w : World) : Calls Try.prog 51 #[.int .u64 v, .int .i64 48, .int .i64 12, .int .u64 y] w fun r w' => r = .returned (.int .u64 (v + y % 4096 * 281474976710656 : Nat)) ∧ ∃ k, w' = w.drewN k :=
  put_any v 48 12 y (by omega) (by decide) (by decide) (by decide) hp w

theorem wd_lt32 (b t e : Nat) : wd b t e < 4294967296 := by rw [wd_def]; omega
end Go.Proofs.Ytkfeabekdjbphaa
