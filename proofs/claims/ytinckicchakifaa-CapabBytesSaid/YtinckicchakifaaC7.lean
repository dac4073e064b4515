/-
  Contract of capab.Bytes: the sixteen bytes of any capability.
-/
import Derived.Test.YtinckicchakifaaA0
import Derived.BigRegion
set_option linter.unusedSimpArgs false
set_option linter.unusedVariables false
namespace Go.Proofs.Ytinckicchakifaa
open Go.RowKit Go.Sort

/-- the i-th byte of a number. -/
def by8 (x i : Nat) : Nat := x / 2 ^ (8 * i) % 256
theorem by8_def (x i : Nat) : by8 x i = x / 2 ^ (8 * i) % 256 := rfl
theorem by8_facts (x : Nat) : IntKind.u8.wrap (x : Int) = ((by8 x 0 : Nat) : Int) ∧ IntKind.u8.wrap ((x : Int) / 256) = ((by8 x 1 : Nat) : Int) ∧ IntKind.u8.wrap ((x : Int) / 65536) = ((by8 x 2 : Nat) : Int) ∧ IntKind.u8.wrap ((x : Int) / 16777216) = ((by8 x 3 : Nat) : Int) ∧
    IntKind.u8.wrap ((x : Int) / 4294967296) = ((by8 x 4 : Nat) : Int) ∧ IntKind.u8.wrap ((x : Int) / 1099511627776) = ((by8 x 5 : Nat) : Int) ∧ IntKind.u8.wrap ((x : Int) / 281474976710656) = ((by8 x 6 : Nat) : Int) ∧ IntKind.u8.wrap ((x : Int) / 72057594037927936) = ((by8 x 7 : Nat) : Int) := by
  simp only [IntKind.wrap_u8, by8_def]
  refine ⟨?_, ?_, ?_, ?_, ?_, ?_, ?_, ?_⟩ <;> omega
attribute [irreducible] by8
set_option maxHeartbeats 4000000 in
theorem bytes_any (tg : Bool) (m a : Nat) (w : World) :
    Calls Try.prog 20 #[.agg #[.bool tg, .int .u64 (m : Nat), .int .u64 (a : Nat)]] w fun r w' => r = .returned (.agg #[.int .u8 (by8 a 0 : Nat), .int .u8 (by8 a 1 : Nat), .int .u8 (by8 a 2 : Nat), .int .u8 (by8 a 3 : Nat), .int .u8 (by8 a 4 : Nat), .int .u8 (by8 a 5 : Nat), .int .u8 (by8 a 6 : Nat), .int .u8 (by8 a 7 : Nat), .int .u8 (by8 m 0 : Nat), .int .u8 (by8 m 1 : Nat), .int .u8 (by8 m 2 : Nat), .int .u8 (by8 m 3 : Nat), .int .u8 (by8 m 4 : Nat), .int .u8 (by8 m 5 : Nat), .int .u8 (by8 m 6 : Nat), .int .u8 (by8 m 7 : Nat)]) ∧ Below w.heap.size w w' := by
  obtain ⟨a0, a1, a2, a3, a4, a5, a6, a7⟩ := by8_facts a
  obtain ⟨m0, m1, m2, m3, m4, m5, m6, m7⟩ := by8_facts m
  go_enter Try.func20, Try.ntmps20
  go_wp2
  refine wp_loop_rounds 9 ?_
  rw [rounds_succ]
  go_wp2
  go_region
  go_wp2
  rw [rounds_succ]
  go_wp2
  go_region
  go_wp2
  rw [rounds_succ]
  go_wp2
  go_region
  go_wp2
  rw [rounds_succ]
  go_wp2
  go_region
  go_wp2
  rw [rounds_succ]
  go_wp2
  go_region
  go_wp2
  rw [rounds_succ]
  go_wp2
  go_region
  go_wp2
  rw [rounds_succ]
  go_wp2
  go_region
  go_wp2
  rw [rounds_succ]
  go_wp2
  go_region
  go_wp2
  rw [rounds_succ]
  go_wp2
  refine bodyPost_ret (v := .agg #[.int .u8 (by8 a 0 : Nat), .int .u8 (by8 a 1 : Nat), .int .u8 (by8 a 2 : Nat), .int .u8 (by8 a 3 : Nat), .int .u8 (by8 a 4 : Nat), .int .u8 (by8 a 5 : Nat), .int .u8 (by8 a 6 : Nat), .int .u8 (by8 a 7 : Nat), .int .u8 (by8 m 0 : Nat), .int .u8 (by8 m 1 : Nat), .int .u8 (by8 m 2 : Nat), .int .u8 (by8 m 3 : Nat), .int .u8 (by8 m 4 : Nat), .int .u8 (by8 m 5 : Nat), .int .u8 (by8 m 6 : Nat), .int .u8 (by8 m 7 : Nat)]) (by simp [results, Try.results20, go_sem]) rfl ⟨rfl, (by repeat' (first | (with_reducible exact Below.refl _ _) | (with_reducible assumption) | (with_reducible refine Below.alloc ?_ ?_ _) | (with_reducible refine Below.setCell ?_ ?_ _) | (with_reducible refine Below.drew ?_) | (with_reducible refine below_drewN ?_ _) | go_size))⟩
end Go.Proofs.Ytinckicchakifaa
