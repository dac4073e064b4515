/-
  Contract of the reference's Bytes: the sixteen bytes of any capability.
-/
import Derived.Test.YtinckicchakifaaC8
set_option linter.unusedSimpArgs false
set_option linter.unusedVariables false
namespace Go.Proofs.Ytinckicchakifaa
open Go.RowKit Go.Sort

set_option maxHeartbeats 4000000 in
theorem rbytes_any (tg : Bool) (m a : Nat) (w : World) :
    Calls Try.prog 25 #[.agg #[.bool tg, .int .u64 (m : Nat), .int .u64 (a : Nat)]] w fun r w' => r = .returned (.agg #[.int .u8 (by8 a 0 : Nat), .int .u8 (by8 a 1 : Nat), .int .u8 (by8 a 2 : Nat), .int .u8 (by8 a 3 : Nat), .int .u8 (by8 a 4 : Nat), .int .u8 (by8 a 5 : Nat), .int .u8 (by8 a 6 : Nat), .int .u8 (by8 a 7 : Nat), .int .u8 (by8 m 0 : Nat), .int .u8 (by8 m 1 : Nat), .int .u8 (by8 m 2 : Nat), .int .u8 (by8 m 3 : Nat), .int .u8 (by8 m 4 : Nat), .int .u8 (by8 m 5 : Nat), .int .u8 (by8 m 6 : Nat), .int .u8 (by8 m 7 : Nat)]) ∧ Below w.heap.size w w' := by
  obtain ⟨a0, a1, a2, a3, a4, a5, a6, a7⟩ := by8_facts a
  obtain ⟨m0, m1, m2, m3, m4, m5, m6, m7⟩ := by8_facts m
  go_enter Try.func25, Try.ntmps25
  go_wp2
  refine wp_loop_rounds 9 ?_
  rw [rounds_succ]
  go_wp2
  rw [rounds_succ]
  go_wp2
  rw [rounds_succ]
  go_wp2
  rw [rounds_succ]
  go_wp2
  rw [rounds_succ]
  go_wp2
  rw [rounds_succ]
  go_wp2
  rw [rounds_succ]
  go_wp2
  rw [rounds_succ]
  go_wp2
  rw [rounds_succ]
  go_wp2
  refine bodyPost_ret (v := .agg #[.int .u8 (by8 a 0 : Nat), .int .u8 (by8 a 1 : Nat), .int .u8 (by8 a 2 : Nat), .int .u8 (by8 a 3 : Nat), .int .u8 (by8 a 4 : Nat), .int .u8 (by8 a 5 : Nat), .int .u8 (by8 a 6 : Nat), .int .u8 (by8 a 7 : Nat), .int .u8 (by8 m 0 : Nat), .int .u8 (by8 m 1 : Nat), .int .u8 (by8 m 2 : Nat), .int .u8 (by8 m 3 : Nat), .int .u8 (by8 m 4 : Nat), .int .u8 (by8 m 5 : Nat), .int .u8 (by8 m 6 : Nat), .int .u8 (by8 m 7 : Nat)]) (by simp [results, Try.results25, go_sem]) rfl ⟨rfl, (by repeat' (first | (with_reducible exact Below.refl _ _) | (with_reducible assumption) | (with_reducible refine Below.alloc ?_ ?_ _) | (with_reducible refine Below.setCell ?_ ?_ _) | (with_reducible refine Below.drew ?_) | (with_reducible refine below_drewN ?_ _) | go_size))⟩
end Go.Proofs.Ytinckicchakifaa
