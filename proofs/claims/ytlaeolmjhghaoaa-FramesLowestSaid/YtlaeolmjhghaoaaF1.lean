/-
  A pool that nobody made: contracts of its methods.
-/
import Derived.Test.YtlaeolmjhghaoaaProg
import Derived.WalkKit
import Derived.WalkLawsBesides
import Derived.WalkSpells
import Derived.Handy
import Derived.Deep.QuietTactic
import Derived.BigQuiet
import Derived.Laws.BitsAllLaws
import Derived.Lib.Hide
import Derived.Below
import Derived.Outline
set_option linter.unusedSimpArgs false
set_option linter.unusedVariables false
namespace Go.Proofs.Ytlaeolmjhghaoaa
open Go.RowKit

theorem none_nil (w : World) : Calls Try.prog 16 #[.pointer none] w fun r w' => r = .returned (.bool true) ∧ w = w' := by
  go_enter Try.func16, Try.ntmps16
  go_wp2
  go_ret
  exact ⟨rfl, rfl⟩
theorem none_zero (b : Nat) (w : World) (h0 : w.cell? ⟨b, 0, none⟩ = some (.int .i64 0)) (h1 : w.cell? ⟨b, 1, none⟩ = some (.int .u64 0)) :
    Calls Try.prog 16 #[.pointer (some ⟨b, 0, none⟩)] w fun r w' => r = .returned (.bool true) ∧ w = w' := by
  go_enter Try.func16, Try.ntmps16
  go_wp2
  go_ret
  exact ⟨rfl, rfl⟩
theorem take_nobody (p : Option Addr) (w : World) (q : Calls Try.prog 16 #[.pointer p] w fun r w' => r = .returned (.bool true) ∧ w = w') :
    Calls Try.prog 6 #[.pointer p] w fun r w' => r = .returned (.tuple #[.int .i64 0, .int .i64 1]) ∧ w = w' := by
  go_enter Try.func6, Try.ntmps6
  go_wp2_with (go_at_call 16; refine q.mono ?_; rintro e w' ⟨rfl, rfl⟩)
  go_ret2
  exact ⟨rfl, rfl⟩
theorem give_nobody (p : Option Addr) (n : Int) (w : World) (q : Calls Try.prog 16 #[.pointer p] w fun r w' => r = .returned (.bool true) ∧ w = w') :
    Calls Try.prog 7 #[.pointer p, .int .i64 n] w fun r w' => r = .returned (.int .i64 1) ∧ w = w' := by
  go_enter Try.func7, Try.ntmps7
  go_wp2_with (go_at_call 16; refine q.mono ?_; rintro e w' ⟨rfl, rfl⟩)
  go_ret
  exact ⟨rfl, rfl⟩
theorem free_nobody (p : Option Addr) (w : World) (q : Calls Try.prog 16 #[.pointer p] w fun r w' => r = .returned (.bool true) ∧ w = w') :
    Calls Try.prog 8 #[.pointer p] w fun r w' => r = .returned (.int .i64 0) ∧ w = w' := by
  go_enter Try.func8, Try.ntmps8
  go_wp2_with (go_at_call 16; refine q.mono ?_; rintro e w' ⟨rfl, rfl⟩)
  go_ret
  exact ⟨rfl, rfl⟩
theorem taken_nobody (p : Option Addr) (n : Int) (w : World) (q : Calls Try.prog 16 #[.pointer p] w fun r w' => r = .returned (.bool true) ∧ w = w') :
    Calls Try.prog 9 #[.pointer p, .int .i64 n] w fun r w' => r = .returned (.bool false) ∧ w = w' := by
  go_enter Try.func9, Try.ntmps9
  go_wp2_with (go_at_call 16; refine q.mono ?_; rintro e w' ⟨rfl, rfl⟩)
  go_ret
  exact ⟨rfl, rfl⟩
theorem all_nobody (p : Option Addr) (w : World) (q : Calls Try.prog 16 #[.pointer p] w fun r w' => r = .returned (.bool true) ∧ w = w') :
    Calls Try.prog 10 #[.pointer p] w fun r w' => r = .returned (.slice none 0 0) ∧ w = w' := by
  go_enter Try.func10, Try.ntmps10
  go_wp2_with (go_at_call 16; refine q.mono ?_; rintro e w' ⟨rfl, rfl⟩)
  go_ret
  exact ⟨rfl, rfl⟩
set_option maxRecDepth 100000 in
theorem walk_FramesNobody (n : Int) (b0 : -9223372036854775808 ≤ n) (c0 : n ≤ 9223372036854775807) (w : World) :
    Calls Try.prog 3 #[.int .i64 n] w fun e w' => e = .returned (.bool true) ∧ Below w.heap.size w w' := by
  go_enter Try.func3, Try.ntmps3
  go_wp2
  refine wp_loop_rounds 3 ?_
  rw [rounds_succ]
  go_wp2_with (first
    | (go_at_call 6; refine (take_nobody none _ (none_nil _)).mono ?_; rintro e w' ⟨rfl, rfl⟩)
    | (go_at_call 7; refine (give_nobody none _ _ (none_nil _)).mono ?_; rintro e w' ⟨rfl, rfl⟩)
    | (go_at_call 8; refine (free_nobody none _ (none_nil _)).mono ?_; rintro e w' ⟨rfl, rfl⟩)
    | (go_at_call 9; refine (taken_nobody none _ _ (none_nil _)).mono ?_; rintro e w' ⟨rfl, rfl⟩)
    | (go_at_call 10; refine (all_nobody none _ (none_nil _)).mono ?_; rintro e w' ⟨rfl, rfl⟩))
  rw [rounds_succ]
  go_wp2_with (first
    | (go_at_call 6; refine (take_nobody _ _ (none_zero w.heap.size _ (by simp [go_sem]) (by simp [go_sem]))).mono ?_; rintro e w' ⟨rfl, rfl⟩)
    | (go_at_call 7; refine (give_nobody _ _ _ (none_zero w.heap.size _ (by simp [go_sem]) (by simp [go_sem]))).mono ?_; rintro e w' ⟨rfl, rfl⟩)
    | (go_at_call 8; refine (free_nobody _ _ (none_zero w.heap.size _ (by simp [go_sem]) (by simp [go_sem]))).mono ?_; rintro e w' ⟨rfl, rfl⟩)
    | (go_at_call 9; refine (taken_nobody _ _ _ (none_zero w.heap.size _ (by simp [go_sem]) (by simp [go_sem]))).mono ?_; rintro e w' ⟨rfl, rfl⟩)
    | (go_at_call 10; refine (all_nobody _ _ (none_zero w.heap.size _ (by simp [go_sem]) (by simp [go_sem]))).mono ?_; rintro e w' ⟨rfl, rfl⟩))
  rw [rounds_succ]
  go_wp2
  go_ret
  exact ⟨rfl, (by repeat' (first | (with_reducible exact Below.refl _ _) | (with_reducible assumption) | (with_reducible refine Below.alloc ?_ ?_ _) | (with_reducible refine Below.setCell ?_ ?_ _) | (with_reducible refine Below.drew ?_) | (with_reducible refine below_drewN ?_ _) | go_size))⟩
end Go.Proofs.Ytlaeolmjhghaoaa
