/-
  Contracts of New: the program's, and the reference's (a row of bools).
-/
import Derived.Test.YtlaeolmjhghaoaaF6
set_option linter.unusedSimpArgs false
set_option linter.unusedVariables false
namespace Go.Proofs.Ytlaeolmjhghaoaa
open Go.RowKit Go.Shelf
attribute [local go_sem] Oper.semAt_some

theorem new_bad (k : Int) (h : k < 1 ∨ 64 < k) (w : World) :
    Calls Try.prog 11 #[.int .i64 k] w fun r w' => r = .returned (.tuple #[.pointer none, .int .i64 2]) ∧ Below w.heap.size w w' := by
  by_cases g : k < 1
  · have g1 : decide (k < (1 : Int)) = true := decide_eq_true g
    clear h g
    go_enter Try.func11, Try.ntmps11
    go_wp2
    go_ret2
    exact ⟨rfl, (by repeat' (first | (with_reducible exact Below.refl _ _) | (with_reducible assumption) | (with_reducible refine Below.alloc ?_ ?_ _) | (with_reducible refine Below.setCell ?_ ?_ _) | (with_reducible refine Below.drew ?_) | (with_reducible refine below_drewN ?_ _) | go_size))⟩
  · have g1 : decide (k < (1 : Int)) = false := decide_eq_false g
    have g2 : decide ((64 : Int) < k) = true := decide_eq_true (by omega)
    clear h g
    go_enter Try.func11, Try.ntmps11
    go_wp2
    go_ret2
    exact ⟨rfl, (by repeat' (first | (with_reducible exact Below.refl _ _) | (with_reducible assumption) | (with_reducible refine Below.alloc ?_ ?_ _) | (with_reducible refine Below.setCell ?_ ?_ _) | (with_reducible refine Below.drew ?_) | (with_reducible refine below_drewN ?_ _) | go_size))⟩
theorem new_live (n : Nat) (h1 : 1 ≤ n) (h2 : n ≤ 64) (w : World) :
    Calls Try.prog 11 #[.int .i64 (n : Nat)] w fun r w' => r = .returned (.tuple #[.pointer (some ⟨w.heap.size, 0, none⟩), .int .i64 0]) ∧ Below w.heap.size w w' ∧ PoolAt w' w.heap.size n 0 := by
  have g1 : decide ((n : Int) < (1 : Int)) = false := decide_eq_false (by omega)
  have g2 : decide ((64 : Int) < (n : Int)) = false := decide_eq_false (by omega)
  clear h1 h2
  go_enter Try.func11, Try.ntmps11
  go_wp2
  go_ret2
  exact ⟨rfl, (by repeat' (first | (with_reducible exact Below.refl _ _) | (with_reducible assumption) | (with_reducible refine Below.alloc ?_ ?_ _) | (with_reducible refine Below.setCell ?_ ?_ _) | (with_reducible refine Below.drew ?_) | (with_reducible refine below_drewN ?_ _) | go_size)), by go_size, by simp [go_sem], by simp [go_sem], by simp [go_sem], by simp [go_sem]⟩
theorem rnew_bad (k : Int) (h : k < 1 ∨ 64 < k) (w : World) :
    Calls Try.prog 12 #[.int .i64 k] w fun r w' => r = .returned (.tuple #[.slice none 0 0, .int .i64 2]) ∧ Below w.heap.size w w' := by
  by_cases g : k < 1
  · have g1 : decide (k < (1 : Int)) = true := decide_eq_true g
    clear h g
    go_enter Try.func12, Try.ntmps12
    go_wp2
    go_ret2
    exact ⟨rfl, (by repeat' (first | (with_reducible exact Below.refl _ _) | (with_reducible assumption) | (with_reducible refine Below.alloc ?_ ?_ _) | (with_reducible refine Below.setCell ?_ ?_ _) | (with_reducible refine Below.drew ?_) | (with_reducible refine below_drewN ?_ _) | go_size))⟩
  · have g1 : decide (k < (1 : Int)) = false := decide_eq_false g
    have g2 : decide ((64 : Int) < k) = true := decide_eq_true (by omega)
    clear h g
    go_enter Try.func12, Try.ntmps12
    go_wp2
    go_ret2
    exact ⟨rfl, (by repeat' (first | (with_reducible exact Below.refl _ _) | (with_reducible assumption) | (with_reducible refine Below.alloc ?_ ?_ _) | (with_reducible refine Below.setCell ?_ ?_ _) | (with_reducible refine Below.drew ?_) | (with_reducible refine below_drewN ?_ _) | go_size))⟩
theorem info_bool : (Try.prog.info? 4).map (fun i => (i.zero, i.size, i.bytes)) = some (some (.bool false), 1, 1) := by kernel_rfl
set_option maxHeartbeats 2000000 in
theorem rnew_live (n : Nat) (h1 : 1 ≤ n) (h2 : n ≤ 64) (w : World) :
    Calls Try.prog 12 #[.int .i64 (n : Nat)] w fun r w' => ∃ (p : Option Addr) (c : Nat), r = .returned (.tuple #[.slice p n c, .int .i64 0]) ∧ w'.ownsRow w.heap.size 4 1 (.slice p n c) n ((List.replicate n false).map Value.bool) ∧ Below w.heap.size w w' := by
  have g1 : decide ((n : Int) < (1 : Int)) = false := decide_eq_false (by omega)
  have g2 : decide ((64 : Int) < (n : Int)) = false := decide_eq_false (by omega)
  obtain ⟨i0, hi, hz0, hz1, hz2⟩ := info_parts info_bool
  have hmx : 64 ≤ maxLen := by decide
  clear h1
  go_enter Try.func12, Try.ntmps12
  go_wp2
  go_loopw [4, 5] (fun v i wr => ∃ (k : Nat) (ao : Option Addr) (cv : Nat), k ≤ n ∧ i = .int .i64 (k : Nat) ∧ v = .slice ao k cv ∧ wr.ownsRow w.heap.size 4 1 (.slice ao k cv) k ((List.replicate k false).map Value.bool) ∧ Below w.heap.size w wr)
    (fun _ i _ => n - (intOf i).toNat)
  case atStart => exact ⟨0, none, 0, Nat.zero_le _, rfl, rfl, World.ownsRow_nil _ _ _ _, Below.refl _ _⟩
  case round =>
    obtain ⟨k, ao, cv, hk, rfl, rfl, hown, hnx⟩ := hrel
    have hsize := hnx.size
    by_cases hkn : k < n
    · have g3 : decide (k < n) = true := decide_eq_true hkn
      go_wp2_with (at_builtin; refine wpList_append_own _ rfl _ _ 40 rfl w.heap.size 4 i0 (.bool false) 1 1 Try.underlying40 hi hz0 hz1 hz2 rfl (by decide) _ _ _ rfl (hown.alloc _) ⟨wr.heap.size, 0, none⟩ 1 1 [.bool false] rfl rfl (cell_one_new _ _ _) (fun x hx => by simp at hx; subst hx; rfl) (by omega) (by omega) (by simp; omega) ?_; intro v' w3 hown' hgrow3 hnil3; obtain ⟨g', cap', rfl⟩ := ownsRow_succ hown')
      go_roundw
      case rel =>
        refine ⟨k + 1, some ⟨g', 0, none⟩, cap', by omega, by first | rfl | simp, by first | rfl | simp, ?_, (hnx.alloc hsize _).grown hgrow3 (by simp; omega) (fun q hq => (hown.lt q hq).1)⟩
        rw [List.replicate_succ', List.map_append]
        exact hown'
      case measure => simp [intOf]; omega
    · have g3 : decide (k < n) = false := decide_eq_false hkn
      obtain rfl : k = n := by omega
      go_wp2
      go_ret2
      exact ⟨_, _, rfl, hown, hnx⟩
end Go.Proofs.Ytlaeolmjhghaoaa
