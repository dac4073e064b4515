
/-
  Contracts of bounds.Length, bounds.Align, bounds.widths, bounds.Of, bounds.Word.
-/
import Derived.Test.YtkfeabekdjbphaaT7
set_option linter.unusedSimpArgs false
namespace Go.Proofs.Ytkfeabekdjbphaa
open Go.RowKit

theorem widths_any (w : World) :
    Calls Try.prog 47 #[] w fun r w' => r = .returned (.agg #[.int .i64 14, .int .i64 12, .int .i64 6]) ∧ Below w.heap.size w w' := by
  go_enter Try.func47, Try.ntmps47
  go_wp2
  refine bodyPost_ret (v := .agg #[.int .i64 14, .int .i64 12, .int .i64 6]) (by simp [results, Try.results47, go_sem]) rfl ⟨rfl, (by repeat' (first | (with_reducible exact Below.refl _ _) | (with_reducible assumption) | (with_reducible refine Below.alloc ?_ ?_ _) | (with_reducible refine Below.setCell ?_ ?_ _) | (with_reducible refine Below.drew ?_) | (with_reducible refine below_drewN ?_ _) | go_size))⟩
theorem get_B (x : Nat) (hx : x < 18446744073709551616) (w : World) : Calls Try.prog 42 #[.int .u64 x, .int .i64 0, .int .i64 14] w fun r w' => r = .returned (.int .u64 (oB x : Nat)) ∧ ∃ k, w' = w.drewN k :=
  (get_any x 0 14 hx (by omega) (by omega) (by omega) w).mono fun r w' ⟨h, hw⟩ => ⟨by rw [h, oB_def] <;> simp, hw⟩
theorem get_T (x : Nat) (hx : x < 18446744073709551616) (w : World) : Calls Try.prog 42 #[.int .u64 x, .int .i64 14, .int .i64 12] w fun r w' => r = .returned (.int .u64 (oT x : Nat)) ∧ ∃ k, w' = w.drewN k :=
  (get_any x 14 12 hx (by omega) (by omega) (by omega) w).mono fun r w' ⟨h, hw⟩ => ⟨by rw [h, oT_def] <;> simp, hw⟩
theorem get_E (x : Nat) (hx : x < 18446744073709551616) (w : World) : Calls Try.prog 42 #[.int .u64 x, .int .i64 26, .int .i64 6] w fun r w' => r = .returned (.int .u64 (oE x : Nat)) ∧ ∃ k, w' = w.drewN k :=
  (get_any x 26 6 hx (by omega) (by omega) (by omega) w).mono fun r w' ⟨h, hw⟩ => ⟨by rw [h, oE_def] <;> simp, hw⟩
theorem put_B (b : Nat) (hb : b < 18446744073709551616) (w : World) : Calls Try.prog 51 #[.int .u64 0, .int .i64 0, .int .i64 14, .int .u64 b] w fun r w' => r = .returned (.int .u64 (wd1 b : Nat)) ∧ ∃ k, w' = w.drewN k :=
  (put_any 0 0 14 b (by decide) (by omega) (by omega) (by omega) hb w).mono fun r w' ⟨h, hw⟩ => ⟨by rw [h, wd1_def] <;> simp, hw⟩
theorem put_T (b t : Nat) (ht : t < 18446744073709551616) (w : World) : Calls Try.prog 51 #[.int .u64 (wd1 b : Nat), .int .i64 14, .int .i64 12, .int .u64 t] w fun r w' => r = .returned (.int .u64 (wd2 b t : Nat)) ∧ ∃ k, w' = w.drewN k :=
  (put_any (wd1 b) 14 12 t (by rw [wd1_def]; omega) (by omega) (by omega) (by omega) ht w).mono fun r w' ⟨h, hw⟩ => ⟨by rw [h, wd2_def, wd1_def] <;> simp, hw⟩
theorem put_E (b t e : Nat) (he : e < 18446744073709551616) (w : World) : Calls Try.prog 51 #[.int .u64 (wd2 b t : Nat), .int .i64 26, .int .i64 6, .int .u64 e] w fun r w' => r = .returned (.int .u64 (wd b t e : Nat)) ∧ ∃ k, w' = w.drewN k :=
  (put_any (wd2 b t) 26 6 e (by rw [wd2_def]; omega) (by omega) (by omega) (by omega) he w).mono fun r w' ⟨h, hw⟩ => ⟨by rw [h, wd_def, wd2_def] <;> simp, hw⟩

theorem idx_w0 (W : World) : (Instr.index 90 (.agg #[.int .i64 14, .int .i64 12, .int .i64 6]) (.int .i64 0)).run Try.prog W = .ok (.int .i64 14) W := by kernel_rfl
theorem idx_w1 (W : World) : (Instr.index 90 (.agg #[.int .i64 14, .int .i64 12, .int .i64 6]) (.int .i64 1)).run Try.prog W = .ok (.int .i64 12) W := by kernel_rfl
theorem idx_w2 (W : World) : (Instr.index 90 (.agg #[.int .i64 14, .int .i64 12, .int .i64 6]) (.int .i64 2)).run Try.prog W = .ok (.int .i64 6) W := by kernel_rfl

set_option maxHeartbeats 1000000 in
theorem of_any (x : Nat) (hx : x < 18446744073709551616) (w : World) :
    Calls Try.prog 41 #[.int .u64 x] w fun r w' =>
      r = .returned (.agg #[.int .u64 (oB x : Nat), .int .u64 (oT x : Nat), .int .u64 (oE x : Nat)]) ∧ Below w.heap.size w w' := by
  have i0 := idx_w0; have i1 := idx_w1; have i2 := idx_w2
  go_enter Try.func41, Try.ntmps41
  go_wp2_with (go_at_call 47; refine (widths_any _).mono ?_; rintro e w1 ⟨rfl, hb1⟩; obtain ⟨hc1, hf1⟩ := bcell hb1; have hq1 : Below w.heap.size w w1 := (by refine Below.trans ?_ (hb1.mono ?_); exact (by repeat' (first | (with_reducible exact Below.refl _ _) | (with_reducible assumption) | (with_reducible refine Below.alloc ?_ ?_ _) | (with_reducible refine Below.setCell ?_ ?_ _) | (with_reducible refine Below.drew ?_) | (with_reducible refine below_drewN ?_ _) | go_size)); go_size); have hs1 := hq1.size; have hz1w1 : w.heap.size + 1 < w1.heap.size := (by have := hb1.size; (try simp at this); omega); have hz1w0 : w.heap.size < w1.heap.size := (by have := hb1.size; (try simp at this); omega))
  refine wp_loop_rounds 4 ?_
  rw [rounds_succ]
  go_wp2_with (go_at_call 42; refine (get_B x hx _).mono ?_; rintro e w' ⟨rfl, k2, rfl⟩)
  rw [rounds_succ]
  go_wp2_with (go_at_call 42; refine (get_T x hx _).mono ?_; rintro e w' ⟨rfl, k3, rfl⟩)
  rw [rounds_succ]
  go_wp2_with (go_at_call 42; refine (get_E x hx _).mono ?_; rintro e w' ⟨rfl, k4, rfl⟩)
  rw [rounds_succ]
  go_wp2
  refine bodyPost_ret (v := .agg #[.int .u64 (oB x : Nat), .int .u64 (oT x : Nat), .int .u64 (oE x : Nat)]) (by simp (maxDischargeDepth := 7) [results, Try.results41, go_sem, hc1, hz1w0, hz1w1]) rfl ⟨rfl, (by repeat' (first | (with_reducible exact Below.refl _ _) | (with_reducible assumption) | (with_reducible refine Below.alloc ?_ ?_ _) | (with_reducible refine Below.setCell ?_ ?_ _) | (with_reducible refine Below.drew ?_) | (with_reducible refine below_drewN ?_ _) | go_size))⟩
theorem word_any (b t e : Nat) (hb : b < 18446744073709551616) (ht : t < 18446744073709551616) (he : e < 18446744073709551616) (w : World) :
    Calls Try.prog 45 #[.agg #[.int .u64 b, .int .u64 t, .int .u64 e]] w fun r w' =>
      r = .returned (.int .u64 (wd b t e : Nat)) ∧ Below w.heap.size w w' := by
  have i0 := idx_w0; have i1 := idx_w1; have i2 := idx_w2
  go_enter Try.func45, Try.ntmps45
  go_wp2_with (go_at_call 47; refine (widths_any _).mono ?_; rintro e w1 ⟨rfl, hb1⟩; obtain ⟨hc1, hf1⟩ := bcell hb1; have hq1 : Below w.heap.size w w1 := (by refine Below.trans ?_ (hb1.mono ?_); exact (by repeat' (first | (with_reducible exact Below.refl _ _) | (with_reducible assumption) | (with_reducible refine Below.alloc ?_ ?_ _) | (with_reducible refine Below.setCell ?_ ?_ _) | (with_reducible refine Below.drew ?_) | (with_reducible refine below_drewN ?_ _) | go_size)); go_size); have hs1 := hq1.size; have hz1w1 : w.heap.size + 1 < w1.heap.size := (by have := hb1.size; (try simp at this); omega); have hz1w0 : w.heap.size < w1.heap.size := (by have := hb1.size; (try simp at this); omega))
  refine wp_loop_rounds 4 ?_
  rw [rounds_succ]
  go_wp2_with (go_at_call 51; refine (put_B b hb _).mono ?_; rintro e w' ⟨rfl, k2, rfl⟩)
  rw [rounds_succ]
  go_wp2_with (go_at_call 51; refine (put_T b t ht _).mono ?_; rintro e w' ⟨rfl, k3, rfl⟩)
  rw [rounds_succ]
  go_wp2_with (go_at_call 51; refine (put_E b t e he _).mono ?_; rintro e w' ⟨rfl, k4, rfl⟩)
  rw [rounds_succ]
  go_wp2
  go_ret
  exact ⟨rfl, (by repeat' (first | (with_reducible exact Below.refl _ _) | (with_reducible assumption) | (with_reducible refine Below.alloc ?_ ?_ _) | (with_reducible refine Below.setCell ?_ ?_ _) | (with_reducible refine Below.drew ?_) | (with_reducible refine below_drewN ?_ _) | go_size))⟩
end Go.Proofs.Ytkfeabekdjbphaa
