/-
  The law AlgebraMoves out of its walk: of any capability and any number it returns true, and only makes new memory.
-/
import Derived.Test.YtcpamlnlolidkaaR6b
import Derived.Test.YtcpamlnlolidkaaR6d
set_option linter.unusedSimpArgs false
set_option linter.unusedVariables false
namespace Go.Proofs.Ytcpamlnlolidkaa
open Go.RowKit Go.Sort

theorem run_eqR6 (t : Bool) (m a : Nat) (W : World) : (binOp .eql 38 (.agg #[.bool t, .int .u64 (m : Nat), .int .u64 (a : Nat)]) (.agg #[.bool t, .int .u64 (m : Nat), .int .u64 (a : Nat)])).run Try.prog W = .ok (.bool true) W := by simp [go_sem]
set_option maxHeartbeats 8000000 in
set_option maxRecDepth 100000 in
theorem moves_walk (tg : Bool) (m a n s M4 M5 : Nat) (x x1 x3 x4 x5 : Bool) (gs : IntKind.u64.wrap ((a : Int) + n) = (s : Int))
    (q1 : ∀ w, Calls Try.prog 12 #[.agg #[.bool tg, .int .u64 (m : Nat), .int .u64 (a : Nat)], .int .u64 (n : Nat)] w fun r w' => r = .returned (.agg #[.bool x1, .int .u64 (m : Nat), .int .u64 (n : Nat)]) ∧ Below w.heap.size w w')
    (q2 : ∀ w, Calls Try.prog 21 #[.agg #[.bool tg, .int .u64 (m : Nat), .int .u64 (a : Nat)], .int .u64 (n : Nat)] w fun r w' => r = .returned (.agg #[.bool x1, .int .u64 (m : Nat), .int .u64 (n : Nat)]) ∧ Below w.heap.size w w')
    (q3 : ∀ w, Calls Try.prog 22 #[.agg #[.bool tg, .int .u64 (m : Nat), .int .u64 (a : Nat)], .int .u64 (n : Nat)] w fun r w' => r = .returned (.agg #[.bool x3, .int .u64 (m : Nat), .int .u64 (s : Nat)]) ∧ Below w.heap.size w w')
    (q4 : ∀ w, Calls Try.prog 21 #[.agg #[.bool tg, .int .u64 (m : Nat), .int .u64 (a : Nat)], .int .u64 (s : Nat)] w fun r w' => r = .returned (.agg #[.bool x3, .int .u64 (m : Nat), .int .u64 (s : Nat)]) ∧ Below w.heap.size w w')
    (q5 : ∀ w, Calls Try.prog 13 #[.agg #[.bool tg, .int .u64 (m : Nat), .int .u64 (a : Nat)], .int .u64 (n : Nat), .bool x] w fun r w' => r = .returned (.agg #[.bool x4, .int .u64 (M4 : Nat), .int .u64 (a : Nat)]) ∧ Below w.heap.size w w')
    (q6 : ∀ w, Calls Try.prog 23 #[.agg #[.bool tg, .int .u64 (m : Nat), .int .u64 (a : Nat)], .int .u64 (n : Nat), .bool x] w fun r w' => r = .returned (.agg #[.bool x4, .int .u64 (M4 : Nat), .int .u64 (a : Nat)]) ∧ Below w.heap.size w w')
    (q7 : ∀ w, Calls Try.prog 14 #[.agg #[.bool tg, .int .u64 (m : Nat), .int .u64 (a : Nat)], .int .u64 (n : Nat)] w fun r w' => r = .returned (.agg #[.bool x5, .int .u64 (M5 : Nat), .int .u64 (a : Nat)]) ∧ Below w.heap.size w w')
    (q8 : ∀ w, Calls Try.prog 24 #[.agg #[.bool tg, .int .u64 (m : Nat), .int .u64 (a : Nat)], .int .u64 (n : Nat)] w fun r w' => r = .returned (.agg #[.bool x5, .int .u64 (M5 : Nat), .int .u64 (a : Nat)]) ∧ Below w.heap.size w w') (w : World) :
    Calls Try.prog 4 #[.agg #[.bool tg, .int .u64 (m : Nat), .int .u64 (a : Nat)], .int .u64 (n : Nat), .bool x] w fun e w' => e = .returned (.bool true) ∧ Below w.heap.size w w' := by
  have e1 := run_eqR6 false m a
  have e2 := run_eqR6 x1 m n
  have e3 := run_eqR6 x3 m s
  have e4 := run_eqR6 x4 M4 a
  have e5 := run_eqR6 x5 M5 a
  have Q1 := Lib.hid q1; clear q1
  have Q2 := Lib.hid q2; clear q2
  have Q3 := Lib.hid q3; clear q3
  have Q4 := Lib.hid q4; clear q4
  have Q5 := Lib.hid q5; clear q5
  have Q6 := Lib.hid q6; clear q6
  have Q7 := Lib.hid q7; clear q7
  have Q8 := Lib.hid q8; clear q8
  go_enter Try.func4, Try.ntmps4
  go_wp2
  ((first | refine wp_at (fun W1 hW1 => ?_) | refine calls_at (fun W1 hW1 => ?_)); have hB1 : Below w.heap.size w W1 := (by rw [← hW1]; exact (by repeat' (first | (with_reducible exact Below.refl _ _) | (with_reducible assumption) | (with_reducible refine Below.alloc ?_ ?_ _) | (with_reducible refine Below.setCell ?_ ?_ _) | (with_reducible refine Below.drew ?_) | (with_reducible refine below_drewN ?_ _) | go_size))); have hz1w1 : w.heap.size + 1 < W1.heap.size := (by rw [← hW1]; first | go_size | (simp; omega)); have hz1w0 : w.heap.size < W1.heap.size := (by rw [← hW1]; first | go_size | (simp; omega)); obtain ⟨c1_0, c1_1, c1_2, c1_3, c1_4, c1_5⟩ : W1.cell? ⟨w.heap.size, 0, none⟩ = some (.bool tg) ∧ W1.cell? ⟨w.heap.size, 1, none⟩ = some (.int .u64 m) ∧ W1.cell? ⟨w.heap.size, 2, none⟩ = some (.int .u64 a) ∧ W1.cell? ⟨w.heap.size + 1, 0, none⟩ = some (.bool tg) ∧ W1.cell? ⟨w.heap.size + 1, 1, none⟩ = some (.int .u64 m) ∧ W1.cell? ⟨w.heap.size + 1, 2, none⟩ = some (.int .u64 a) := (by refine ⟨?_, ?_, ?_, ?_, ?_, ?_⟩ <;> (rw [← hW1]; clear hW1; (repeat' (first | (with_reducible assumption) | (with_reducible apply rd_set_eq) | ((with_reducible refine rd_set_ne ?_ ?_); focus (first | (refine Or.inr ?_; simp; done) | (refine Or.inl ?_; first | (simp; done) | (simp; omega)))) | ((with_reducible refine rd_alloc ?_ ?_); focus go_size) | (with_reducible refine rd_drewN ?_) | (with_reducible refine rd_drew ?_) | (simp [go_sem]; done))))); obtain ⟨f1_0, f1_1, f1_2, f1_3, f1_4, f1_5⟩ : W1.frozen? ⟨w.heap.size, 0, none⟩ = false ∧ W1.frozen? ⟨w.heap.size, 1, none⟩ = false ∧ W1.frozen? ⟨w.heap.size, 2, none⟩ = false ∧ W1.frozen? ⟨w.heap.size + 1, 0, none⟩ = false ∧ W1.frozen? ⟨w.heap.size + 1, 1, none⟩ = false ∧ W1.frozen? ⟨w.heap.size + 1, 2, none⟩ = false := (by refine ⟨?_, ?_, ?_, ?_, ?_, ?_⟩ <;> (rw [← hW1]; clear hW1; (repeat' (first | (with_reducible assumption) | (with_reducible refine fz_set ?_) | ((with_reducible refine fz_alloc ?_ ?_); focus go_size) | (with_reducible refine fz_drewN ?_) | (with_reducible refine fz_drew ?_) | (simp [go_sem]; done))))); clear hW1)
  (have k1_0 := cell_regrown c1_0; have k1_1 := cell_regrown c1_1; have k1_2 := cell_regrown c1_2; have k1_3 := cell_regrown c1_3; have k1_4 := cell_regrown c1_4; have k1_5 := cell_regrown c1_5; refine wp_region_quiet_below (by kernel_rfl) (by kernel_rfl) ?_; (repeat (go_big_quiet_step (first| (go_at_call 19; exact Calls.regrown_of (aclear_any _ _ _ _)) | (go_at_call 20; exact Calls.regrown_of (rclear_any _ _ _ _)) | (go_at_call 12; exact Calls.regrown_of (Q1.out _)) | (go_at_call_of 21 (Value.int .u64 (n : Nat)); exact Calls.regrown_of (Q2.out _)) | (go_at_call 22; exact Calls.regrown_of (Q3.out _)) | (go_at_call_of 21 (Value.int .u64 (s : Nat)); exact Calls.regrown_of (Q4.out _)) | (go_at_call 13; exact Calls.regrown_of (Q5.out _)) | (go_at_call 23; exact Calls.regrown_of (Q6.out _)) | (go_at_call 14; exact Calls.regrown_of (Q7.out _)) | (go_at_call 24; exact Calls.regrown_of (Q8.out _)) | (go_at_call 11; exact Calls.regrown_of (one_any6 _))))); refine wpQuiet_nil ?_; intro W2 hW2; obtain ⟨pq, hpq⟩ := hW2; have hb2 : Below W1.heap.size W1 W2 := (by rw [hpq]; exact below_regrown _ _ _); clear hpq; have hB2 : Below w.heap.size w W2 := (hB1.trans (hb2.mono hB1.size)); clear k1_0; clear k1_1; clear k1_2; clear k1_3; clear k1_4; clear k1_5; have hz2w1 : w.heap.size + 1 < W2.heap.size := (by have := hb2.size; omega); have hz2w0 : w.heap.size < W2.heap.size := (by have := hb2.size; omega); have c2_0 := (hb2.cell (by first | assumption | (simp; omega))).trans c1_0; have f2_0 := (hb2.frozen (by first | assumption | (simp; omega))).trans f1_0; have c2_1 := (hb2.cell (by first | assumption | (simp; omega))).trans c1_1; have f2_1 := (hb2.frozen (by first | assumption | (simp; omega))).trans f1_1; have c2_2 := (hb2.cell (by first | assumption | (simp; omega))).trans c1_2; have f2_2 := (hb2.frozen (by first | assumption | (simp; omega))).trans f1_2; have c2_3 := (hb2.cell (by first | assumption | (simp; omega))).trans c1_3; have f2_3 := (hb2.frozen (by first | assumption | (simp; omega))).trans f1_3; have c2_4 := (hb2.cell (by first | assumption | (simp; omega))).trans c1_4; have f2_4 := (hb2.frozen (by first | assumption | (simp; omega))).trans f1_4; have c2_5 := (hb2.cell (by first | assumption | (simp; omega))).trans c1_5; have f2_5 := (hb2.frozen (by first | assumption | (simp; omega))).trans f1_5)
  go_wp2
  go_ret
  exact ⟨rfl, (by repeat' (first | (with_reducible exact Below.refl _ _) | (with_reducible assumption) | (with_reducible refine Below.alloc ?_ ?_ _) | (with_reducible refine Below.setCell ?_ ?_ _) | (with_reducible refine Below.drew ?_) | (with_reducible refine below_drewN ?_ _) | go_size))⟩
theorem walk_AlgebraMoves (tg : Bool) (m a : Nat) (hm : m < 18446744073709551616) (ha : a < 18446744073709551616) (n : Nat) (hn : n < 18446744073709551616) (x : Bool) (w : World) :
    Calls Try.prog 4 #[.agg #[.bool tg, .int .u64 (m : Nat), .int .u64 (a : Nat)], .int .u64 (n : Nat), .bool x] w fun e w' => e = .returned (.bool true) ∧ Below w.heap.size w w' :=
  moves_walk tg m a n (ad a n) _ _ x _ _ _ _ (by rw [ad_def, IntKind.wrap_u64]; omega) (address_any tg m a n hm) (raddress_any tg m a n hm) (move_any tg m a n hm) (raddress_any tg m a _ hm) (bound_any tg m a n x hm) (rbound_any tg m a n x hm ha hn) (and_any tg m a n hm hn) (rand_any tg m a n hm hn) w
end Go.Proofs.Ytcpamlnlolidkaa
