/-
  Contract of bounds.Decode, by its ways out.
-/
import Derived.Test.YtbojalfjbmiokaaT8
import Derived.Deep.RegionHeld3
import Derived.Lib.QuietBelow
set_option linter.unusedSimpArgs false
namespace Go.Proofs.Ytbojalfjbmiokaa
open Go.RowKit Go.Sort

theorem run_ne3_same (a b c : Nat) (W : World) : (binOp .neq 24 (.agg #[.int .u64 a, .int .u64 b, .int .u64 c]) (.agg #[.int .u64 a, .int .u64 b, .int .u64 c])).run Try.prog W = .ok (.bool false) W := by
  simp [go_sem]
theorem run_ne3_other (a b c d e f : Nat) (h : ¬ (a = d ∧ b = e ∧ c = f)) (W : World) : (binOp .neq 24 (.agg #[.int .u64 a, .int .u64 b, .int .u64 c]) (.agg #[.int .u64 d, .int .u64 e, .int .u64 f])).run Try.prog W = .ok (.bool true) W := by
  by_cases h1 : a = d
  · by_cases h2 : b = e
    · have h3 : ¬ ((c : Int) = f) := by intro h'; exact h ⟨h1, h2, by omega⟩
      simp [go_sem, h1, h2, h3]
    · have h2' : ¬ ((b : Int) = e) := by omega
      simp [go_sem, h1, h2']
  · have h1' : ¬ ((a : Int) = d) := by omega
    simp [go_sem, h1']
theorem of_wd {b t e : Nat} (hb : b < 16384) (ht : t < 4096) (he : e < 64) : oB (wd b t e) = b ∧ oT (wd b t e) = t ∧ oE (wd b t e) = e := by
  rw [oB_def, oT_def, oE_def, wd_def]; omega
theorem of_wd_low (b t e : Nat) : oB (wd b t e) < 16384 ∧ oT (wd b t e) < 4096 ∧ oE (wd b t e) < 64 := by
  rw [oB_def, oT_def, oE_def]; omega
theorem wd_lt (b t e : Nat) : wd b t e < 4294967296 := by rw [wd_def]; omega


theorem wp_at {P : Program} {c : Code} {Q : Exit → Act → World → Prop} {a : Act} {w : World} (h : ∀ W, w = W → c.wp P Q a W) : c.wp P Q a w := h w rfl

theorem decode_not (fb ft fe a : Nat) (h1 : fb < 18446744073709551616) (h2 : ft < 18446744073709551616) (h3 : fe < 18446744073709551616) (h : ¬ (fb < 16384 ∧ ft < 4096 ∧ fe < 64)) (w : World) :
    Calls Try.prog 12 #[.agg #[.int .u64 fb, .int .u64 ft, .int .u64 fe], .int .u64 a] w fun r w' =>
      r = .returned (.tuple #[.agg #[.int .u64 0, .int .u64 0], .bool false]) ∧ Below w.heap.size w w' := by
  have hl := wd_lt fb ft fe
  have hlow := of_wd_low fb ft fe
  have hne := fun W => run_ne3_other fb ft fe (oB (wd fb ft fe)) (oT (wd fb ft fe)) (oE (wd fb ft fe)) (by omega) W
  clear hlow h
  go_enter Try.func12, Try.ntmps12
  go_wp2
  (refine wp_at (fun W1 hW1 => ?_); have hB1 : Below w.heap.size w W1 := (by rw [← hW1]; exact (by repeat' (first | (with_reducible exact Below.refl _ _) | (with_reducible assumption) | (with_reducible refine Below.alloc ?_ ?_ _) | (with_reducible refine Below.setCell ?_ ?_ _) | (with_reducible refine Below.drew ?_) | (with_reducible refine below_drewN ?_ _) | go_size))); have hz1w1 : w.heap.size + 1 < W1.heap.size := (by rw [← hW1]; first | go_size | (simp; omega)); have hz1w0 : w.heap.size < W1.heap.size := (by rw [← hW1]; first | go_size | (simp; omega)); have c1_0 : W1.cell? ⟨w.heap.size, 0, none⟩ = some (.int .u64 fb) := (by rw [← hW1]; simp [go_sem]); have f1_0 : W1.frozen? ⟨w.heap.size, 0, none⟩ = false := (by rw [← hW1]; simp [go_sem]); have c1_1 : W1.cell? ⟨w.heap.size, 1, none⟩ = some (.int .u64 ft) := (by rw [← hW1]; simp [go_sem]); have f1_1 : W1.frozen? ⟨w.heap.size, 1, none⟩ = false := (by rw [← hW1]; simp [go_sem]); have c1_2 : W1.cell? ⟨w.heap.size, 2, none⟩ = some (.int .u64 fe) := (by rw [← hW1]; simp [go_sem]); have f1_2 : W1.frozen? ⟨w.heap.size, 2, none⟩ = false := (by rw [← hW1]; simp [go_sem]); have c1_3 : W1.cell? ⟨w.heap.size + 1, 0, none⟩ = some (.int .u64 0) := (by rw [← hW1]; simp [go_sem]); have f1_3 : W1.frozen? ⟨w.heap.size + 1, 0, none⟩ = false := (by rw [← hW1]; simp [go_sem]); have c1_4 : W1.cell? ⟨w.heap.size + 1, 1, none⟩ = some (.int .u64 0) := (by rw [← hW1]; simp [go_sem]); have f1_4 : W1.frozen? ⟨w.heap.size + 1, 1, none⟩ = false := (by rw [← hW1]; simp [go_sem]); clear hW1)
  (have k1_0 := cell_regrown c1_0; have k1_1 := cell_regrown c1_1; have k1_2 := cell_regrown c1_2; have k1_3 := cell_regrown c1_3; have k1_4 := cell_regrown c1_4; refine wp_region_quiet_below (by kernel_rfl) (by kernel_rfl) ?_; (repeat (go_big_quiet_step (first| (go_at_call 11; exact Calls.regrown_of (word_any fb ft fe h1 h2 h3 _)) | (go_at_call 10; exact Calls.regrown_of (of_any _ (by omega) _))))); refine wpQuiet_nil ?_; intro W2 hW2; obtain ⟨pq, hpq⟩ := hW2; have hb2 : Below W1.heap.size W1 W2 := (by rw [hpq]; exact below_regrown _ _ _); clear hpq; have hB2 : Below w.heap.size w W2 := (hB1.trans (hb2.mono hB1.size)); clear k1_0; clear k1_1; clear k1_2; clear k1_3; clear k1_4; have hz2w1 : w.heap.size + 1 < W2.heap.size := (by have := hb2.size; omega); have hz2w0 : w.heap.size < W2.heap.size := (by have := hb2.size; omega); have c2_0 := (hb2.cell (by first | assumption | (simp; omega))).trans c1_0; have f2_0 := (hb2.frozen (by first | assumption | (simp; omega))).trans f1_0; have c2_1 := (hb2.cell (by first | assumption | (simp; omega))).trans c1_1; have f2_1 := (hb2.frozen (by first | assumption | (simp; omega))).trans f1_1; have c2_2 := (hb2.cell (by first | assumption | (simp; omega))).trans c1_2; have f2_2 := (hb2.frozen (by first | assumption | (simp; omega))).trans f1_2; have c2_3 := (hb2.cell (by first | assumption | (simp; omega))).trans c1_3; have f2_3 := (hb2.frozen (by first | assumption | (simp; omega))).trans f1_3; have c2_4 := (hb2.cell (by first | assumption | (simp; omega))).trans c1_4; have f2_4 := (hb2.frozen (by first | assumption | (simp; omega))).trans f1_4)
  go_wp2
  refine bodyPost_ret (v := .tuple #[.agg #[.int .u64 0, .int .u64 0], .bool false]) (by simp [results, Try.results12, go_sem, c2_3, c2_4]) rfl ⟨rfl, (by repeat' (first | (with_reducible exact Below.refl _ _) | (with_reducible assumption) | (with_reducible refine Below.alloc ?_ ?_ _) | (with_reducible refine Below.setCell ?_ ?_ _) | (with_reducible refine Below.drew ?_) | (with_reducible refine below_drewN ?_ _) | go_size))⟩

/-- Of(Word(f)) of fields that are low is f. -/
theorem of_low (b t e : Nat) (hb : b < 16384) (ht : t < 4096) (he : e < 64) (w : World) :
    Calls Try.prog 10 #[.int .u64 (wd b t e : Nat)] w fun r w' => r = .returned (.agg #[.int .u64 b, .int .u64 t, .int .u64 e]) ∧ Below w.heap.size w w' := by
  obtain ⟨e1, e2, e3⟩ := of_wd hb ht he
  have h := of_any (wd b t e) (by have := wd_lt b t e; omega) w
  rw [e1, e2, e3] at h
  exact h

theorem decode_hi (fb ft fe a : Nat) (h1 : fb < 16384) (h2 : ft < 4096) (h3 : fe < 64) (h : 37 < fe) (w : World) :
    Calls Try.prog 12 #[.agg #[.int .u64 fb, .int .u64 ft, .int .u64 fe], .int .u64 a] w fun r w' =>
      r = .returned (.tuple #[.agg #[.int .u64 0, .int .u64 0], .bool false]) ∧ Below w.heap.size w w' := by
  have hne := fun W => run_ne3_same fb ft fe W
  have hg : decide ((37 : Int) < (fe : Int)) = true := by simp; omega
  clear h
  go_enter Try.func12, Try.ntmps12
  go_wp2
  (refine wp_at (fun W1 hW1 => ?_); have hB1 : Below w.heap.size w W1 := (by rw [← hW1]; exact (by repeat' (first | (with_reducible exact Below.refl _ _) | (with_reducible assumption) | (with_reducible refine Below.alloc ?_ ?_ _) | (with_reducible refine Below.setCell ?_ ?_ _) | (with_reducible refine Below.drew ?_) | (with_reducible refine below_drewN ?_ _) | go_size))); have hz1w1 : w.heap.size + 1 < W1.heap.size := (by rw [← hW1]; first | go_size | (simp; omega)); have hz1w0 : w.heap.size < W1.heap.size := (by rw [← hW1]; first | go_size | (simp; omega)); have c1_0 : W1.cell? ⟨w.heap.size, 0, none⟩ = some (.int .u64 fb) := (by rw [← hW1]; simp [go_sem]); have f1_0 : W1.frozen? ⟨w.heap.size, 0, none⟩ = false := (by rw [← hW1]; simp [go_sem]); have c1_1 : W1.cell? ⟨w.heap.size, 1, none⟩ = some (.int .u64 ft) := (by rw [← hW1]; simp [go_sem]); have f1_1 : W1.frozen? ⟨w.heap.size, 1, none⟩ = false := (by rw [← hW1]; simp [go_sem]); have c1_2 : W1.cell? ⟨w.heap.size, 2, none⟩ = some (.int .u64 fe) := (by rw [← hW1]; simp [go_sem]); have f1_2 : W1.frozen? ⟨w.heap.size, 2, none⟩ = false := (by rw [← hW1]; simp [go_sem]); have c1_3 : W1.cell? ⟨w.heap.size + 1, 0, none⟩ = some (.int .u64 0) := (by rw [← hW1]; simp [go_sem]); have f1_3 : W1.frozen? ⟨w.heap.size + 1, 0, none⟩ = false := (by rw [← hW1]; simp [go_sem]); have c1_4 : W1.cell? ⟨w.heap.size + 1, 1, none⟩ = some (.int .u64 0) := (by rw [← hW1]; simp [go_sem]); have f1_4 : W1.frozen? ⟨w.heap.size + 1, 1, none⟩ = false := (by rw [← hW1]; simp [go_sem]); clear hW1)
  (have k1_0 := cell_regrown c1_0; have k1_1 := cell_regrown c1_1; have k1_2 := cell_regrown c1_2; have k1_3 := cell_regrown c1_3; have k1_4 := cell_regrown c1_4; refine wp_region_quiet_below (by kernel_rfl) (by kernel_rfl) ?_; (repeat (go_big_quiet_step (first| (go_at_call 11; exact Calls.regrown_of (word_any fb ft fe (by omega) (by omega) (by omega) _)) | (go_at_call 10; exact Calls.regrown_of (of_low fb ft fe h1 h2 h3 _))))); refine wpQuiet_nil ?_; intro W2 hW2; obtain ⟨pq, hpq⟩ := hW2; have hb2 : Below W1.heap.size W1 W2 := (by rw [hpq]; exact below_regrown _ _ _); clear hpq; have hB2 : Below w.heap.size w W2 := (hB1.trans (hb2.mono hB1.size)); clear k1_0; clear k1_1; clear k1_2; clear k1_3; clear k1_4; have hz2w1 : w.heap.size + 1 < W2.heap.size := (by have := hb2.size; omega); have hz2w0 : w.heap.size < W2.heap.size := (by have := hb2.size; omega); have c2_0 := (hb2.cell (by first | assumption | (simp; omega))).trans c1_0; have f2_0 := (hb2.frozen (by first | assumption | (simp; omega))).trans f1_0; have c2_1 := (hb2.cell (by first | assumption | (simp; omega))).trans c1_1; have f2_1 := (hb2.frozen (by first | assumption | (simp; omega))).trans f1_1; have c2_2 := (hb2.cell (by first | assumption | (simp; omega))).trans c1_2; have f2_2 := (hb2.frozen (by first | assumption | (simp; omega))).trans f1_2; have c2_3 := (hb2.cell (by first | assumption | (simp; omega))).trans c1_3; have f2_3 := (hb2.frozen (by first | assumption | (simp; omega))).trans f1_3; have c2_4 := (hb2.cell (by first | assumption | (simp; omega))).trans c1_4; have f2_4 := (hb2.frozen (by first | assumption | (simp; omega))).trans f1_4)
  go_wp2
  refine bodyPost_ret (v := .tuple #[.agg #[.int .u64 0, .int .u64 0], .bool false]) (by simp [results, Try.results12, go_sem, c2_3, c2_4]) rfl ⟨rfl, (by repeat' (first | (with_reducible exact Below.refl _ _) | (with_reducible assumption) | (with_reducible refine Below.alloc ?_ ?_ _) | (with_reducible refine Below.setCell ?_ ?_ _) | (with_reducible refine Below.drew ?_) | (with_reducible refine below_drewN ?_ _) | go_size))⟩

theorem decode_far (fb ft fe a : Nat) (h1 : fb < 16384) (h2 : ft < 4096) (h3 : fe ≤ 37) (h : 281474976710656 ≤ a) (w : World) :
    Calls Try.prog 12 #[.agg #[.int .u64 fb, .int .u64 ft, .int .u64 fe], .int .u64 a] w fun r w' =>
      r = .returned (.tuple #[.agg #[.int .u64 0, .int .u64 0], .bool false]) ∧ Below w.heap.size w w' := by
  have hne := fun W => run_ne3_same fb ft fe W
  have hg : decide ((37 : Int) < (fe : Int)) = false := by simp; omega
  have hg2 : decide ((281474976710656 : Int) ≤ (a : Int)) = true := by simp; omega
  clear h
  go_enter Try.func12, Try.ntmps12
  go_wp2
  (refine wp_at (fun W1 hW1 => ?_); have hB1 : Below w.heap.size w W1 := (by rw [← hW1]; exact (by repeat' (first | (with_reducible exact Below.refl _ _) | (with_reducible assumption) | (with_reducible refine Below.alloc ?_ ?_ _) | (with_reducible refine Below.setCell ?_ ?_ _) | (with_reducible refine Below.drew ?_) | (with_reducible refine below_drewN ?_ _) | go_size))); have hz1w1 : w.heap.size + 1 < W1.heap.size := (by rw [← hW1]; first | go_size | (simp; omega)); have hz1w0 : w.heap.size < W1.heap.size := (by rw [← hW1]; first | go_size | (simp; omega)); have c1_0 : W1.cell? ⟨w.heap.size, 0, none⟩ = some (.int .u64 fb) := (by rw [← hW1]; simp [go_sem]); have f1_0 : W1.frozen? ⟨w.heap.size, 0, none⟩ = false := (by rw [← hW1]; simp [go_sem]); have c1_1 : W1.cell? ⟨w.heap.size, 1, none⟩ = some (.int .u64 ft) := (by rw [← hW1]; simp [go_sem]); have f1_1 : W1.frozen? ⟨w.heap.size, 1, none⟩ = false := (by rw [← hW1]; simp [go_sem]); have c1_2 : W1.cell? ⟨w.heap.size, 2, none⟩ = some (.int .u64 fe) := (by rw [← hW1]; simp [go_sem]); have f1_2 : W1.frozen? ⟨w.heap.size, 2, none⟩ = false := (by rw [← hW1]; simp [go_sem]); have c1_3 : W1.cell? ⟨w.heap.size + 1, 0, none⟩ = some (.int .u64 0) := (by rw [← hW1]; simp [go_sem]); have f1_3 : W1.frozen? ⟨w.heap.size + 1, 0, none⟩ = false := (by rw [← hW1]; simp [go_sem]); have c1_4 : W1.cell? ⟨w.heap.size + 1, 1, none⟩ = some (.int .u64 0) := (by rw [← hW1]; simp [go_sem]); have f1_4 : W1.frozen? ⟨w.heap.size + 1, 1, none⟩ = false := (by rw [← hW1]; simp [go_sem]); clear hW1)
  (have k1_0 := cell_regrown c1_0; have k1_1 := cell_regrown c1_1; have k1_2 := cell_regrown c1_2; have k1_3 := cell_regrown c1_3; have k1_4 := cell_regrown c1_4; refine wp_region_quiet_below (by kernel_rfl) (by kernel_rfl) ?_; (repeat (go_big_quiet_step (first| (go_at_call 11; exact Calls.regrown_of (word_any fb ft fe (by omega) (by omega) (by omega) _)) | (go_at_call 10; exact Calls.regrown_of (of_low fb ft fe h1 h2 (by omega) _))))); refine wpQuiet_nil ?_; intro W2 hW2; obtain ⟨pq, hpq⟩ := hW2; have hb2 : Below W1.heap.size W1 W2 := (by rw [hpq]; exact below_regrown _ _ _); clear hpq; have hB2 : Below w.heap.size w W2 := (hB1.trans (hb2.mono hB1.size)); clear k1_0; clear k1_1; clear k1_2; clear k1_3; clear k1_4; have hz2w1 : w.heap.size + 1 < W2.heap.size := (by have := hb2.size; omega); have hz2w0 : w.heap.size < W2.heap.size := (by have := hb2.size; omega); have c2_0 := (hb2.cell (by first | assumption | (simp; omega))).trans c1_0; have f2_0 := (hb2.frozen (by first | assumption | (simp; omega))).trans f1_0; have c2_1 := (hb2.cell (by first | assumption | (simp; omega))).trans c1_1; have f2_1 := (hb2.frozen (by first | assumption | (simp; omega))).trans f1_1; have c2_2 := (hb2.cell (by first | assumption | (simp; omega))).trans c1_2; have f2_2 := (hb2.frozen (by first | assumption | (simp; omega))).trans f1_2; have c2_3 := (hb2.cell (by first | assumption | (simp; omega))).trans c1_3; have f2_3 := (hb2.frozen (by first | assumption | (simp; omega))).trans f1_3; have c2_4 := (hb2.cell (by first | assumption | (simp; omega))).trans c1_4; have f2_4 := (hb2.frozen (by first | assumption | (simp; omega))).trans f1_4)
  go_wp2
  refine bodyPost_ret (v := .tuple #[.agg #[.int .u64 0, .int .u64 0], .bool false]) (by simp [results, Try.results12, go_sem, c2_3, c2_4]) rfl ⟨rfl, (by repeat' (first | (with_reducible exact Below.refl _ _) | (with_reducible assumption) | (with_reducible refine Below.alloc ?_ ?_ _) | (with_reducible refine Below.setCell ?_ ?_ _) | (with_reducible refine Below.drew ?_) | (with_reducible refine below_drewN ?_ _) | go_size))⟩

/-! ### the numbers of a Decode that comes to an end -/
theorem n0_bits (fb ft : Nat) (h1 : fb < 16384) (h2 : ft < 4096) : bits .and .u64 (IntKind.u64.wrap ((ft : Int) - (fb : Int))) 4095 = (((ft + 16384 - fb) % 4096 : Nat) : Int) := by
  have e : IntKind.u64.wrap ((ft : Int) - (fb : Int)) = (((ft + 18446744073709551616 - fb) % 18446744073709551616 : Nat) : Int) := by rw [IntKind.wrap_u64]; omega
  rw [e, show (4095 : Int) = ((2 ^ 12 - 1 : Nat) : Int) from by decide, u64_and_nat _ _ (by omega) (by decide), and_mask]
  congr 1; omega
theorem n1_bits (n : Nat) (h : n < 4096) : bits .or .u64 (n : Int) 4096 = ((n + 4096 : Nat) : Int) := by
  rw [show (4096 : Int) = ((4096 : Nat) : Int) from rfl, u64_or_nat _ _ (by omega) (by decide), or_join n 12 4096 (by omega) (by decide)]
theorem d_bits (A fb : Nat) (h1 : fb < 16384) (h2 : A < 281474976710656) : bits .and .u64 (IntKind.u64.wrap (IntKind.u64.wrap ((A : Int) - (fb : Int)) + 4096)) 16383 = (((A + 20480 - fb) % 16384 : Nat) : Int) := by
  have e : IntKind.u64.wrap (IntKind.u64.wrap ((A : Int) - (fb : Int)) + 4096) = (((A + 18446744073709551616 + 4096 - fb) % 18446744073709551616 : Nat) : Int) := by rw [IntKind.wrap_u64, IntKind.wrap_u64]; omega
  rw [e, show (16383 : Int) = ((2 ^ 14 - 1 : Nat) : Int) from by decide, u64_and_nat _ _ (by omega) (by decide), and_mask]
  congr 1; omega
theorem top_div (x : Nat) : (281474976710656 : Int) / 2 ^ x = ((281474976710656 / 2 ^ x : Nat) : Int) := by simp


/-- What a Decode reckons with, as the walk spells it. -/
structure DecAt (fb ft fe a A N0 N D : Nat) : Prop where
  h1 : fb < 16384
  h2 : ft < 4096
  h3 : fe ≤ 37
  h : a < 281474976710656
  hA : (a : Int) / 2 ^ (fe - 1) = (A : Int)
  hN0 : bits .and .u64 (IntKind.u64.wrap ((ft : Int) - (fb : Int))) 4095 = (N0 : Int)
  hN : 0 < fe → bits .or .u64 (N0 : Int) 4096 = (N : Int)
  hD : bits .and .u64 (IntKind.u64.wrap (IntKind.u64.wrap ((A : Int) - (fb : Int)) + 4096)) 16383 = (D : Int)
  hA2 : A < 281474976710656
  hD2 : D < 16384
  hNN : ¬ 0 < fe → N = N0
  hN2 : N < 8192

theorem decode_d (fb ft fe a A N0 N D : Nat) (H : DecAt fb ft fe a A N0 N D) (hd : A + 4096 < D) (w : World) :
    Calls Try.prog 12 #[.agg #[.int .u64 fb, .int .u64 ft, .int .u64 fe], .int .u64 a] w fun r w' =>
      r = .returned (.tuple #[.agg #[.int .u64 0, .int .u64 0], .bool false]) ∧ Below w.heap.size w w' := by
  obtain ⟨h1, h2, h3, h, hA, hN0, hN, hD, hA2, hD2, hNN, hN2⟩ := H
  have hne := fun W => run_ne3_same fb ft fe W
  have hg : decide ((37 : Int) < (fe : Int)) = false := by simp; omega
  have hg2 : decide ((281474976710656 : Int) ≤ (a : Int)) = false := by simp; omega
  have hg3 : decide ((A : Int) + 4096 < (D : Int)) = true := by simp; omega
  clear h hd hN hNN
  by_cases hf : 0 < fe
  all_goals
    go_enter Try.func12, Try.ntmps12
    go_wp2
    (refine wp_at (fun W1 hW1 => ?_); have hB1 : Below w.heap.size w W1 := (by rw [← hW1]; exact (by repeat' (first | (with_reducible exact Below.refl _ _) | (with_reducible assumption) | (with_reducible refine Below.alloc ?_ ?_ _) | (with_reducible refine Below.setCell ?_ ?_ _) | (with_reducible refine Below.drew ?_) | (with_reducible refine below_drewN ?_ _) | go_size))); have hz1w1 : w.heap.size + 1 < W1.heap.size := (by rw [← hW1]; first | go_size | (simp; omega)); have hz1w0 : w.heap.size < W1.heap.size := (by rw [← hW1]; first | go_size | (simp; omega)); have c1_0 : W1.cell? ⟨w.heap.size, 0, none⟩ = some (.int .u64 fb) := (by rw [← hW1]; simp [go_sem]); have f1_0 : W1.frozen? ⟨w.heap.size, 0, none⟩ = false := (by rw [← hW1]; simp [go_sem]); have c1_1 : W1.cell? ⟨w.heap.size, 1, none⟩ = some (.int .u64 ft) := (by rw [← hW1]; simp [go_sem]); have f1_1 : W1.frozen? ⟨w.heap.size, 1, none⟩ = false := (by rw [← hW1]; simp [go_sem]); have c1_2 : W1.cell? ⟨w.heap.size, 2, none⟩ = some (.int .u64 fe) := (by rw [← hW1]; simp [go_sem]); have f1_2 : W1.frozen? ⟨w.heap.size, 2, none⟩ = false := (by rw [← hW1]; simp [go_sem]); have c1_3 : W1.cell? ⟨w.heap.size + 1, 0, none⟩ = some (.int .u64 0) := (by rw [← hW1]; simp [go_sem]); have f1_3 : W1.frozen? ⟨w.heap.size + 1, 0, none⟩ = false := (by rw [← hW1]; simp [go_sem]); have c1_4 : W1.cell? ⟨w.heap.size + 1, 1, none⟩ = some (.int .u64 0) := (by rw [← hW1]; simp [go_sem]); have f1_4 : W1.frozen? ⟨w.heap.size + 1, 1, none⟩ = false := (by rw [← hW1]; simp [go_sem]); clear hW1)
    (have k1_0 := cell_regrown c1_0; have k1_1 := cell_regrown c1_1; have k1_2 := cell_regrown c1_2; have k1_3 := cell_regrown c1_3; have k1_4 := cell_regrown c1_4; refine wp_region_quiet_below (by kernel_rfl) (by kernel_rfl) ?_; (repeat (go_big_quiet_step (first| (go_at_call 11; exact Calls.regrown_of (word_any fb ft fe (by omega) (by omega) (by omega) _)) | (go_at_call 10; exact Calls.regrown_of (of_low fb ft fe h1 h2 (by omega) _))))); refine wpQuiet_nil ?_; intro W2 hW2; obtain ⟨pq, hpq⟩ := hW2; have hb2 : Below W1.heap.size W1 W2 := (by rw [hpq]; exact below_regrown _ _ _); clear hpq; have hB2 : Below w.heap.size w W2 := (hB1.trans (hb2.mono hB1.size)); clear k1_0; clear k1_1; clear k1_2; clear k1_3; clear k1_4; have hz2w1 : w.heap.size + 1 < W2.heap.size := (by have := hb2.size; omega); have hz2w0 : w.heap.size < W2.heap.size := (by have := hb2.size; omega); have c2_0 := (hb2.cell (by first | assumption | (simp; omega))).trans c1_0; have f2_0 := (hb2.frozen (by first | assumption | (simp; omega))).trans f1_0; have c2_1 := (hb2.cell (by first | assumption | (simp; omega))).trans c1_1; have f2_1 := (hb2.frozen (by first | assumption | (simp; omega))).trans f1_1; have c2_2 := (hb2.cell (by first | assumption | (simp; omega))).trans c1_2; have f2_2 := (hb2.frozen (by first | assumption | (simp; omega))).trans f1_2; have c2_3 := (hb2.cell (by first | assumption | (simp; omega))).trans c1_3; have f2_3 := (hb2.frozen (by first | assumption | (simp; omega))).trans f1_3; have c2_4 := (hb2.cell (by first | assumption | (simp; omega))).trans c1_4; have f2_4 := (hb2.frozen (by first | assumption | (simp; omega))).trans f1_4)
    go_wp2_with (go_at_call 25; refine (shift_any _ (by omega) _).mono ?_; rintro e w' ⟨rfl, rfl⟩)
    refine bodyPost_ret (v := .tuple #[.agg #[.int .u64 0, .int .u64 0], .bool false]) (by simp [results, Try.results12, go_sem, c2_3, c2_4]) rfl ⟨rfl, (by repeat' (first | (with_reducible exact Below.refl _ _) | (with_reducible assumption) | (with_reducible refine Below.alloc ?_ ?_ _) | (with_reducible refine Below.setCell ?_ ?_ _) | (with_reducible refine Below.drew ?_) | (with_reducible refine below_drewN ?_ _) | go_size))⟩

/-- .. and where its base is at B, M is its end, T the end of all. -/
structure DecEnd (fe A N D B M T : Nat) : Prop where
  hB : IntKind.u64.wrap ((A : Int) + 4096 - (D : Int)) = (B : Int)
  hM : IntKind.u64.wrap ((B : Int) + (N : Int)) = (M : Int)
  hT : (281474976710656 : Int) / 2 ^ (fe - 1) = (T : Int)

theorem decode_m (fb ft fe a A N0 N D B M T : Nat) (H : DecAt fb ft fe a A N0 N D) (E : DecEnd fe A N D B M T) (hd : D ≤ A + 4096) (hm : T < M) (w : World) :
    Calls Try.prog 12 #[.agg #[.int .u64 fb, .int .u64 ft, .int .u64 fe], .int .u64 a] w fun r w' =>
      r = .returned (.tuple #[.agg #[.int .u64 0, .int .u64 0], .bool false]) ∧ Below w.heap.size w w' := by
  obtain ⟨h1, h2, h3, h, hA, hN0, hN, hD, hA2, hD2, hNN, hN2⟩ := H
  obtain ⟨hB, hM, hT⟩ := E
  have hne := fun W => run_ne3_same fb ft fe W
  have hg : decide ((37 : Int) < (fe : Int)) = false := by simp; omega
  have hg2 : decide ((281474976710656 : Int) ≤ (a : Int)) = false := by simp; omega
  have hg3 : decide ((A : Int) + 4096 < (D : Int)) = false := by simp; omega
  have hg4 : decide (T < M) = true := by simp; omega
  clear h hd hm
  by_cases hf : 0 < fe
  · have hN1 := hN hf
    clear hN hNN
    go_enter Try.func12, Try.ntmps12
    go_wp2
    (refine wp_at (fun W1 hW1 => ?_); have hB1 : Below w.heap.size w W1 := (by rw [← hW1]; exact (by repeat' (first | (with_reducible exact Below.refl _ _) | (with_reducible assumption) | (with_reducible refine Below.alloc ?_ ?_ _) | (with_reducible refine Below.setCell ?_ ?_ _) | (with_reducible refine Below.drew ?_) | (with_reducible refine below_drewN ?_ _) | go_size))); have hz1w1 : w.heap.size + 1 < W1.heap.size := (by rw [← hW1]; first | go_size | (simp; omega)); have hz1w0 : w.heap.size < W1.heap.size := (by rw [← hW1]; first | go_size | (simp; omega)); have c1_0 : W1.cell? ⟨w.heap.size, 0, none⟩ = some (.int .u64 fb) := (by rw [← hW1]; simp [go_sem]); have f1_0 : W1.frozen? ⟨w.heap.size, 0, none⟩ = false := (by rw [← hW1]; simp [go_sem]); have c1_1 : W1.cell? ⟨w.heap.size, 1, none⟩ = some (.int .u64 ft) := (by rw [← hW1]; simp [go_sem]); have f1_1 : W1.frozen? ⟨w.heap.size, 1, none⟩ = false := (by rw [← hW1]; simp [go_sem]); have c1_2 : W1.cell? ⟨w.heap.size, 2, none⟩ = some (.int .u64 fe) := (by rw [← hW1]; simp [go_sem]); have f1_2 : W1.frozen? ⟨w.heap.size, 2, none⟩ = false := (by rw [← hW1]; simp [go_sem]); have c1_3 : W1.cell? ⟨w.heap.size + 1, 0, none⟩ = some (.int .u64 0) := (by rw [← hW1]; simp [go_sem]); have f1_3 : W1.frozen? ⟨w.heap.size + 1, 0, none⟩ = false := (by rw [← hW1]; simp [go_sem]); have c1_4 : W1.cell? ⟨w.heap.size + 1, 1, none⟩ = some (.int .u64 0) := (by rw [← hW1]; simp [go_sem]); have f1_4 : W1.frozen? ⟨w.heap.size + 1, 1, none⟩ = false := (by rw [← hW1]; simp [go_sem]); clear hW1)
    (have k1_0 := cell_regrown c1_0; have k1_1 := cell_regrown c1_1; have k1_2 := cell_regrown c1_2; have k1_3 := cell_regrown c1_3; have k1_4 := cell_regrown c1_4; refine wp_region_quiet_below (by kernel_rfl) (by kernel_rfl) ?_; (repeat (go_big_quiet_step (first| (go_at_call 11; exact Calls.regrown_of (word_any fb ft fe (by omega) (by omega) (by omega) _)) | (go_at_call 10; exact Calls.regrown_of (of_low fb ft fe h1 h2 (by omega) _))))); refine wpQuiet_nil ?_; intro W2 hW2; obtain ⟨pq, hpq⟩ := hW2; have hb2 : Below W1.heap.size W1 W2 := (by rw [hpq]; exact below_regrown _ _ _); clear hpq; have hB2 : Below w.heap.size w W2 := (hB1.trans (hb2.mono hB1.size)); clear k1_0; clear k1_1; clear k1_2; clear k1_3; clear k1_4; have hz2w1 : w.heap.size + 1 < W2.heap.size := (by have := hb2.size; omega); have hz2w0 : w.heap.size < W2.heap.size := (by have := hb2.size; omega); have c2_0 := (hb2.cell (by first | assumption | (simp; omega))).trans c1_0; have f2_0 := (hb2.frozen (by first | assumption | (simp; omega))).trans f1_0; have c2_1 := (hb2.cell (by first | assumption | (simp; omega))).trans c1_1; have f2_1 := (hb2.frozen (by first | assumption | (simp; omega))).trans f1_1; have c2_2 := (hb2.cell (by first | assumption | (simp; omega))).trans c1_2; have f2_2 := (hb2.frozen (by first | assumption | (simp; omega))).trans f1_2; have c2_3 := (hb2.cell (by first | assumption | (simp; omega))).trans c1_3; have f2_3 := (hb2.frozen (by first | assumption | (simp; omega))).trans f1_3; have c2_4 := (hb2.cell (by first | assumption | (simp; omega))).trans c1_4; have f2_4 := (hb2.frozen (by first | assumption | (simp; omega))).trans f1_4)
    go_wp2_with (go_at_call 25; refine (shift_any _ (by omega) _).mono ?_; rintro e w' ⟨rfl, rfl⟩)
    refine bodyPost_ret (v := .tuple #[.agg #[.int .u64 0, .int .u64 0], .bool false]) (by simp [results, Try.results12, go_sem, c2_3, c2_4]) rfl ⟨rfl, (by repeat' (first | (with_reducible exact Below.refl _ _) | (with_reducible assumption) | (with_reducible refine Below.alloc ?_ ?_ _) | (with_reducible refine Below.setCell ?_ ?_ _) | (with_reducible refine Below.drew ?_) | (with_reducible refine below_drewN ?_ _) | go_size))⟩
  · obtain rfl := hNN hf
    clear hN hNN
    go_enter Try.func12, Try.ntmps12
    go_wp2
    (refine wp_at (fun W1 hW1 => ?_); have hB1 : Below w.heap.size w W1 := (by rw [← hW1]; exact (by repeat' (first | (with_reducible exact Below.refl _ _) | (with_reducible assumption) | (with_reducible refine Below.alloc ?_ ?_ _) | (with_reducible refine Below.setCell ?_ ?_ _) | (with_reducible refine Below.drew ?_) | (with_reducible refine below_drewN ?_ _) | go_size))); have hz1w1 : w.heap.size + 1 < W1.heap.size := (by rw [← hW1]; first | go_size | (simp; omega)); have hz1w0 : w.heap.size < W1.heap.size := (by rw [← hW1]; first | go_size | (simp; omega)); have c1_0 : W1.cell? ⟨w.heap.size, 0, none⟩ = some (.int .u64 fb) := (by rw [← hW1]; simp [go_sem]); have f1_0 : W1.frozen? ⟨w.heap.size, 0, none⟩ = false := (by rw [← hW1]; simp [go_sem]); have c1_1 : W1.cell? ⟨w.heap.size, 1, none⟩ = some (.int .u64 ft) := (by rw [← hW1]; simp [go_sem]); have f1_1 : W1.frozen? ⟨w.heap.size, 1, none⟩ = false := (by rw [← hW1]; simp [go_sem]); have c1_2 : W1.cell? ⟨w.heap.size, 2, none⟩ = some (.int .u64 fe) := (by rw [← hW1]; simp [go_sem]); have f1_2 : W1.frozen? ⟨w.heap.size, 2, none⟩ = false := (by rw [← hW1]; simp [go_sem]); have c1_3 : W1.cell? ⟨w.heap.size + 1, 0, none⟩ = some (.int .u64 0) := (by rw [← hW1]; simp [go_sem]); have f1_3 : W1.frozen? ⟨w.heap.size + 1, 0, none⟩ = false := (by rw [← hW1]; simp [go_sem]); have c1_4 : W1.cell? ⟨w.heap.size + 1, 1, none⟩ = some (.int .u64 0) := (by rw [← hW1]; simp [go_sem]); have f1_4 : W1.frozen? ⟨w.heap.size + 1, 1, none⟩ = false := (by rw [← hW1]; simp [go_sem]); clear hW1)
    (have k1_0 := cell_regrown c1_0; have k1_1 := cell_regrown c1_1; have k1_2 := cell_regrown c1_2; have k1_3 := cell_regrown c1_3; have k1_4 := cell_regrown c1_4; refine wp_region_quiet_below (by kernel_rfl) (by kernel_rfl) ?_; (repeat (go_big_quiet_step (first| (go_at_call 11; exact Calls.regrown_of (word_any fb ft fe (by omega) (by omega) (by omega) _)) | (go_at_call 10; exact Calls.regrown_of (of_low fb ft fe h1 h2 (by omega) _))))); refine wpQuiet_nil ?_; intro W2 hW2; obtain ⟨pq, hpq⟩ := hW2; have hb2 : Below W1.heap.size W1 W2 := (by rw [hpq]; exact below_regrown _ _ _); clear hpq; have hB2 : Below w.heap.size w W2 := (hB1.trans (hb2.mono hB1.size)); clear k1_0; clear k1_1; clear k1_2; clear k1_3; clear k1_4; have hz2w1 : w.heap.size + 1 < W2.heap.size := (by have := hb2.size; omega); have hz2w0 : w.heap.size < W2.heap.size := (by have := hb2.size; omega); have c2_0 := (hb2.cell (by first | assumption | (simp; omega))).trans c1_0; have f2_0 := (hb2.frozen (by first | assumption | (simp; omega))).trans f1_0; have c2_1 := (hb2.cell (by first | assumption | (simp; omega))).trans c1_1; have f2_1 := (hb2.frozen (by first | assumption | (simp; omega))).trans f1_1; have c2_2 := (hb2.cell (by first | assumption | (simp; omega))).trans c1_2; have f2_2 := (hb2.frozen (by first | assumption | (simp; omega))).trans f1_2; have c2_3 := (hb2.cell (by first | assumption | (simp; omega))).trans c1_3; have f2_3 := (hb2.frozen (by first | assumption | (simp; omega))).trans f1_3; have c2_4 := (hb2.cell (by first | assumption | (simp; omega))).trans c1_4; have f2_4 := (hb2.frozen (by first | assumption | (simp; omega))).trans f1_4)
    go_wp2_with (go_at_call 25; refine (shift_any _ (by omega) _).mono ?_; rintro e w' ⟨rfl, rfl⟩)
    refine bodyPost_ret (v := .tuple #[.agg #[.int .u64 0, .int .u64 0], .bool false]) (by simp [results, Try.results12, go_sem, c2_3, c2_4]) rfl ⟨rfl, (by repeat' (first | (with_reducible exact Below.refl _ _) | (with_reducible assumption) | (with_reducible refine Below.alloc ?_ ?_ _) | (with_reducible refine Below.setCell ?_ ?_ _) | (with_reducible refine Below.drew ?_) | (with_reducible refine below_drewN ?_ _) | go_size))⟩

theorem decode_ok (fb ft fe a A N0 N D B M T b t : Nat) (H : DecAt fb ft fe a A N0 N D) (E : DecEnd fe A N D B M T) (hd : D ≤ A + 4096) (hm : M ≤ T)
    (hb : IntKind.u64.wrap ((B : Int) * 2 ^ (fe - 1)) = (b : Int)) (ht : IntKind.u64.wrap ((M : Int) * 2 ^ (fe - 1)) = (t : Int)) (w : World) :
    Calls Try.prog 12 #[.agg #[.int .u64 fb, .int .u64 ft, .int .u64 fe], .int .u64 a] w fun r w' =>
      r = .returned (.tuple #[.agg #[.int .u64 b, .int .u64 t], .bool true]) ∧ Below w.heap.size w w' := by
  obtain ⟨h1, h2, h3, h, hA, hN0, hN, hD, hA2, hD2, hNN, hN2⟩ := H
  obtain ⟨hB, hM, hT⟩ := E
  have hne := fun W => run_ne3_same fb ft fe W
  have hg : decide ((37 : Int) < (fe : Int)) = false := by simp; omega
  have hg2 : decide ((281474976710656 : Int) ≤ (a : Int)) = false := by simp; omega
  have hg3 : decide ((A : Int) + 4096 < (D : Int)) = false := by simp; omega
  have hg4 : decide (T < M) = false := by simp; omega
  clear h hd hm
  by_cases hf : 0 < fe
  · have hN1 := hN hf
    clear hN hNN
    go_enter Try.func12, Try.ntmps12
    go_wp2
    (refine wp_at (fun W1 hW1 => ?_); have hB1 : Below w.heap.size w W1 := (by rw [← hW1]; exact (by repeat' (first | (with_reducible exact Below.refl _ _) | (with_reducible assumption) | (with_reducible refine Below.alloc ?_ ?_ _) | (with_reducible refine Below.setCell ?_ ?_ _) | (with_reducible refine Below.drew ?_) | (with_reducible refine below_drewN ?_ _) | go_size))); have hz1w1 : w.heap.size + 1 < W1.heap.size := (by rw [← hW1]; first | go_size | (simp; omega)); have hz1w0 : w.heap.size < W1.heap.size := (by rw [← hW1]; first | go_size | (simp; omega)); have c1_0 : W1.cell? ⟨w.heap.size, 0, none⟩ = some (.int .u64 fb) := (by rw [← hW1]; simp [go_sem]); have f1_0 : W1.frozen? ⟨w.heap.size, 0, none⟩ = false := (by rw [← hW1]; simp [go_sem]); have c1_1 : W1.cell? ⟨w.heap.size, 1, none⟩ = some (.int .u64 ft) := (by rw [← hW1]; simp [go_sem]); have f1_1 : W1.frozen? ⟨w.heap.size, 1, none⟩ = false := (by rw [← hW1]; simp [go_sem]); have c1_2 : W1.cell? ⟨w.heap.size, 2, none⟩ = some (.int .u64 fe) := (by rw [← hW1]; simp [go_sem]); have f1_2 : W1.frozen? ⟨w.heap.size, 2, none⟩ = false := (by rw [← hW1]; simp [go_sem]); have c1_3 : W1.cell? ⟨w.heap.size + 1, 0, none⟩ = some (.int .u64 0) := (by rw [← hW1]; simp [go_sem]); have f1_3 : W1.frozen? ⟨w.heap.size + 1, 0, none⟩ = false := (by rw [← hW1]; simp [go_sem]); have c1_4 : W1.cell? ⟨w.heap.size + 1, 1, none⟩ = some (.int .u64 0) := (by rw [← hW1]; simp [go_sem]); have f1_4 : W1.frozen? ⟨w.heap.size + 1, 1, none⟩ = false := (by rw [← hW1]; simp [go_sem]); clear hW1)
    (have k1_0 := cell_regrown c1_0; have k1_1 := cell_regrown c1_1; have k1_2 := cell_regrown c1_2; have k1_3 := cell_regrown c1_3; have k1_4 := cell_regrown c1_4; refine wp_region_quiet_below (by kernel_rfl) (by kernel_rfl) ?_; (repeat (go_big_quiet_step (first| (go_at_call 11; exact Calls.regrown_of (word_any fb ft fe (by omega) (by omega) (by omega) _)) | (go_at_call 10; exact Calls.regrown_of (of_low fb ft fe h1 h2 (by omega) _))))); refine wpQuiet_nil ?_; intro W2 hW2; obtain ⟨pq, hpq⟩ := hW2; have hb2 : Below W1.heap.size W1 W2 := (by rw [hpq]; exact below_regrown _ _ _); clear hpq; have hB2 : Below w.heap.size w W2 := (hB1.trans (hb2.mono hB1.size)); clear k1_0; clear k1_1; clear k1_2; clear k1_3; clear k1_4; have hz2w1 : w.heap.size + 1 < W2.heap.size := (by have := hb2.size; omega); have hz2w0 : w.heap.size < W2.heap.size := (by have := hb2.size; omega); have c2_0 := (hb2.cell (by first | assumption | (simp; omega))).trans c1_0; have f2_0 := (hb2.frozen (by first | assumption | (simp; omega))).trans f1_0; have c2_1 := (hb2.cell (by first | assumption | (simp; omega))).trans c1_1; have f2_1 := (hb2.frozen (by first | assumption | (simp; omega))).trans f1_1; have c2_2 := (hb2.cell (by first | assumption | (simp; omega))).trans c1_2; have f2_2 := (hb2.frozen (by first | assumption | (simp; omega))).trans f1_2; have c2_3 := (hb2.cell (by first | assumption | (simp; omega))).trans c1_3; have f2_3 := (hb2.frozen (by first | assumption | (simp; omega))).trans f1_3; have c2_4 := (hb2.cell (by first | assumption | (simp; omega))).trans c1_4; have f2_4 := (hb2.frozen (by first | assumption | (simp; omega))).trans f1_4)
    go_wp2_with (go_at_call 25; refine (shift_any _ (by omega) _).mono ?_; rintro e w' ⟨rfl, rfl⟩)
    go_region
    go_wp2
    refine bodyPost_ret (v := .tuple #[.agg #[.int .u64 b, .int .u64 t], .bool true]) (by simp [results, Try.results12, go_sem, c2_3, c2_4]) rfl ⟨rfl, (by repeat' (first | (with_reducible exact Below.refl _ _) | (with_reducible assumption) | (with_reducible refine Below.alloc ?_ ?_ _) | (with_reducible refine Below.setCell ?_ ?_ _) | (with_reducible refine Below.drew ?_) | (with_reducible refine below_drewN ?_ _) | go_size))⟩
  · obtain rfl := hNN hf
    clear hN hNN
    go_enter Try.func12, Try.ntmps12
    go_wp2
    (refine wp_at (fun W1 hW1 => ?_); have hB1 : Below w.heap.size w W1 := (by rw [← hW1]; exact (by repeat' (first | (with_reducible exact Below.refl _ _) | (with_reducible assumption) | (with_reducible refine Below.alloc ?_ ?_ _) | (with_reducible refine Below.setCell ?_ ?_ _) | (with_reducible refine Below.drew ?_) | (with_reducible refine below_drewN ?_ _) | go_size))); have hz1w1 : w.heap.size + 1 < W1.heap.size := (by rw [← hW1]; first | go_size | (simp; omega)); have hz1w0 : w.heap.size < W1.heap.size := (by rw [← hW1]; first | go_size | (simp; omega)); have c1_0 : W1.cell? ⟨w.heap.size, 0, none⟩ = some (.int .u64 fb) := (by rw [← hW1]; simp [go_sem]); have f1_0 : W1.frozen? ⟨w.heap.size, 0, none⟩ = false := (by rw [← hW1]; simp [go_sem]); have c1_1 : W1.cell? ⟨w.heap.size, 1, none⟩ = some (.int .u64 ft) := (by rw [← hW1]; simp [go_sem]); have f1_1 : W1.frozen? ⟨w.heap.size, 1, none⟩ = false := (by rw [← hW1]; simp [go_sem]); have c1_2 : W1.cell? ⟨w.heap.size, 2, none⟩ = some (.int .u64 fe) := (by rw [← hW1]; simp [go_sem]); have f1_2 : W1.frozen? ⟨w.heap.size, 2, none⟩ = false := (by rw [← hW1]; simp [go_sem]); have c1_3 : W1.cell? ⟨w.heap.size + 1, 0, none⟩ = some (.int .u64 0) := (by rw [← hW1]; simp [go_sem]); have f1_3 : W1.frozen? ⟨w.heap.size + 1, 0, none⟩ = false := (by rw [← hW1]; simp [go_sem]); have c1_4 : W1.cell? ⟨w.heap.size + 1, 1, none⟩ = some (.int .u64 0) := (by rw [← hW1]; simp [go_sem]); have f1_4 : W1.frozen? ⟨w.heap.size + 1, 1, none⟩ = false := (by rw [← hW1]; simp [go_sem]); clear hW1)
    (have k1_0 := cell_regrown c1_0; have k1_1 := cell_regrown c1_1; have k1_2 := cell_regrown c1_2; have k1_3 := cell_regrown c1_3; have k1_4 := cell_regrown c1_4; refine wp_region_quiet_below (by kernel_rfl) (by kernel_rfl) ?_; (repeat (go_big_quiet_step (first| (go_at_call 11; exact Calls.regrown_of (word_any fb ft fe (by omega) (by omega) (by omega) _)) | (go_at_call 10; exact Calls.regrown_of (of_low fb ft fe h1 h2 (by omega) _))))); refine wpQuiet_nil ?_; intro W2 hW2; obtain ⟨pq, hpq⟩ := hW2; have hb2 : Below W1.heap.size W1 W2 := (by rw [hpq]; exact below_regrown _ _ _); clear hpq; have hB2 : Below w.heap.size w W2 := (hB1.trans (hb2.mono hB1.size)); clear k1_0; clear k1_1; clear k1_2; clear k1_3; clear k1_4; have hz2w1 : w.heap.size + 1 < W2.heap.size := (by have := hb2.size; omega); have hz2w0 : w.heap.size < W2.heap.size := (by have := hb2.size; omega); have c2_0 := (hb2.cell (by first | assumption | (simp; omega))).trans c1_0; have f2_0 := (hb2.frozen (by first | assumption | (simp; omega))).trans f1_0; have c2_1 := (hb2.cell (by first | assumption | (simp; omega))).trans c1_1; have f2_1 := (hb2.frozen (by first | assumption | (simp; omega))).trans f1_1; have c2_2 := (hb2.cell (by first | assumption | (simp; omega))).trans c1_2; have f2_2 := (hb2.frozen (by first | assumption | (simp; omega))).trans f1_2; have c2_3 := (hb2.cell (by first | assumption | (simp; omega))).trans c1_3; have f2_3 := (hb2.frozen (by first | assumption | (simp; omega))).trans f1_3; have c2_4 := (hb2.cell (by first | assumption | (simp; omega))).trans c1_4; have f2_4 := (hb2.frozen (by first | assumption | (simp; omega))).trans f1_4)
    go_wp2_with (go_at_call 25; refine (shift_any _ (by omega) _).mono ?_; rintro e w' ⟨rfl, rfl⟩)
    go_region
    go_wp2
    refine bodyPost_ret (v := .tuple #[.agg #[.int .u64 b, .int .u64 t], .bool true]) (by simp [results, Try.results12, go_sem, c2_3, c2_4]) rfl ⟨rfl, (by repeat' (first | (with_reducible exact Below.refl _ _) | (with_reducible assumption) | (with_reducible refine Below.alloc ?_ ?_ _) | (with_reducible refine Below.setCell ?_ ?_ _) | (with_reducible refine Below.drew ?_) | (with_reducible refine below_drewN ?_ _) | go_size))⟩
end Go.Proofs.Ytbojalfjbmiokaa
