/-
  The walk of the law BoundsTells: of any fields, beside any two addresses, it returns true, and only makes new memory.
-/
import Derived.Test.YtbojalfjbmiokaaTG
import Derived.Deep.RegionWith
set_option linter.unusedSimpArgs false
set_option linter.unusedVariables false
namespace Go.Proofs.Ytbojalfjbmiokaa
open Go.RowKit Go.Sort

theorem eq2_self (a b : Nat) : eq2 a b a b = true := by unfold eq2; simp
theorem of_lo (x : Nat) (w : World) :
    Calls Try.prog 10 #[.int .u64 (lo x : Nat)] w fun r w' => r = .returned (.agg #[.int .u64 (oB x : Nat), .int .u64 (oT x : Nat), .int .u64 (oE x : Nat)]) ∧ Below w.heap.size w w' := by
  have h := of_any (lo x) (by rw [lo_def]; omega) w
  rw [show oB (lo x) = oB x from by rw [oB_def, oB_def, lo_def]; omega, show oT (lo x) = oT x from by rw [oT_def, oT_def, lo_def]; omega,
    show oE (lo x) = oE x from by rw [oE_def, oE_def, lo_def]; omega] at h
  exact h
theorem of_wdlow (b t e LB LT LE : Nat) (h1 : LB = b % 16384) (h2 : LT = t % 4096) (h3 : LE = e % 64) (w : World) :
    Calls Try.prog 10 #[.int .u64 (wd b t e : Nat)] w fun r w' => r = .returned (.agg #[.int .u64 LB, .int .u64 LT, .int .u64 LE]) ∧ Below w.heap.size w w' := by
  have h := of_any (wd b t e) (by have := wd_lt b t e; omega) w
  rw [show oB (wd b t e) = LB from by rw [oB_def, wd_def]; omega, show oT (wd b t e) = LT from by rw [oT_def, wd_def]; omega,
    show oE (wd b t e) = LE from by rw [oE_def, wd_def]; omega] at h
  exact h
theorem decode_one (w : World) :
    Calls Try.prog 12 #[.agg #[.int .u64 5, .int .u64 9, .int .u64 0], .int .u64 6] w fun r w' => r = .returned (.tuple #[.agg #[.int .u64 5, .int .u64 9], .bool true]) ∧ Below w.heap.size w w' := by
  have h := decode_any 5 9 0 6 (by decide) (by decide) (by decide) w
  have hk : dOk 5 9 0 6 = true := by rw [dOk_eq, dBase_eq, dD_eq, dN_eq]; decide
  have hb : dB 5 9 0 6 = 5 := by rw [dB_yes hk, dBase_eq, dD_eq]
  have ht : dT 5 9 0 6 = 9 := by rw [dT_yes hk, dBase_eq, dD_eq, dN_eq]; decide
  rw [hk, hb, ht] at h
  exact h

set_option maxHeartbeats 4000000 in
theorem walk_BoundsTells (fb ft fe : Nat) (h1 : fb < 18446744073709551616) (h2 : ft < 18446744073709551616) (h3 : fe < 18446744073709551616) (a : Nat) (ha : a < 18446744073709551616) (c : Nat) (_hc : c < 18446744073709551616) (w : World) :
    Calls Try.prog 4 #[.agg #[.int .u64 fb, .int .u64 ft, .int .u64 fe], .int .u64 a, .int .u64 c] w fun e w' => e = .returned (.bool true) ∧ Below w.heap.size w w' := by
  have q1 := decode_any fb ft fe a h1 h2 h3
  have q2 := rdecode_any fb ft fe a
  have q3 := rdecode_any fb ft fe c
  have q4 := word_any fb ft fe h1 h2 h3
  have q5 := near_any fb ft fe a c h1 h2 h3
  have q6 := of_any a ha
  have q7 := of_lo a
  obtain ⟨LB, hLB⟩ : ∃ LB, LB = fb % 16384 := ⟨_, rfl⟩
  obtain ⟨LT, hLT⟩ : ∃ LT, LT = ft % 4096 := ⟨_, rfl⟩
  obtain ⟨LE, hLE⟩ : ∃ LE, LE = fe % 64 := ⟨_, rfl⟩
  have q8 := of_wdlow fb ft fe LB LT LE hLB hLT hLE
  have r1 : (fb : Int) % 16384 = (LB : Int) := by omega
  have r2 : (ft : Int) % 4096 = (LT : Int) := by omega
  have r3 : (fe : Int) % 64 = (LE : Int) := by omega
  have r4 : (a : Int) % 4294967296 = ((lo a : Nat) : Int) := by rw [lo_def]; omega
  have hw : wd fb ft fe = LB + LT * 16384 + LE * 67108864 := by rw [wd_def]; omega
  have hl1 : LT < 4096 := by omega
  have hl2 : LE < 64 := by omega
  have hl3 : LB < 16384 := by omega
  have hc2 := run_eq2 5 9 5 9
  rw [eq2_self] at hc2
  have hca := run_req2 (dB fb ft fe a) (dT fb ft fe a) (dB fb ft fe a) (dT fb ft fe a)
  rw [eq2_self] at hca
  have hcb := run_req2 (dB fb ft fe a) (dT fb ft fe a) (dB fb ft fe c) (dT fb ft fe c)
  have hc3 := run_eq3_same LB LT LE
  have hc4 := run_eq3_same (oB a) (oT a) (oE a)
  clear hLB hLT hLE h1 h2 h3 ha
  generalize dOk fb ft fe a = o1 at *
  generalize dOk fb ft fe c = o2 at *
  generalize eq2 (dB fb ft fe a) (dT fb ft fe a) (dB fb ft fe c) (dT fb ft fe c) = o3 at *
  have Q1 := Lib.hid q1; clear q1
  have Q2 := Lib.hid q2; clear q2
  have Q3 := Lib.hid q3; clear q3
  have Q4 := Lib.hid q4; clear q4
  have Q5 := Lib.hid q5; clear q5
  have Q6 := Lib.hid q6; clear q6
  have Q7 := Lib.hid q7; clear q7
  have Q8 := Lib.hid q8; clear q8
  have hwd : (((wd fb ft fe : Nat) : Int) == (LB : Int) + (LT : Int) * 16384 + (LE : Int) * 67108864) = true := by rw [hw]; simp
  clear hw
  cases o1 <;> cases o2
  all_goals
    go_enter Try.func4, Try.ntmps4
    go_wp2_with (fail)
    (go_at_call 12; refine (Q1.out _).mono ?_; rintro e w1 ⟨rfl, hb1⟩; obtain ⟨hc1, hf1⟩ := bcell hb1; have hq1 : Below w.heap.size w w1 := (by refine Below.trans ?_ (hb1.mono ?_); exact (by repeat' (first | (with_reducible exact Below.refl _ _) | (with_reducible assumption) | (with_reducible refine Below.alloc ?_ ?_ _) | (with_reducible refine Below.setCell ?_ ?_ _) | (with_reducible refine Below.drew ?_) | (with_reducible refine below_drewN ?_ _) | go_size)); go_size); have hs1 := hq1.size; have hz1w0 : w.heap.size < w1.heap.size := (by have := hb1.size; (try simp at this); omega))
    go_wp2_with (fail)
    (go_at_call 13; refine (Q2.out _).mono ?_; rintro e w2 ⟨rfl, hb2⟩; obtain ⟨hc2, hf2⟩ := bcell hb2; have hq2 : Below w.heap.size w w2 := (by refine Below.trans ?_ (hb2.mono ?_); exact (by repeat' (first | (with_reducible exact Below.refl _ _) | (with_reducible assumption) | (with_reducible refine Below.alloc ?_ ?_ _) | (with_reducible refine Below.setCell ?_ ?_ _) | (with_reducible refine Below.drew ?_) | (with_reducible refine below_drewN ?_ _) | go_size)); go_size); have hs2 := hq2.size; have hz2w10 : w1.heap.size < w2.heap.size := (by have := hb2.size; (try simp at this); omega); have hz2w0 : w.heap.size < w2.heap.size := (by have := hb2.size; (try simp at this); omega))
    go_wp2_with (fail)
    (go_at_call 13; refine (Q3.out _).mono ?_; rintro e w3 ⟨rfl, hb3⟩; obtain ⟨hc3, hf3⟩ := bcell hb3; have hq3 : Below w.heap.size w w3 := (by refine Below.trans ?_ (hb3.mono ?_); exact (by repeat' (first | (with_reducible exact Below.refl _ _) | (with_reducible assumption) | (with_reducible refine Below.alloc ?_ ?_ _) | (with_reducible refine Below.setCell ?_ ?_ _) | (with_reducible refine Below.drew ?_) | (with_reducible refine below_drewN ?_ _) | go_size)); go_size); have hs3 := hq3.size; have hz3w20 : w2.heap.size < w3.heap.size := (by have := hb3.size; (try simp at this); omega); have hz3w10 : w1.heap.size < w3.heap.size := (by have := hb3.size; (try simp at this); omega); have hz3w0 : w.heap.size < w3.heap.size := (by have := hb3.size; (try simp at this); omega))
    go_wp2_with (fail)
    (go_at_call 11; refine (Q4.out _).mono ?_; rintro e w4 ⟨rfl, hb4⟩; obtain ⟨hc4, hf4⟩ := bcell hb4; have hq4 : Below w.heap.size w w4 := (by refine Below.trans ?_ (hb4.mono ?_); exact (by repeat' (first | (with_reducible exact Below.refl _ _) | (with_reducible assumption) | (with_reducible refine Below.alloc ?_ ?_ _) | (with_reducible refine Below.setCell ?_ ?_ _) | (with_reducible refine Below.drew ?_) | (with_reducible refine below_drewN ?_ _) | go_size)); go_size); have hs4 := hq4.size; have hz4w30 : w3.heap.size < w4.heap.size := (by have := hb4.size; (try simp at this); omega); have hz4w20 : w2.heap.size < w4.heap.size := (by have := hb4.size; (try simp at this); omega); have hz4w10 : w1.heap.size < w4.heap.size := (by have := hb4.size; (try simp at this); omega); have hz4w0 : w.heap.size < w4.heap.size := (by have := hb4.size; (try simp at this); omega))
    go_wp2_with (fail)
    (go_at_call 12; refine (decode_one _).mono ?_; rintro e w5 ⟨rfl, hb5⟩; obtain ⟨hc5, hf5⟩ := bcell hb5; have hq5 : Below w.heap.size w w5 := (by refine Below.trans ?_ (hb5.mono ?_); exact (by repeat' (first | (with_reducible exact Below.refl _ _) | (with_reducible assumption) | (with_reducible refine Below.alloc ?_ ?_ _) | (with_reducible refine Below.setCell ?_ ?_ _) | (with_reducible refine Below.drew ?_) | (with_reducible refine below_drewN ?_ _) | go_size)); go_size); have hs5 := hq5.size; have hz5w40 : w4.heap.size < w5.heap.size := (by have := hb5.size; (try simp at this); omega); have hz5w30 : w3.heap.size < w5.heap.size := (by have := hb5.size; (try simp at this); omega); have hz5w20 : w2.heap.size < w5.heap.size := (by have := hb5.size; (try simp at this); omega); have hz5w10 : w1.heap.size < w5.heap.size := (by have := hb5.size; (try simp at this); omega); have hz5w0 : w.heap.size < w5.heap.size := (by have := hb5.size; (try simp at this); omega))
    go_wp2
    (refine wp_at (fun W6 hW6 => ?_); have hB6 : Below w.heap.size w W6 := (by rw [← hW6]; exact (by repeat' (first | (with_reducible exact Below.refl _ _) | (with_reducible assumption) | (with_reducible refine Below.alloc ?_ ?_ _) | (with_reducible refine Below.setCell ?_ ?_ _) | (with_reducible refine Below.drew ?_) | (with_reducible refine below_drewN ?_ _) | go_size))); have hz6w50 : w5.heap.size < W6.heap.size := (by rw [← hW6]; first | go_size | (simp; omega)); have hz6w40 : w4.heap.size < W6.heap.size := (by rw [← hW6]; first | go_size | (simp; omega)); have hz6w30 : w3.heap.size < W6.heap.size := (by rw [← hW6]; first | go_size | (simp; omega)); have hz6w20 : w2.heap.size < W6.heap.size := (by rw [← hW6]; first | go_size | (simp; omega)); have hz6w10 : w1.heap.size < W6.heap.size := (by rw [← hW6]; first | go_size | (simp; omega)); have hz6w0 : w.heap.size < W6.heap.size := (by rw [← hW6]; first | go_size | (simp; omega)); have c6_0 : W6.cell? ⟨w.heap.size, 0, none⟩ = some (.int .u64 fb) := (by rw [← hW6]; clear hW6; simp [go_sem, *]); have f6_0 : W6.frozen? ⟨w.heap.size, 0, none⟩ = false := (by rw [← hW6]; clear hW6; simp [go_sem, *]); have c6_1 : W6.cell? ⟨w.heap.size, 1, none⟩ = some (.int .u64 ft) := (by rw [← hW6]; clear hW6; simp [go_sem, *]); have f6_1 : W6.frozen? ⟨w.heap.size, 1, none⟩ = false := (by rw [← hW6]; clear hW6; simp [go_sem, *]); have c6_2 : W6.cell? ⟨w.heap.size, 2, none⟩ = some (.int .u64 fe) := (by rw [← hW6]; clear hW6; simp [go_sem, *]); have f6_2 : W6.frozen? ⟨w.heap.size, 2, none⟩ = false := (by rw [← hW6]; clear hW6; simp [go_sem, *]); have c6_3 : W6.cell? ⟨w1.heap.size, 0, none⟩ = some (.int .u64 (dB fb ft fe a : Nat)) := (by rw [← hW6]; clear hW6; simp [go_sem, *]); have f6_3 : W6.frozen? ⟨w1.heap.size, 0, none⟩ = false := (by rw [← hW6]; clear hW6; simp [go_sem, *]); have c6_4 : W6.cell? ⟨w1.heap.size, 1, none⟩ = some (.int .u64 (dT fb ft fe a : Nat)) := (by rw [← hW6]; clear hW6; simp [go_sem, *]); have f6_4 : W6.frozen? ⟨w1.heap.size, 1, none⟩ = false := (by rw [← hW6]; clear hW6; simp [go_sem, *]); have c6_5 : W6.cell? ⟨w2.heap.size, 0, none⟩ = some (.int .u64 (dB fb ft fe a : Nat)) := (by rw [← hW6]; clear hW6; simp [go_sem, *]); have f6_5 : W6.frozen? ⟨w2.heap.size, 0, none⟩ = false := (by rw [← hW6]; clear hW6; simp [go_sem, *]); have c6_6 : W6.cell? ⟨w2.heap.size, 1, none⟩ = some (.int .u64 (dT fb ft fe a : Nat)) := (by rw [← hW6]; clear hW6; simp [go_sem, *]); have f6_6 : W6.frozen? ⟨w2.heap.size, 1, none⟩ = false := (by rw [← hW6]; clear hW6; simp [go_sem, *]); have c6_7 : W6.cell? ⟨w3.heap.size, 0, none⟩ = some (.int .u64 (dB fb ft fe c : Nat)) := (by rw [← hW6]; clear hW6; simp [go_sem, *]); have f6_7 : W6.frozen? ⟨w3.heap.size, 0, none⟩ = false := (by rw [← hW6]; clear hW6; simp [go_sem, *]); have c6_8 : W6.cell? ⟨w3.heap.size, 1, none⟩ = some (.int .u64 (dT fb ft fe c : Nat)) := (by rw [← hW6]; clear hW6; simp [go_sem, *]); have f6_8 : W6.frozen? ⟨w3.heap.size, 1, none⟩ = false := (by rw [← hW6]; clear hW6; simp [go_sem, *]); have c6_9 : W6.cell? ⟨w4.heap.size, 0, none⟩ = some (.int .u64 LB) := (by rw [← hW6]; clear hW6; simp [go_sem, *]); have f6_9 : W6.frozen? ⟨w4.heap.size, 0, none⟩ = false := (by rw [← hW6]; clear hW6; simp [go_sem, *]); have c6_10 : W6.cell? ⟨w4.heap.size, 1, none⟩ = some (.int .u64 LT) := (by rw [← hW6]; clear hW6; simp [go_sem, *]); have f6_10 : W6.frozen? ⟨w4.heap.size, 1, none⟩ = false := (by rw [← hW6]; clear hW6; simp [go_sem, *]); have c6_11 : W6.cell? ⟨w4.heap.size, 2, none⟩ = some (.int .u64 LE) := (by rw [← hW6]; clear hW6; simp [go_sem, *]); have f6_11 : W6.frozen? ⟨w4.heap.size, 2, none⟩ = false := (by rw [← hW6]; clear hW6; simp [go_sem, *]); have c6_12 : W6.cell? ⟨w5.heap.size, 0, none⟩ = some (.int .u64 5) := (by rw [← hW6]; clear hW6; simp [go_sem, *]); have f6_12 : W6.frozen? ⟨w5.heap.size, 0, none⟩ = false := (by rw [← hW6]; clear hW6; simp [go_sem, *]); have c6_13 : W6.cell? ⟨w5.heap.size, 1, none⟩ = some (.int .u64 9) := (by rw [← hW6]; clear hW6; simp [go_sem, *]); have f6_13 : W6.frozen? ⟨w5.heap.size, 1, none⟩ = false := (by rw [← hW6]; clear hW6; simp [go_sem, *]); clear hW6)
    (have k6_0 := cell_regrown c6_0; have k6_1 := cell_regrown c6_1; have k6_2 := cell_regrown c6_2; have k6_3 := cell_regrown c6_3; have k6_4 := cell_regrown c6_4; have k6_5 := cell_regrown c6_5; have k6_6 := cell_regrown c6_6; have k6_7 := cell_regrown c6_7; have k6_8 := cell_regrown c6_8; have k6_9 := cell_regrown c6_9; have k6_10 := cell_regrown c6_10; have k6_11 := cell_regrown c6_11; have k6_12 := cell_regrown c6_12; have k6_13 := cell_regrown c6_13; refine wp_region_quiet_below (by kernel_rfl) (by kernel_rfl) ?_; (repeat (go_big_quiet_step (first| (go_at_call 14; exact Calls.regrown_of (Q5.out _)) | (go_at_call_of 10 (wd fb ft fe); exact Calls.regrown_of (Q8.out _)) | (go_at_call_of 10 (lo a); exact Calls.regrown_of (Q7.out _)) | (go_at_call_of 10 (Value.int .u64 (a : Int)); exact Calls.regrown_of (Q6.out _))))); refine wpQuiet_nil ?_; intro W7 hW7; obtain ⟨pq, hpq⟩ := hW7; have hb7 : Below W6.heap.size W6 W7 := (by rw [hpq]; exact below_regrown _ _ _); clear hpq; have hB7 : Below w.heap.size w W7 := (hB6.trans (hb7.mono hB6.size)); clear k6_0; clear k6_1; clear k6_2; clear k6_3; clear k6_4; clear k6_5; clear k6_6; clear k6_7; clear k6_8; clear k6_9; clear k6_10; clear k6_11; clear k6_12; clear k6_13; have c7_0 := (hb7.cell (by first | assumption | (simp; omega))).trans c6_0; have f7_0 := (hb7.frozen (by first | assumption | (simp; omega))).trans f6_0; have c7_1 := (hb7.cell (by first | assumption | (simp; omega))).trans c6_1; have f7_1 := (hb7.frozen (by first | assumption | (simp; omega))).trans f6_1; have c7_2 := (hb7.cell (by first | assumption | (simp; omega))).trans c6_2; have f7_2 := (hb7.frozen (by first | assumption | (simp; omega))).trans f6_2; have c7_3 := (hb7.cell (by first | assumption | (simp; omega))).trans c6_3; have f7_3 := (hb7.frozen (by first | assumption | (simp; omega))).trans f6_3; have c7_4 := (hb7.cell (by first | assumption | (simp; omega))).trans c6_4; have f7_4 := (hb7.frozen (by first | assumption | (simp; omega))).trans f6_4; have c7_5 := (hb7.cell (by first | assumption | (simp; omega))).trans c6_5; have f7_5 := (hb7.frozen (by first | assumption | (simp; omega))).trans f6_5; have c7_6 := (hb7.cell (by first | assumption | (simp; omega))).trans c6_6; have f7_6 := (hb7.frozen (by first | assumption | (simp; omega))).trans f6_6; have c7_7 := (hb7.cell (by first | assumption | (simp; omega))).trans c6_7; have f7_7 := (hb7.frozen (by first | assumption | (simp; omega))).trans f6_7; have c7_8 := (hb7.cell (by first | assumption | (simp; omega))).trans c6_8; have f7_8 := (hb7.frozen (by first | assumption | (simp; omega))).trans f6_8; have c7_9 := (hb7.cell (by first | assumption | (simp; omega))).trans c6_9; have f7_9 := (hb7.frozen (by first | assumption | (simp; omega))).trans f6_9; have c7_10 := (hb7.cell (by first | assumption | (simp; omega))).trans c6_10; have f7_10 := (hb7.frozen (by first | assumption | (simp; omega))).trans f6_10; have c7_11 := (hb7.cell (by first | assumption | (simp; omega))).trans c6_11; have f7_11 := (hb7.frozen (by first | assumption | (simp; omega))).trans f6_11; have c7_12 := (hb7.cell (by first | assumption | (simp; omega))).trans c6_12; have f7_12 := (hb7.frozen (by first | assumption | (simp; omega))).trans f6_12; have c7_13 := (hb7.cell (by first | assumption | (simp; omega))).trans c6_13; have f7_13 := (hb7.frozen (by first | assumption | (simp; omega))).trans f6_13)
    go_wp2
    go_ret
    exact ⟨rfl, (by repeat' (first | (with_reducible exact Below.refl _ _) | (with_reducible assumption) | (with_reducible refine Below.alloc ?_ ?_ _) | (with_reducible refine Below.setCell ?_ ?_ _) | (with_reducible refine Below.drew ?_) | (with_reducible refine below_drewN ?_ _) | go_size))⟩
end Go.Proofs.Ytbojalfjbmiokaa
