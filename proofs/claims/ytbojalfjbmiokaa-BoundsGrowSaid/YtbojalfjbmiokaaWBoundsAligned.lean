/-
  The walk of the law BoundsAligned: of any two numbers it returns true, and only makes new memory.
-/
import Derived.Test.YtbojalfjbmiokaaTG
set_option linter.unusedSimpArgs false
set_option linter.unusedVariables false
namespace Go.Proofs.Ytbojalfjbmiokaa
open Go.RowKit Go.Sort

theorem kb_zero (n : Nat) : kb 0 n = 0 := by have := kb_le 0 n; omega
theorem ex_len (n : Nat) : ex 0 (kt 0 n) = ex 0 n := by
  have h := ex_kept (b := 0) (t := n) (Nat.zero_le _)
  rw [kb_zero] at h; exact h
theorem kt_len (n : Nat) : kt 0 n / 2 ^ (ex 0 n - 1) * 2 ^ (ex 0 n - 1) = kt 0 n := by
  rw [kt_def, Nat.mul_div_cancel _ (pow_pos2 _)]
theorem qd_nil (x : Nat) : qd 0 x = 0 := by have := qd_le 0 x; have := pow_pos2 x; rcases Nat.eq_zero_or_pos (qd 0 x) with h | h; exact h; have := Nat.mul_pos h (pow_pos2 x); omega
theorem kept_aligned (n u : Nat) : ex (u * 2 ^ (ex 0 n - 1)) (u * 2 ^ (ex 0 n - 1) + kt 0 n) = ex 0 n := by
  by_cases h : n < 4096
  · have e : ex 0 n = 0 := ex_zero (by omega)
    have e2 : kt 0 n = n := by rw [kt_def, e]; simp [qu_zero]
    rw [e, e2]; exact ex_zero (by omega)
  · obtain ⟨h0, h1, h2⟩ := ex_pos_steps (b := 0) (t := n) (Nat.zero_le _) (by omega)
    rw [stp_def, qd_nil] at h1 h2
    rw [kt_def, ← Nat.add_mul]
    rw [ex_mul (by omega) (by omega)]; omega
theorem eq2_aligned (n u : Nat) : eq2 (kb (u * 2 ^ (ex 0 n - 1)) (u * 2 ^ (ex 0 n - 1) + kt 0 n)) (kt (u * 2 ^ (ex 0 n - 1)) (u * 2 ^ (ex 0 n - 1) + kt 0 n)) (u * 2 ^ (ex 0 n - 1)) (u * 2 ^ (ex 0 n - 1) + kt 0 n) = true := by
  have e1 : kb (u * 2 ^ (ex 0 n - 1)) (u * 2 ^ (ex 0 n - 1) + kt 0 n) = u * 2 ^ (ex 0 n - 1) := by
    rw [kb_def, kept_aligned, qd_mul]
  have e2 : kt (u * 2 ^ (ex 0 n - 1)) (u * 2 ^ (ex 0 n - 1) + kt 0 n) = u * 2 ^ (ex 0 n - 1) + kt 0 n := by
    conv => lhs; rw [kt_def]
    rw [kept_aligned]
    conv => lhs; rw [kt_def, ← Nat.add_mul, qu_mul]
    rw [Nat.add_mul, ← kt_def]
  rw [e1, e2]; unfold eq2; simp

theorem length_5000 (w : World) : Calls Try.prog 18 #[.int .u64 5000] w fun r w' => r = .returned (.tuple #[.int .u64 5000, .bool true]) ∧ Below w.heap.size w w' := by
  have h := length_yes 5000 (by decide) w
  rw [kt_small (by decide) (by decide)] at h
  exact h
theorem encode_aligned (n u : Nat) (hle : u * 2 ^ (ex 0 n - 1) + kt 0 n ≤ 281474976710656) (w : World) :
    Calls Try.prog 17 #[.agg #[.int .u64 (u * 2 ^ (ex 0 n - 1) : Nat), .int .u64 (u * 2 ^ (ex 0 n - 1) + kt 0 n : Nat)]] w fun r w' =>
      ∃ p q s : Nat, r = .returned (.tuple #[.agg #[.int .u64 p, .int .u64 q, .int .u64 s], .bool true]) ∧ Below w.heap.size w w' := by
  have h := encode_yes (u * 2 ^ (ex 0 n - 1)) (u * 2 ^ (ex 0 n - 1) + kt 0 n) (by omega) hle w
  rw [eq2_aligned] at h
  exact h.mono fun r w' ⟨e, hb⟩ => ⟨_, _, _, e, hb⟩

theorem aligned_walk (a n N M X D0 D R V S B T : Nat) (r1 : (n : Int) % 281474976710657 = (N : Int)) (r1' : (n : Int).tmod 281474976710657 = (N : Int))
    (q1 : ∀ w, Calls Try.prog 18 #[.int .u64 N] w fun r w' => r = .returned (.tuple #[.int .u64 M, .bool true]) ∧ Below w.heap.size w w')
    (q2 : ∀ w, Calls Try.prog 21 #[.int .u64 N] w fun r w' => r = .returned (.tuple #[.int .i64 X, .bool true]) ∧ Below w.heap.size w w')
    (q3 : ∀ w, Calls Try.prog 21 #[.int .u64 M] w fun r w' => r = .returned (.tuple #[.int .i64 X, .bool true]) ∧ Below w.heap.size w w')
    (q4 : ∀ w, Calls Try.prog 17 #[.agg #[.int .u64 B, .int .u64 T]] w fun r w' => ∃ p q s : Nat, r = .returned (.tuple #[.agg #[.int .u64 p, .int .u64 q, .int .u64 s], .bool true]) ∧ Below w.heap.size w w')
    (g1 : decide (M < N) = false) (g2 : decide ((281474976710656 : Int) < (M : Int)) = false) (hX : X ≤ 36)
    (e1 : (M : Int) / 2 ^ X = (V : Int)) (e2 : IntKind.u64.wrap ((V : Int) * 2 ^ X) = (M : Int))
    (e3 : IntKind.u64.wrap ((281474976710656 : Int) - (M : Int)) = (D0 : Int)) (e4 : IntKind.u64.wrap ((D0 : Int) + 1) = (D : Int)) (hD : 0 < D)
    (e5 : (a : Int).tmod (D : Int) = (R : Int)) (e6 : (R : Int) / 2 ^ X = (S : Int)) (e7 : IntKind.u64.wrap ((S : Int) * 2 ^ X) = (B : Int)) (e8 : IntKind.u64.wrap ((B : Int) + (M : Int)) = (T : Int))
    (w : World) :
    Calls Try.prog 7 #[.int .u64 a, .int .u64 n] w fun e w' => e = .returned (.bool true) ∧ Below w.heap.size w w' := by
  have Q1 := Lib.hid q1; clear q1
  have Q2 := Lib.hid q2; clear q2
  have Q3 := Lib.hid q3; clear q3
  have Q4 := Lib.hid q4; clear q4
  go_enter Try.func7, Try.ntmps7
  go_wp2_with (fail)
  (go_at_call 18; refine (Q1.out _).mono ?_; rintro e w1 ⟨rfl, hb1⟩; obtain ⟨hc1, hf1⟩ := bcell hb1; have hq1 : Below w.heap.size w w1 := (by refine Below.trans ?_ (hb1.mono ?_); exact (by repeat' (first | (with_reducible exact Below.refl _ _) | (with_reducible assumption) | (with_reducible refine Below.alloc ?_ ?_ _) | (with_reducible refine Below.setCell ?_ ?_ _) | (with_reducible refine Below.drew ?_) | (with_reducible refine below_drewN ?_ _) | go_size)); go_size); have hs1 := hq1.size)
  go_wp2_with (fail)
  (go_at_call 21; refine (Q2.out _).mono ?_; rintro e w2 ⟨rfl, hb2⟩; obtain ⟨hc2, hf2⟩ := bcell hb2; have hq2 : Below w.heap.size w w2 := (by refine Below.trans ?_ (hb2.mono ?_); exact (by repeat' (first | (with_reducible exact Below.refl _ _) | (with_reducible assumption) | (with_reducible refine Below.alloc ?_ ?_ _) | (with_reducible refine Below.setCell ?_ ?_ _) | (with_reducible refine Below.drew ?_) | (with_reducible refine below_drewN ?_ _) | go_size)); go_size); have hs2 := hq2.size)
  go_wp2_with (fail)
  (go_at_call 21; refine (Q3.out _).mono ?_; rintro e w3 ⟨rfl, hb3⟩; obtain ⟨hc3, hf3⟩ := bcell hb3; have hq3 : Below w.heap.size w w3 := (by refine Below.trans ?_ (hb3.mono ?_); exact (by repeat' (first | (with_reducible exact Below.refl _ _) | (with_reducible assumption) | (with_reducible refine Below.alloc ?_ ?_ _) | (with_reducible refine Below.setCell ?_ ?_ _) | (with_reducible refine Below.drew ?_) | (with_reducible refine below_drewN ?_ _) | go_size)); go_size); have hs3 := hq3.size)
  go_wp2_with (fail)
  go_at_call 17; refine (Q4.out _).mono ?_; rintro e w4 ⟨p, q, s, rfl, hb4⟩; obtain ⟨hc4, hf4⟩ := bcell hb4; have hq4 : Below w.heap.size w w4 := (by refine Below.trans ?_ (hb4.mono ?_); exact (by repeat' (first | (with_reducible exact Below.refl _ _) | (with_reducible assumption) | (with_reducible refine Below.alloc ?_ ?_ _) | (with_reducible refine Below.setCell ?_ ?_ _) | (with_reducible refine Below.drew ?_) | (with_reducible refine below_drewN ?_ _) | go_size)); go_size); have hs4 := hq4.size
  go_wp2_with (fail)
  (go_at_call 18; refine (length_5000 _).mono ?_; rintro e w5 ⟨rfl, hb5⟩; obtain ⟨hc5, hf5⟩ := bcell hb5; have hq5 : Below w.heap.size w w5 := (by refine Below.trans ?_ (hb5.mono ?_); exact (by repeat' (first | (with_reducible exact Below.refl _ _) | (with_reducible assumption) | (with_reducible refine Below.alloc ?_ ?_ _) | (with_reducible refine Below.setCell ?_ ?_ _) | (with_reducible refine Below.drew ?_) | (with_reducible refine below_drewN ?_ _) | go_size)); go_size); have hs5 := hq5.size)
  go_wp2
  go_ret
  exact ⟨rfl, (by repeat' (first | (with_reducible exact Below.refl _ _) | (with_reducible assumption) | (with_reducible refine Below.alloc ?_ ?_ _) | (with_reducible refine Below.setCell ?_ ?_ _) | (with_reducible refine Below.drew ?_) | (with_reducible refine below_drewN ?_ _) | go_size))⟩

theorem walk_BoundsAligned (a : Nat) (b0 : a < 18446744073709551616) (n : Nat) (b1 : n < 18446744073709551616) (w : World) :
    Calls Try.prog 7 #[.int .u64 a, .int .u64 n] w fun e w' => e = .returned (.bool true) ∧ Below w.heap.size w w' := by
  have hN : n % 281474976710657 ≤ 281474976710656 := by omega
  obtain ⟨N, hNd⟩ : ∃ N, N = n % 281474976710657 := ⟨_, rfl⟩
  rw [← hNd] at hN
  have hM := kt_le48 (Nat.zero_le N) hN
  have hge := kt_ge 0 N
  have hlen := kt_len N
  have hx : ex 0 N - 1 ≤ 36 := by have := ex_le (Nat.zero_le N) hN; omega
  have q1 := length_yes N hN
  have q2 := align_yes N hN
  have q3 := align_yes (kt 0 N) hM
  rw [ex_len] at q3
  have q4 := encode_aligned N (a % (281474976710656 - kt 0 N + 1) / 2 ^ (ex 0 N - 1))
  have hfl := Nat.div_mul_le_self (a % (281474976710656 - kt 0 N + 1)) (2 ^ (ex 0 N - 1))
  have hmod := Nat.mod_lt a (show 281474976710656 - kt 0 N + 1 > 0 by omega)
  generalize kt 0 N = M at *
  generalize ex 0 N - 1 = X at *
  obtain ⟨D, hD⟩ : ∃ D, D = 281474976710656 - M + 1 := ⟨_, rfl⟩
  rw [← hD] at q4 hfl hmod
  obtain ⟨R, hR⟩ : ∃ R, R = a % D := ⟨_, rfl⟩
  rw [← hR] at q4 hfl hmod
  obtain ⟨S, hS⟩ : ∃ S, S = R / 2 ^ X := ⟨_, rfl⟩
  rw [← hS] at q4 hfl
  obtain ⟨B, hB⟩ : ∃ B, B = S * 2 ^ X := ⟨_, rfl⟩
  rw [← hB] at q4 hfl
  have hpw : (2 : Int) ^ X = ((2 ^ X : Nat) : Int) := by simp
  have ev : ((M : Nat) : Int) / 2 ^ X = ((M / 2 ^ X : Nat) : Int) := by rw [hpw]; rfl
  refine aligned_walk a n N M X (281474976710656 - M) D R (M / 2 ^ X) S B (B + M) (by omega) (by rw [Int.tmod_eq_emod_of_nonneg (by omega)]; omega) q1 q2 q3 (q4 (by omega))
    (by apply decide_eq_false; omega) (by apply decide_eq_false; omega) (by omega) ev ?_ ?_ ?_ (by omega) ?_ ?_ ?_ ?_ w
  · rw [hpw, show ((M / 2 ^ X : Nat) : Int) * ((2 ^ X : Nat) : Int) = ((M / 2 ^ X * 2 ^ X : Nat) : Int) from by simp, hlen, IntKind.wrap_u64]; omega
  · rw [IntKind.wrap_u64]; omega
  · rw [IntKind.wrap_u64]; omega
  · rw [Int.tmod_eq_emod_of_nonneg (by omega), hR]; rfl
  · rw [hpw, hS]; rfl
  · rw [hpw, show (S : Int) * ((2 ^ X : Nat) : Int) = ((S * 2 ^ X : Nat) : Int) from by simp, ← hB, IntKind.wrap_u64]; omega
  · rw [IntKind.wrap_u64]; omega
end Go.Proofs.Ytbojalfjbmiokaa
