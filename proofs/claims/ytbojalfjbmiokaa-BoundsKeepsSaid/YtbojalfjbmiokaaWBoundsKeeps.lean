/-
  The walk of the law BoundsKeeps: of any span it returns true, and only makes new memory.
-/
import Derived.Test.YtbojalfjbmiokaaTG
set_option linter.unusedSimpArgs false
set_option linter.unusedVariables false
namespace Go.Proofs.Ytbojalfjbmiokaa
open Go.RowKit Go.Sort

theorem vOk_zero (n : Nat) : vOk 0 n = decide (n ≤ 281474976710656) := by
  unfold vOk; simp
theorem run_req3_same (a b c : Nat) (W : World) : (binOp .eql 35 (.agg #[.int .u64 a, .int .u64 b, .int .u64 c]) (.agg #[.int .u64 a, .int .u64 b, .int .u64 c])).run Try.prog W = .ok (.bool true) W := by
  simp [go_sem]
theorem eq2_refl (a b : Nat) : eq2 a b a b = true := by unfold eq2; simp
theorem length_all (n : Nat) (w : World) :
    Calls Try.prog 18 #[.int .u64 n] w fun r w' => r = .returned (.tuple #[.int .u64 (kT 0 n : Nat), .bool (vOk 0 n)]) ∧ Below w.heap.size w w' := by
  go_enter Try.func18, Try.ntmps18
  go_wp2_with (go_at_call 16; refine (rounded_all 0 n _).mono ?_; rintro e w1 ⟨rfl, hb1⟩; obtain ⟨hc1, hf1⟩ := bcell hb1; have hq1 : Below w.heap.size w w1 := (by refine Below.trans ?_ (hb1.mono ?_); exact (by repeat' (first | (with_reducible exact Below.refl _ _) | (with_reducible assumption) | (with_reducible refine Below.alloc ?_ ?_ _) | (with_reducible refine Below.setCell ?_ ?_ _) | (with_reducible refine Below.drew ?_) | (with_reducible refine below_drewN ?_ _) | go_size)); go_size); have hs1 := hq1.size)
  go_ret2
  exact ⟨rfl, (by repeat' (first | (with_reducible exact Below.refl _ _) | (with_reducible assumption) | (with_reducible refine Below.alloc ?_ ?_ _) | (with_reducible refine Below.setCell ?_ ?_ _) | (with_reducible refine Below.drew ?_) | (with_reducible refine below_drewN ?_ _) | go_size))⟩
theorem align_all (n : Nat) (w : World) :
    Calls Try.prog 21 #[.int .u64 n] w fun r w' => r = .returned (.tuple #[.int .i64 (eE 0 n - 1 : Nat), .bool (vOk 0 n)]) ∧ Below w.heap.size w w' := by
  have h1 := eE_le 0 n
  have hv : decide ((n : Int) ≤ 281474976710656) = vOk 0 n := by rw [vOk_zero]; apply decide_eq_decide.2; omega
  go_enter Try.func21, Try.ntmps21
  go_wp2_with (first
    | (go_at_call 17; refine (encode_all 0 n _).mono ?_; rintro e w1 ⟨rfl, hb1⟩; obtain ⟨hc1, hf1⟩ := bcell hb1; have hq1 : Below w.heap.size w w1 := (by refine Below.trans ?_ (hb1.mono ?_); exact (by repeat' (first | (with_reducible exact Below.refl _ _) | (with_reducible assumption) | (with_reducible refine Below.alloc ?_ ?_ _) | (with_reducible refine Below.setCell ?_ ?_ _) | (with_reducible refine Below.drew ?_) | (with_reducible refine below_drewN ?_ _) | go_size)); go_size); have hs1 := hq1.size)
    | (go_at_call 25; refine (shift_any _ (by omega) _).mono ?_; rintro e w' ⟨rfl, rfl⟩))
  go_ret2
  exact ⟨rfl, (by repeat' (first | (with_reducible exact Below.refl _ _) | (with_reducible assumption) | (with_reducible refine Below.alloc ?_ ?_ _) | (with_reducible refine Below.setCell ?_ ?_ _) | (with_reducible refine Below.drew ?_) | (with_reducible refine below_drewN ?_ _) | go_size))⟩
theorem length_10001 (w : World) : Calls Try.prog 18 #[.int .u64 10001] w fun r w' => r = .returned (.tuple #[.int .u64 10002, .bool true]) ∧ Below w.heap.size w w' := by
  have h := length_yes 10001 (by decide) w
  rw [kt_10001] at h
  exact h

set_option maxHeartbeats 1000000 in
theorem walk_BoundsKeeps (b t : Nat) (b0 : b < 18446744073709551616) (b1 : t < 18446744073709551616) (w : World) :
    Calls Try.prog 6 #[.agg #[.int .u64 b, .int .u64 t]] w fun e w' => e = .returned (.bool true) ∧ Below w.heap.size w w' := by
  have hc3 := run_req3_same (eB b t) (eT b t) (eE b t)
  have hc2 := run_req2 (kB b t) (kT b t) (kB b t) (kT b t)
  rw [eq2_refl] at hc2
  have hle := eE_le 0 t
  have q1 := encode_all b t
  have q2 := rencode_all b t
  have q3 := rounded_all b t
  have q4 := rrounded_all b t
  have q5 := length_all t
  have q6 := align_all t
  have q7 := rrounded_all 0 t
  have q8 := rencode_all 0 t
  generalize eX b t = x1 at *
  generalize vOk b t = x2 at *
  generalize vOk 0 t = x3 at *
  generalize eX 0 t = x4 at *
  have Q1 := Lib.hid q1; clear q1
  have Q2 := Lib.hid q2; clear q2
  have Q3 := Lib.hid q3; clear q3
  have Q4 := Lib.hid q4; clear q4
  have Q5 := Lib.hid q5; clear q5
  have Q6 := Lib.hid q6; clear q6
  have Q7 := Lib.hid q7; clear q7
  have Q8 := Lib.hid q8; clear q8
  clear b0 b1
  by_cases hf : 0 < eE 0 t
  · have e1 : ((eE 0 t : Nat) : Int) - 1 = ((eE 0 t - 1 : Nat) : Int) := by omega
    have g0 : decide ((0 : Int) < ((eE 0 t : Nat) : Int)) = true := by apply decide_eq_true; omega
    go_enter Try.func6, Try.ntmps6
    go_wp2_with (fail)
    (go_at_call 17; refine (Q1.out _).mono ?_; rintro e w1 ⟨rfl, hb1⟩; obtain ⟨hc1, hf1⟩ := bcell hb1; have hq1 : Below w.heap.size w w1 := (by refine Below.trans ?_ (hb1.mono ?_); exact (by repeat' (first | (with_reducible exact Below.refl _ _) | (with_reducible assumption) | (with_reducible refine Below.alloc ?_ ?_ _) | (with_reducible refine Below.setCell ?_ ?_ _) | (with_reducible refine Below.drew ?_) | (with_reducible refine below_drewN ?_ _) | go_size)); go_size); have hs1 := hq1.size; have hz1w0 : w.heap.size < w1.heap.size := (by have := hb1.size; (try simp at this); omega))
    go_wp2_with (fail)
    (go_at_call 19; refine (Q2.out _).mono ?_; rintro e w2 ⟨rfl, hb2⟩; obtain ⟨hc2, hf2⟩ := bcell hb2; have hq2 : Below w.heap.size w w2 := (by refine Below.trans ?_ (hb2.mono ?_); exact (by repeat' (first | (with_reducible exact Below.refl _ _) | (with_reducible assumption) | (with_reducible refine Below.alloc ?_ ?_ _) | (with_reducible refine Below.setCell ?_ ?_ _) | (with_reducible refine Below.drew ?_) | (with_reducible refine below_drewN ?_ _) | go_size)); go_size); have hs2 := hq2.size; have hz2w10 : w1.heap.size < w2.heap.size := (by have := hb2.size; (try simp at this); omega); have hz2w0 : w.heap.size < w2.heap.size := (by have := hb2.size; (try simp at this); omega))
    go_wp2_with (fail)
    (go_at_call 16; refine (Q3.out _).mono ?_; rintro e w3 ⟨rfl, hb3⟩; obtain ⟨hc3, hf3⟩ := bcell hb3; have hq3 : Below w.heap.size w w3 := (by refine Below.trans ?_ (hb3.mono ?_); exact (by repeat' (first | (with_reducible exact Below.refl _ _) | (with_reducible assumption) | (with_reducible refine Below.alloc ?_ ?_ _) | (with_reducible refine Below.setCell ?_ ?_ _) | (with_reducible refine Below.drew ?_) | (with_reducible refine below_drewN ?_ _) | go_size)); go_size); have hs3 := hq3.size; have hz3w20 : w2.heap.size < w3.heap.size := (by have := hb3.size; (try simp at this); omega); have hz3w10 : w1.heap.size < w3.heap.size := (by have := hb3.size; (try simp at this); omega); have hz3w0 : w.heap.size < w3.heap.size := (by have := hb3.size; (try simp at this); omega))
    go_wp2_with (fail)
    (go_at_call 20; refine (Q4.out _).mono ?_; rintro e w4 ⟨rfl, hb4⟩; obtain ⟨hc4, hf4⟩ := bcell hb4; have hq4 : Below w.heap.size w w4 := (by refine Below.trans ?_ (hb4.mono ?_); exact (by repeat' (first | (with_reducible exact Below.refl _ _) | (with_reducible assumption) | (with_reducible refine Below.alloc ?_ ?_ _) | (with_reducible refine Below.setCell ?_ ?_ _) | (with_reducible refine Below.drew ?_) | (with_reducible refine below_drewN ?_ _) | go_size)); go_size); have hs4 := hq4.size; have hz4w30 : w3.heap.size < w4.heap.size := (by have := hb4.size; (try simp at this); omega); have hz4w20 : w2.heap.size < w4.heap.size := (by have := hb4.size; (try simp at this); omega); have hz4w10 : w1.heap.size < w4.heap.size := (by have := hb4.size; (try simp at this); omega); have hz4w0 : w.heap.size < w4.heap.size := (by have := hb4.size; (try simp at this); omega))
    go_wp2_with (fail)
    (go_at_call 18; refine (Q5.out _).mono ?_; rintro e w5 ⟨rfl, hb5⟩; obtain ⟨hc5, hf5⟩ := bcell hb5; have hq5 : Below w.heap.size w w5 := (by refine Below.trans ?_ (hb5.mono ?_); exact (by repeat' (first | (with_reducible exact Below.refl _ _) | (with_reducible assumption) | (with_reducible refine Below.alloc ?_ ?_ _) | (with_reducible refine Below.setCell ?_ ?_ _) | (with_reducible refine Below.drew ?_) | (with_reducible refine below_drewN ?_ _) | go_size)); go_size); have hs5 := hq5.size; have hz5w40 : w4.heap.size < w5.heap.size := (by have := hb5.size; (try simp at this); omega); have hz5w30 : w3.heap.size < w5.heap.size := (by have := hb5.size; (try simp at this); omega); have hz5w20 : w2.heap.size < w5.heap.size := (by have := hb5.size; (try simp at this); omega); have hz5w10 : w1.heap.size < w5.heap.size := (by have := hb5.size; (try simp at this); omega); have hz5w0 : w.heap.size < w5.heap.size := (by have := hb5.size; (try simp at this); omega))
    go_wp2_with (fail)
    (go_at_call 21; refine (Q6.out _).mono ?_; rintro e w6 ⟨rfl, hb6⟩; obtain ⟨hc6, hf6⟩ := bcell hb6; have hq6 : Below w.heap.size w w6 := (by refine Below.trans ?_ (hb6.mono ?_); exact (by repeat' (first | (with_reducible exact Below.refl _ _) | (with_reducible assumption) | (with_reducible refine Below.alloc ?_ ?_ _) | (with_reducible refine Below.setCell ?_ ?_ _) | (with_reducible refine Below.drew ?_) | (with_reducible refine below_drewN ?_ _) | go_size)); go_size); have hs6 := hq6.size; have hz6w40 : w4.heap.size < w6.heap.size := (by have := hb6.size; (try simp at this); omega); have hz6w30 : w3.heap.size < w6.heap.size := (by have := hb6.size; (try simp at this); omega); have hz6w20 : w2.heap.size < w6.heap.size := (by have := hb6.size; (try simp at this); omega); have hz6w10 : w1.heap.size < w6.heap.size := (by have := hb6.size; (try simp at this); omega); have hz6w0 : w.heap.size < w6.heap.size := (by have := hb6.size; (try simp at this); omega))
    go_wp2_with (fail)
    (go_at_call 20; refine (Q7.out _).mono ?_; rintro e w7 ⟨rfl, hb7⟩; obtain ⟨hc7, hf7⟩ := bcell hb7; have hq7 : Below w.heap.size w w7 := (by refine Below.trans ?_ (hb7.mono ?_); exact (by repeat' (first | (with_reducible exact Below.refl _ _) | (with_reducible assumption) | (with_reducible refine Below.alloc ?_ ?_ _) | (with_reducible refine Below.setCell ?_ ?_ _) | (with_reducible refine Below.drew ?_) | (with_reducible refine below_drewN ?_ _) | go_size)); go_size); have hs7 := hq7.size; have hz7w40 : w4.heap.size < w7.heap.size := (by have := hb7.size; (try simp at this); omega); have hz7w30 : w3.heap.size < w7.heap.size := (by have := hb7.size; (try simp at this); omega); have hz7w20 : w2.heap.size < w7.heap.size := (by have := hb7.size; (try simp at this); omega); have hz7w10 : w1.heap.size < w7.heap.size := (by have := hb7.size; (try simp at this); omega); have hz7w0 : w.heap.size < w7.heap.size := (by have := hb7.size; (try simp at this); omega))
    go_wp2_with (fail)
    (go_at_call 19; refine (Q8.out _).mono ?_; rintro e w8 ⟨rfl, hb8⟩; obtain ⟨hc8, hf8⟩ := bcell hb8; have hq8 : Below w.heap.size w w8 := (by refine Below.trans ?_ (hb8.mono ?_); exact (by repeat' (first | (with_reducible exact Below.refl _ _) | (with_reducible assumption) | (with_reducible refine Below.alloc ?_ ?_ _) | (with_reducible refine Below.setCell ?_ ?_ _) | (with_reducible refine Below.drew ?_) | (with_reducible refine below_drewN ?_ _) | go_size)); go_size); have hs8 := hq8.size; have hz8w70 : w7.heap.size < w8.heap.size := (by have := hb8.size; (try simp at this); omega); have hz8w40 : w4.heap.size < w8.heap.size := (by have := hb8.size; (try simp at this); omega); have hz8w30 : w3.heap.size < w8.heap.size := (by have := hb8.size; (try simp at this); omega); have hz8w20 : w2.heap.size < w8.heap.size := (by have := hb8.size; (try simp at this); omega); have hz8w10 : w1.heap.size < w8.heap.size := (by have := hb8.size; (try simp at this); omega); have hz8w0 : w.heap.size < w8.heap.size := (by have := hb8.size; (try simp at this); omega))
    go_wp2_with (fail)
    (go_at_call 18; refine (length_10001 _).mono ?_; rintro e w9 ⟨rfl, hb9⟩; obtain ⟨hc9, hf9⟩ := bcell hb9; have hq9 : Below w.heap.size w w9 := (by refine Below.trans ?_ (hb9.mono ?_); exact (by repeat' (first | (with_reducible exact Below.refl _ _) | (with_reducible assumption) | (with_reducible refine Below.alloc ?_ ?_ _) | (with_reducible refine Below.setCell ?_ ?_ _) | (with_reducible refine Below.drew ?_) | (with_reducible refine below_drewN ?_ _) | go_size)); go_size); have hs9 := hq9.size; have hz9w80 : w8.heap.size < w9.heap.size := (by have := hb9.size; (try simp at this); omega); have hz9w70 : w7.heap.size < w9.heap.size := (by have := hb9.size; (try simp at this); omega); have hz9w40 : w4.heap.size < w9.heap.size := (by have := hb9.size; (try simp at this); omega); have hz9w30 : w3.heap.size < w9.heap.size := (by have := hb9.size; (try simp at this); omega); have hz9w20 : w2.heap.size < w9.heap.size := (by have := hb9.size; (try simp at this); omega); have hz9w10 : w1.heap.size < w9.heap.size := (by have := hb9.size; (try simp at this); omega); have hz9w0 : w.heap.size < w9.heap.size := (by have := hb9.size; (try simp at this); omega))
    go_wp2
    go_ret
    exact ⟨rfl, (by repeat' (first | (with_reducible exact Below.refl _ _) | (with_reducible assumption) | (with_reducible refine Below.alloc ?_ ?_ _) | (with_reducible refine Below.setCell ?_ ?_ _) | (with_reducible refine Below.drew ?_) | (with_reducible refine below_drewN ?_ _) | go_size))⟩
  · have e0 : eE 0 t = 0 := by omega
    have Q6 : Hid (∀ W, Calls Try.prog 21 #[.int .u64 t] W fun r w' => r = .returned (.tuple #[.int .i64 0, .bool x3]) ∧ Below W.heap.size W w') :=
      Lib.hid fun W => by have h := Q6.out W; rw [e0] at h; exact h
    have Q8 := Lib.hid fun W => by have h := Q8.out W; rw [e0] at h; exact h
    clear e0 hle
    clear hf
    go_enter Try.func6, Try.ntmps6
    go_wp2_with (fail)
    (go_at_call 17; refine (Q1.out _).mono ?_; rintro e w1 ⟨rfl, hb1⟩; obtain ⟨hc1, hf1⟩ := bcell hb1; have hq1 : Below w.heap.size w w1 := (by refine Below.trans ?_ (hb1.mono ?_); exact (by repeat' (first | (with_reducible exact Below.refl _ _) | (with_reducible assumption) | (with_reducible refine Below.alloc ?_ ?_ _) | (with_reducible refine Below.setCell ?_ ?_ _) | (with_reducible refine Below.drew ?_) | (with_reducible refine below_drewN ?_ _) | go_size)); go_size); have hs1 := hq1.size; have hz1w0 : w.heap.size < w1.heap.size := (by have := hb1.size; (try simp at this); omega))
    go_wp2_with (fail)
    (go_at_call 19; refine (Q2.out _).mono ?_; rintro e w2 ⟨rfl, hb2⟩; obtain ⟨hc2, hf2⟩ := bcell hb2; have hq2 : Below w.heap.size w w2 := (by refine Below.trans ?_ (hb2.mono ?_); exact (by repeat' (first | (with_reducible exact Below.refl _ _) | (with_reducible assumption) | (with_reducible refine Below.alloc ?_ ?_ _) | (with_reducible refine Below.setCell ?_ ?_ _) | (with_reducible refine Below.drew ?_) | (with_reducible refine below_drewN ?_ _) | go_size)); go_size); have hs2 := hq2.size; have hz2w10 : w1.heap.size < w2.heap.size := (by have := hb2.size; (try simp at this); omega); have hz2w0 : w.heap.size < w2.heap.size := (by have := hb2.size; (try simp at this); omega))
    go_wp2_with (fail)
    (go_at_call 16; refine (Q3.out _).mono ?_; rintro e w3 ⟨rfl, hb3⟩; obtain ⟨hc3, hf3⟩ := bcell hb3; have hq3 : Below w.heap.size w w3 := (by refine Below.trans ?_ (hb3.mono ?_); exact (by repeat' (first | (with_reducible exact Below.refl _ _) | (with_reducible assumption) | (with_reducible refine Below.alloc ?_ ?_ _) | (with_reducible refine Below.setCell ?_ ?_ _) | (with_reducible refine Below.drew ?_) | (with_reducible refine below_drewN ?_ _) | go_size)); go_size); have hs3 := hq3.size; have hz3w20 : w2.heap.size < w3.heap.size := (by have := hb3.size; (try simp at this); omega); have hz3w10 : w1.heap.size < w3.heap.size := (by have := hb3.size; (try simp at this); omega); have hz3w0 : w.heap.size < w3.heap.size := (by have := hb3.size; (try simp at this); omega))
    go_wp2_with (fail)
    (go_at_call 20; refine (Q4.out _).mono ?_; rintro e w4 ⟨rfl, hb4⟩; obtain ⟨hc4, hf4⟩ := bcell hb4; have hq4 : Below w.heap.size w w4 := (by refine Below.trans ?_ (hb4.mono ?_); exact (by repeat' (first | (with_reducible exact Below.refl _ _) | (with_reducible assumption) | (with_reducible refine Below.alloc ?_ ?_ _) | (with_reducible refine Below.setCell ?_ ?_ _) | (with_reducible refine Below.drew ?_) | (with_reducible refine below_drewN ?_ _) | go_size)); go_size); have hs4 := hq4.size; have hz4w30 : w3.heap.size < w4.heap.size := (by have := hb4.size; (try simp at this); omega); have hz4w20 : w2.heap.size < w4.heap.size := (by have := hb4.size; (try simp at this); omega); have hz4w10 : w1.heap.size < w4.heap.size := (by have := hb4.size; (try simp at this); omega); have hz4w0 : w.heap.size < w4.heap.size := (by have := hb4.size; (try simp at this); omega))
    go_wp2_with (fail)
    (go_at_call 18; refine (Q5.out _).mono ?_; rintro e w5 ⟨rfl, hb5⟩; obtain ⟨hc5, hf5⟩ := bcell hb5; have hq5 : Below w.heap.size w w5 := (by refine Below.trans ?_ (hb5.mono ?_); exact (by repeat' (first | (with_reducible exact Below.refl _ _) | (with_reducible assumption) | (with_reducible refine Below.alloc ?_ ?_ _) | (with_reducible refine Below.setCell ?_ ?_ _) | (with_reducible refine Below.drew ?_) | (with_reducible refine below_drewN ?_ _) | go_size)); go_size); have hs5 := hq5.size; have hz5w40 : w4.heap.size < w5.heap.size := (by have := hb5.size; (try simp at this); omega); have hz5w30 : w3.heap.size < w5.heap.size := (by have := hb5.size; (try simp at this); omega); have hz5w20 : w2.heap.size < w5.heap.size := (by have := hb5.size; (try simp at this); omega); have hz5w10 : w1.heap.size < w5.heap.size := (by have := hb5.size; (try simp at this); omega); have hz5w0 : w.heap.size < w5.heap.size := (by have := hb5.size; (try simp at this); omega))
    go_wp2_with (fail)
    (go_at_call 21; refine (Q6.out _).mono ?_; rintro e w6 ⟨rfl, hb6⟩; obtain ⟨hc6, hf6⟩ := bcell hb6; have hq6 : Below w.heap.size w w6 := (by refine Below.trans ?_ (hb6.mono ?_); exact (by repeat' (first | (with_reducible exact Below.refl _ _) | (with_reducible assumption) | (with_reducible refine Below.alloc ?_ ?_ _) | (with_reducible refine Below.setCell ?_ ?_ _) | (with_reducible refine Below.drew ?_) | (with_reducible refine below_drewN ?_ _) | go_size)); go_size); have hs6 := hq6.size; have hz6w40 : w4.heap.size < w6.heap.size := (by have := hb6.size; (try simp at this); omega); have hz6w30 : w3.heap.size < w6.heap.size := (by have := hb6.size; (try simp at this); omega); have hz6w20 : w2.heap.size < w6.heap.size := (by have := hb6.size; (try simp at this); omega); have hz6w10 : w1.heap.size < w6.heap.size := (by have := hb6.size; (try simp at this); omega); have hz6w0 : w.heap.size < w6.heap.size := (by have := hb6.size; (try simp at this); omega))
    go_wp2_with (fail)
    (go_at_call 20; refine (Q7.out _).mono ?_; rintro e w7 ⟨rfl, hb7⟩; obtain ⟨hc7, hf7⟩ := bcell hb7; have hq7 : Below w.heap.size w w7 := (by refine Below.trans ?_ (hb7.mono ?_); exact (by repeat' (first | (with_reducible exact Below.refl _ _) | (with_reducible assumption) | (with_reducible refine Below.alloc ?_ ?_ _) | (with_reducible refine Below.setCell ?_ ?_ _) | (with_reducible refine Below.drew ?_) | (with_reducible refine below_drewN ?_ _) | go_size)); go_size); have hs7 := hq7.size; have hz7w40 : w4.heap.size < w7.heap.size := (by have := hb7.size; (try simp at this); omega); have hz7w30 : w3.heap.size < w7.heap.size := (by have := hb7.size; (try simp at this); omega); have hz7w20 : w2.heap.size < w7.heap.size := (by have := hb7.size; (try simp at this); omega); have hz7w10 : w1.heap.size < w7.heap.size := (by have := hb7.size; (try simp at this); omega); have hz7w0 : w.heap.size < w7.heap.size := (by have := hb7.size; (try simp at this); omega))
    go_wp2_with (fail)
    (go_at_call 19; refine (Q8.out _).mono ?_; rintro e w8 ⟨rfl, hb8⟩; obtain ⟨hc8, hf8⟩ := bcell hb8; have hq8 : Below w.heap.size w w8 := (by refine Below.trans ?_ (hb8.mono ?_); exact (by repeat' (first | (with_reducible exact Below.refl _ _) | (with_reducible assumption) | (with_reducible refine Below.alloc ?_ ?_ _) | (with_reducible refine Below.setCell ?_ ?_ _) | (with_reducible refine Below.drew ?_) | (with_reducible refine below_drewN ?_ _) | go_size)); go_size); have hs8 := hq8.size; have hz8w70 : w7.heap.size < w8.heap.size := (by have := hb8.size; (try simp at this); omega); have hz8w40 : w4.heap.size < w8.heap.size := (by have := hb8.size; (try simp at this); omega); have hz8w30 : w3.heap.size < w8.heap.size := (by have := hb8.size; (try simp at this); omega); have hz8w20 : w2.heap.size < w8.heap.size := (by have := hb8.size; (try simp at this); omega); have hz8w10 : w1.heap.size < w8.heap.size := (by have := hb8.size; (try simp at this); omega); have hz8w0 : w.heap.size < w8.heap.size := (by have := hb8.size; (try simp at this); omega))
    go_wp2_with (fail)
    (go_at_call 18; refine (length_10001 _).mono ?_; rintro e w9 ⟨rfl, hb9⟩; obtain ⟨hc9, hf9⟩ := bcell hb9; have hq9 : Below w.heap.size w w9 := (by refine Below.trans ?_ (hb9.mono ?_); exact (by repeat' (first | (with_reducible exact Below.refl _ _) | (with_reducible assumption) | (with_reducible refine Below.alloc ?_ ?_ _) | (with_reducible refine Below.setCell ?_ ?_ _) | (with_reducible refine Below.drew ?_) | (with_reducible refine below_drewN ?_ _) | go_size)); go_size); have hs9 := hq9.size; have hz9w80 : w8.heap.size < w9.heap.size := (by have := hb9.size; (try simp at this); omega); have hz9w70 : w7.heap.size < w9.heap.size := (by have := hb9.size; (try simp at this); omega); have hz9w40 : w4.heap.size < w9.heap.size := (by have := hb9.size; (try simp at this); omega); have hz9w30 : w3.heap.size < w9.heap.size := (by have := hb9.size; (try simp at this); omega); have hz9w20 : w2.heap.size < w9.heap.size := (by have := hb9.size; (try simp at this); omega); have hz9w10 : w1.heap.size < w9.heap.size := (by have := hb9.size; (try simp at this); omega); have hz9w0 : w.heap.size < w9.heap.size := (by have := hb9.size; (try simp at this); omega))
    go_wp2
    go_ret
    exact ⟨rfl, (by repeat' (first | (with_reducible exact Below.refl _ _) | (with_reducible assumption) | (with_reducible refine Below.alloc ?_ ?_ _) | (with_reducible refine Below.setCell ?_ ?_ _) | (with_reducible refine Below.drew ?_) | (with_reducible refine below_drewN ?_ _) | go_size))⟩
end Go.Proofs.Ytbojalfjbmiokaa
