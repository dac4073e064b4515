/-
  The walk of the law BoundsGrow: of any four numbers it returns true, and only makes new memory.
-/
import Derived.Test.YtbojalfjbmiokaaWBoundsAligned
import Derived.BigRegion
set_option linter.unusedSimpArgs false
set_option linter.unusedVariables false
namespace Go.Proofs.Ytbojalfjbmiokaa
open Go.RowKit Go.Sort

set_option maxHeartbeats 2000000 in
theorem grow_walk (l0 l1 l2 l3 b t M n r2 r3 c d p q L kB kT sB sT mL mM xL xM : Nat)
    (q1 : ∀ w, Calls Try.prog 15 #[.int .u64 l0, .int .u64 l1] w fun r w' => r = .returned (.agg #[.int .u64 b, .int .u64 t]) ∧ Below w.heap.size w w')
    (e1 : IntKind.u64.wrap ((t : Int) - (b : Int)) = (M : Int)) (e2 : IntKind.u64.wrap ((M : Int) + 1) = (n : Int)) (hn : 0 < n)
    (e3 : (l2 : Int).tmod (n : Int) = (r2 : Int)) (e4 : (l3 : Int).tmod (n : Int) = (r3 : Int))
    (e5 : IntKind.u64.wrap ((b : Int) + (r2 : Int)) = (c : Int)) (e6 : IntKind.u64.wrap ((b : Int) + (r3 : Int)) = (d : Int))
    (hpq : (decide (d < c) = false ∧ p = c ∧ q = d) ∨ (decide (d < c) = true ∧ p = d ∧ q = c))
    (q2 : ∀ w, Calls Try.prog 16 #[.agg #[.int .u64 p, .int .u64 q]] w fun r w' => r = .returned (.tuple #[.agg #[.int .u64 sB, .int .u64 sT], .bool true]) ∧ Below w.heap.size w w')
    (q3 : ∀ w, Calls Try.prog 16 #[.agg #[.int .u64 b, .int .u64 t]] w fun r w' => r = .returned (.tuple #[.agg #[.int .u64 kB, .int .u64 kT], .bool true]) ∧ Below w.heap.size w w')
    (g1 : decide (sB < kB) = false) (g2 : decide (kT < sT) = false)
    (e7 : IntKind.u64.wrap ((q : Int) - (p : Int)) = (L : Int))
    (q4 : ∀ w, Calls Try.prog 18 #[.int .u64 L] w fun r w' => r = .returned (.tuple #[.int .u64 mL, .bool true]) ∧ Below w.heap.size w w')
    (q5 : ∀ w, Calls Try.prog 18 #[.int .u64 M] w fun r w' => r = .returned (.tuple #[.int .u64 mM, .bool true]) ∧ Below w.heap.size w w')
    (q6 : ∀ w, Calls Try.prog 21 #[.int .u64 L] w fun r w' => r = .returned (.tuple #[.int .i64 xL, .bool true]) ∧ Below w.heap.size w w')
    (q7 : ∀ w, Calls Try.prog 21 #[.int .u64 M] w fun r w' => r = .returned (.tuple #[.int .i64 xM, .bool true]) ∧ Below w.heap.size w w')
    (g3 : decide (mL ≤ mM) = true) (g4 : decide (xL ≤ xM) = true)
    (w : World) :
    Calls Try.prog 8 #[.agg #[.int .u64 l0, .int .u64 l1, .int .u64 l2, .int .u64 l3]] w fun e w' => e = .returned (.bool true) ∧ Below w.heap.size w w' := by
  have Q1 := Lib.hid q1; clear q1
  have Q2 := Lib.hid q2; clear q2
  have Q3 := Lib.hid q3; clear q3
  have Q4 := Lib.hid q4; clear q4
  have Q5 := Lib.hid q5; clear q5
  have Q6 := Lib.hid q6; clear q6
  have Q7 := Lib.hid q7; clear q7
  rcases hpq with ⟨g0, rfl, rfl⟩ | ⟨g0, rfl, rfl⟩
  all_goals
    go_enter Try.func8, Try.ntmps8
    go_wp2_with (fail)
    (go_at_call 15; refine (Q1.out _).mono ?_; rintro e w1 ⟨rfl, hb1⟩; obtain ⟨hc1, hf1⟩ := bcell hb1; have hq1 : Below w.heap.size w w1 := (by refine Below.trans ?_ (hb1.mono ?_); exact (by repeat' (first | (with_reducible exact Below.refl _ _) | (with_reducible assumption) | (with_reducible refine Below.alloc ?_ ?_ _) | (with_reducible refine Below.setCell ?_ ?_ _) | (with_reducible refine Below.drew ?_) | (with_reducible refine below_drewN ?_ _) | go_size)); go_size); have hs1 := hq1.size; have hz1w0 : w.heap.size < w1.heap.size := (by have := hb1.size; (try simp at this); omega))
    go_wp2
    (refine wp_at (fun W2 hW2 => ?_); have hB2 : Below w.heap.size w W2 := (by rw [← hW2]; exact (by repeat' (first | (with_reducible exact Below.refl _ _) | (with_reducible assumption) | (with_reducible refine Below.alloc ?_ ?_ _) | (with_reducible refine Below.setCell ?_ ?_ _) | (with_reducible refine Below.drew ?_) | (with_reducible refine below_drewN ?_ _) | go_size))); have hz2w10 : w1.heap.size < W2.heap.size := (by rw [← hW2]; first | go_size | (simp; omega)); have hz2w0 : w.heap.size < W2.heap.size := (by rw [← hW2]; first | go_size | (simp; omega)); have c2_0 : W2.cell? ⟨w.heap.size, 2, none⟩ = some (.int .u64 l2) := (by rw [← hW2]; clear hW2; simp [go_sem, *]); have f2_0 : W2.frozen? ⟨w.heap.size, 2, none⟩ = false := (by rw [← hW2]; clear hW2; simp [go_sem, *]); have c2_1 : W2.cell? ⟨w.heap.size, 3, none⟩ = some (.int .u64 l3) := (by rw [← hW2]; clear hW2; simp [go_sem, *]); have f2_1 : W2.frozen? ⟨w.heap.size, 3, none⟩ = false := (by rw [← hW2]; clear hW2; simp [go_sem, *]); have c2_2 : W2.cell? ⟨w1.heap.size, 0, none⟩ = some (.int .u64 b) := (by rw [← hW2]; clear hW2; simp [go_sem, *]); have f2_2 : W2.frozen? ⟨w1.heap.size, 0, none⟩ = false := (by rw [← hW2]; clear hW2; simp [go_sem, *]); have c2_3 : W2.cell? ⟨w1.heap.size, 1, none⟩ = some (.int .u64 t) := (by rw [← hW2]; clear hW2; simp [go_sem, *]); have f2_3 : W2.frozen? ⟨w1.heap.size, 1, none⟩ = false := (by rw [← hW2]; clear hW2; simp [go_sem, *]); clear hW2)
    go_region
    go_wp2_with (fail)
    (go_at_call 16; refine (Q2.out _).mono ?_; rintro e w3 ⟨rfl, hb3⟩; obtain ⟨hc3, hf3⟩ := bcell hb3; have hq3 : Below w.heap.size w w3 := (by refine Below.trans ?_ (hb3.mono ?_); exact (by repeat' (first | (with_reducible exact Below.refl _ _) | (with_reducible assumption) | (with_reducible refine Below.alloc ?_ ?_ _) | (with_reducible refine Below.setCell ?_ ?_ _) | (with_reducible refine Below.drew ?_) | (with_reducible refine below_drewN ?_ _) | go_size)); go_size); have hs3 := hq3.size; have hz3W20 : W2.heap.size < w3.heap.size := (by have := hb3.size; (try simp at this); omega); have hz3w10 : w1.heap.size < w3.heap.size := (by have := hb3.size; (try simp at this); omega); have hz3w0 : w.heap.size < w3.heap.size := (by have := hb3.size; (try simp at this); omega))
    go_wp2_with (fail)
    (go_at_call 16; refine (Q3.out _).mono ?_; rintro e w4 ⟨rfl, hb4⟩; obtain ⟨hc4, hf4⟩ := bcell hb4; have hq4 : Below w.heap.size w w4 := (by refine Below.trans ?_ (hb4.mono ?_); exact (by repeat' (first | (with_reducible exact Below.refl _ _) | (with_reducible assumption) | (with_reducible refine Below.alloc ?_ ?_ _) | (with_reducible refine Below.setCell ?_ ?_ _) | (with_reducible refine Below.drew ?_) | (with_reducible refine below_drewN ?_ _) | go_size)); go_size); have hs4 := hq4.size; have hz4w30 : w3.heap.size < w4.heap.size := (by have := hb4.size; (try simp at this); omega); have hz4W20 : W2.heap.size < w4.heap.size := (by have := hb4.size; (try simp at this); omega); have hz4w10 : w1.heap.size < w4.heap.size := (by have := hb4.size; (try simp at this); omega); have hz4w0 : w.heap.size < w4.heap.size := (by have := hb4.size; (try simp at this); omega))
    go_wp2_with (fail)
    (go_at_call 18; refine (Q4.out _).mono ?_; rintro e w5 ⟨rfl, hb5⟩; obtain ⟨hc5, hf5⟩ := bcell hb5; have hq5 : Below w.heap.size w w5 := (by refine Below.trans ?_ (hb5.mono ?_); exact (by repeat' (first | (with_reducible exact Below.refl _ _) | (with_reducible assumption) | (with_reducible refine Below.alloc ?_ ?_ _) | (with_reducible refine Below.setCell ?_ ?_ _) | (with_reducible refine Below.drew ?_) | (with_reducible refine below_drewN ?_ _) | go_size)); go_size); have hs5 := hq5.size; have hz5W20 : W2.heap.size < w5.heap.size := (by have := hb5.size; (try simp at this); omega); have hz5w10 : w1.heap.size < w5.heap.size := (by have := hb5.size; (try simp at this); omega))
    go_wp2_with (fail)
    (go_at_call 18; refine (Q5.out _).mono ?_; rintro e w6 ⟨rfl, hb6⟩; obtain ⟨hc6, hf6⟩ := bcell hb6; have hq6 : Below w.heap.size w w6 := (by refine Below.trans ?_ (hb6.mono ?_); exact (by repeat' (first | (with_reducible exact Below.refl _ _) | (with_reducible assumption) | (with_reducible refine Below.alloc ?_ ?_ _) | (with_reducible refine Below.setCell ?_ ?_ _) | (with_reducible refine Below.drew ?_) | (with_reducible refine below_drewN ?_ _) | go_size)); go_size); have hs6 := hq6.size; have hz6W20 : W2.heap.size < w6.heap.size := (by have := hb6.size; (try simp at this); omega); have hz6w10 : w1.heap.size < w6.heap.size := (by have := hb6.size; (try simp at this); omega))
    go_wp2_with (fail)
    (go_at_call 21; refine (Q6.out _).mono ?_; rintro e w7 ⟨rfl, hb7⟩; obtain ⟨hc7, hf7⟩ := bcell hb7; have hq7 : Below w.heap.size w w7 := (by refine Below.trans ?_ (hb7.mono ?_); exact (by repeat' (first | (with_reducible exact Below.refl _ _) | (with_reducible assumption) | (with_reducible refine Below.alloc ?_ ?_ _) | (with_reducible refine Below.setCell ?_ ?_ _) | (with_reducible refine Below.drew ?_) | (with_reducible refine below_drewN ?_ _) | go_size)); go_size); have hs7 := hq7.size; have hz7W20 : W2.heap.size < w7.heap.size := (by have := hb7.size; (try simp at this); omega); have hz7w10 : w1.heap.size < w7.heap.size := (by have := hb7.size; (try simp at this); omega))
    go_wp2_with (fail)
    (go_at_call 21; refine (Q7.out _).mono ?_; rintro e w8 ⟨rfl, hb8⟩; obtain ⟨hc8, hf8⟩ := bcell hb8; have hq8 : Below w.heap.size w w8 := (by refine Below.trans ?_ (hb8.mono ?_); exact (by repeat' (first | (with_reducible exact Below.refl _ _) | (with_reducible assumption) | (with_reducible refine Below.alloc ?_ ?_ _) | (with_reducible refine Below.setCell ?_ ?_ _) | (with_reducible refine Below.drew ?_) | (with_reducible refine below_drewN ?_ _) | go_size)); go_size); have hs8 := hq8.size)
    go_wp2_with (fail)
    (go_at_call 18; refine (length_5000 _).mono ?_; rintro e w9 ⟨rfl, hb9⟩; obtain ⟨hc9, hf9⟩ := bcell hb9; have hq9 : Below w.heap.size w w9 := (by refine Below.trans ?_ (hb9.mono ?_); exact (by repeat' (first | (with_reducible exact Below.refl _ _) | (with_reducible assumption) | (with_reducible refine Below.alloc ?_ ?_ _) | (with_reducible refine Below.setCell ?_ ?_ _) | (with_reducible refine Below.drew ?_) | (with_reducible refine below_drewN ?_ _) | go_size)); go_size); have hs9 := hq9.size)
    go_wp2
    go_ret
    exact ⟨rfl, (by repeat' (first | (with_reducible exact Below.refl _ _) | (with_reducible assumption) | (with_reducible refine Below.alloc ?_ ?_ _) | (with_reducible refine Below.setCell ?_ ?_ _) | (with_reducible refine Below.drew ?_) | (with_reducible refine below_drewN ?_ _) | go_size))⟩

theorem walk_BoundsGrow (l0 l1 l2 l3 : Nat) (h0 : l0 < 18446744073709551616) (h1 : l1 < 18446744073709551616) (h2 : l2 < 18446744073709551616) (h3 : l3 < 18446744073709551616) (w : World) :
    Calls Try.prog 8 #[.agg #[.int .u64 l0, .int .u64 l1, .int .u64 l2, .int .u64 l3]] w fun e w' => e = .returned (.bool true) ∧ Below w.heap.size w w' := by
  have q1 := span_any l0 l1
  have hb := s1_le l0 l1
  have ht := s2_le l0 l1
  generalize s1 l0 l1 = b at *
  generalize s2 l0 l1 = t at *
  obtain ⟨M, hM⟩ : ∃ M, M = t - b := ⟨_, rfl⟩
  obtain ⟨n, hn⟩ : ∃ n, n = M + 1 := ⟨_, rfl⟩
  obtain ⟨r2, hr2⟩ : ∃ r, r = l2 % n := ⟨_, rfl⟩
  obtain ⟨r3, hr3⟩ : ∃ r, r = l3 % n := ⟨_, rfl⟩
  have k2 : r2 < n := by rw [hr2]; exact Nat.mod_lt _ (by omega)
  have k3 : r3 < n := by rw [hr3]; exact Nat.mod_lt _ (by omega)
  have t2 : (l2 : Int).tmod (n : Int) = (r2 : Int) := by rw [Int.tmod_eq_emod_of_nonneg (by omega), hr2]; rfl
  have t3 : (l3 : Int).tmod (n : Int) = (r3 : Int) := by rw [Int.tmod_eq_emod_of_nonneg (by omega), hr3]; rfl
  clear hr2 hr3
  obtain ⟨p, q, hpq, hle, hlo, hhi⟩ : ∃ p q, ((decide (b + r3 < b + r2) = false ∧ p = b + r2 ∧ q = b + r3) ∨ (decide (b + r3 < b + r2) = true ∧ p = b + r3 ∧ q = b + r2)) ∧ p ≤ q ∧ b ≤ p ∧ q ≤ t := by
    by_cases h : b + r3 < b + r2
    · exact ⟨b + r3, b + r2, Or.inr ⟨decide_eq_true h, rfl, rfl⟩, by omega, by omega, by omega⟩
    · exact ⟨b + r2, b + r3, Or.inl ⟨decide_eq_false h, rfl, rfl⟩, by omega, by omega, by omega⟩
  have m1 := kb_mono hle hlo hhi
  have m2 := kt_mono hle hlo hhi
  have hL : q - p ≤ M := by omega
  have m3 := kt_mono (Nat.zero_le (q - p)) (Nat.le_refl 0) hL
  have m4 := ex_mono (Nat.zero_le (q - p)) (Nat.le_refl 0) hL
  exact grow_walk l0 l1 l2 l3 b t M n r2 r3 (b + r2) (b + r3) p q (q - p) _ _ _ _ _ _ _ _ q1
    (by rw [IntKind.wrap_u64]; omega) (by rw [IntKind.wrap_u64]; omega) (by omega) t2 t3 (by rw [IntKind.wrap_u64]; omega) (by rw [IntKind.wrap_u64]; omega) hpq
    (rounded_yes p q hle (by omega)) (rounded_yes b t hb ht) (decide_eq_false (by omega)) (decide_eq_false (by omega)) (by rw [IntKind.wrap_u64]; omega)
    (length_yes _ (by omega)) (length_yes _ (by omega)) (align_yes _ (by omega)) (align_yes _ (by omega)) (decide_eq_true m3) (decide_eq_true (by omega)) w
end Go.Proofs.Ytbojalfjbmiokaa
