/-
  The walk of the law BoundsWords: of any two words it returns true, and only makes new memory.
-/
import Derived.Test.YtbojalfjbmiokaaT9
set_option linter.unusedSimpArgs false
namespace Go.Proofs.Ytbojalfjbmiokaa
open Go.RowKit Go.Sort

/-- the lowest 32 bits. -/
def lo (x : Nat) : Nat := x % 4294967296
theorem lo_def (x : Nat) : lo x = x % 4294967296 := rfl
theorem wd_of (x : Nat) : wd (oB x) (oT x) (oE x) = lo x := by rw [wd_def, oB_def, oT_def, oE_def, lo_def]; omega
theorem lo_bits (x : Nat) (hx : x < 18446744073709551616) : bits .and .u64 (x : Int) 4294967295 = ((lo x : Nat) : Int) := by
  rw [show (4294967295 : Int) = ((2 ^ 32 - 1 : Nat) : Int) from by decide, u64_and_nat _ _ hx (by decide), and_mask, lo_def]
theorem of_eq_iff (x y : Nat) : (oB x = oB y ∧ oT x = oT y ∧ oE x = oE y) ↔ lo x = lo y := by
  rw [oB_def, oT_def, oE_def, oB_def, oT_def, oE_def, lo_def, lo_def]; omega
attribute [irreducible] lo
theorem run_eq3_same (a b c : Nat) (W : World) : (binOp .eql 24 (.agg #[.int .u64 a, .int .u64 b, .int .u64 c]) (.agg #[.int .u64 a, .int .u64 b, .int .u64 c])).run Try.prog W = .ok (.bool true) W := by
  simp [go_sem]
theorem run_eq3_other (a b c d e f : Nat) (h : ¬ (a = d ∧ b = e ∧ c = f)) (W : World) : (binOp .eql 24 (.agg #[.int .u64 a, .int .u64 b, .int .u64 c]) (.agg #[.int .u64 d, .int .u64 e, .int .u64 f])).run Try.prog W = .ok (.bool false) W := by
  by_cases h1 : a = d
  · by_cases h2 : b = e
    · have h3 : ¬ ((c : Int) = f) := by intro h'; exact h ⟨h1, h2, by omega⟩
      simp [go_sem, h1, h2, h3]
    · have h2' : ¬ ((b : Int) = e) := by omega
      simp [go_sem, h1, h2']
  · have h1' : ¬ ((a : Int) = d) := by omega
    simp [go_sem, h1']
theorem word_of (x : Nat) (w : World) :
    Calls Try.prog 11 #[.agg #[.int .u64 (oB x : Nat), .int .u64 (oT x : Nat), .int .u64 (oE x : Nat)]] w fun r w' => r = .returned (.int .u64 (lo x : Nat)) ∧ Below w.heap.size w w' := by
  have h := word_any (oB x) (oT x) (oE x) (by rw [oB_def]; omega) (by rw [oT_def]; omega) (by rw [oE_def]; omega) w
  rw [wd_of] at h
  exact h
theorem word_one (w : World) :
    Calls Try.prog 11 #[.agg #[.int .u64 1, .int .u64 1, .int .u64 1]] w fun r w' => r = .returned (.int .u64 67125249) ∧ Below w.heap.size w w' := by
  have h := word_any 1 1 1 (by decide) (by decide) (by decide) w
  rw [wd_def] at h
  exact h

theorem walk_BoundsWords (x0 : Nat) (b0 : x0 < 18446744073709551616) (x1 : Nat) (b1 : x1 < 18446744073709551616) (w : World) :
    Calls Try.prog 3 #[.int .u64 x0, .int .u64 x1] w fun e w' => e = .returned (.bool true) ∧ Below w.heap.size w w' := by
  have l0 := lo_bits x0 b0
  have l1 := lo_bits x1 b1
  have g1 : decide (((oB x0 : Nat) : Int) < 16384) = true := by rw [oB_def]; apply decide_eq_true; omega
  have g2 : decide (((oT x0 : Nat) : Int) < 4096) = true := by rw [oT_def]; apply decide_eq_true; omega
  have g3 : decide (((oE x0 : Nat) : Int) < 64) = true := by rw [oE_def]; apply decide_eq_true; omega
  have o0 := of_any x0 b0
  have o1 := of_any x1 b1
  have O0 := Lib.hid o0; clear o0
  by_cases h : lo x0 = lo x1
  · obtain ⟨e1, e2, e3⟩ := (of_eq_iff x0 x1).2 h
    rw [← e1, ← e2, ← e3] at o1
    rw [← h] at l1
    have O1 := Lib.hid o1; clear o1
    have hc := run_eq3_same (oB x0) (oT x0) (oE x0)
    clear h e1 e2 e3 b0 b1
    go_enter Try.func3, Try.ntmps3
    go_wp2_with (fail)
    (go_at_call 10; refine (O0.out _).mono ?_; rintro e w1 ⟨rfl, hb1⟩; obtain ⟨hc1, hf1⟩ := bcell hb1; have hq1 : Below w.heap.size w w1 := (by refine Below.trans ?_ (hb1.mono ?_); exact (by repeat' (first | (with_reducible exact Below.refl _ _) | (with_reducible assumption) | (with_reducible refine Below.alloc ?_ ?_ _) | (with_reducible refine Below.setCell ?_ ?_ _) | (with_reducible refine Below.drew ?_) | (with_reducible refine below_drewN ?_ _) | go_size)); go_size); have hs1 := hq1.size)
    go_wp2_with (fail)
    (go_at_call 10; refine (O1.out _).mono ?_; rintro e w2 ⟨rfl, hb2⟩; obtain ⟨hc2, hf2⟩ := bcell hb2; have hq2 : Below w.heap.size w w2 := (by refine Below.trans ?_ (hb2.mono ?_); exact (by repeat' (first | (with_reducible exact Below.refl _ _) | (with_reducible assumption) | (with_reducible refine Below.alloc ?_ ?_ _) | (with_reducible refine Below.setCell ?_ ?_ _) | (with_reducible refine Below.drew ?_) | (with_reducible refine below_drewN ?_ _) | go_size)); go_size); have hs2 := hq2.size)
    go_wp2_with (fail)
    (go_at_call 11; refine (word_of x0 _).mono ?_; rintro e w3 ⟨rfl, hb3⟩; obtain ⟨hc3, hf3⟩ := bcell hb3; have hq3 : Below w.heap.size w w3 := (by refine Below.trans ?_ (hb3.mono ?_); exact (by repeat' (first | (with_reducible exact Below.refl _ _) | (with_reducible assumption) | (with_reducible refine Below.alloc ?_ ?_ _) | (with_reducible refine Below.setCell ?_ ?_ _) | (with_reducible refine Below.drew ?_) | (with_reducible refine below_drewN ?_ _) | go_size)); go_size); have hs3 := hq3.size; have hz3w21 : w2.heap.size + 1 < w3.heap.size := (by have := hb3.size; (try simp at this); omega); have hz3w20 : w2.heap.size < w3.heap.size := (by have := hb3.size; (try simp at this); omega))
    go_wp2_with (fail)
    (go_at_call 11; refine (word_one _).mono ?_; rintro e w4 ⟨rfl, hb4⟩; obtain ⟨hc4, hf4⟩ := bcell hb4; have hq4 : Below w.heap.size w w4 := (by refine Below.trans ?_ (hb4.mono ?_); exact (by repeat' (first | (with_reducible exact Below.refl _ _) | (with_reducible assumption) | (with_reducible refine Below.alloc ?_ ?_ _) | (with_reducible refine Below.setCell ?_ ?_ _) | (with_reducible refine Below.drew ?_) | (with_reducible refine below_drewN ?_ _) | go_size)); go_size); have hs4 := hq4.size; have hz4w21 : w2.heap.size + 1 < w4.heap.size := (by have := hb4.size; (try simp at this); omega); have hz4w20 : w2.heap.size < w4.heap.size := (by have := hb4.size; (try simp at this); omega))
    go_wp2
    go_ret
    exact ⟨rfl, (by repeat' (first | (with_reducible exact Below.refl _ _) | (with_reducible assumption) | (with_reducible refine Below.alloc ?_ ?_ _) | (with_reducible refine Below.setCell ?_ ?_ _) | (with_reducible refine Below.drew ?_) | (with_reducible refine below_drewN ?_ _) | go_size))⟩
  · have hc := run_eq3_other (oB x0) (oT x0) (oE x0) (oB x1) (oT x1) (oE x1) (fun hh => h ((of_eq_iff x0 x1).1 hh))
    have hn : (((lo x0 : Nat) : Int) == ((lo x1 : Nat) : Int)) = false := by simp; omega
    have O1 := Lib.hid o1; clear o1
    clear h b0 b1
    go_enter Try.func3, Try.ntmps3
    go_wp2_with (fail)
    (go_at_call 10; refine (O0.out _).mono ?_; rintro e w1 ⟨rfl, hb1⟩; obtain ⟨hc1, hf1⟩ := bcell hb1; have hq1 : Below w.heap.size w w1 := (by refine Below.trans ?_ (hb1.mono ?_); exact (by repeat' (first | (with_reducible exact Below.refl _ _) | (with_reducible assumption) | (with_reducible refine Below.alloc ?_ ?_ _) | (with_reducible refine Below.setCell ?_ ?_ _) | (with_reducible refine Below.drew ?_) | (with_reducible refine below_drewN ?_ _) | go_size)); go_size); have hs1 := hq1.size)
    go_wp2_with (fail)
    (go_at_call 10; refine (O1.out _).mono ?_; rintro e w2 ⟨rfl, hb2⟩; obtain ⟨hc2, hf2⟩ := bcell hb2; have hq2 : Below w.heap.size w w2 := (by refine Below.trans ?_ (hb2.mono ?_); exact (by repeat' (first | (with_reducible exact Below.refl _ _) | (with_reducible assumption) | (with_reducible refine Below.alloc ?_ ?_ _) | (with_reducible refine Below.setCell ?_ ?_ _) | (with_reducible refine Below.drew ?_) | (with_reducible refine below_drewN ?_ _) | go_size)); go_size); have hs2 := hq2.size)
    go_wp2_with (fail)
    (go_at_call 11; refine (word_of x0 _).mono ?_; rintro e w3 ⟨rfl, hb3⟩; obtain ⟨hc3, hf3⟩ := bcell hb3; have hq3 : Below w.heap.size w w3 := (by refine Below.trans ?_ (hb3.mono ?_); exact (by repeat' (first | (with_reducible exact Below.refl _ _) | (with_reducible assumption) | (with_reducible refine Below.alloc ?_ ?_ _) | (with_reducible refine Below.setCell ?_ ?_ _) | (with_reducible refine Below.drew ?_) | (with_reducible refine below_drewN ?_ _) | go_size)); go_size); have hs3 := hq3.size; have hz3w21 : w2.heap.size + 1 < w3.heap.size := (by have := hb3.size; (try simp at this); omega); have hz3w20 : w2.heap.size < w3.heap.size := (by have := hb3.size; (try simp at this); omega))
    go_wp2_with (fail)
    (go_at_call 11; refine (word_one _).mono ?_; rintro e w4 ⟨rfl, hb4⟩; obtain ⟨hc4, hf4⟩ := bcell hb4; have hq4 : Below w.heap.size w w4 := (by refine Below.trans ?_ (hb4.mono ?_); exact (by repeat' (first | (with_reducible exact Below.refl _ _) | (with_reducible assumption) | (with_reducible refine Below.alloc ?_ ?_ _) | (with_reducible refine Below.setCell ?_ ?_ _) | (with_reducible refine Below.drew ?_) | (with_reducible refine below_drewN ?_ _) | go_size)); go_size); have hs4 := hq4.size; have hz4w21 : w2.heap.size + 1 < w4.heap.size := (by have := hb4.size; (try simp at this); omega); have hz4w20 : w2.heap.size < w4.heap.size := (by have := hb4.size; (try simp at this); omega))
    go_wp2
    go_ret
    exact ⟨rfl, (by repeat' (first | (with_reducible exact Below.refl _ _) | (with_reducible assumption) | (with_reducible refine Below.alloc ?_ ?_ _) | (with_reducible refine Below.setCell ?_ ?_ _) | (with_reducible refine Below.drew ?_) | (with_reducible refine below_drewN ?_ _) | go_size))⟩
end Go.Proofs.Ytbojalfjbmiokaa
