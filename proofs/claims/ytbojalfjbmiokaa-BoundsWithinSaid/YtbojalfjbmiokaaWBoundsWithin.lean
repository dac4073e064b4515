/-
  The walk of the law BoundsWithin: of any two numbers it returns true, and only makes new memory.
-/
import Derived.Test.YtbojalfjbmiokaaTG
set_option linter.unusedSimpArgs false
set_option linter.unusedVariables false
namespace Go.Proofs.Ytbojalfjbmiokaa
open Go.RowKit Go.Sort

theorem fB_kept {b t : Nat} (h : b ≤ t) : fB (kb b t) (kt b t) = fB b t := by
  have e1 : fB (kb b t) (kt b t) = qd (kb b t) (ex (kb b t) (kt b t) - 1) % 16384 := by unfold fB; rfl
  have e2 : fB b t = qd b (ex b t - 1) % 16384 := by unfold fB; rfl
  rw [e1, e2, ex_kept h]
  conv => lhs; rw [kb_def, qd_mul]
theorem fT_kept {b t : Nat} (h : b ≤ t) : fT (kb b t) (kt b t) = fT b t := by
  have e1 : fT (kb b t) (kt b t) = qu (kt b t) (ex (kb b t) (kt b t) - 1) % 4096 := by unfold fT; rfl
  have e2 : fT b t = qu t (ex b t - 1) % 4096 := by unfold fT; rfl
  rw [e1, e2, ex_kept h]
  conv => lhs; rw [kt_def, qu_mul]
theorem eq2_same (a b : Nat) : eq2 a b a b = true := by unfold eq2; simp
theorem rounded_kept {b t : Nat} (hb : b ≤ t) (ht : t ≤ 281474976710656) (w : World) :
    Calls Try.prog 16 #[.agg #[.int .u64 (kb b t : Nat), .int .u64 (kt b t : Nat)]] w fun r w' =>
      r = .returned (.tuple #[.agg #[.int .u64 (kb b t : Nat), .int .u64 (kt b t : Nat)], .bool true]) ∧ Below w.heap.size w w' := by
  have h := rounded_yes (kb b t) (kt b t) (kb_le_kt hb) (kt_le48 hb ht) w
  rw [kb_kept hb, kt_kept hb] at h
  exact h
theorem encode_kept {b t : Nat} (hb : b ≤ t) (ht : t ≤ 281474976710656) (w : World) :
    Calls Try.prog 17 #[.agg #[.int .u64 (kb b t : Nat), .int .u64 (kt b t : Nat)]] w fun r w' =>
      r = .returned (.tuple #[.agg #[.int .u64 (fB b t : Nat), .int .u64 (fT b t : Nat), .int .u64 (ex b t : Nat)], .bool true]) ∧ Below w.heap.size w w' := by
  have h := encode_yes (kb b t) (kt b t) (kb_le_kt hb) (kt_le48 hb ht) w
  rw [kb_kept hb, kt_kept hb, fB_kept hb, fT_kept hb, ex_kept hb, eq2_same] at h
  exact h
theorem length_4096 (w : World) : Calls Try.prog 18 #[.int .u64 4096] w fun r w' => r = .returned (.tuple #[.int .u64 4096, .bool true]) ∧ Below w.heap.size w w' := by
  have h := length_yes 4096 (by decide) w
  rw [kt_small (by decide) (by decide)] at h
  exact h

theorem walk_BoundsWithin (x0 : Nat) (b0 : x0 < 18446744073709551616) (x1 : Nat) (b1 : x1 < 18446744073709551616) (w : World) :
    Calls Try.prog 5 #[.int .u64 x0, .int .u64 x1] w fun e w' => e = .returned (.bool true) ∧ Below w.heap.size w w' := by
  have hsp := span_any x0 x1
  have hb := s1_le x0 x1
  have ht := s2_le x0 x1
  generalize s1 x0 x1 = b at *
  generalize s2 x0 x1 = t at *
  have HS := Lib.hid hsp; clear hsp
  have k1 := kb_le b t
  have k2 := kt_ge b t
  have k3 := kt_le48 hb ht
  have n1 := kb_near b t
  have n2 := kt_near b t
  have hle := ex_le hb ht
  have hcmp := run_eq2 (kb b t) (kt b t) b t
  have hcmp2 := run_eq2 (kb b t) (kt b t) (kb b t) (kt b t)
  rw [eq2_same] at hcmp2
  have hcmp3 := run_eq3_same (fB b t) (fT b t) (ex b t)
  have g1 : decide (b < kb b t) = false := by apply decide_eq_false; omega
  have g2 : decide (kt b t < t) = false := by apply decide_eq_false; omega
  by_cases hf : 0 < ex b t
  · have hpw : (2 : Nat) ^ (ex b t - 1) ≤ 68719476736 := by
      have : (2 : Nat) ^ (ex b t - 1) ≤ 2 ^ 36 := Nat.pow_le_pow_right (by decide) (by omega)
      simpa using this
    obtain ⟨PW, hP⟩ : ∃ PW, PW = 2 ^ (ex b t - 1) := ⟨_, rfl⟩
    have hw : IntKind.u64.wrap (2 ^ (ex b t - 1)) = (PW : Int) := by
      have e : (2 : Int) ^ (ex b t - 1) = ((2 ^ (ex b t - 1) : Nat) : Int) := by simp
      rw [e, ← hP, IntKind.wrap_u64]; omega
    rw [← hP] at n1 n2
    have g3 : decide ((PW : Int) ≤ (b : Int) - ((kb b t : Nat) : Int)) = false := by apply decide_eq_false; omega
    have g4 : decide ((PW : Int) ≤ ((kt b t : Nat) : Int) - (t : Int)) = false := by apply decide_eq_false; omega
    have e1 : ((ex b t : Nat) : Int) - 1 = ((ex b t - 1 : Nat) : Int) := by omega
    have g0 : decide ((0 : Int) < ((ex b t : Nat) : Int)) = true := by apply decide_eq_true; omega
    clear hP n1 n2 hpw b0 b1
    go_enter Try.func5, Try.ntmps5
    go_wp2_with (fail)
    (go_at_call 15; refine (HS.out _).mono ?_; rintro e w1 ⟨rfl, hb1⟩; obtain ⟨hc1, hf1⟩ := bcell hb1; have hq1 : Below w.heap.size w w1 := (by refine Below.trans ?_ (hb1.mono ?_); exact (by repeat' (first | (with_reducible exact Below.refl _ _) | (with_reducible assumption) | (with_reducible refine Below.alloc ?_ ?_ _) | (with_reducible refine Below.setCell ?_ ?_ _) | (with_reducible refine Below.drew ?_) | (with_reducible refine below_drewN ?_ _) | go_size)); go_size); have hs1 := hq1.size)
    go_wp2_with (fail)
    (go_at_call 16; refine (rounded_yes b t hb ht _).mono ?_; rintro e w2 ⟨rfl, hb2⟩; obtain ⟨hc2, hf2⟩ := bcell hb2; have hq2 : Below w.heap.size w w2 := (by refine Below.trans ?_ (hb2.mono ?_); exact (by repeat' (first | (with_reducible exact Below.refl _ _) | (with_reducible assumption) | (with_reducible refine Below.alloc ?_ ?_ _) | (with_reducible refine Below.setCell ?_ ?_ _) | (with_reducible refine Below.drew ?_) | (with_reducible refine below_drewN ?_ _) | go_size)); go_size); have hs2 := hq2.size; have hz2w10 : w1.heap.size < w2.heap.size := (by have := hb2.size; (try simp at this); omega))
    go_wp2_with (fail)
    (go_at_call 17; refine (encode_yes b t hb ht _).mono ?_; rintro e w3 ⟨rfl, hb3⟩; obtain ⟨hc3, hf3⟩ := bcell hb3; have hq3 : Below w.heap.size w w3 := (by refine Below.trans ?_ (hb3.mono ?_); exact (by repeat' (first | (with_reducible exact Below.refl _ _) | (with_reducible assumption) | (with_reducible refine Below.alloc ?_ ?_ _) | (with_reducible refine Below.setCell ?_ ?_ _) | (with_reducible refine Below.drew ?_) | (with_reducible refine below_drewN ?_ _) | go_size)); go_size); have hs3 := hq3.size; have hz3w20 : w2.heap.size < w3.heap.size := (by have := hb3.size; (try simp at this); omega); have hz3w10 : w1.heap.size < w3.heap.size := (by have := hb3.size; (try simp at this); omega))
    go_wp2_with (fail)
    (go_at_call 16; refine (rounded_kept hb ht _).mono ?_; rintro e w4 ⟨rfl, hb4⟩; obtain ⟨hc4, hf4⟩ := bcell hb4; have hq4 : Below w.heap.size w w4 := (by refine Below.trans ?_ (hb4.mono ?_); exact (by repeat' (first | (with_reducible exact Below.refl _ _) | (with_reducible assumption) | (with_reducible refine Below.alloc ?_ ?_ _) | (with_reducible refine Below.setCell ?_ ?_ _) | (with_reducible refine Below.drew ?_) | (with_reducible refine below_drewN ?_ _) | go_size)); go_size); have hs4 := hq4.size; have hz4w30 : w3.heap.size < w4.heap.size := (by have := hb4.size; (try simp at this); omega); have hz4w20 : w2.heap.size < w4.heap.size := (by have := hb4.size; (try simp at this); omega); have hz4w10 : w1.heap.size < w4.heap.size := (by have := hb4.size; (try simp at this); omega))
    go_wp2_with (fail)
    (go_at_call 17; refine (encode_kept hb ht _).mono ?_; rintro e w5 ⟨rfl, hb5⟩; obtain ⟨hc5, hf5⟩ := bcell hb5; have hq5 : Below w.heap.size w w5 := (by refine Below.trans ?_ (hb5.mono ?_); exact (by repeat' (first | (with_reducible exact Below.refl _ _) | (with_reducible assumption) | (with_reducible refine Below.alloc ?_ ?_ _) | (with_reducible refine Below.setCell ?_ ?_ _) | (with_reducible refine Below.drew ?_) | (with_reducible refine below_drewN ?_ _) | go_size)); go_size); have hs5 := hq5.size; have hz5w40 : w4.heap.size < w5.heap.size := (by have := hb5.size; (try simp at this); omega); have hz5w30 : w3.heap.size < w5.heap.size := (by have := hb5.size; (try simp at this); omega); have hz5w20 : w2.heap.size < w5.heap.size := (by have := hb5.size; (try simp at this); omega); have hz5w10 : w1.heap.size < w5.heap.size := (by have := hb5.size; (try simp at this); omega))
    go_wp2_with (fail)
    (go_at_call 18; refine (length_4096 _).mono ?_; rintro e w6 ⟨rfl, hb6⟩; obtain ⟨hc6, hf6⟩ := bcell hb6; have hq6 : Below w.heap.size w w6 := (by refine Below.trans ?_ (hb6.mono ?_); exact (by repeat' (first | (with_reducible exact Below.refl _ _) | (with_reducible assumption) | (with_reducible refine Below.alloc ?_ ?_ _) | (with_reducible refine Below.setCell ?_ ?_ _) | (with_reducible refine Below.drew ?_) | (with_reducible refine below_drewN ?_ _) | go_size)); go_size); have hs6 := hq6.size; have hz6w50 : w5.heap.size < w6.heap.size := (by have := hb6.size; (try simp at this); omega); have hz6w40 : w4.heap.size < w6.heap.size := (by have := hb6.size; (try simp at this); omega); have hz6w30 : w3.heap.size < w6.heap.size := (by have := hb6.size; (try simp at this); omega); have hz6w20 : w2.heap.size < w6.heap.size := (by have := hb6.size; (try simp at this); omega); have hz6w10 : w1.heap.size < w6.heap.size := (by have := hb6.size; (try simp at this); omega))
    go_wp2
    go_ret
    exact ⟨rfl, (by repeat' (first | (with_reducible exact Below.refl _ _) | (with_reducible assumption) | (with_reducible refine Below.alloc ?_ ?_ _) | (with_reducible refine Below.setCell ?_ ?_ _) | (with_reducible refine Below.drew ?_) | (with_reducible refine below_drewN ?_ _) | go_size))⟩
  · have e0 : ex b t = 0 := by omega
    rw [e0] at n1 n2
    have g3 : decide ((1 : Int) ≤ (b : Int) - ((kb b t : Nat) : Int)) = false := by apply decide_eq_false; omega
    have g4 : decide ((1 : Int) ≤ ((kt b t : Nat) : Int) - (t : Int)) = false := by apply decide_eq_false; omega
    clear e0 n1 n2 b0 b1
    go_enter Try.func5, Try.ntmps5
    go_wp2_with (fail)
    (go_at_call 15; refine (HS.out _).mono ?_; rintro e w1 ⟨rfl, hb1⟩; obtain ⟨hc1, hf1⟩ := bcell hb1; have hq1 : Below w.heap.size w w1 := (by refine Below.trans ?_ (hb1.mono ?_); exact (by repeat' (first | (with_reducible exact Below.refl _ _) | (with_reducible assumption) | (with_reducible refine Below.alloc ?_ ?_ _) | (with_reducible refine Below.setCell ?_ ?_ _) | (with_reducible refine Below.drew ?_) | (with_reducible refine below_drewN ?_ _) | go_size)); go_size); have hs1 := hq1.size)
    go_wp2_with (fail)
    (go_at_call 16; refine (rounded_yes b t hb ht _).mono ?_; rintro e w2 ⟨rfl, hb2⟩; obtain ⟨hc2, hf2⟩ := bcell hb2; have hq2 : Below w.heap.size w w2 := (by refine Below.trans ?_ (hb2.mono ?_); exact (by repeat' (first | (with_reducible exact Below.refl _ _) | (with_reducible assumption) | (with_reducible refine Below.alloc ?_ ?_ _) | (with_reducible refine Below.setCell ?_ ?_ _) | (with_reducible refine Below.drew ?_) | (with_reducible refine below_drewN ?_ _) | go_size)); go_size); have hs2 := hq2.size; have hz2w10 : w1.heap.size < w2.heap.size := (by have := hb2.size; (try simp at this); omega))
    go_wp2_with (fail)
    (go_at_call 17; refine (encode_yes b t hb ht _).mono ?_; rintro e w3 ⟨rfl, hb3⟩; obtain ⟨hc3, hf3⟩ := bcell hb3; have hq3 : Below w.heap.size w w3 := (by refine Below.trans ?_ (hb3.mono ?_); exact (by repeat' (first | (with_reducible exact Below.refl _ _) | (with_reducible assumption) | (with_reducible refine Below.alloc ?_ ?_ _) | (with_reducible refine Below.setCell ?_ ?_ _) | (with_reducible refine Below.drew ?_) | (with_reducible refine below_drewN ?_ _) | go_size)); go_size); have hs3 := hq3.size; have hz3w20 : w2.heap.size < w3.heap.size := (by have := hb3.size; (try simp at this); omega); have hz3w10 : w1.heap.size < w3.heap.size := (by have := hb3.size; (try simp at this); omega))
    go_wp2_with (fail)
    (go_at_call 16; refine (rounded_kept hb ht _).mono ?_; rintro e w4 ⟨rfl, hb4⟩; obtain ⟨hc4, hf4⟩ := bcell hb4; have hq4 : Below w.heap.size w w4 := (by refine Below.trans ?_ (hb4.mono ?_); exact (by repeat' (first | (with_reducible exact Below.refl _ _) | (with_reducible assumption) | (with_reducible refine Below.alloc ?_ ?_ _) | (with_reducible refine Below.setCell ?_ ?_ _) | (with_reducible refine Below.drew ?_) | (with_reducible refine below_drewN ?_ _) | go_size)); go_size); have hs4 := hq4.size; have hz4w30 : w3.heap.size < w4.heap.size := (by have := hb4.size; (try simp at this); omega); have hz4w20 : w2.heap.size < w4.heap.size := (by have := hb4.size; (try simp at this); omega); have hz4w10 : w1.heap.size < w4.heap.size := (by have := hb4.size; (try simp at this); omega))
    go_wp2_with (fail)
    (go_at_call 17; refine (encode_kept hb ht _).mono ?_; rintro e w5 ⟨rfl, hb5⟩; obtain ⟨hc5, hf5⟩ := bcell hb5; have hq5 : Below w.heap.size w w5 := (by refine Below.trans ?_ (hb5.mono ?_); exact (by repeat' (first | (with_reducible exact Below.refl _ _) | (with_reducible assumption) | (with_reducible refine Below.alloc ?_ ?_ _) | (with_reducible refine Below.setCell ?_ ?_ _) | (with_reducible refine Below.drew ?_) | (with_reducible refine below_drewN ?_ _) | go_size)); go_size); have hs5 := hq5.size; have hz5w40 : w4.heap.size < w5.heap.size := (by have := hb5.size; (try simp at this); omega); have hz5w30 : w3.heap.size < w5.heap.size := (by have := hb5.size; (try simp at this); omega); have hz5w20 : w2.heap.size < w5.heap.size := (by have := hb5.size; (try simp at this); omega); have hz5w10 : w1.heap.size < w5.heap.size := (by have := hb5.size; (try simp at this); omega))
    go_wp2_with (fail)
    (go_at_call 18; refine (length_4096 _).mono ?_; rintro e w6 ⟨rfl, hb6⟩; obtain ⟨hc6, hf6⟩ := bcell hb6; have hq6 : Below w.heap.size w w6 := (by refine Below.trans ?_ (hb6.mono ?_); exact (by repeat' (first | (with_reducible exact Below.refl _ _) | (with_reducible assumption) | (with_reducible refine Below.alloc ?_ ?_ _) | (with_reducible refine Below.setCell ?_ ?_ _) | (with_reducible refine Below.drew ?_) | (with_reducible refine below_drewN ?_ _) | go_size)); go_size); have hs6 := hq6.size; have hz6w50 : w5.heap.size < w6.heap.size := (by have := hb6.size; (try simp at this); omega); have hz6w40 : w4.heap.size < w6.heap.size := (by have := hb6.size; (try simp at this); omega); have hz6w30 : w3.heap.size < w6.heap.size := (by have := hb6.size; (try simp at this); omega); have hz6w20 : w2.heap.size < w6.heap.size := (by have := hb6.size; (try simp at this); omega); have hz6w10 : w1.heap.size < w6.heap.size := (by have := hb6.size; (try simp at this); omega))
    go_wp2
    go_ret
    exact ⟨rfl, (by repeat' (first | (with_reducible exact Below.refl _ _) | (with_reducible assumption) | (with_reducible refine Below.alloc ?_ ?_ _) | (with_reducible refine Below.setCell ?_ ?_ _) | (with_reducible refine Below.drew ?_) | (with_reducible refine below_drewN ?_ _) | go_size))⟩
end Go.Proofs.Ytbojalfjbmiokaa
