/-
  Contracts of the reference's Within, Make, Root: of any capabilities and views: the same answers as the program's.
-/
import Derived.Test.YtinckicchakifaaR5
set_option linter.unusedSimpArgs false
set_option linter.unusedVariables false
namespace Go.Proofs.Ytinckicchakifaa
open Go.RowKit Go.Sort

theorem pw_and (p q : Nat) (hp : p < 2 ^ 64) (hq : q < 2 ^ 64) : (bits .and .u64 (p : Int) (q : Int) == (p : Int)) = pw p q := by
  rw [pw_def, u64_and_nat p q hp hq, u64_andNot_nat p q hp hq, Bool.eq_iff_iff]
  have e : (18446744073709551615 - q) = 2 ^ 64 - 1 - q := by omega
  rw [e]
  simp only [beq_iff_eq]
  constructor
  · intro h
    have h' : p &&& q = p := by omega
    have : p &&& (2 ^ 64 - 1 - q) = 0 := by
      apply Nat.eq_of_testBit_eq
      intro i
      have hi := congrArg (fun x => Nat.testBit x i) h'
      simp only [Nat.testBit_and] at hi
      rw [Nat.testBit_and, not_bit q i hq, Nat.zero_testBit]
      cases hpi : p.testBit i <;> cases hqi : q.testBit i <;> simp [hpi, hqi] at hi ⊢
    rw [this]; rfl
  · intro h
    have h' : p &&& (2 ^ 64 - 1 - q) = 0 := by omega
    have : p &&& q = p := by
      apply Nat.eq_of_testBit_eq
      intro i
      have hi := congrArg (fun x => Nat.testBit x i) h'
      simp only [Nat.testBit_and, not_bit q i hq, Nat.zero_testBit] at hi
      rw [Nat.testBit_and]
      by_cases h64 : i < 64
      · cases hpi : p.testBit i <;> cases hqi : q.testBit i <;> simp [hpi, hqi, h64] at hi ⊢
      · rw [bit_high p i hp h64]; rfl
    rw [this]
set_option maxHeartbeats 4000000 in
theorem rwithin_walk (t1 : Bool) (m a : Nat) (t2 : Bool) (n b B1 T1 P1 Y1 B2 T2 P2 Y2 : Nat) (k1 k2 o1 o2 o3 o4 o5 : Bool)
    (q1 : ∀ w, Calls Try.prog 22 #[.agg #[.bool t1, .int .u64 (m : Nat), .int .u64 (a : Nat)]] w fun r w' => r = .returned (.tuple #[.agg #[.int .u64 (B1 : Nat), .int .u64 (T1 : Nat), .int .u64 (P1 : Nat), .int .u64 (Y1 : Nat)], .bool k1]) ∧ Below w.heap.size w w')
    (q2 : ∀ w, Calls Try.prog 22 #[.agg #[.bool t2, .int .u64 (n : Nat), .int .u64 (b : Nat)]] w fun r w' => r = .returned (.tuple #[.agg #[.int .u64 (B2 : Nat), .int .u64 (T2 : Nat), .int .u64 (P2 : Nat), .int .u64 (Y2 : Nat)], .bool k2]) ∧ Below w.heap.size w w')
    (q3 : ∀ w, Calls Try.prog 23 #[.agg #[.bool t1, .int .u64 (m : Nat), .int .u64 (a : Nat)]] w fun r w' => r = .returned (.bool o1) ∧ Below w.heap.size w w')
    (q4 : ∀ w, Calls Try.prog 23 #[.agg #[.bool t2, .int .u64 (n : Nat), .int .u64 (b : Nat)]] w fun r w' => r = .returned (.bool o2) ∧ Below w.heap.size w w')
    (g3 : decide (B2 ≤ B1) = o3) (g4 : decide (T1 ≤ T2) = o4) (g5 : (bits .and .u64 (P1 : Int) (P2 : Int) == (P1 : Int)) = o5) (w : World) :
    Calls Try.prog 24 #[.agg #[.bool t1, .int .u64 (m : Nat), .int .u64 (a : Nat)], .agg #[.bool t2, .int .u64 (n : Nat), .int .u64 (b : Nat)]] w fun r w' => r = .returned (.bool (o1 && (o2 && (o3 && (o4 && o5))))) ∧ Below w.heap.size w w' := by
  have Q1 := Lib.hid q1; clear q1
  have Q2 := Lib.hid q2; clear q2
  have Q3 := Lib.hid q3; clear q3
  have Q4 := Lib.hid q4; clear q4
  cases o1
  · clear g3 g4 g5
    go_enter Try.func24, Try.ntmps24
    go_wp2_with (fail)
    (go_at_call 22; refine (Q1.out _).mono ?_; rintro e w1 ⟨rfl, hb1⟩; obtain ⟨hc1, hf1⟩ := bcell hb1; have hq1 : Below w.heap.size w w1 := (by refine Below.trans ?_ (hb1.mono ?_); exact (by repeat' (first | (with_reducible exact Below.refl _ _) | (with_reducible assumption) | (with_reducible refine Below.alloc ?_ ?_ _) | (with_reducible refine Below.setCell ?_ ?_ _) | (with_reducible refine Below.drew ?_) | (with_reducible refine below_drewN ?_ _) | go_size)); go_size); have hs1 := hq1.size; have hz1w1 : w.heap.size + 1 < w1.heap.size := (by have := hb1.size; (try simp at this); omega); have hz1w0 : w.heap.size < w1.heap.size := (by have := hb1.size; (try simp at this); omega))
    go_wp2_with (fail)
    (go_at_call 22; refine (Q2.out _).mono ?_; rintro e w2 ⟨rfl, hb2⟩; obtain ⟨hc2, hf2⟩ := bcell hb2; have hq2 : Below w.heap.size w w2 := (by refine Below.trans ?_ (hb2.mono ?_); exact (by repeat' (first | (with_reducible exact Below.refl _ _) | (with_reducible assumption) | (with_reducible refine Below.alloc ?_ ?_ _) | (with_reducible refine Below.setCell ?_ ?_ _) | (with_reducible refine Below.drew ?_) | (with_reducible refine below_drewN ?_ _) | go_size)); go_size); have hs2 := hq2.size; have hz2w10 : w1.heap.size < w2.heap.size := (by have := hb2.size; (try simp at this); omega); have hz2w1 : w.heap.size + 1 < w2.heap.size := (by have := hb2.size; (try simp at this); omega); have hz2w0 : w.heap.size < w2.heap.size := (by have := hb2.size; (try simp at this); omega))
    go_wp2_with (fail)
    (go_at_call 23; refine (Q3.out _).mono ?_; rintro e w3 ⟨rfl, hb3⟩; obtain ⟨hc3, hf3⟩ := bcell hb3; have hq3 : Below w.heap.size w w3 := (by refine Below.trans ?_ (hb3.mono ?_); exact (by repeat' (first | (with_reducible exact Below.refl _ _) | (with_reducible assumption) | (with_reducible refine Below.alloc ?_ ?_ _) | (with_reducible refine Below.setCell ?_ ?_ _) | (with_reducible refine Below.drew ?_) | (with_reducible refine below_drewN ?_ _) | go_size)); go_size); have hs3 := hq3.size; have hz3w20 : w2.heap.size < w3.heap.size := (by have := hb3.size; (try simp at this); omega); have hz3w10 : w1.heap.size < w3.heap.size := (by have := hb3.size; (try simp at this); omega); have hz3w1 : w.heap.size + 1 < w3.heap.size := (by have := hb3.size; (try simp at this); omega); have hz3w0 : w.heap.size < w3.heap.size := (by have := hb3.size; (try simp at this); omega))
    go_wp2_with (go_at_call 23; refine (Q4.out _).mono ?_; rintro e w4 ⟨rfl, hb4⟩; obtain ⟨hc4, hf4⟩ := bcell hb4; have hq4 : Below w.heap.size w w4 := (by refine Below.trans ?_ (hb4.mono ?_); exact (by repeat' (first | (with_reducible exact Below.refl _ _) | (with_reducible assumption) | (with_reducible refine Below.alloc ?_ ?_ _) | (with_reducible refine Below.setCell ?_ ?_ _) | (with_reducible refine Below.drew ?_) | (with_reducible refine below_drewN ?_ _) | go_size)); go_size); have hs4 := hq4.size; have hz4w20 : w2.heap.size < w4.heap.size := (by have := hb4.size; (try simp at this); omega); have hz4w10 : w1.heap.size < w4.heap.size := (by have := hb4.size; (try simp at this); omega); have hz4w1 : w.heap.size + 1 < w4.heap.size := (by have := hb4.size; (try simp at this); omega); have hz4w0 : w.heap.size < w4.heap.size := (by have := hb4.size; (try simp at this); omega))
    go_ret
    exact ⟨rfl, (by repeat' (first | (with_reducible exact Below.refl _ _) | (with_reducible assumption) | (with_reducible refine Below.alloc ?_ ?_ _) | (with_reducible refine Below.setCell ?_ ?_ _) | (with_reducible refine Below.drew ?_) | (with_reducible refine below_drewN ?_ _) | go_size))⟩
  cases o2
  · clear g3 g4 g5
    go_enter Try.func24, Try.ntmps24
    go_wp2_with (fail)
    (go_at_call 22; refine (Q1.out _).mono ?_; rintro e w1 ⟨rfl, hb1⟩; obtain ⟨hc1, hf1⟩ := bcell hb1; have hq1 : Below w.heap.size w w1 := (by refine Below.trans ?_ (hb1.mono ?_); exact (by repeat' (first | (with_reducible exact Below.refl _ _) | (with_reducible assumption) | (with_reducible refine Below.alloc ?_ ?_ _) | (with_reducible refine Below.setCell ?_ ?_ _) | (with_reducible refine Below.drew ?_) | (with_reducible refine below_drewN ?_ _) | go_size)); go_size); have hs1 := hq1.size; have hz1w1 : w.heap.size + 1 < w1.heap.size := (by have := hb1.size; (try simp at this); omega); have hz1w0 : w.heap.size < w1.heap.size := (by have := hb1.size; (try simp at this); omega))
    go_wp2_with (fail)
    (go_at_call 22; refine (Q2.out _).mono ?_; rintro e w2 ⟨rfl, hb2⟩; obtain ⟨hc2, hf2⟩ := bcell hb2; have hq2 : Below w.heap.size w w2 := (by refine Below.trans ?_ (hb2.mono ?_); exact (by repeat' (first | (with_reducible exact Below.refl _ _) | (with_reducible assumption) | (with_reducible refine Below.alloc ?_ ?_ _) | (with_reducible refine Below.setCell ?_ ?_ _) | (with_reducible refine Below.drew ?_) | (with_reducible refine below_drewN ?_ _) | go_size)); go_size); have hs2 := hq2.size; have hz2w10 : w1.heap.size < w2.heap.size := (by have := hb2.size; (try simp at this); omega); have hz2w1 : w.heap.size + 1 < w2.heap.size := (by have := hb2.size; (try simp at this); omega); have hz2w0 : w.heap.size < w2.heap.size := (by have := hb2.size; (try simp at this); omega))
    go_wp2_with (fail)
    (go_at_call 23; refine (Q3.out _).mono ?_; rintro e w3 ⟨rfl, hb3⟩; obtain ⟨hc3, hf3⟩ := bcell hb3; have hq3 : Below w.heap.size w w3 := (by refine Below.trans ?_ (hb3.mono ?_); exact (by repeat' (first | (with_reducible exact Below.refl _ _) | (with_reducible assumption) | (with_reducible refine Below.alloc ?_ ?_ _) | (with_reducible refine Below.setCell ?_ ?_ _) | (with_reducible refine Below.drew ?_) | (with_reducible refine below_drewN ?_ _) | go_size)); go_size); have hs3 := hq3.size; have hz3w20 : w2.heap.size < w3.heap.size := (by have := hb3.size; (try simp at this); omega); have hz3w10 : w1.heap.size < w3.heap.size := (by have := hb3.size; (try simp at this); omega); have hz3w1 : w.heap.size + 1 < w3.heap.size := (by have := hb3.size; (try simp at this); omega); have hz3w0 : w.heap.size < w3.heap.size := (by have := hb3.size; (try simp at this); omega))
    go_wp2_with (go_at_call 23; refine (Q4.out _).mono ?_; rintro e w4 ⟨rfl, hb4⟩; obtain ⟨hc4, hf4⟩ := bcell hb4; have hq4 : Below w.heap.size w w4 := (by refine Below.trans ?_ (hb4.mono ?_); exact (by repeat' (first | (with_reducible exact Below.refl _ _) | (with_reducible assumption) | (with_reducible refine Below.alloc ?_ ?_ _) | (with_reducible refine Below.setCell ?_ ?_ _) | (with_reducible refine Below.drew ?_) | (with_reducible refine below_drewN ?_ _) | go_size)); go_size); have hs4 := hq4.size; have hz4w20 : w2.heap.size < w4.heap.size := (by have := hb4.size; (try simp at this); omega); have hz4w10 : w1.heap.size < w4.heap.size := (by have := hb4.size; (try simp at this); omega); have hz4w1 : w.heap.size + 1 < w4.heap.size := (by have := hb4.size; (try simp at this); omega); have hz4w0 : w.heap.size < w4.heap.size := (by have := hb4.size; (try simp at this); omega))
    go_ret
    exact ⟨rfl, (by repeat' (first | (with_reducible exact Below.refl _ _) | (with_reducible assumption) | (with_reducible refine Below.alloc ?_ ?_ _) | (with_reducible refine Below.setCell ?_ ?_ _) | (with_reducible refine Below.drew ?_) | (with_reducible refine below_drewN ?_ _) | go_size))⟩
  cases o3
  · clear g4 g5
    go_enter Try.func24, Try.ntmps24
    go_wp2_with (fail)
    (go_at_call 22; refine (Q1.out _).mono ?_; rintro e w1 ⟨rfl, hb1⟩; obtain ⟨hc1, hf1⟩ := bcell hb1; have hq1 : Below w.heap.size w w1 := (by refine Below.trans ?_ (hb1.mono ?_); exact (by repeat' (first | (with_reducible exact Below.refl _ _) | (with_reducible assumption) | (with_reducible refine Below.alloc ?_ ?_ _) | (with_reducible refine Below.setCell ?_ ?_ _) | (with_reducible refine Below.drew ?_) | (with_reducible refine below_drewN ?_ _) | go_size)); go_size); have hs1 := hq1.size; have hz1w1 : w.heap.size + 1 < w1.heap.size := (by have := hb1.size; (try simp at this); omega); have hz1w0 : w.heap.size < w1.heap.size := (by have := hb1.size; (try simp at this); omega))
    go_wp2_with (fail)
    (go_at_call 22; refine (Q2.out _).mono ?_; rintro e w2 ⟨rfl, hb2⟩; obtain ⟨hc2, hf2⟩ := bcell hb2; have hq2 : Below w.heap.size w w2 := (by refine Below.trans ?_ (hb2.mono ?_); exact (by repeat' (first | (with_reducible exact Below.refl _ _) | (with_reducible assumption) | (with_reducible refine Below.alloc ?_ ?_ _) | (with_reducible refine Below.setCell ?_ ?_ _) | (with_reducible refine Below.drew ?_) | (with_reducible refine below_drewN ?_ _) | go_size)); go_size); have hs2 := hq2.size; have hz2w10 : w1.heap.size < w2.heap.size := (by have := hb2.size; (try simp at this); omega); have hz2w1 : w.heap.size + 1 < w2.heap.size := (by have := hb2.size; (try simp at this); omega); have hz2w0 : w.heap.size < w2.heap.size := (by have := hb2.size; (try simp at this); omega))
    go_wp2_with (fail)
    (go_at_call 23; refine (Q3.out _).mono ?_; rintro e w3 ⟨rfl, hb3⟩; obtain ⟨hc3, hf3⟩ := bcell hb3; have hq3 : Below w.heap.size w w3 := (by refine Below.trans ?_ (hb3.mono ?_); exact (by repeat' (first | (with_reducible exact Below.refl _ _) | (with_reducible assumption) | (with_reducible refine Below.alloc ?_ ?_ _) | (with_reducible refine Below.setCell ?_ ?_ _) | (with_reducible refine Below.drew ?_) | (with_reducible refine below_drewN ?_ _) | go_size)); go_size); have hs3 := hq3.size; have hz3w20 : w2.heap.size < w3.heap.size := (by have := hb3.size; (try simp at this); omega); have hz3w10 : w1.heap.size < w3.heap.size := (by have := hb3.size; (try simp at this); omega); have hz3w1 : w.heap.size + 1 < w3.heap.size := (by have := hb3.size; (try simp at this); omega); have hz3w0 : w.heap.size < w3.heap.size := (by have := hb3.size; (try simp at this); omega))
    go_wp2_with (go_at_call 23; refine (Q4.out _).mono ?_; rintro e w4 ⟨rfl, hb4⟩; obtain ⟨hc4, hf4⟩ := bcell hb4; have hq4 : Below w.heap.size w w4 := (by refine Below.trans ?_ (hb4.mono ?_); exact (by repeat' (first | (with_reducible exact Below.refl _ _) | (with_reducible assumption) | (with_reducible refine Below.alloc ?_ ?_ _) | (with_reducible refine Below.setCell ?_ ?_ _) | (with_reducible refine Below.drew ?_) | (with_reducible refine below_drewN ?_ _) | go_size)); go_size); have hs4 := hq4.size; have hz4w20 : w2.heap.size < w4.heap.size := (by have := hb4.size; (try simp at this); omega); have hz4w10 : w1.heap.size < w4.heap.size := (by have := hb4.size; (try simp at this); omega); have hz4w1 : w.heap.size + 1 < w4.heap.size := (by have := hb4.size; (try simp at this); omega); have hz4w0 : w.heap.size < w4.heap.size := (by have := hb4.size; (try simp at this); omega))
    go_ret
    exact ⟨rfl, (by repeat' (first | (with_reducible exact Below.refl _ _) | (with_reducible assumption) | (with_reducible refine Below.alloc ?_ ?_ _) | (with_reducible refine Below.setCell ?_ ?_ _) | (with_reducible refine Below.drew ?_) | (with_reducible refine below_drewN ?_ _) | go_size))⟩
  cases o4
  · clear g5
    go_enter Try.func24, Try.ntmps24
    go_wp2_with (fail)
    (go_at_call 22; refine (Q1.out _).mono ?_; rintro e w1 ⟨rfl, hb1⟩; obtain ⟨hc1, hf1⟩ := bcell hb1; have hq1 : Below w.heap.size w w1 := (by refine Below.trans ?_ (hb1.mono ?_); exact (by repeat' (first | (with_reducible exact Below.refl _ _) | (with_reducible assumption) | (with_reducible refine Below.alloc ?_ ?_ _) | (with_reducible refine Below.setCell ?_ ?_ _) | (with_reducible refine Below.drew ?_) | (with_reducible refine below_drewN ?_ _) | go_size)); go_size); have hs1 := hq1.size; have hz1w1 : w.heap.size + 1 < w1.heap.size := (by have := hb1.size; (try simp at this); omega); have hz1w0 : w.heap.size < w1.heap.size := (by have := hb1.size; (try simp at this); omega))
    go_wp2_with (fail)
    (go_at_call 22; refine (Q2.out _).mono ?_; rintro e w2 ⟨rfl, hb2⟩; obtain ⟨hc2, hf2⟩ := bcell hb2; have hq2 : Below w.heap.size w w2 := (by refine Below.trans ?_ (hb2.mono ?_); exact (by repeat' (first | (with_reducible exact Below.refl _ _) | (with_reducible assumption) | (with_reducible refine Below.alloc ?_ ?_ _) | (with_reducible refine Below.setCell ?_ ?_ _) | (with_reducible refine Below.drew ?_) | (with_reducible refine below_drewN ?_ _) | go_size)); go_size); have hs2 := hq2.size; have hz2w10 : w1.heap.size < w2.heap.size := (by have := hb2.size; (try simp at this); omega); have hz2w1 : w.heap.size + 1 < w2.heap.size := (by have := hb2.size; (try simp at this); omega); have hz2w0 : w.heap.size < w2.heap.size := (by have := hb2.size; (try simp at this); omega))
    go_wp2_with (fail)
    (go_at_call 23; refine (Q3.out _).mono ?_; rintro e w3 ⟨rfl, hb3⟩; obtain ⟨hc3, hf3⟩ := bcell hb3; have hq3 : Below w.heap.size w w3 := (by refine Below.trans ?_ (hb3.mono ?_); exact (by repeat' (first | (with_reducible exact Below.refl _ _) | (with_reducible assumption) | (with_reducible refine Below.alloc ?_ ?_ _) | (with_reducible refine Below.setCell ?_ ?_ _) | (with_reducible refine Below.drew ?_) | (with_reducible refine below_drewN ?_ _) | go_size)); go_size); have hs3 := hq3.size; have hz3w20 : w2.heap.size < w3.heap.size := (by have := hb3.size; (try simp at this); omega); have hz3w10 : w1.heap.size < w3.heap.size := (by have := hb3.size; (try simp at this); omega); have hz3w1 : w.heap.size + 1 < w3.heap.size := (by have := hb3.size; (try simp at this); omega); have hz3w0 : w.heap.size < w3.heap.size := (by have := hb3.size; (try simp at this); omega))
    go_wp2_with (go_at_call 23; refine (Q4.out _).mono ?_; rintro e w4 ⟨rfl, hb4⟩; obtain ⟨hc4, hf4⟩ := bcell hb4; have hq4 : Below w.heap.size w w4 := (by refine Below.trans ?_ (hb4.mono ?_); exact (by repeat' (first | (with_reducible exact Below.refl _ _) | (with_reducible assumption) | (with_reducible refine Below.alloc ?_ ?_ _) | (with_reducible refine Below.setCell ?_ ?_ _) | (with_reducible refine Below.drew ?_) | (with_reducible refine below_drewN ?_ _) | go_size)); go_size); have hs4 := hq4.size; have hz4w20 : w2.heap.size < w4.heap.size := (by have := hb4.size; (try simp at this); omega); have hz4w10 : w1.heap.size < w4.heap.size := (by have := hb4.size; (try simp at this); omega); have hz4w1 : w.heap.size + 1 < w4.heap.size := (by have := hb4.size; (try simp at this); omega); have hz4w0 : w.heap.size < w4.heap.size := (by have := hb4.size; (try simp at this); omega))
    go_ret
    exact ⟨rfl, (by repeat' (first | (with_reducible exact Below.refl _ _) | (with_reducible assumption) | (with_reducible refine Below.alloc ?_ ?_ _) | (with_reducible refine Below.setCell ?_ ?_ _) | (with_reducible refine Below.drew ?_) | (with_reducible refine below_drewN ?_ _) | go_size))⟩
  cases o5
  all_goals
    go_enter Try.func24, Try.ntmps24
    go_wp2_with (fail)
    (go_at_call 22; refine (Q1.out _).mono ?_; rintro e w1 ⟨rfl, hb1⟩; obtain ⟨hc1, hf1⟩ := bcell hb1; have hq1 : Below w.heap.size w w1 := (by refine Below.trans ?_ (hb1.mono ?_); exact (by repeat' (first | (with_reducible exact Below.refl _ _) | (with_reducible assumption) | (with_reducible refine Below.alloc ?_ ?_ _) | (with_reducible refine Below.setCell ?_ ?_ _) | (with_reducible refine Below.drew ?_) | (with_reducible refine below_drewN ?_ _) | go_size)); go_size); have hs1 := hq1.size; have hz1w1 : w.heap.size + 1 < w1.heap.size := (by have := hb1.size; (try simp at this); omega); have hz1w0 : w.heap.size < w1.heap.size := (by have := hb1.size; (try simp at this); omega))
    go_wp2_with (fail)
    (go_at_call 22; refine (Q2.out _).mono ?_; rintro e w2 ⟨rfl, hb2⟩; obtain ⟨hc2, hf2⟩ := bcell hb2; have hq2 : Below w.heap.size w w2 := (by refine Below.trans ?_ (hb2.mono ?_); exact (by repeat' (first | (with_reducible exact Below.refl _ _) | (with_reducible assumption) | (with_reducible refine Below.alloc ?_ ?_ _) | (with_reducible refine Below.setCell ?_ ?_ _) | (with_reducible refine Below.drew ?_) | (with_reducible refine below_drewN ?_ _) | go_size)); go_size); have hs2 := hq2.size; have hz2w10 : w1.heap.size < w2.heap.size := (by have := hb2.size; (try simp at this); omega); have hz2w1 : w.heap.size + 1 < w2.heap.size := (by have := hb2.size; (try simp at this); omega); have hz2w0 : w.heap.size < w2.heap.size := (by have := hb2.size; (try simp at this); omega))
    go_wp2_with (fail)
    (go_at_call 23; refine (Q3.out _).mono ?_; rintro e w3 ⟨rfl, hb3⟩; obtain ⟨hc3, hf3⟩ := bcell hb3; have hq3 : Below w.heap.size w w3 := (by refine Below.trans ?_ (hb3.mono ?_); exact (by repeat' (first | (with_reducible exact Below.refl _ _) | (with_reducible assumption) | (with_reducible refine Below.alloc ?_ ?_ _) | (with_reducible refine Below.setCell ?_ ?_ _) | (with_reducible refine Below.drew ?_) | (with_reducible refine below_drewN ?_ _) | go_size)); go_size); have hs3 := hq3.size; have hz3w20 : w2.heap.size < w3.heap.size := (by have := hb3.size; (try simp at this); omega); have hz3w10 : w1.heap.size < w3.heap.size := (by have := hb3.size; (try simp at this); omega); have hz3w1 : w.heap.size + 1 < w3.heap.size := (by have := hb3.size; (try simp at this); omega); have hz3w0 : w.heap.size < w3.heap.size := (by have := hb3.size; (try simp at this); omega))
    go_wp2_with (go_at_call 23; refine (Q4.out _).mono ?_; rintro e w4 ⟨rfl, hb4⟩; obtain ⟨hc4, hf4⟩ := bcell hb4; have hq4 : Below w.heap.size w w4 := (by refine Below.trans ?_ (hb4.mono ?_); exact (by repeat' (first | (with_reducible exact Below.refl _ _) | (with_reducible assumption) | (with_reducible refine Below.alloc ?_ ?_ _) | (with_reducible refine Below.setCell ?_ ?_ _) | (with_reducible refine Below.drew ?_) | (with_reducible refine below_drewN ?_ _) | go_size)); go_size); have hs4 := hq4.size; have hz4w20 : w2.heap.size < w4.heap.size := (by have := hb4.size; (try simp at this); omega); have hz4w10 : w1.heap.size < w4.heap.size := (by have := hb4.size; (try simp at this); omega); have hz4w1 : w.heap.size + 1 < w4.heap.size := (by have := hb4.size; (try simp at this); omega); have hz4w0 : w.heap.size < w4.heap.size := (by have := hb4.size; (try simp at this); omega))
    go_ret
    exact ⟨rfl, (by repeat' (first | (with_reducible exact Below.refl _ _) | (with_reducible assumption) | (with_reducible refine Below.alloc ?_ ?_ _) | (with_reducible refine Below.setCell ?_ ?_ _) | (with_reducible refine Below.drew ?_) | (with_reducible refine below_drewN ?_ _) | go_size))⟩
theorem rwithin_any (t1 : Bool) (m a : Nat) (hm : m < 18446744073709551616) (t2 : Bool) (n b : Nat) (hn : n < 18446744073709551616) (w : World) :
    Calls Try.prog 24 #[.agg #[.bool t1, .int .u64 (m : Nat), .int .u64 (a : Nat)], .agg #[.bool t2, .int .u64 (n : Nat), .int .u64 (b : Nat)]] w fun r w' => r = .returned (.bool (wi m a n b)) ∧ Below w.heap.size w w' := by
  rw [wi_def]
  exact rwithin_walk t1 m a t2 n b _ _ _ _ _ _ _ _ _ _ _ _ _ _ _ (rlook_any t1 m a) (rlook_any t2 n b) (rright_any t1 m a hm) (rright_any t2 n b hn) rfl rfl (pw_and _ _ (by have := pm_lt m; omega) (by have := pm_lt n; omega)) w
theorem run_rne2 (a b c d : Nat) (W : World) : (binOp .neq 34 (.agg #[.int .u64 (a : Nat), .int .u64 (b : Nat)]) (.agg #[.int .u64 (c : Nat), .int .u64 (d : Nat)])).run Try.prog W = .ok (.bool (!eq2 a b c d)) W := by
  by_cases h1 : a = c
  · by_cases h2 : b = d
    · simp [go_sem, eq2, h1, h2]
    · have h2' : ¬ ((b : Int) = d) := by omega
      simp [go_sem, eq2, h1, h2, h2']
  · have h1' : ¬ ((a : Int) = c) := by omega
    simp [go_sem, eq2, h1, h1']
set_option maxHeartbeats 4000000 in
set_option maxRecDepth 100000 in
theorem rmake_walk (b t p y a B T E DB DT s1 s2 s3 s4 s5 s6 s7 M : Nat) (x1 x2 x3 x4 x5 : Bool)
    (q1 : ∀ w, Calls Try.prog 28 #[.agg #[.int .u64 (b : Nat), .int .u64 (t : Nat)]] w fun r w' => r = .returned (.tuple #[.agg #[.int .u64 (B : Nat), .int .u64 (T : Nat), .int .u64 (E : Nat)], .bool x1]) ∧ Below w.heap.size w w')
    (q2 : ∀ w, Calls Try.prog 29 #[.agg #[.int .u64 (B : Nat), .int .u64 (T : Nat), .int .u64 (E : Nat)], .int .u64 a] w fun r w' => r = .returned (.tuple #[.agg #[.int .u64 (DB : Nat), .int .u64 (DT : Nat)], .bool x2]) ∧ Below w.heap.size w w')
    (g3 : eq2 DB DT b t = x3) (g4 : decide ((511 : Int) < (p : Int)) = !x4) (g5 : decide ((4095 : Int) < (y : Int)) = !x5)
    (hs : x4 = true → x5 = true → IntKind.u64.wrap ((T : Int) * 16384) = (s1 : Int) ∧ IntKind.u64.wrap ((B : Int) + s1) = (s2 : Int) ∧ IntKind.u64.wrap ((E : Int) * 67108864) = (s3 : Int) ∧ IntKind.u64.wrap ((s2 : Int) + s3) = (s4 : Int) ∧
      IntKind.u64.wrap ((p : Int) * 4294967296) = (s5 : Int) ∧ IntKind.u64.wrap ((s4 : Int) + s5) = (s6 : Int) ∧ IntKind.u64.wrap ((y : Int) * 281474976710656) = (s7 : Int) ∧ IntKind.u64.wrap ((s6 : Int) + s7) = (M : Int)) (w : World) :
    Calls Try.prog 10 #[.agg #[.int .u64 (b : Nat), .int .u64 (t : Nat), .int .u64 (p : Nat), .int .u64 (y : Nat)], .int .u64 a] w fun r w' =>
      r = .returned (.tuple #[.agg #[.bool false, .int .u64 ((if (x1 && (x2 && (x3 && (x4 && x5)))) = true then M else 0) : Nat), .int .u64 ((if (x1 && (x2 && (x3 && (x4 && x5)))) = true then a else 0) : Nat)], .bool (x1 && (x2 && (x3 && (x4 && x5))))]) ∧ Below w.heap.size w w' := by
  have hne := run_rne2 DB DT b t
  rw [g3] at hne
  clear g3
  have Q1 := Lib.hid q1; clear q1
  have Q2 := Lib.hid q2; clear q2
  cases x1
  · clear hne g4 g5 hs
    show Calls _ _ _ _ fun r w' => r = .returned (.tuple #[.agg #[.bool false, .int .u64 (0 : Nat), .int .u64 (0 : Nat)], .bool false]) ∧ _
    go_enter Try.func10, Try.ntmps10
    go_wp2_with (fail)
    (go_at_call 28; refine (Q1.out _).mono ?_; rintro e w1 ⟨rfl, hb1⟩; obtain ⟨hc1, hf1⟩ := bcell hb1; have hq1 : Below w.heap.size w w1 := (by refine Below.trans ?_ (hb1.mono ?_); exact (by repeat' (first | (with_reducible exact Below.refl _ _) | (with_reducible assumption) | (with_reducible refine Below.alloc ?_ ?_ _) | (with_reducible refine Below.setCell ?_ ?_ _) | (with_reducible refine Below.drew ?_) | (with_reducible refine below_drewN ?_ _) | go_size)); go_size); have hs1 := hq1.size; obtain ⟨hz1w1, hz1w0⟩ : w.heap.size + 1 < w1.heap.size ∧ w.heap.size < w1.heap.size := (by refine ⟨?_, ?_⟩ <;> (have := hb1.size; (try simp at this); omega)); have hm1w1 := Nat.ne_of_gt hz1w1; have hn1w1 := Nat.ne_of_lt hz1w1; have hm1w0 := Nat.ne_of_gt hz1w0; have hn1w0 := Nat.ne_of_lt hz1w0)
    go_wp2_with (fail)
    (go_at_call 29; refine (Q2.out _).mono ?_; rintro e w2 ⟨rfl, hb2⟩; obtain ⟨hc2, hf2⟩ := bcell hb2; have hq2 : Below w.heap.size w w2 := (by refine Below.trans ?_ (hb2.mono ?_); exact (by repeat' (first | (with_reducible exact Below.refl _ _) | (with_reducible assumption) | (with_reducible refine Below.alloc ?_ ?_ _) | (with_reducible refine Below.setCell ?_ ?_ _) | (with_reducible refine Below.drew ?_) | (with_reducible refine below_drewN ?_ _) | go_size)); go_size); have hs2 := hq2.size; obtain ⟨hz2w10, hz2w1, hz2w0⟩ : w1.heap.size < w2.heap.size ∧ w.heap.size + 1 < w2.heap.size ∧ w.heap.size < w2.heap.size := (by refine ⟨?_, ?_, ?_⟩ <;> (have := hb2.size; (try simp at this); omega)); have hm2w10 := Nat.ne_of_gt hz2w10; have hn2w10 := Nat.ne_of_lt hz2w10; have hm2w1 := Nat.ne_of_gt hz2w1; have hn2w1 := Nat.ne_of_lt hz2w1; have hm2w0 := Nat.ne_of_gt hz2w0; have hn2w0 := Nat.ne_of_lt hz2w0)
    go_wp2
    refine bodyPost_ret (v := .tuple #[.agg #[.bool false, .int .u64 (0 : Nat), .int .u64 (0 : Nat)], .bool false]) (by simp [results, Try.results10, go_sem, hc2, hf2, hc1, hf1, hz2w1, hz2w0, hz1w1, hz1w0]) rfl ⟨rfl, (by repeat' (first | (with_reducible exact Below.refl _ _) | (with_reducible assumption) | (with_reducible refine Below.alloc ?_ ?_ _) | (with_reducible refine Below.setCell ?_ ?_ _) | (with_reducible refine Below.drew ?_) | (with_reducible refine below_drewN ?_ _) | go_size))⟩
  cases x4
  · clear hne g5 hs
    simp only [Bool.not_false] at g4
    have z : (true && (x2 && (x3 && (false && x5)))) = false := by cases x2 <;> cases x3 <;> rfl
    rw [z]; clear z
    show Calls _ _ _ _ fun r w' => r = .returned (.tuple #[.agg #[.bool false, .int .u64 (0 : Nat), .int .u64 (0 : Nat)], .bool false]) ∧ _
    go_enter Try.func10, Try.ntmps10
    go_wp2_with (fail)
    (go_at_call 28; refine (Q1.out _).mono ?_; rintro e w1 ⟨rfl, hb1⟩; obtain ⟨hc1, hf1⟩ := bcell hb1; have hq1 : Below w.heap.size w w1 := (by refine Below.trans ?_ (hb1.mono ?_); exact (by repeat' (first | (with_reducible exact Below.refl _ _) | (with_reducible assumption) | (with_reducible refine Below.alloc ?_ ?_ _) | (with_reducible refine Below.setCell ?_ ?_ _) | (with_reducible refine Below.drew ?_) | (with_reducible refine below_drewN ?_ _) | go_size)); go_size); have hs1 := hq1.size; obtain ⟨hz1w1, hz1w0⟩ : w.heap.size + 1 < w1.heap.size ∧ w.heap.size < w1.heap.size := (by refine ⟨?_, ?_⟩ <;> (have := hb1.size; (try simp at this); omega)); have hm1w1 := Nat.ne_of_gt hz1w1; have hn1w1 := Nat.ne_of_lt hz1w1; have hm1w0 := Nat.ne_of_gt hz1w0; have hn1w0 := Nat.ne_of_lt hz1w0)
    go_wp2_with (fail)
    (go_at_call 29; refine (Q2.out _).mono ?_; rintro e w2 ⟨rfl, hb2⟩; obtain ⟨hc2, hf2⟩ := bcell hb2; have hq2 : Below w.heap.size w w2 := (by refine Below.trans ?_ (hb2.mono ?_); exact (by repeat' (first | (with_reducible exact Below.refl _ _) | (with_reducible assumption) | (with_reducible refine Below.alloc ?_ ?_ _) | (with_reducible refine Below.setCell ?_ ?_ _) | (with_reducible refine Below.drew ?_) | (with_reducible refine below_drewN ?_ _) | go_size)); go_size); have hs2 := hq2.size; obtain ⟨hz2w10, hz2w1, hz2w0⟩ : w1.heap.size < w2.heap.size ∧ w.heap.size + 1 < w2.heap.size ∧ w.heap.size < w2.heap.size := (by refine ⟨?_, ?_, ?_⟩ <;> (have := hb2.size; (try simp at this); omega)); have hm2w10 := Nat.ne_of_gt hz2w10; have hn2w10 := Nat.ne_of_lt hz2w10; have hm2w1 := Nat.ne_of_gt hz2w1; have hn2w1 := Nat.ne_of_lt hz2w1; have hm2w0 := Nat.ne_of_gt hz2w0; have hn2w0 := Nat.ne_of_lt hz2w0)
    go_wp2
    refine bodyPost_ret (v := .tuple #[.agg #[.bool false, .int .u64 (0 : Nat), .int .u64 (0 : Nat)], .bool false]) (by simp [results, Try.results10, go_sem, hc2, hf2, hc1, hf1, hz2w1, hz2w0, hz1w1, hz1w0]) rfl ⟨rfl, (by repeat' (first | (with_reducible exact Below.refl _ _) | (with_reducible assumption) | (with_reducible refine Below.alloc ?_ ?_ _) | (with_reducible refine Below.setCell ?_ ?_ _) | (with_reducible refine Below.drew ?_) | (with_reducible refine below_drewN ?_ _) | go_size))⟩
  simp only [Bool.not_true] at g4
  cases x5
  · clear hne hs
    simp only [Bool.not_false] at g5
    have z : (true && (x2 && (x3 && (true && false)))) = false := by cases x2 <;> cases x3 <;> rfl
    rw [z]; clear z
    show Calls _ _ _ _ fun r w' => r = .returned (.tuple #[.agg #[.bool false, .int .u64 (0 : Nat), .int .u64 (0 : Nat)], .bool false]) ∧ _
    go_enter Try.func10, Try.ntmps10
    go_wp2_with (fail)
    (go_at_call 28; refine (Q1.out _).mono ?_; rintro e w1 ⟨rfl, hb1⟩; obtain ⟨hc1, hf1⟩ := bcell hb1; have hq1 : Below w.heap.size w w1 := (by refine Below.trans ?_ (hb1.mono ?_); exact (by repeat' (first | (with_reducible exact Below.refl _ _) | (with_reducible assumption) | (with_reducible refine Below.alloc ?_ ?_ _) | (with_reducible refine Below.setCell ?_ ?_ _) | (with_reducible refine Below.drew ?_) | (with_reducible refine below_drewN ?_ _) | go_size)); go_size); have hs1 := hq1.size; obtain ⟨hz1w1, hz1w0⟩ : w.heap.size + 1 < w1.heap.size ∧ w.heap.size < w1.heap.size := (by refine ⟨?_, ?_⟩ <;> (have := hb1.size; (try simp at this); omega)); have hm1w1 := Nat.ne_of_gt hz1w1; have hn1w1 := Nat.ne_of_lt hz1w1; have hm1w0 := Nat.ne_of_gt hz1w0; have hn1w0 := Nat.ne_of_lt hz1w0)
    go_wp2_with (fail)
    (go_at_call 29; refine (Q2.out _).mono ?_; rintro e w2 ⟨rfl, hb2⟩; obtain ⟨hc2, hf2⟩ := bcell hb2; have hq2 : Below w.heap.size w w2 := (by refine Below.trans ?_ (hb2.mono ?_); exact (by repeat' (first | (with_reducible exact Below.refl _ _) | (with_reducible assumption) | (with_reducible refine Below.alloc ?_ ?_ _) | (with_reducible refine Below.setCell ?_ ?_ _) | (with_reducible refine Below.drew ?_) | (with_reducible refine below_drewN ?_ _) | go_size)); go_size); have hs2 := hq2.size; obtain ⟨hz2w10, hz2w1, hz2w0⟩ : w1.heap.size < w2.heap.size ∧ w.heap.size + 1 < w2.heap.size ∧ w.heap.size < w2.heap.size := (by refine ⟨?_, ?_, ?_⟩ <;> (have := hb2.size; (try simp at this); omega)); have hm2w10 := Nat.ne_of_gt hz2w10; have hn2w10 := Nat.ne_of_lt hz2w10; have hm2w1 := Nat.ne_of_gt hz2w1; have hn2w1 := Nat.ne_of_lt hz2w1; have hm2w0 := Nat.ne_of_gt hz2w0; have hn2w0 := Nat.ne_of_lt hz2w0)
    go_wp2
    refine bodyPost_ret (v := .tuple #[.agg #[.bool false, .int .u64 (0 : Nat), .int .u64 (0 : Nat)], .bool false]) (by simp [results, Try.results10, go_sem, hc2, hf2, hc1, hf1, hz2w1, hz2w0, hz1w1, hz1w0]) rfl ⟨rfl, (by repeat' (first | (with_reducible exact Below.refl _ _) | (with_reducible assumption) | (with_reducible refine Below.alloc ?_ ?_ _) | (with_reducible refine Below.setCell ?_ ?_ _) | (with_reducible refine Below.drew ?_) | (with_reducible refine below_drewN ?_ _) | go_size))⟩
  simp only [Bool.not_true] at g5
  cases x2
  · clear hne hs
    show Calls _ _ _ _ fun r w' => r = .returned (.tuple #[.agg #[.bool false, .int .u64 (0 : Nat), .int .u64 (0 : Nat)], .bool false]) ∧ _
    go_enter Try.func10, Try.ntmps10
    go_wp2_with (fail)
    (go_at_call 28; refine (Q1.out _).mono ?_; rintro e w1 ⟨rfl, hb1⟩; obtain ⟨hc1, hf1⟩ := bcell hb1; have hq1 : Below w.heap.size w w1 := (by refine Below.trans ?_ (hb1.mono ?_); exact (by repeat' (first | (with_reducible exact Below.refl _ _) | (with_reducible assumption) | (with_reducible refine Below.alloc ?_ ?_ _) | (with_reducible refine Below.setCell ?_ ?_ _) | (with_reducible refine Below.drew ?_) | (with_reducible refine below_drewN ?_ _) | go_size)); go_size); have hs1 := hq1.size; obtain ⟨hz1w1, hz1w0⟩ : w.heap.size + 1 < w1.heap.size ∧ w.heap.size < w1.heap.size := (by refine ⟨?_, ?_⟩ <;> (have := hb1.size; (try simp at this); omega)); have hm1w1 := Nat.ne_of_gt hz1w1; have hn1w1 := Nat.ne_of_lt hz1w1; have hm1w0 := Nat.ne_of_gt hz1w0; have hn1w0 := Nat.ne_of_lt hz1w0)
    go_wp2_with (fail)
    (go_at_call 29; refine (Q2.out _).mono ?_; rintro e w2 ⟨rfl, hb2⟩; obtain ⟨hc2, hf2⟩ := bcell hb2; have hq2 : Below w.heap.size w w2 := (by refine Below.trans ?_ (hb2.mono ?_); exact (by repeat' (first | (with_reducible exact Below.refl _ _) | (with_reducible assumption) | (with_reducible refine Below.alloc ?_ ?_ _) | (with_reducible refine Below.setCell ?_ ?_ _) | (with_reducible refine Below.drew ?_) | (with_reducible refine below_drewN ?_ _) | go_size)); go_size); have hs2 := hq2.size; obtain ⟨hz2w10, hz2w1, hz2w0⟩ : w1.heap.size < w2.heap.size ∧ w.heap.size + 1 < w2.heap.size ∧ w.heap.size < w2.heap.size := (by refine ⟨?_, ?_, ?_⟩ <;> (have := hb2.size; (try simp at this); omega)); have hm2w10 := Nat.ne_of_gt hz2w10; have hn2w10 := Nat.ne_of_lt hz2w10; have hm2w1 := Nat.ne_of_gt hz2w1; have hn2w1 := Nat.ne_of_lt hz2w1; have hm2w0 := Nat.ne_of_gt hz2w0; have hn2w0 := Nat.ne_of_lt hz2w0)
    go_wp2
    refine bodyPost_ret (v := .tuple #[.agg #[.bool false, .int .u64 (0 : Nat), .int .u64 (0 : Nat)], .bool false]) (by simp [results, Try.results10, go_sem, hc2, hf2, hc1, hf1, hz2w1, hz2w0, hz1w1, hz1w0]) rfl ⟨rfl, (by repeat' (first | (with_reducible exact Below.refl _ _) | (with_reducible assumption) | (with_reducible refine Below.alloc ?_ ?_ _) | (with_reducible refine Below.setCell ?_ ?_ _) | (with_reducible refine Below.drew ?_) | (with_reducible refine below_drewN ?_ _) | go_size))⟩
  cases x3
  · clear hs
    simp only [Bool.not_false] at hne
    show Calls _ _ _ _ fun r w' => r = .returned (.tuple #[.agg #[.bool false, .int .u64 (0 : Nat), .int .u64 (0 : Nat)], .bool false]) ∧ _
    go_enter Try.func10, Try.ntmps10
    go_wp2_with (fail)
    (go_at_call 28; refine (Q1.out _).mono ?_; rintro e w1 ⟨rfl, hb1⟩; obtain ⟨hc1, hf1⟩ := bcell hb1; have hq1 : Below w.heap.size w w1 := (by refine Below.trans ?_ (hb1.mono ?_); exact (by repeat' (first | (with_reducible exact Below.refl _ _) | (with_reducible assumption) | (with_reducible refine Below.alloc ?_ ?_ _) | (with_reducible refine Below.setCell ?_ ?_ _) | (with_reducible refine Below.drew ?_) | (with_reducible refine below_drewN ?_ _) | go_size)); go_size); have hs1 := hq1.size; obtain ⟨hz1w1, hz1w0⟩ : w.heap.size + 1 < w1.heap.size ∧ w.heap.size < w1.heap.size := (by refine ⟨?_, ?_⟩ <;> (have := hb1.size; (try simp at this); omega)); have hm1w1 := Nat.ne_of_gt hz1w1; have hn1w1 := Nat.ne_of_lt hz1w1; have hm1w0 := Nat.ne_of_gt hz1w0; have hn1w0 := Nat.ne_of_lt hz1w0)
    go_wp2_with (fail)
    (go_at_call 29; refine (Q2.out _).mono ?_; rintro e w2 ⟨rfl, hb2⟩; obtain ⟨hc2, hf2⟩ := bcell hb2; have hq2 : Below w.heap.size w w2 := (by refine Below.trans ?_ (hb2.mono ?_); exact (by repeat' (first | (with_reducible exact Below.refl _ _) | (with_reducible assumption) | (with_reducible refine Below.alloc ?_ ?_ _) | (with_reducible refine Below.setCell ?_ ?_ _) | (with_reducible refine Below.drew ?_) | (with_reducible refine below_drewN ?_ _) | go_size)); go_size); have hs2 := hq2.size; obtain ⟨hz2w10, hz2w1, hz2w0⟩ : w1.heap.size < w2.heap.size ∧ w.heap.size + 1 < w2.heap.size ∧ w.heap.size < w2.heap.size := (by refine ⟨?_, ?_, ?_⟩ <;> (have := hb2.size; (try simp at this); omega)); have hm2w10 := Nat.ne_of_gt hz2w10; have hn2w10 := Nat.ne_of_lt hz2w10; have hm2w1 := Nat.ne_of_gt hz2w1; have hn2w1 := Nat.ne_of_lt hz2w1; have hm2w0 := Nat.ne_of_gt hz2w0; have hn2w0 := Nat.ne_of_lt hz2w0)
    go_wp2
    refine bodyPost_ret (v := .tuple #[.agg #[.bool false, .int .u64 (0 : Nat), .int .u64 (0 : Nat)], .bool false]) (by simp [results, Try.results10, go_sem, hc2, hf2, hc1, hf1, hz2w1, hz2w0, hz1w1, hz1w0]) rfl ⟨rfl, (by repeat' (first | (with_reducible exact Below.refl _ _) | (with_reducible assumption) | (with_reducible refine Below.alloc ?_ ?_ _) | (with_reducible refine Below.setCell ?_ ?_ _) | (with_reducible refine Below.drew ?_) | (with_reducible refine below_drewN ?_ _) | go_size))⟩
  · simp only [Bool.not_true] at hne
    obtain ⟨h1, h2, h3, h4, h5, h6, h7, h8⟩ := hs rfl rfl
    clear hs
    show Calls _ _ _ _ fun r w' => r = .returned (.tuple #[.agg #[.bool false, .int .u64 (M : Nat), .int .u64 (a : Nat)], .bool true]) ∧ _
    go_enter Try.func10, Try.ntmps10
    go_wp2_with (fail)
    (go_at_call 28; refine (Q1.out _).mono ?_; rintro e w1 ⟨rfl, hb1⟩; obtain ⟨hc1, hf1⟩ := bcell hb1; have hq1 : Below w.heap.size w w1 := (by refine Below.trans ?_ (hb1.mono ?_); exact (by repeat' (first | (with_reducible exact Below.refl _ _) | (with_reducible assumption) | (with_reducible refine Below.alloc ?_ ?_ _) | (with_reducible refine Below.setCell ?_ ?_ _) | (with_reducible refine Below.drew ?_) | (with_reducible refine below_drewN ?_ _) | go_size)); go_size); have hs1 := hq1.size; obtain ⟨hz1w1, hz1w0⟩ : w.heap.size + 1 < w1.heap.size ∧ w.heap.size < w1.heap.size := (by refine ⟨?_, ?_⟩ <;> (have := hb1.size; (try simp at this); omega)); have hm1w1 := Nat.ne_of_gt hz1w1; have hn1w1 := Nat.ne_of_lt hz1w1; have hm1w0 := Nat.ne_of_gt hz1w0; have hn1w0 := Nat.ne_of_lt hz1w0)
    go_wp2_with (fail)
    (go_at_call 29; refine (Q2.out _).mono ?_; rintro e w2 ⟨rfl, hb2⟩; obtain ⟨hc2, hf2⟩ := bcell hb2; have hq2 : Below w.heap.size w w2 := (by refine Below.trans ?_ (hb2.mono ?_); exact (by repeat' (first | (with_reducible exact Below.refl _ _) | (with_reducible assumption) | (with_reducible refine Below.alloc ?_ ?_ _) | (with_reducible refine Below.setCell ?_ ?_ _) | (with_reducible refine Below.drew ?_) | (with_reducible refine below_drewN ?_ _) | go_size)); go_size); have hs2 := hq2.size; obtain ⟨hz2w10, hz2w1, hz2w0⟩ : w1.heap.size < w2.heap.size ∧ w.heap.size + 1 < w2.heap.size ∧ w.heap.size < w2.heap.size := (by refine ⟨?_, ?_, ?_⟩ <;> (have := hb2.size; (try simp at this); omega)); have hm2w10 := Nat.ne_of_gt hz2w10; have hn2w10 := Nat.ne_of_lt hz2w10; have hm2w1 := Nat.ne_of_gt hz2w1; have hn2w1 := Nat.ne_of_lt hz2w1; have hm2w0 := Nat.ne_of_gt hz2w0; have hn2w0 := Nat.ne_of_lt hz2w0)
    go_wp2
    refine bodyPost_ret (v := .tuple #[.agg #[.bool false, .int .u64 (M : Nat), .int .u64 (a : Nat)], .bool true]) (by simp [results, Try.results10, go_sem, hc2, hf2, hc1, hf1, hz2w1, hz2w0, hz1w1, hz1w0]) rfl ⟨rfl, (by repeat' (first | (with_reducible exact Below.refl _ _) | (with_reducible assumption) | (with_reducible refine Below.alloc ?_ ?_ _) | (with_reducible refine Below.setCell ?_ ?_ _) | (with_reducible refine Below.drew ?_) | (with_reducible refine below_drewN ?_ _) | go_size))⟩
theorem rmake_any (b t p y a : Nat) (w : World) :
    Calls Try.prog 10 #[.agg #[.int .u64 (b : Nat), .int .u64 (t : Nat), .int .u64 (p : Nat), .int .u64 (y : Nat)], .int .u64 a] w fun r w' => r = .returned (.tuple #[.agg #[.bool false, .int .u64 (mM b t p y a : Nat), .int .u64 (mA b t p y a : Nat)], .bool (mk b t p y a)]) ∧ Below w.heap.size w w' := by
  have l1 := eB_lt b t; have l2 := eT_lt b t; have l3 := eE_le b t
  rw [mM_def, mA_def, mk_def]
  have h := rmake_walk b t p y a (eB b t) (eT b t) (eE b t) _ _ (eT b t * 16384) (eB b t + eT b t * 16384) (eE b t * 67108864) (eB b t + eT b t * 16384 + eE b t * 67108864) (p * 4294967296) (eB b t + eT b t * 16384 + eE b t * 67108864 + p * 4294967296) (y * 281474976710656) (mt (eB b t) (eT b t) (eE b t) p y)
    (eX b t) _ (eq2 (dB (eB b t) (eT b t) (eE b t) a) (dT (eB b t) (eT b t) (eE b t) a) b t) (decide (p ≤ 511)) (decide (y ≤ 4095)) (rencode_all b t) (rdecode_any (eB b t) (eT b t) (eE b t) a) rfl (by rw [Bool.eq_iff_iff]; simp; omega) (by rw [Bool.eq_iff_iff]; simp; omega) (fun hp hy => ?_) w
  · exact h
  · simp only [decide_eq_true_eq] at hp hy
    rw [mt_def, wd_def]
    simp only [IntKind.wrap_u64]
    refine ⟨?_, ?_, ?_, ?_, ?_, ?_, ?_, ?_⟩ <;> omega
theorem rroot_any (b t p : Nat) (w : World) :
    Calls Try.prog 13 #[.agg #[.int .u64 (b : Nat), .int .u64 (t : Nat)], .int .u64 p] w fun r w' => r = .returned (.tuple #[.agg #[.bool ((mk b t p 0 b)), .int .u64 (mM b t p 0 b : Nat), .int .u64 (mA b t p 0 b : Nat)], .bool (mk b t p 0 b)]) ∧ Below w.heap.size w w' := by
  have q1 : ∀ W, Calls Try.prog 10 #[.agg #[.int .u64 (b : Nat), .int .u64 (t : Nat), .int .u64 (p : Nat), .int .u64 0], .int .u64 (b : Nat)] W fun r w' => r = .returned (.tuple #[.agg #[.bool false, .int .u64 (mM b t p 0 b : Nat), .int .u64 (mA b t p 0 b : Nat)], .bool (mk b t p 0 b)]) ∧ Below W.heap.size W w' := rmake_any b t p 0 b
  have Q1 := Lib.hid q1; clear q1
  go_enter Try.func13, Try.ntmps13
  go_wp2_with (fail)
  (go_at_call 10; refine (Q1.out _).mono ?_; rintro e w1 ⟨rfl, hb1⟩; obtain ⟨hc1, hf1⟩ := bcell hb1; have hq1 : Below w.heap.size w w1 := (by refine Below.trans ?_ (hb1.mono ?_); exact (by repeat' (first | (with_reducible exact Below.refl _ _) | (with_reducible assumption) | (with_reducible refine Below.alloc ?_ ?_ _) | (with_reducible refine Below.setCell ?_ ?_ _) | (with_reducible refine Below.drew ?_) | (with_reducible refine below_drewN ?_ _) | go_size)); go_size); have hs1 := hq1.size; have hz1w1 : w.heap.size + 1 < w1.heap.size := (by have := hb1.size; (try simp at this); omega); have hz1w0 : w.heap.size < w1.heap.size := (by have := hb1.size; (try simp at this); omega))
  go_wp2
  refine bodyPost_ret (v := .tuple #[.agg #[.bool ((mk b t p 0 b)), .int .u64 (mM b t p 0 b : Nat), .int .u64 (mA b t p 0 b : Nat)], .bool (mk b t p 0 b)]) (by simp [results, Try.results13, go_sem, hc1, hf1, hz1w1, hz1w0]) rfl ⟨rfl, (by repeat' (first | (with_reducible exact Below.refl _ _) | (with_reducible assumption) | (with_reducible refine Below.alloc ?_ ?_ _) | (with_reducible refine Below.setCell ?_ ?_ _) | (with_reducible refine Below.drew ?_) | (with_reducible refine below_drewN ?_ _) | go_size))⟩
end Go.Proofs.Ytinckicchakifaa
