/-
  Contracts of bounds.Near and of the reference's exponent and may.
-/
import Derived.Test.YtbojalfjbmiokaaTA
set_option linter.unusedSimpArgs false
namespace Go.Proofs.Ytbojalfjbmiokaa
open Go.RowKit Go.Sort

theorem near_any (fb ft fe a c : Nat) (h1 : fb < 18446744073709551616) (h2 : ft < 18446744073709551616) (h3 : fe < 18446744073709551616) (w : World) :
    Calls Try.prog 14 #[.agg #[.int .u64 fb, .int .u64 ft, .int .u64 fe], .int .u64 a, .int .u64 c] w fun r w' =>
      r = .returned (.bool (dOk fb ft fe a && dOk fb ft fe c && eq2 (dB fb ft fe a) (dT fb ft fe a) (dB fb ft fe c) (dT fb ft fe c))) ∧ Below w.heap.size w w' := by
  have hcmp := run_eq2 (dB fb ft fe a) (dT fb ft fe a) (dB fb ft fe c) (dT fb ft fe c)
  have c1 := decode_any fb ft fe a h1 h2 h3
  have c2 := decode_any fb ft fe c h1 h2 h3
  obtain ⟨o1, e1⟩ : ∃ o, o = dOk fb ft fe a := ⟨_, rfl⟩
  obtain ⟨o2, e2⟩ : ∃ o, o = dOk fb ft fe c := ⟨_, rfl⟩
  rw [← e1, ← e2]
  rw [← e1] at c1
  rw [← e2] at c2
  clear e1 e2
  have C1 := Lib.hid c1; clear c1
  have C2 := Lib.hid c2; clear c2
  cases o1 <;> cases o2
  all_goals
    go_enter Try.func14, Try.ntmps14
    go_wp2_with (fail)
    (go_at_call 12; refine (C1.out _).mono ?_; rintro e w1 ⟨rfl, hb1⟩; obtain ⟨hc1, hf1⟩ := bcell hb1; have hq1 : Below w.heap.size w w1 := (by refine Below.trans ?_ (hb1.mono ?_); exact (by repeat' (first | (with_reducible exact Below.refl _ _) | (with_reducible assumption) | (with_reducible refine Below.alloc ?_ ?_ _) | (with_reducible refine Below.setCell ?_ ?_ _) | (with_reducible refine Below.drew ?_) | (with_reducible refine below_drewN ?_ _) | go_size)); go_size); have hs1 := hq1.size; have hz1w0 : w.heap.size < w1.heap.size := (by have := hb1.size; (try simp at this); omega))
    go_wp2_with (fail)
    (go_at_call 12; refine (C2.out _).mono ?_; rintro e w2 ⟨rfl, hb2⟩; obtain ⟨hc2, hf2⟩ := bcell hb2; have hq2 : Below w.heap.size w w2 := (by refine Below.trans ?_ (hb2.mono ?_); exact (by repeat' (first | (with_reducible exact Below.refl _ _) | (with_reducible assumption) | (with_reducible refine Below.alloc ?_ ?_ _) | (with_reducible refine Below.setCell ?_ ?_ _) | (with_reducible refine Below.drew ?_) | (with_reducible refine below_drewN ?_ _) | go_size)); go_size); have hs2 := hq2.size; have hz2w10 : w1.heap.size < w2.heap.size := (by have := hb2.size; (try simp at this); omega); have hz2w0 : w.heap.size < w2.heap.size := (by have := hb2.size; (try simp at this); omega))
    go_wp2
    go_ret
    exact ⟨by simp, (by repeat' (first | (with_reducible exact Below.refl _ _) | (with_reducible assumption) | (with_reducible refine Below.alloc ?_ ?_ _) | (with_reducible refine Below.setCell ?_ ?_ _) | (with_reducible refine Below.drew ?_) | (with_reducible refine below_drewN ?_ _) | go_size))⟩

theorem rexp_any (e : Nat) (he : e ≤ 64) (w : World) :
    Calls Try.prog 26 #[.int .u64 e] w fun r w' => r = .returned (.int .u64 ((e - 1 : Nat) : Int)) ∧ w' = w := by
  by_cases h : e = 0
  · subst h
    go_enter Try.func26, Try.ntmps26
    go_wp2
    go_ret
    exact ⟨rfl, rfl⟩
  · have hg : ((e : Int) == 0) = false := by simp; omega
    go_enter Try.func26, Try.ntmps26
    go_wp2
    go_ret
    exact ⟨ret_int (by omega), rfl⟩

theorem rmay_any (b t : Nat) (w : World) :
    Calls Try.prog 29 #[.agg #[.int .u64 b, .int .u64 t]] w fun r w' => r = .returned (.bool (decide (b ≤ t) && decide (t ≤ 281474976710656))) ∧ Below w.heap.size w w' := by
  go_enter Try.func29, Try.ntmps29
  go_wp2
  all_goals
    go_ret
    exact ⟨ret_bool (by simp [*]; try omega), (Below.refl _ _).alloc (Nat.le_refl _) _⟩
theorem rmay_yes (b t : Nat) (hb : b ≤ t) (ht : t ≤ 281474976710656) (w : World) :
    Calls Try.prog 29 #[.agg #[.int .u64 b, .int .u64 t]] w fun r w' => r = .returned (.bool true) ∧ Below w.heap.size w w' :=
  (rmay_any b t w).mono fun r w' ⟨hr, hw⟩ => ⟨by rw [hr, decide_eq_true hb, decide_eq_true ht]; rfl, hw⟩
theorem rmay_no (b t : Nat) (h : ¬ (b ≤ t ∧ t ≤ 281474976710656)) (w : World) :
    Calls Try.prog 29 #[.agg #[.int .u64 b, .int .u64 t]] w fun r w' => r = .returned (.bool false) ∧ Below w.heap.size w w' :=
  (rmay_any b t w).mono fun r w' ⟨hr, hw⟩ => ⟨by rw [hr, ← Bool.decide_and, decide_eq_false h], hw⟩

/-- whether an E keeps a span. -/
def rk (b t e : Nat) : Bool := if e = 0 then decide (t - b < 4096) else decide (4096 ≤ stp b t (e - 1)) && decide (stp b t (e - 1) < 8192)
theorem rk_def (b t e : Nat) : rk b t e = if e = 0 then decide (t - b < 4096) else decide (4096 ≤ stp b t (e - 1)) && decide (stp b t (e - 1) < 8192) := rfl
attribute [irreducible] rk

theorem qu_cases (t x : Nat) : (t / 2 ^ x * 2 ^ x < t → qu t x = t / 2 ^ x + 1) ∧ (¬ t / 2 ^ x * 2 ^ x < t → qu t x = t / 2 ^ x) := by
  have h1 := qu_ge t x
  have h2 := qu_lt t x
  have h3 := Nat.div_mul_le_self t (2 ^ x)
  have h4 := Nat.lt_div_mul_add (a := t) (pow_pos2 x)
  refine ⟨fun h => ?_, fun h => ?_⟩
  · have a1 : qu t x < t / 2 ^ x + 2 := Nat.lt_of_mul_lt_mul_right (a := 2 ^ x) (by rw [Nat.add_mul]; omega)
    have a2 : t / 2 ^ x < qu t x := Nat.lt_of_mul_lt_mul_right (a := 2 ^ x) (by omega)
    omega
  · have e : t / 2 ^ x * 2 ^ x = t := by omega
    have := qu_mul (t / 2 ^ x) x
    rw [e] at this
    exact this
end Go.Proofs.Ytbojalfjbmiokaa
