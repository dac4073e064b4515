/-
  Contracts of bounds.shift, field.may, field.Mask, field.Get, field.Put: what each returns on the arguments that the code hands it; conditions: widths within a word.
-/
import Derived.Test.YtkfeabekdjbphaaProg
import Derived.Test.YtkfeabekdjbphaaPlain
import Derived.WalkKit
import Derived.WalkLawsBesides
import Derived.WalkSpells
import Derived.Handy
import Derived.Deep.QuietTactic
import Derived.BigQuiet
import Derived.Laws.BitsAllLaws
namespace Go.Proofs.Ytkfeabekdjbphaa
open Go.RowKit

theorem shift_any (e : Nat) (he : e ≤ 64) (w : World) :
    Calls Try.prog 46 #[.int .u64 e] w fun r w' => r = .returned (.int .i64 ((e - 1 : Nat) : Int)) ∧ w' = w := by
  go_enter Try.func46, Try.ntmps46
  go_wp2
  all_goals
    go_ret
    exact ⟨congrArg (fun x => Ending.returned (Value.int .i64 x)) (by omega), rfl⟩

theorem fmay_any (a n : Nat) (h : a + n ≤ 64) (w : World) :
    Calls Try.prog 48 #[.int .i64 a, .int .i64 n] w fun r w' => r = .returned (.bool true) ∧ w' = w := by
  have h1 : n ≤ 64 := by omega
  go_enter Try.func48, Try.ntmps48
  go_wp2
  go_ret
  exact ⟨congrArg (fun x => Ending.returned (Value.bool x)) (by simp; omega), rfl⟩

theorem pow64 {n : Nat} (h : n < 64) : (2 : Nat) ^ n < 18446744073709551616 := by
  have : (2 : Nat) ^ n < 2 ^ 64 := Nat.pow_lt_pow_right (by decide) h
  simpa using this

theorem mask_any (n : Nat) (h0 : 0 < n) (h : n < 64) (w : World) :
    Calls Try.prog 49 #[.int .i64 n] w fun r w' => r = .returned (.int .u64 ((2 ^ n - 1 : Nat) : Int)) ∧ w' = w := by
  go_enter Try.func49, Try.ntmps49
  go_wp2
  go_ret
  refine ⟨congrArg (fun x => Ending.returned (Value.int .u64 x)) ?_, rfl⟩
  have h1 := pow64 h
  have h2 := pow_pos2 n
  have e : (2 : Int) ^ n = ((2 ^ n : Nat) : Int) := by simp
  rw [e, IntKind.wrap_u64, IntKind.wrap_u64]
  omega


/-! ### bits -/
theorem and_mask (x n : Nat) : x &&& (2 ^ n - 1) = x % 2 ^ n := Nat.and_two_pow_sub_one_eq_mod x n
theorem andnot_high (x a M : Nat) (hx : x < 2 ^ a) (ha : a ≤ 64) (hM : M % 2 ^ a = 0) (hM2 : M < 2 ^ 64) : x &&& (2 ^ 64 - 1 - M) = x := by
  apply Nat.eq_of_testBit_eq
  intro i
  rw [Nat.testBit_and]
  by_cases hi : i < a
  · have h1 : M.testBit i = false := by
      have hd : M = 2 ^ a * (M / 2 ^ a) := by have := Nat.div_add_mod M (2 ^ a); omega
      rw [hd, Nat.testBit_two_pow_mul]
      simp; omega
    have e : 2 ^ 64 - 1 - M = 2 ^ 64 - (M + 1) := by omega
    rw [e, Nat.testBit_two_pow_sub_succ hM2, h1]
    simp; omega
  · have h2 : x.testBit i = false := Nat.testBit_lt_two_pow (Nat.lt_of_lt_of_le hx (Nat.pow_le_pow_right (by decide) (by omega)))
    rw [h2]; simp
theorem or_join (x a y : Nat) (hx : x < 2 ^ a) (hy : y % 2 ^ a = 0) : x ||| y = x + y := by
  rw [Nat.or_comm, nat_join a y x hy hx, Nat.add_comm]

theorem get_bits (x a n : Nat) (hx : x < 18446744073709551616) (hn : n < 64) :
    bits .and .u64 ((x : Int) / 2 ^ a) ((2 ^ n - 1 : Nat) : Int) = ((x / 2 ^ a % 2 ^ n : Nat) : Int) := by
  have h1 := pow64 hn
  have e : (x : Int) / 2 ^ a = ((x / 2 ^ a : Nat) : Int) := by simp
  have h2 : x / 2 ^ a ≤ x := Nat.div_le_self _ _
  rw [e, u64_and_nat _ _ (by omega) (by omega), and_mask]
theorem put_bits (x a n v : Nat) (hx : x < 2 ^ a) (h : a + n ≤ 64) (h0 : 0 < n) (hn : n < 64) (hv : v < 18446744073709551616) :
    bits .or .u64 (bits .andNot .u64 (x : Int) (IntKind.u64.wrap (((2 ^ n - 1 : Nat) : Int) * 2 ^ a))) (IntKind.u64.wrap (bits .and .u64 (v : Int) ((2 ^ n - 1 : Nat) : Int) * 2 ^ a)) =
      ((x + v % 2 ^ n * 2 ^ a : Nat) : Int) := by
  have h1 := pow64 hn
  have hp := pow_pos2 n
  have hpa := pow_pos2 a
  have hxa : 2 ^ a ≤ 2 ^ 63 := Nat.pow_le_pow_right (by decide) (by omega)
  have hpn : 2 ^ (a + n) ≤ 2 ^ 64 := Nat.pow_le_pow_right (by decide) h
  have hM : (2 ^ n - 1) * 2 ^ a + 2 ^ a = 2 ^ (a + n) := by
    have : (2 ^ n - 1) * 2 ^ a + 1 * 2 ^ a = 2 ^ (a + n) := by rw [← Nat.add_mul, Nat.pow_add, Nat.mul_comm (2 ^ a)]; congr 1; omega
    omega
  have hV : v % 2 ^ n * 2 ^ a + 2 ^ a ≤ 2 ^ (a + n) := by
    have h3 : v % 2 ^ n + 1 ≤ 2 ^ n := Nat.mod_lt _ hp
    have h4 := Nat.mul_le_mul_right (2 ^ a) h3
    rw [Nat.add_mul] at h4
    rw [Nat.pow_add, Nat.mul_comm (2 ^ a)]; omega
  have c1 : ((2 ^ n - 1 : Nat) : Int) * 2 ^ a = (((2 ^ n - 1) * 2 ^ a : Nat) : Int) := by rw [Int.natCast_mul]; simp
  have c2 : IntKind.u64.wrap (((2 ^ n - 1 : Nat) : Int) * 2 ^ a) = (((2 ^ n - 1) * 2 ^ a : Nat) : Int) := by
    rw [c1, IntKind.wrap_u64]; omega
  have c3 : bits .and .u64 (v : Int) ((2 ^ n - 1 : Nat) : Int) = ((v % 2 ^ n : Nat) : Int) := by rw [u64_and_nat _ _ hv (by omega), and_mask]
  have c4 : ((v % 2 ^ n : Nat) : Int) * 2 ^ a = ((v % 2 ^ n * 2 ^ a : Nat) : Int) := by rw [Int.natCast_mul]; simp
  have c5 : IntKind.u64.wrap (((v % 2 ^ n : Nat) : Int) * 2 ^ a) = ((v % 2 ^ n * 2 ^ a : Nat) : Int) := by
    rw [c4, IntKind.wrap_u64]; omega
  have e64 : (2 : Nat) ^ 64 = 18446744073709551616 := by decide
  rw [c2, c3, c5, u64_andNot_nat _ _ (by omega) (by omega)]
  have e6 : x &&& (18446744073709551615 - (2 ^ n - 1) * 2 ^ a) = x := by
    have := andnot_high x a ((2 ^ n - 1) * 2 ^ a) hx (by omega) (Nat.mul_mod_left _ _) (by omega)
    rw [e64] at this; exact this
  rw [e6, u64_or_nat _ _ (by omega) (by omega), or_join _ a _ hx (Nat.mul_mod_left _ _)]

theorem get_any (x a n : Nat) (hx : x < 18446744073709551616) (h0 : 0 < n) (h : a + n ≤ 64) (hn : n < 64) (w : World) :
    Calls Try.prog 42 #[.int .u64 x, .int .i64 a, .int .i64 n] w fun r w' => r = .returned (.int .u64 ((x / 2 ^ a % 2 ^ n : Nat) : Int)) ∧ ∃ k, w' = w.drewN k := by
  go_enter Try.func42, Try.ntmps42
  go_wp2_with (first
    | (go_at_call 48; refine (fmay_any _ _ h _).mono ?_; rintro e w' ⟨rfl, rfl⟩)
    | fail)
  go_quiet ((go_at_call 49; exact Calls.quiet_of_same (mask_any _ h0 hn _)))
  go_wp2
  go_ret
  exact ⟨congrArg Ending.returned (congrArg (Value.int IntKind.u64) (get_bits x a n hx hn)), _, rfl⟩
theorem put_any (x a n v : Nat) (hx : x < 2 ^ a) (h0 : 0 < n) (h : a + n ≤ 64) (hn : n < 64) (hv : v < 18446744073709551616) (w : World) :
    Calls Try.prog 51 #[.int .u64 x, .int .i64 a, .int .i64 n, .int .u64 v] w fun r w' => r = .returned (.int .u64 ((x + v % 2 ^ n * 2 ^ a : Nat) : Int)) ∧ ∃ k, w' = w.drewN k := by
  go_enter Try.func51, Try.ntmps51
  go_wp2_with (first
    | (go_at_call 48; refine (fmay_any _ _ h _).mono ?_; rintro e w' ⟨rfl, rfl⟩)
    | (go_at_call 49; refine (mask_any _ h0 hn _).mono ?_; rintro e w' ⟨rfl, rfl⟩))
  go_quiet (fail)
  go_wp2
  go_ret
  exact ⟨congrArg Ending.returned (congrArg (Value.int IntKind.u64) (put_bits x a n v hx h h0 hn hv)), _, rfl⟩
end Go.Proofs.Ytkfeabekdjbphaa
