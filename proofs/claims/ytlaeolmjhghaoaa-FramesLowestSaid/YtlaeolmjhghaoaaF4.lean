/-
  Contracts of a pool that somebody made: open, none, Taken.
-/
import Derived.Test.YtlaeolmjhghaoaaF3
import Derived.Test.YtlaeolmjhghaoaaF1
set_option linter.unusedSimpArgs false
set_option linter.unusedVariables false
namespace Go.Proofs.Ytlaeolmjhghaoaa
open Go.RowKit

/-- the numbers that are free, of n, as bits. -/
def op (n x : Nat) : Nat := ((2 ^ 64 - 1) ^^^ x) &&& (2 ^ n - 1)
theorem op_bit (n x i : Nat) (hn : n ≤ 64) : (op n x).testBit i = (decide (i < n) && !x.testBit i) := by
  unfold op
  rw [Nat.testBit_and, Nat.testBit_xor, Nat.testBit_two_pow_sub_one, Nat.testBit_two_pow_sub_one]
  by_cases h : i < n
  · have : i < 64 := by omega
    simp [h, this]
  · simp [h]
theorem op_lt (n x : Nat) (hn : n ≤ 64) : op n x < 18446744073709551616 := by
  have h : op n x ≤ 2 ^ n - 1 := Nat.and_le_right
  have h2 : 2 ^ n ≤ 2 ^ 64 := Nat.pow_le_pow_right (by decide) hn
  omega
theorem open_eq (n x : Nat) (hn : 1 ≤ n) (hn2 : n ≤ 64) (hx : x < 18446744073709551616) :
    bits .and .u64 (bits .xor .u64 (if IntKind.u64.signed = true then -1 else IntKind.u64.max) (x : Int)) (IntKind.u64.wrap (IntKind.u64.wrap (IntKind.u64.wrap (2 ^ (n - 1)) * 2) - 1)) = ((op n x : Nat) : Int) := by
  have h1 : (if IntKind.u64.signed = true then -1 else IntKind.u64.max) = ((18446744073709551615 : Nat) : Int) := rfl
  have e1 : (2 : Nat) ^ n = 2 ^ (n - 1) * 2 := by rw [← Nat.pow_succ]; congr 1; omega
  have h2 : 2 ^ (n - 1) ≤ 2 ^ 63 := Nat.pow_le_pow_right (by decide) (by omega)
  have h3 : 0 < 2 ^ (n - 1) := Nat.pow_pos (by decide)
  have e2 : IntKind.u64.wrap (IntKind.u64.wrap (IntKind.u64.wrap (2 ^ (n - 1)) * 2) - 1) = ((2 ^ n - 1 : Nat) : Int) := by
    have e3 : (2 : Int) ^ (n - 1) = ((2 ^ (n - 1) : Nat) : Int) := by simp
    rw [e3, e1]
    generalize 2 ^ (n - 1) = z at *
    rw [IntKind.wrap_u64, IntKind.wrap_u64, IntKind.wrap_u64]
    omega
  rw [h1, e2, u64_xor_nat _ _ (by decide) hx]
  have h4 : 18446744073709551615 ^^^ x < 2 ^ 64 := Nat.xor_lt_two_pow (by decide) (by omega)
  rw [u64_and_nat _ _ (by omega) (by rw [e1]; omega)]
  rfl
attribute [irreducible] op
theorem open_any (n x : Nat) (hn : 1 ≤ n) (hn2 : n ≤ 64) (hx : x < 18446744073709551616) (w : World) :
    Calls Try.prog 18 #[.agg #[.int .i64 n, .int .u64 x]] w fun r w' => r = .returned (.int .u64 (op n x : Nat)) ∧ Below w.heap.size w w' := by
  go_enter Try.func18, Try.ntmps18
  go_wp2
  go_quiet (fail)
  all_goals
    go_wp2
    go_ret
    exact ⟨congrArg (fun v : Int => Ending.returned (Value.int .u64 v)) (open_eq n x hn hn2 hx), (by repeat' (first | (with_reducible exact Below.refl _ _) | (with_reducible assumption) | (with_reducible refine Below.alloc ?_ ?_ _) | (with_reducible refine Below.setCell ?_ ?_ _) | (with_reducible refine Below.drew ?_) | (with_reducible refine below_drewN ?_ _) | go_size))⟩
theorem none_live (b n x : Nat) (hn : n ≠ 0) (w : World) (h0 : w.cell? ⟨b, 0, none⟩ = some (.int .i64 (n : Nat))) (h1 : w.cell? ⟨b, 1, none⟩ = some (.int .u64 (x : Nat))) :
    Calls Try.prog 16 #[.pointer (some ⟨b, 0, none⟩)] w fun r w' => r = .returned (.bool false) ∧ w = w' := by
  have hz : ((n : Int) == 0) = false := by simp [hn]
  go_enter Try.func16, Try.ntmps16
  go_wp2
  go_ret
  exact ⟨rfl, rfl⟩
theorem bit_tst (x k : Nat) (hx : x < 18446744073709551616) : (bits .and .u64 ((x : Int) / 2 ^ k) 1 == 0) = !x.testBit k ∧ (bits .and .u64 ((x : Int) / 2 ^ k) 1 != 0) = x.testBit k := by
  have e : (x : Int) / 2 ^ k = ((x / 2 ^ k : Nat) : Int) := by simp
  have hlt : x / 2 ^ k < 18446744073709551616 := Nat.lt_of_le_of_lt (Nat.div_le_self _ _) hx
  have h := u64_and_nat (x / 2 ^ k) 1 hlt (by decide)
  rw [e, show ((1 : Int)) = ((1 : Nat) : Int) from rfl, h, Nat.and_one_is_mod, Nat.testBit_eq_decide_div_mod_eq]
  have h2 : x / 2 ^ k % 2 = 0 ∨ x / 2 ^ k % 2 = 1 := by omega
  rcases h2 with h2 | h2 <;> rw [h2] <;> exact ⟨rfl, rfl⟩
/-- is k one of the n numbers, and taken? -/
def tk (n x : Nat) (k : Int) : Bool := decide (0 ≤ k) && (decide (k < (n : Int)) && x.testBit k.toNat)
theorem tk_def (n x : Nat) (k : Int) : tk n x k = (decide (0 ≤ k) && (decide (k < (n : Int)) && x.testBit k.toNat)) := rfl
attribute [irreducible] tk
set_option maxHeartbeats 2000000 in
theorem taken_live (b n x : Nat) (k : Int) (hn : n ≠ 0) (hn2 : n ≤ 64) (hx : x < 18446744073709551616) (w : World) (h0 : w.cell? ⟨b, 0, none⟩ = some (.int .i64 (n : Nat))) (h1 : w.cell? ⟨b, 1, none⟩ = some (.int .u64 (x : Nat))) :
    Calls Try.prog 9 #[.pointer (some ⟨b, 0, none⟩), .int .i64 k] w fun r w' => r = .returned (.bool (tk n x k)) ∧ w = w' := by
  have q := fun (W : World) h0 h1 => none_live b n x hn W h0 h1
  have Q := Lib.hid q
  clear q
  by_cases g1 : 0 ≤ k
  · by_cases g2 : k < n
    · obtain ⟨j, rfl⟩ := Int.eq_ofNat_of_zero_le g1
      have e : tk n x (j : Int) = x.testBit j := by rw [tk_def, decide_eq_true g1, decide_eq_true g2]; rfl
      obtain ⟨b1, b2⟩ := bit_tst x j hx
      have G2 : decide (j < n) = true := decide_eq_true (by omega)
      have G1 : decide ((0 : Int) ≤ (j : Int)) = true := decide_eq_true g1
      have hm : min j 64 = j := by omega
      rw [← hm] at b1 b2
      rw [e]
      have e2 : x.testBit (min j 64) = x.testBit j := by rw [hm]
      rw [← e2]
      generalize x.testBit (min j 64) = o at *
      clear e e2 hm g1 g2 hx hn hn2
      go_enter Try.func9, Try.ntmps9
      go_wp2_with (go_at_call 16; refine (Q.out _ (by assumption) (by assumption)).mono ?_; rintro e w' ⟨rfl, rfl⟩)
      go_ret
      exact ⟨by rw [← b2]; rfl, rfl⟩
    · have e : tk n x k = false := by rw [tk_def, decide_eq_false g2]; simp
      have G1 : decide (0 ≤ k) = true := decide_eq_true g1
      have G2 : decide (k < (n : Int)) = false := decide_eq_false g2
      rw [e]
      clear e g1 g2 hn
      go_enter Try.func9, Try.ntmps9
      go_wp2_with (go_at_call 16; refine (Q.out _ (by assumption) (by assumption)).mono ?_; rintro e w' ⟨rfl, rfl⟩)
      go_ret
      exact ⟨rfl, rfl⟩
  · have e : tk n x k = false := by rw [tk_def, decide_eq_false g1]; rfl
    have G1 : decide (0 ≤ k) = false := decide_eq_false g1
    rw [e]
    clear e g1 hn
    go_enter Try.func9, Try.ntmps9
    go_wp2_with (go_at_call 16; refine (Q.out _ (by assumption) (by assumption)).mono ?_; rintro e w' ⟨rfl, rfl⟩)
    go_ret
    exact ⟨rfl, rfl⟩
end Go.Proofs.Ytlaeolmjhghaoaa
