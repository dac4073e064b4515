
/-
  Contracts of scale.unit, scale.Down, scale.Up, bounds.may: rounding to multiples of 2^e; conditions: e below 48, numbers up to 2^48.
-/
import Derived.Test.YtkfeabekdjbphaaT1
import Derived.Test.YtkfeabekdjbphaaT2
import Derived.Deep.RegionHeld3
import Derived.Below
namespace Go.Proofs.Ytkfeabekdjbphaa
open Go.RowKit

/-- what a world above another one is good for in a walk. -/
theorem bcell {W w1 : World} (hb : Below W.heap.size W w1) : (∀ b o, b < W.heap.size → w1.cell? ⟨b, o, none⟩ = W.cell? ⟨b, o, none⟩) ∧ (∀ b o, b < W.heap.size → w1.frozen? ⟨b, o, none⟩ = W.frozen? ⟨b, o, none⟩) :=
  ⟨fun b o h => hb.cell (p := ⟨b, o, none⟩) h, fun b o h => hb.frozen (p := ⟨b, o, none⟩) h⟩
theorem ret_int {k : IntKind} {a b : Int} (h : a = b) : Ending.returned (.int k a) = .returned (.int k b) := by rw [h]
theorem ret_bool {a b : Bool} (h : a = b) : Ending.returned (.bool a) = .returned (.bool b) := by rw [h]

theorem andnot_unit (x e : Nat) (hx : x < 2 ^ 64) (h : e < 64) : x &&& (2 ^ 64 - 1 - (2 ^ e - 1)) = x / 2 ^ e * 2 ^ e := by
  have hp := pow_pos2 e
  have hlt : 2 ^ e - 1 < 2 ^ 64 := by have := pow64 h; omega
  apply Nat.eq_of_testBit_eq
  intro i
  have e1 : 2 ^ 64 - 1 - (2 ^ e - 1) = 2 ^ 64 - (2 ^ e - 1 + 1) := by omega
  rw [Nat.testBit_and, e1, Nat.testBit_two_pow_sub_succ hlt, Nat.testBit_two_pow_sub_one, Nat.mul_comm, Nat.testBit_two_pow_mul, Nat.testBit_div_two_pow]
  by_cases hi : i < e
  · simp [hi]; intro; omega
  · have : i - e + e = i := by omega
    by_cases h64 : i < 64
    · simp [hi, h64, this]; intro; omega
    · have : x.testBit i = false := Nat.testBit_lt_two_pow (Nat.lt_of_lt_of_le hx (Nat.pow_le_pow_right (by decide) (by omega)))
      simp [this, h64]
      intro; rename_i t _; rw [t]; assumption
theorem down_bits (x e : Nat) (hx : x < 18446744073709551616) (h : e < 64) : bits .andNot .u64 (x : Int) ((2 ^ e - 1 : Nat) : Int) = ((qd x e * 2 ^ e : Nat) : Int) := by
  have hlt := pow64 h
  have := andnot_unit x e hx h
  rw [u64_andNot_nat _ _ hx (by omega)]
  unfold qd
  rw [← this]

end Go.Proofs.Ytkfeabekdjbphaa
