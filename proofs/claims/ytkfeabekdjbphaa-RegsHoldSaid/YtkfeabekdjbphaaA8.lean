
/-
  The plain law of a capability's word: fewer permissions, another type; what these leave as it is. No program in sight.
-/
import Derived.Test.YtkfeabekdjbphaaC6
set_option linter.unusedSimpArgs false
set_option linter.unusedVariables false
namespace Go.Proofs.Ytkfeabekdjbphaa

theorem add_or (a b : Nat) (ha : a < 2 ^ 64) (hb : b < 2 ^ 64) (h : a &&& b = 0) : a + b = a ||| b := by
  have e1 : a % 2 ^ 65 = a := Nat.mod_eq_of_lt (by omega)
  have e2 : b % 2 ^ 65 = b := Nat.mod_eq_of_lt (by omega)
  have h1 : (BitVec.ofNat 65 a) &&& (BitVec.ofNat 65 b) = 0#65 := by
    apply BitVec.eq_of_toNat_eq
    rw [BitVec.toNat_and, BitVec.toNat_ofNat, BitVec.toNat_ofNat, e1, e2, h]; rfl
  have h2 := congrArg BitVec.toNat (BitVec.add_eq_or_of_and_eq_zero _ _ h1)
  rw [BitVec.toNat_add, BitVec.toNat_or, BitVec.toNat_ofNat, BitVec.toNat_ofNat, e1, e2, Nat.mod_eq_of_lt (by omega)] at h2
  exact h2
theorem not_bit (y i : Nat) (hy : y < 2 ^ 64) : (2 ^ 64 - 1 - y).testBit i = (decide (i < 64) && !y.testBit i) := by
  have e : 2 ^ 64 - 1 - y = 2 ^ 64 - (y + 1) := by omega
  rw [e, Nat.testBit_two_pow_sub_succ hy]
theorem bit_high (x i : Nat) (hx : x < 2 ^ 64) (hi : ¬ i < 64) : x.testBit i = false :=
  Nat.testBit_lt_two_pow (Nat.lt_of_lt_of_le hx (Nat.pow_le_pow_right (by decide) (by omega)))
theorem and_lt64 (x y : Nat) (hx : x < 2 ^ 64) : x &&& y < 2 ^ 64 := Nat.lt_of_le_of_lt Nat.and_le_left hx
/-- bits that stand in a number, taken away. -/
theorem sub_mask (x y : Nat) (hx : x < 2 ^ 64) (hy : y < 2 ^ 64) (h : ∀ i, y.testBit i = true → x.testBit i = true) : x &&& (2 ^ 64 - 1 - y) = x - y ∧ y ≤ x := by
  have d : (x &&& (2 ^ 64 - 1 - y)) &&& y = 0 := by
    apply Nat.eq_of_testBit_eq
    intro i
    rw [Nat.testBit_and, Nat.testBit_and, not_bit y i hy, Nat.zero_testBit]
    cases y.testBit i <;> simp
  have s := add_or (x &&& (2 ^ 64 - 1 - y)) y (and_lt64 _ _ hx) hy d
  have e : (x &&& (2 ^ 64 - 1 - y)) ||| y = x := by
    apply Nat.eq_of_testBit_eq
    intro i
    rw [Nat.testBit_or, Nat.testBit_and, not_bit y i hy]
    by_cases hi : i < 64
    · have := h i
      cases hyi : y.testBit i
      · simp [hi]
      · rw [hyi] at this; rw [this rfl]; simp
    · rw [bit_high x i hx hi, bit_high y i hy hi]; rfl
  rw [e] at s
  omega

/-- permissions of p that are not among n. -/
def dr (p n : Nat) : Nat := p &&& (2 ^ 64 - 1 - n)
theorem dr_def (p n : Nat) : dr p n = p &&& (2 ^ 64 - 1 - n) := rfl
theorem dr_le (p n : Nat) : dr p n ≤ p := by rw [dr_def]; exact Nat.and_le_left
theorem dr_bit (p n i : Nat) (hp : p < 2 ^ 64) (hn : n < 2 ^ 64) : (dr p n).testBit i = (p.testBit i && !n.testBit i) := by
  rw [dr_def, Nat.testBit_and, not_bit n i hn]
  by_cases hi : i < 64
  · simp [hi]
  · rw [bit_high p i hp hi]; rfl
theorem dr_and (p n : Nat) (hp : p < 2 ^ 64) (hn : n < 2 ^ 64) : p - dr p n = p &&& n := by
  have h := sub_mask p (dr p n) hp (Nat.lt_of_le_of_lt (dr_le p n) hp) (fun i hi => by rw [dr_bit p n i hp hn] at hi; simp at hi; exact hi.1)
  rw [← h.1]
  apply Nat.eq_of_testBit_eq
  intro i
  rw [Nat.testBit_and, Nat.testBit_and, not_bit _ i (Nat.lt_of_le_of_lt (dr_le p n) hp), dr_bit p n i hp hn]
  by_cases hi : i < 64
  · cases p.testBit i <;> cases n.testBit i <;> simp [hi]
  · rw [bit_high p i hp hi]; rfl
theorem dr_again (p n : Nat) (hp : p < 2 ^ 64) (hn : n < 2 ^ 64) : dr (p &&& n) n = 0 := by
  apply Nat.eq_of_testBit_eq
  intro i
  rw [dr_bit _ n i (and_lt64 _ _ hp) hn, Nat.testBit_and, Nat.zero_testBit]
  cases p.testBit i <;> cases n.testBit i <;> rfl

/-- a word with no permissions but some; with another type. -/
def aM (m n : Nat) : Nat := m - dr (pm m) n * 4294967296
def tM (m k : Nat) : Nat := m - ty m * 281474976710656 + k * 281474976710656
theorem aM_def (m n : Nat) : aM m n = m - dr (pm m) n * 4294967296 := rfl
theorem tM_def (m k : Nat) : tM m k = m - ty m * 281474976710656 + k * 281474976710656 := rfl

theorem shl_bit (x a i : Nat) : (x * 2 ^ a).testBit i = (decide (a ≤ i) && x.testBit (i - a)) := by
  rw [Nat.mul_comm, Nat.testBit_two_pow_mul]
theorem pm_bit (m i : Nat) : (pm m).testBit i = (decide (i < 9) && m.testBit (32 + i)) := by
  have e : pm m = m / 2 ^ 32 % 2 ^ 9 := by rw [pm_def]
  rw [e, Nat.testBit_mod_two_pow, Nat.testBit_div_two_pow, Nat.add_comm]
theorem ty_bit (m i : Nat) : (ty m).testBit i = (decide (i < 12) && m.testBit (48 + i)) := by
  have e : ty m = m / 2 ^ 48 % 2 ^ 12 := by rw [ty_def]
  rw [e, Nat.testBit_mod_two_pow, Nat.testBit_div_two_pow, Nat.add_comm]

theorem and_word (m n : Nat) (hm : m < 2 ^ 64) (hn : n < 2 ^ 64) : m &&& (2 ^ 64 - 1 - dr (pm m) n * 4294967296) = aM m n ∧ dr (pm m) n * 4294967296 ≤ m := by
  have hp := pm_lt m
  have hd := dr_le (pm m) n
  have h := sub_mask m (dr (pm m) n * 2 ^ 32) hm (by omega) (fun i hi => by
    rw [shl_bit, dr_bit _ n _ (by omega) hn, pm_bit] at hi
    simp only [Bool.and_eq_true, decide_eq_true_eq] at hi
    have e : 32 + (i - 32) = i := by omega
    rw [e] at hi
    exact hi.2.1.2)
  exact h
theorem typed_word (m k : Nat) (hm : m < 2 ^ 64) (hk : k < 4096) : m ^^^ ((ty m ^^^ k) * 281474976710656) = tM m k ∧ (ty m ^^^ k) < 4096 ∧ ty m * 281474976710656 ≤ m := by
  have hy := ty_lt m
  have hx : ty m ^^^ k < 4096 := Nat.xor_lt_two_pow (n := 12) hy hk
  have s := sub_mask m (ty m * 2 ^ 48) hm (by omega) (fun i hi => by
    rw [shl_bit, ty_bit] at hi
    simp only [Bool.and_eq_true, decide_eq_true_eq] at hi
    have e : 48 + (i - 48) = i := by omega
    rw [e] at hi
    exact hi.2.2)
  refine ⟨?_, hx, s.2⟩
  have kb : ∀ i, k.testBit i = true → i < 12 := fun i hi => by
    refine Nat.lt_of_not_le fun h => ?_
    rw [Nat.testBit_lt_two_pow (Nat.lt_of_lt_of_le hk (show 4096 ≤ 2 ^ i from Nat.pow_le_pow_right (n := 2) (i := 12) (by decide) h))] at hi
    cases hi
  have hz : (m &&& (2 ^ 64 - 1 - ty m * 2 ^ 48)) &&& (k * 2 ^ 48) = 0 := by
    apply Nat.eq_of_testBit_eq
    intro i
    rw [Nat.testBit_and, Nat.testBit_and, not_bit _ i (by omega), shl_bit, shl_bit, ty_bit, Nat.zero_testBit]
    by_cases h48 : 48 ≤ i
    · have e : 48 + (i - 48) = i := by omega
      rw [e]
      cases hk' : k.testBit (i - 48)
      · simp
      · have := kb _ hk'
        cases m.testBit i <;> simp [h48, this]
    · simp [h48]
  have a := add_or (m &&& (2 ^ 64 - 1 - ty m * 2 ^ 48)) (k * 2 ^ 48) (and_lt64 _ _ hm) (by omega) hz
  have e : m ^^^ ((ty m ^^^ k) * 2 ^ 48) = (m &&& (2 ^ 64 - 1 - ty m * 2 ^ 48)) ||| (k * 2 ^ 48) := by
    apply Nat.eq_of_testBit_eq
    intro i
    rw [Nat.testBit_xor, Nat.testBit_or, Nat.testBit_and, not_bit _ i (by omega), shl_bit, shl_bit, shl_bit, Nat.testBit_xor, ty_bit]
    by_cases h48 : 48 ≤ i
    · have e : 48 + (i - 48) = i := by omega
      rw [e]
      by_cases h64 : i < 64
      · by_cases h12 : i - 48 < 12
        · cases m.testBit i <;> cases k.testBit (i - 48) <;> simp [h48, h64, h12]
        · have : k.testBit (i - 48) = false := by
            cases hk' : k.testBit (i - 48)
            · rfl
            · exact absurd (kb _ hk') h12
          rw [this]
          cases m.testBit i <;> simp [h48, h64, h12]
      · have h12 : ¬ (i - 48 < 12) := by omega
        have : k.testBit (i - 48) = false := by
          cases hk' : k.testBit (i - 48)
          · rfl
          · exact absurd (kb _ hk') h12
        rw [this, bit_high m i hm h64]
        simp [h12]
    · by_cases h64 : i < 64
      · simp [h48, h64]
      · omega
  have e2 : tM m k = m - ty m * 2 ^ 48 + k * 2 ^ 48 := by rw [tM_def]
  rw [e2, ← s.1, a]
  exact e

/-- may a word have a tag, by its bits. -/
theorem ri_bits (m a : Nat) (hm : m < 2 ^ 64) : ri m a = (lOk m a && (decide (m / 2199023255552 % 128 = 0) && decide (m / 1152921504606846976 = 0))) := by
  rw [ri_def]
  congr 1
  rw [← Bool.decide_and, decide_eq_decide, mt_def, wd_def, oB_def, oT_def, oE_def, pm_def, ty_def]
  omega
attribute [irreducible] dr aM tM
end Go.Proofs.Ytkfeabekdjbphaa
