
/-
  Contract of bounds.kept: the span that is kept in steps of 2^x, and how many; conditions: a span that may be, x below 48.
-/
import Derived.Test.YtkfeabekdjbphaaT4
import Derived.BigRegion
namespace Go.Proofs.Ytkfeabekdjbphaa
open Go.RowKit

theorem fl_le (b x : Nat) : fl b x ≤ b := by rw [fl_def]; exact qd_le b x
theorem ce_ge (t x : Nat) : t ≤ ce t x := by rw [ce_def]; exact qu_ge t x
theorem ce_lt (t x : Nat) : ce t x < t + 2 ^ x := by rw [ce_def]; exact qu_lt t x
theorem ce_le (t x : Nat) (ht : t ≤ 281474976710656) (hx : x < 48) : ce t x < 562949953421312 := by
  have h1 := ce_lt t x
  have : (2 : Nat) ^ x ≤ 2 ^ 48 := Nat.pow_le_pow_right (by decide) (by omega)
  have e : (2 : Nat) ^ 48 = 281474976710656 := by decide
  omega
theorem stp_of {b t : Nat} (hb : b ≤ t) (x : Nat) : ((ce t x : Nat) - (fl b x : Nat) : Int) / 2 ^ x = ((stp b t x : Nat) : Int) := by
  have h1 := fl_le b x
  have h2 := ce_ge t x
  have e1 : ((ce t x : Nat) - (fl b x : Nat) : Int) = ((ce t x - fl b x : Nat) : Int) := by omega
  have e2 : (2 : Int) ^ x = ((2 ^ x : Nat) : Int) := by simp
  rw [e1, e2, ← Int.natCast_ediv]
  rw [ce_def, fl_def, stp_def]
  rw [← Nat.sub_mul, Nat.mul_div_cancel _ (pow_pos2 x)]

end Go.Proofs.Ytkfeabekdjbphaa
