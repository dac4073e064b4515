/-
  Contract of bounds.kept: the span that is kept in steps of 2^x, and how many; conditions: a span that may be, x below 48.
-/
import Derived.Test.YtinckicchakifaaT4
import Derived.BigRegion
namespace Go.Proofs.Ytinckicchakifaa
open Go.RowKit

theorem fl_le (b x : Nat) : fl b x ≤ b := by rw [fl_def]; exact qd_le b x
theorem ce_ge (t x : Nat) : t ≤ ce t x := by rw [ce_def]; exact qu_ge t x
theorem ce_lt (t x : Nat) : ce t x < t + 2 ^ x := by rw [ce_def]; exact qu_lt t x
theorem ce_le (t x : Nat) (ht : t ≤ 281474976710656) (hx : x < 48) : ce t x < 562949953421312 := by
  have h1 := ce_lt t x
  have : (2 : Nat) ^ x ≤ 2 ^ 48 := Nat.pow_le_pow_right (by decide) (by omega)
  have e : (2 : Nat) ^ 48 = 281474976710656 := by decide
  omega
theorem stp_of {b t : Nat} (hb : b ≤ t) (x : Nat) : ((ce t x : Nat) - (fl b x : Nat) : Int) / 2 ^ x = ((stp b t x : Nat) : Int) := by
  have h1 := fl_le b x
  have h2 := ce_ge t x
  have e1 : ((ce t x : Nat) - (fl b x : Nat) : Int) = ((ce t x - fl b x : Nat) : Int) := by omega
  have e2 : (2 : Int) ^ x = ((2 ^ x : Nat) : Int) := by simp
  rw [e1, e2, ← Int.natCast_ediv]
  rw [ce_def, fl_def, stp_def]
  rw [← Nat.sub_mul, Nat.mul_div_cancel _ (pow_pos2 x)]

theorem kept_any (b t x : Nat) (hb : b ≤ t) (ht : t ≤ 281474976710656) (hx : x < 48) (w : World) :
    Calls Try.prog 47 #[.agg #[.int .u64 b, .int .u64 t], .int .i64 x] w fun r w' =>
      r = .returned (.tuple #[.agg #[.int .u64 (fl b x : Nat), .int .u64 (ce t x : Nat)], .int .u64 (stp b t x : Nat)]) ∧ Below w.heap.size w w' := by
  have h1 := fl_le b x
  have h2 := ce_ge t x
  have h3 := ce_le t x ht hx
  have H4 := Lib.hid (stp_of hb x)
  go_enter Try.func47, Try.ntmps47
  go_wp2_with (first
    | (go_at_call 51; refine (up_any _ _ ht hx _).mono ?_; rintro e w' ⟨rfl, k1, rfl⟩)
    | (go_at_call 52; refine (down_any _ _ (by omega) (by omega) _).mono ?_; rintro e w' ⟨rfl, rfl⟩))
  have e1 : IntKind.u64.wrap ((ce t x : Nat) - (fl b x : Nat) : Int) = (ce t x : Nat) - (fl b x : Nat) := by rw [IntKind.wrap_u64]; omega
  go_region
  clear e1
  go_wp2
  refine bodyPost_ret (v := .tuple #[.agg #[.int .u64 (fl b x : Nat), .int .u64 (ce t x : Nat)], .int .u64 (stp b t x : Nat)]) (by simp [results, Try.results47, go_sem]; exact H4.out) rfl ⟨rfl, (by repeat' (first | (with_reducible exact Below.refl _ _) | (with_reducible assumption) | (with_reducible refine Below.alloc ?_ ?_ _) | (with_reducible refine Below.setCell ?_ ?_ _) | (with_reducible refine Below.drew ?_) | (with_reducible refine below_drewN ?_ _) | go_size))⟩
end Go.Proofs.Ytinckicchakifaa
