
/-
  Contracts of bounds.Near and of the reference's exponent and may.
-/
import Derived.Test.YtkfeabekdjbphaaTA
set_option linter.unusedSimpArgs false
namespace Go.Proofs.Ytkfeabekdjbphaa
open Go.RowKit Go.Sort

theorem rexp_any (e : Nat) (he : e ≤ 64) (w : World) :
    Calls Try.prog 50 #[.int .u64 e] w fun r w' => r = .returned (.int .u64 ((e - 1 : Nat) : Int)) ∧ w' = w := by
  by_cases h : e = 0
  · subst h
    go_enter Try.func50, Try.ntmps50
    go_wp2
    go_ret
    exact ⟨rfl, rfl⟩
  · have hg : ((e : Int) == 0) = false := by simp; omega
    go_enter Try.func50, Try.ntmps50
    go_wp2
    go_ret
    exact ⟨ret_int (by omega), rfl⟩

/-- whether an E keeps a span. -/
def rk (b t e : Nat) : Bool := if e = 0 then decide (t - b < 4096) else decide (4096 ≤ stp b t (e - 1)) && decide (stp b t (e - 1) < 8192)
theorem rk_def (b t e : Nat) : rk b t e = if e = 0 then decide (t - b < 4096) else decide (4096 ≤ stp b t (e - 1)) && decide (stp b t (e - 1) < 8192) := rfl
attribute [irreducible] rk

theorem qu_cases (t x : Nat) : (t / 2 ^ x * 2 ^ x < t → qu t x = t / 2 ^ x + 1) ∧ (¬ t / 2 ^ x * 2 ^ x < t → qu t x = t / 2 ^ x) := by
  have h1 := qu_ge t x
  have h2 := qu_lt t x
  have h3 := Nat.div_mul_le_self t (2 ^ x)
  have h4 := Nat.lt_div_mul_add (a := t) (pow_pos2 x)
  refine ⟨fun h => ?_, fun h => ?_⟩
  · have a1 : qu t x < t / 2 ^ x + 2 := Nat.lt_of_mul_lt_mul_right (a := 2 ^ x) (by rw [Nat.add_mul]; omega)
    have a2 : t / 2 ^ x < qu t x := Nat.lt_of_mul_lt_mul_right (a := 2 ^ x) (by omega)
    omega
  · have e : t / 2 ^ x * 2 ^ x = t := by omega
    have := qu_mul (t / 2 ^ x) x
    rw [e] at this
    exact this
end Go.Proofs.Ytkfeabekdjbphaa
