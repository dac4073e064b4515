
/-
  Contracts of capab.Make, capab.Root, of any view.
-/
import Derived.Test.YtkfeabekdjbphaaC4
set_option linter.unusedSimpArgs false
set_option linter.unusedVariables false
namespace Go.Proofs.Ytkfeabekdjbphaa
open Go.RowKit Go.Sort

theorem run_ne2 (a b c d : Nat) (W : World) : (binOp .neq 65 (.agg #[.int .u64 a, .int .u64 b]) (.agg #[.int .u64 c, .int .u64 d])).run Try.prog W = .ok (.bool (!eq2 a b c d)) W := by
  by_cases h1 : a = c
  · by_cases h2 : b = d
    · simp [go_sem, eq2, h1, h2]
    · have h2' : ¬ ((b : Int) = d) := by omega
      simp [go_sem, eq2, h1, h2, h2']
  · have h1' : ¬ ((a : Int) = c) := by omega
    simp [go_sem, eq2, h1, h1']

/-- is a capability made? of a span b t, permissions p, type y, at a. -/
def mk (b t p y a : Nat) : Bool := eX b t && (dOk (eB b t) (eT b t) (eE b t) a && (eq2 (dB (eB b t) (eT b t) (eE b t) a) (dT (eB b t) (eT b t) (eE b t) a) b t && (decide (p ≤ 511) && decide (y ≤ 4095))))
theorem mk_def (b t p y a : Nat) : mk b t p y a = (eX b t && (dOk (eB b t) (eT b t) (eE b t) a && (eq2 (dB (eB b t) (eT b t) (eE b t) a) (dT (eB b t) (eT b t) (eE b t) a) b t && (decide (p ≤ 511) && decide (y ≤ 4095))))) := rfl
def mM (b t p y a : Nat) : Nat := if mk b t p y a = true then mt (eB b t) (eT b t) (eE b t) p y else 0
def mA (b t p y a : Nat) : Nat := if mk b t p y a = true then a else 0
theorem mM_def (b t p y a : Nat) : mM b t p y a = if mk b t p y a = true then mt (eB b t) (eT b t) (eE b t) p y else 0 := rfl
theorem mA_def (b t p y a : Nat) : mA b t p y a = if mk b t p y a = true then a else 0 := rfl
attribute [irreducible] mk mM mA

end Go.Proofs.Ytkfeabekdjbphaa
