
/-
  Contracts of algebra.Address, algebra.Move, algebra.And: of any capability.
-/
import Derived.Test.YtkfeabekdjbphaaA1
set_option linter.unusedSimpArgs false
set_option linter.unusedVariables false
namespace Go.Proofs.Ytkfeabekdjbphaa
open Go.RowKit Go.Sort

/-- has one, at another address, a tag? -/
def aT (tg : Bool) (m a n : Nat) : Bool := opn tg m a && (lOk m n && eq2 (lB m n) (lT m n) (lB m a) (lT m a))
theorem aT_def (tg : Bool) (m a n : Nat) : aT tg m a n = (opn tg m a && (lOk m n && eq2 (lB m n) (lT m n) (lB m a) (lT m a))) := rfl
attribute [irreducible] aT
end Go.Proofs.Ytkfeabekdjbphaa
