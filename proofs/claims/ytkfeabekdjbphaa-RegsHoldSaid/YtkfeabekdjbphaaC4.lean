
/-
  Contracts of capab.Right, perm.Within, capab.Within, of any capabilities.
-/
import Derived.Test.YtkfeabekdjbphaaC2
import Derived.Test.YtkfeabekdjbphaaC3
import Derived.Deep.RegionWith
set_option linter.unusedSimpArgs false
set_option linter.unusedVariables false
namespace Go.Proofs.Ytkfeabekdjbphaa
open Go.RowKit Go.Sort

theorem pm_lt (m : Nat) : pm m < 512 := by rw [pm_def]; omega
theorem ty_lt (m : Nat) : ty m < 4096 := by rw [ty_def]; omega
def pw (p q : Nat) : Bool := bits .andNot .u64 (p : Int) (q : Int) == 0
theorem pw_def (p q : Nat) : pw p q = (bits .andNot .u64 (p : Int) (q : Int) == 0) := rfl
attribute [irreducible] pw
def wi (m a n b : Nat) : Bool := ri m a && (ri n b && (decide (lB n b ≤ lB m a) && (decide (lT m a ≤ lT n b) && pw (pm m) (pm n))))
theorem wi_def (m a n b : Nat) : wi m a n b = (ri m a && (ri n b && (decide (lB n b ≤ lB m a) && (decide (lT m a ≤ lT n b) && pw (pm m) (pm n))))) := rfl
attribute [irreducible] wi

end Go.Proofs.Ytkfeabekdjbphaa
