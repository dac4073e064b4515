
/-
  Contracts of (live).typed, algebra.Enter, algebra.Open, algebra.Build: of any capability.
-/
import Derived.Test.YtkfeabekdjbphaaA2
import Derived.Test.YtkfeabekdjbphaaQ0
set_option linter.unusedSimpArgs false
set_option linter.unusedVariables false
namespace Go.Proofs.Ytkfeabekdjbphaa
open Go.RowKit Go.Sort

end Go.Proofs.Ytkfeabekdjbphaa
