
/-
  Contract of bounds.choose: the E that keeps a span that may be, and what it keeps.
-/
import Derived.Test.YtkfeabekdjbphaaT5
set_option linter.unusedSimpArgs false
namespace Go.Proofs.Ytkfeabekdjbphaa
open Go.RowKit

end Go.Proofs.Ytkfeabekdjbphaa
