
/-
  Contract of the reference's kept: of a span that may be and an E up to 37.
-/
import Derived.Test.YtkfeabekdjbphaaTB
set_option linter.unusedSimpArgs false
namespace Go.Proofs.Ytkfeabekdjbphaa
open Go.RowKit Go.Sort

end Go.Proofs.Ytkfeabekdjbphaa
