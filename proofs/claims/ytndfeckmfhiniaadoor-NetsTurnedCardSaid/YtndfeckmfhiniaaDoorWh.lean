
/-
  Plain laws, part h: Above.
-/
import Derived.Test.YtndfeckmfhiniaaDoorWg
set_option linter.all false
namespace Go.Proofs.YtndfeckmfhiniaaDoor.Sx
open Go Go.RowKit
end Go.Proofs.YtndfeckmfhiniaaDoor.Sx
