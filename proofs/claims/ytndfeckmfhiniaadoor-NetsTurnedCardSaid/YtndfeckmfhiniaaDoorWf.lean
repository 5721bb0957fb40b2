
/-
  Plain laws, part f: the product by digits, of the code.
-/
import Derived.Test.YtndfeckmfhiniaaDoorWe
set_option linter.all false
namespace Go.Proofs.YtndfeckmfhiniaaDoor.Sx
open Go Go.RowKit

end Go.Proofs.YtndfeckmfhiniaaDoor.Sx
