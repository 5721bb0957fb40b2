
/-
  Plain laws, part d: less.
-/
import Derived.Test.YtndfeckmfhiniaaDoorWb
set_option linter.all false
namespace Go.Proofs.YtndfeckmfhiniaaDoor.Sx
open Go Go.RowKit

end Go.Proofs.YtndfeckmfhiniaaDoor.Sx
