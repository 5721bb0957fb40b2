
/-
  Plain laws, part f: the product by digits, of the code.
-/
import Derived.Test.YtlclmanhkhfilaaDoorWe
set_option linter.all false
namespace Go.Proofs.YtlclmanhkhfilaaDoor.Sx
open Go Go.RowKit

end Go.Proofs.YtlclmanhkhfilaaDoor.Sx
