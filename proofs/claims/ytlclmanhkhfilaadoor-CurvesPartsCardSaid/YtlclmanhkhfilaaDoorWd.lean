
/-
  Plain laws, part d: less.
-/
import Derived.Test.YtlclmanhkhfilaaDoorWb
set_option linter.all false
namespace Go.Proofs.YtlclmanhkhfilaaDoor.Sx
open Go Go.RowKit

end Go.Proofs.YtlclmanhkhfilaaDoor.Sx
