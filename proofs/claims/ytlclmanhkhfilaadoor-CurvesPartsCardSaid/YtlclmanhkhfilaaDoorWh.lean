
/-
  Plain laws, part h: Above.
-/
import Derived.Test.YtlclmanhkhfilaaDoorWg
set_option linter.all false
namespace Go.Proofs.YtlclmanhkhfilaaDoor.Sx
open Go Go.RowKit
end Go.Proofs.YtlclmanhkhfilaaDoor.Sx
