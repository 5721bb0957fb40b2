/-
  Plain laws of wides, part b2.
-/
import Derived.Test.YtlclmanhkhfilaaDoorWpb
set_option linter.all false
set_option maxRecDepth 100000
namespace Go.Proofs.YtlclmanhkhfilaaDoor.Sx
open Go Go.RowKit


end Go.Proofs.YtlclmanhkhfilaaDoor.Sx
