/-
  Plain laws of wides, part b2.
-/
import Derived.Test.YtndfeckmfhiniaaDoorWpb
set_option linter.all false
set_option maxRecDepth 100000
namespace Go.Proofs.YtndfeckmfhiniaaDoor.Sx
open Go Go.RowKit


end Go.Proofs.YtndfeckmfhiniaaDoor.Sx
