
/-
  Plain laws, part h: Above.
-/
import Derived.Test.YtndfeckmfhiniaaGreatDoorWg
set_option linter.all false
namespace Go.Proofs.YtndfeckmfhiniaaGreatDoor.Sx
open Go Go.RowKit
end Go.Proofs.YtndfeckmfhiniaaGreatDoor.Sx
