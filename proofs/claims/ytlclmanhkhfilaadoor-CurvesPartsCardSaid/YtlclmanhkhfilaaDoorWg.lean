
/-
  Plain laws, part g: Read, Sum.
-/
import Derived.Test.YtlclmanhkhfilaaDoorWe
set_option linter.all false
namespace Go.Proofs.YtlclmanhkhfilaaDoor.Sx
open Go Go.RowKit

theorem sv_true (l : List Int) : sv (b2i true :: l) = - vd l := by simp [sv, b2i]
theorem sv_false (l : List Int) : sv (b2i false :: l) = vd l := by simp [sv, b2i]

end Go.Proofs.YtlclmanhkhfilaaDoor.Sx
