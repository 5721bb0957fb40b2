/-
  The empty table of contracts holds. Printed by a program of our own.
-/
import Derived.Test.YtndfeckmfhiniaaDoorRx1
import Derived.Test.YtndfeckmfhiniaaDoorRx2
import Derived.Test.YtndfeckmfhiniaaDoorRx3
set_option maxRecDepth 1000000
set_option linter.all false
namespace Go.Proofs.YtndfeckmfhiniaaDoor.Sx
open Go Go.RowKit

theorem v0 : Valid Tryd.prog tab0 E := by
  refine Valid.nil fun f kind h => ?_
  simp only [tab0, List.find?_cons, List.find?_nil] at h
  by_cases h41 : 41 = f
  · subst h41
    simp at h; subst h
    exact ⟨Tryd.f41, Tryd.func41, by kernel_rfl, by kernel_rfl, by kernel_rfl, by first | rfl | kernel_rfl⟩
  rw [show ((41 : Nat) == f) = false by simpa using h41] at h
  by_cases h56 : 56 = f
  · subst h56
    simp at h; subst h
    exact ⟨Tryd.f56, Tryd.func56, by kernel_rfl, by kernel_rfl, by kernel_rfl, by first | rfl | kernel_rfl⟩
  rw [show ((56 : Nat) == f) = false by simpa using h56] at h
  cases h

end Go.Proofs.YtndfeckmfhiniaaDoor.Sx
