/-
  The empty table of contracts holds. Printed by a program of our own.
-/
import Derived.Test.YtndfeckmfhiniaaGreatDoorRx1
import Derived.Test.YtndfeckmfhiniaaGreatDoorRx2
import Derived.Test.YtndfeckmfhiniaaGreatDoorRx3
set_option maxRecDepth 1000000
set_option linter.all false
namespace Go.Proofs.YtndfeckmfhiniaaGreatDoor.Sx
open Go Go.RowKit

theorem v0 : Valid Tryz.prog tab0 E := by
  refine Valid.nil fun f kind h => ?_
  simp only [tab0, List.find?_cons, List.find?_nil] at h
  by_cases h59 : 59 = f
  · subst h59
    simp at h; subst h
    exact ⟨Tryz.f59, Tryz.func59, by kernel_rfl, by kernel_rfl, by kernel_rfl, by first | rfl | kernel_rfl⟩
  rw [show ((59 : Nat) == f) = false by simpa using h59] at h
  by_cases h82 : 82 = f
  · subst h82
    simp at h; subst h
    exact ⟨Tryz.f82, Tryz.func82, by kernel_rfl, by kernel_rfl, by kernel_rfl, by first | rfl | kernel_rfl⟩
  rw [show ((82 : Nat) == f) = false by simpa using h82] at h
  cases h

end Go.Proofs.YtndfeckmfhiniaaGreatDoor.Sx
