/-
  The empty table of contracts holds. Printed by a program of our own.
-/
import Derived.Test.YtogcbmadcgjljaaDoorRx1
import Derived.Test.YtogcbmadcgjljaaDoorRx2
set_option maxRecDepth 1000000
set_option linter.all false
namespace Go.Proofs.YtogcbmadcgjljaaDoor.Sx
open Go Go.RowKit

theorem v0 : Valid Tryd.prog tab0 E := by
  refine Valid.nil fun f kind h => ?_
  simp only [tab0, List.find?_cons, List.find?_nil] at h
  by_cases h81 : 81 = f
  · subst h81
    simp at h; subst h
    exact ⟨Tryd.f81, Tryd.func81, by kernel_rfl, by kernel_rfl, by kernel_rfl, by first | rfl | kernel_rfl⟩
  rw [show ((81 : Nat) == f) = false by simpa using h81] at h
  by_cases h91 : 91 = f
  · subst h91
    simp at h; subst h
    exact ⟨Tryd.f91, Tryd.func91, by kernel_rfl, by kernel_rfl, by kernel_rfl, by first | rfl | kernel_rfl⟩
  rw [show ((91 : Nat) == f) = false by simpa using h91] at h
  cases h

end Go.Proofs.YtogcbmadcgjljaaDoor.Sx
