/-
  The empty table of contracts holds. Printed by a program of our own.
-/
import Derived.Test.YtkknmicgalkgjaaRx1
import Derived.Test.YtkknmicgalkgjaaRx2
set_option maxRecDepth 1000000
set_option linter.all false
namespace Go.Proofs.Ytkknmicgalkgjaa.Sx
open Go Go.RowKit

theorem v0 : Valid Try.prog tab0 E := by
  refine Valid.nil fun f kind h => ?_
  simp only [tab0, List.find?_cons, List.find?_nil] at h
  by_cases h78 : 78 = f
  · subst h78
    simp at h; subst h
    exact ⟨Try.f78, Try.func78, by kernel_rfl, by kernel_rfl, by kernel_rfl, by first | rfl | kernel_rfl⟩
  rw [show ((78 : Nat) == f) = false by simpa using h78] at h
  by_cases h85 : 85 = f
  · subst h85
    simp at h; subst h
    exact ⟨Try.f85, Try.func85, by kernel_rfl, by kernel_rfl, by kernel_rfl, by first | rfl | kernel_rfl⟩
  rw [show ((85 : Nat) == f) = false by simpa using h85] at h
  cases h

end Go.Proofs.Ytkknmicgalkgjaa.Sx
