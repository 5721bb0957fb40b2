/-
  The empty table of contracts holds. Printed by a program of our own.
-/
import Derived.Test.YtihfbliipjobdaaRx1
import Derived.Test.YtihfbliipjobdaaRx2
set_option maxRecDepth 1000000
set_option linter.all false
namespace Go.Proofs.Ytihfbliipjobdaa.Sx
open Go Go.RowKit

theorem v0 : Valid Try.prog tab0 E := by
  refine Valid.nil fun f kind h => ?_
  simp only [tab0, List.find?_cons, List.find?_nil] at h
  by_cases h59 : 59 = f
  · subst h59
    simp at h; subst h
    exact ⟨Try.f59, Try.func59, by kernel_rfl, by kernel_rfl, by kernel_rfl, by first | rfl | kernel_rfl⟩
  rw [show ((59 : Nat) == f) = false by simpa using h59] at h
  by_cases h76 : 76 = f
  · subst h76
    simp at h; subst h
    exact ⟨Try.f76, Try.func76, by kernel_rfl, by kernel_rfl, by kernel_rfl, by first | rfl | kernel_rfl⟩
  rw [show ((76 : Nat) == f) = false by simpa using h76] at h
  cases h

end Go.Proofs.Ytihfbliipjobdaa.Sx
