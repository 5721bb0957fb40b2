/-
  The empty table of contracts holds. Printed by a program of our own.
-/
import Derived.Test.YthiinecohgmnmaaRx1
import Derived.Test.YthiinecohgmnmaaRx2
set_option maxRecDepth 1000000
set_option linter.all false
namespace Go.Proofs.Ythiinecohgmnmaa.Sx
open Go Go.RowKit

theorem v0 : Valid Try.prog tab0 E := by
  refine Valid.nil fun f kind h => ?_
  simp only [tab0, List.find?_cons, List.find?_nil] at h
  by_cases h66 : 66 = f
  · subst h66
    simp at h; subst h
    exact ⟨Try.f66, Try.func66, by kernel_rfl, by kernel_rfl, by kernel_rfl, by first | rfl | kernel_rfl⟩
  rw [show ((66 : Nat) == f) = false by simpa using h66] at h
  by_cases h75 : 75 = f
  · subst h75
    simp at h; subst h
    exact ⟨Try.f75, Try.func75, by kernel_rfl, by kernel_rfl, by kernel_rfl, by first | rfl | kernel_rfl⟩
  rw [show ((75 : Nat) == f) = false by simpa using h75] at h
  cases h

end Go.Proofs.Ythiinecohgmnmaa.Sx
