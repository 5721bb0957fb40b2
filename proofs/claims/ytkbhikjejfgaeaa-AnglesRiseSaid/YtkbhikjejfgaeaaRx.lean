/-
  The empty table of contracts holds. Printed by a program of our own.
-/
import Derived.Test.YtkbhikjejfgaeaaRx1
import Derived.Test.YtkbhikjejfgaeaaRx2
set_option maxRecDepth 1000000
set_option linter.all false
namespace Go.Proofs.Ytkbhikjejfgaeaa.Sx
open Go Go.RowKit

theorem v0 : Valid Try.prog tab0 E := by
  refine Valid.nil fun f kind h => ?_
  simp only [tab0, List.find?_cons, List.find?_nil] at h
  by_cases h66 : 66 = f
  · subst h66
    simp at h; subst h
    exact ⟨Try.f66, Try.func66, by kernel_rfl, by kernel_rfl, by kernel_rfl, by first | rfl | kernel_rfl⟩
  rw [show ((66 : Nat) == f) = false by simpa using h66] at h
  by_cases h83 : 83 = f
  · subst h83
    simp at h; subst h
    exact ⟨Try.f83, Try.func83, by kernel_rfl, by kernel_rfl, by kernel_rfl, by first | rfl | kernel_rfl⟩
  rw [show ((83 : Nat) == f) = false by simpa using h83] at h
  cases h

end Go.Proofs.Ytkbhikjejfgaeaa.Sx
