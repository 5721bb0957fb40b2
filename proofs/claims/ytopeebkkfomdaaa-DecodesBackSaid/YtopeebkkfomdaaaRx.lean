/-
  The empty table of contracts holds. Printed by a program of our own.
-/
import Derived.Test.YtopeebkkfomdaaaRx1
import Derived.Test.YtopeebkkfomdaaaRx2
set_option maxRecDepth 1000000
set_option linter.all false
namespace Go.Proofs.Ytopeebkkfomdaaa.Sx
open Go Go.RowKit

theorem v0 : Valid Try.prog tab0 E := by
  refine Valid.nil fun f kind h => ?_
  simp only [tab0, List.find?_cons, List.find?_nil] at h
  by_cases h39 : 39 = f
  · subst h39
    simp at h; subst h
    exact ⟨Try.f39, Try.func39, by kernel_rfl, by kernel_rfl, by kernel_rfl, by first | rfl | kernel_rfl⟩
  rw [show ((39 : Nat) == f) = false by simpa using h39] at h
  by_cases h37 : 37 = f
  · subst h37
    simp at h; subst h
    exact ⟨Try.f37, Try.func37, by kernel_rfl, by kernel_rfl, by kernel_rfl, by first | rfl | kernel_rfl⟩
  rw [show ((37 : Nat) == f) = false by simpa using h37] at h
  cases h

end Go.Proofs.Ytopeebkkfomdaaa.Sx
