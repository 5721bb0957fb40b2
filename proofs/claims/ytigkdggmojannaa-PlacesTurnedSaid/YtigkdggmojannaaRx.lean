/-
  The empty table of contracts holds. Printed by a program of our own.
-/
import Derived.Test.YtigkdggmojannaaRx1
import Derived.Test.YtigkdggmojannaaRx2
set_option maxRecDepth 1000000
set_option linter.all false
namespace Go.Proofs.Ytigkdggmojannaa.Sx
open Go Go.RowKit

theorem v0 : Valid Try.prog tab0 E := by
  refine Valid.nil fun f kind h => ?_
  simp only [tab0, List.find?_cons, List.find?_nil] at h
  by_cases h43 : 43 = f
  · subst h43
    simp at h; subst h
    exact ⟨Try.f43, Try.func43, by kernel_rfl, by kernel_rfl, by kernel_rfl, by first | rfl | kernel_rfl⟩
  rw [show ((43 : Nat) == f) = false by simpa using h43] at h
  by_cases h54 : 54 = f
  · subst h54
    simp at h; subst h
    exact ⟨Try.f54, Try.func54, by kernel_rfl, by kernel_rfl, by kernel_rfl, by first | rfl | kernel_rfl⟩
  rw [show ((54 : Nat) == f) = false by simpa using h54] at h
  cases h

end Go.Proofs.Ytigkdggmojannaa.Sx
