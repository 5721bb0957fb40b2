/-
  The empty table of contracts holds. Printed by a program of our own.
-/
import Derived.Test.YtlclmanhkhfilaaDoorRx1
set_option maxRecDepth 1000000
set_option linter.all false
namespace Go.Proofs.YtlclmanhkhfilaaDoor.Sx
open Go Go.RowKit

theorem v0 : Valid Tryd.prog tab0 E := by
  refine Valid.nil fun f kind h => ?_
  simp only [tab0, List.find?_cons, List.find?_nil] at h
  by_cases h44 : 44 = f
  · subst h44
    simp at h; subst h
    exact ⟨Tryd.f44, Tryd.func44, by kernel_rfl, by kernel_rfl, by kernel_rfl, by first | rfl | kernel_rfl⟩
  rw [show ((44 : Nat) == f) = false by simpa using h44] at h
  by_cases h53 : 53 = f
  · subst h53
    simp at h; subst h
    exact ⟨Tryd.f53, Tryd.func53, by kernel_rfl, by kernel_rfl, by kernel_rfl, by first | rfl | kernel_rfl⟩
  rw [show ((53 : Nat) == f) = false by simpa using h53] at h
  cases h

end Go.Proofs.YtlclmanhkhfilaaDoor.Sx
