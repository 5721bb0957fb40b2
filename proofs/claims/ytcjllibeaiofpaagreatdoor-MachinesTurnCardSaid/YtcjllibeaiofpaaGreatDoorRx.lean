/-
  The empty table of contracts holds. Printed by a program of our own.
-/
import Derived.Test.YtcjllibeaiofpaaGreatDoorRx1
set_option maxRecDepth 1000000
set_option linter.all false
namespace Go.Proofs.YtcjllibeaiofpaaGreatDoor.Sx
open Go Go.RowKit
theorem v0 : Valid Tryz.prog tab0 E := by
 refine Valid.nil fun f kind h => ?_
 simp only [tab0, List.find?_cons, List.find?_nil] at h
 by_cases h105 : 105 = f
 ·subst h105
  simp at h; subst h
  exact ⟨Tryz.f105, Tryz.func105, by kernel_rfl, by kernel_rfl, by kernel_rfl, by first | rfl | kernel_rfl⟩
 rw [show ((105 : Nat) == f) = false by simpa using h105] at h
 by_cases h120 : 120 = f
 ·subst h120
  simp at h; subst h
  exact ⟨Tryz.f120, Tryz.func120, by kernel_rfl, by kernel_rfl, by kernel_rfl, by first | rfl | kernel_rfl⟩
 rw [show ((120 : Nat) == f) = false by simpa using h120] at h
 cases h
end Go.Proofs.YtcjllibeaiofpaaGreatDoor.Sx
