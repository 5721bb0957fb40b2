/-
  The empty table of contracts holds. Printed by a program of our own.
-/
import Derived.Test.YtdocimmchckjiaaRx1
import Derived.Test.YtdocimmchckjiaaRx2
set_option maxRecDepth 1000000
set_option linter.all false
namespace Go.Proofs.Ytdocimmchckjiaa.Sx
open Go Go.RowKit

theorem v0 : Valid Try.prog tab0 E := by
  refine Valid.nil fun f kind h => ?_
  simp only [tab0, List.find?_cons, List.find?_nil] at h
  by_cases h29 : 29 = f
  · subst h29
    simp at h; subst h
    exact ⟨Try.f29, Try.func29, by kernel_rfl, by kernel_rfl, by kernel_rfl, by first | rfl | kernel_rfl⟩
  rw [show ((29 : Nat) == f) = false by simpa using h29] at h
  by_cases h31 : 31 = f
  · subst h31
    simp at h; subst h
    exact ⟨Try.f31, Try.func31, by kernel_rfl, by kernel_rfl, by kernel_rfl, by first | rfl | kernel_rfl⟩
  rw [show ((31 : Nat) == f) = false by simpa using h31] at h
  cases h

end Go.Proofs.Ytdocimmchckjiaa.Sx
