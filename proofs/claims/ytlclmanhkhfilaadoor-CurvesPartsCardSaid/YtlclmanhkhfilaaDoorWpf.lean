/-
  Plain laws of wides, part f: the document.
-/
import Derived.Test.YtlclmanhkhfilaaDoorWpe
set_option linter.all false
set_option maxRecDepth 100000
namespace Go.Proofs.YtlclmanhkhfilaaDoor.Sx
open Go Go.RowKit

theorem sv_mul {p m n : Int} {r a b : List Int} (hp : p = 0 ∨ p = 1) (hm : m = 0 ∨ m = 1) (hn : n = 0 ∨ n = 1) (h1 : (p = 1 ↔ m ≠ n) ∧ vd r = (vd a * vd b) % top12) (h0 : 0 ≤ vd a * vd b) (hlt : vd a * vd b < top12) :
    sv (p :: r) = sv (m :: a) * sv (n :: b) := by
  obtain ⟨h1, h2⟩ := h1
  rw [Int.emod_eq_of_lt h0 hlt] at h2
  rcases hp with rfl | rfl <;> rcases hm with rfl | rfl <;> rcases hn with rfl | rfl <;> simp [sv, h2] at h1 ⊢ <;> grind

theorem near_inW {A d q : Int} (h : isNear A d q) (hA : inW A) (hd : 1 ≤ d) : inW q := by
  obtain ⟨h1, h2⟩ := h
  simp only [inW, half128] at *
  constructor
  · rcases Int.lt_or_le q (-170141183460469231731687303715884105728) with h | h
    · have := Int.mul_le_mul_of_nonneg_left (show q + 1 ≤ -170141183460469231731687303715884105728 by omega) (show 0 ≤ 2 * d by omega)
      omega
    · exact h
  · rcases Int.lt_or_le q 170141183460469231731687303715884105728 with h | h
    · exact h
    · have := Int.mul_le_mul_of_nonneg_left h (show 0 ≤ 2 * d by omega)
      omega

end Go.Proofs.YtlclmanhkhfilaaDoor.Sx
