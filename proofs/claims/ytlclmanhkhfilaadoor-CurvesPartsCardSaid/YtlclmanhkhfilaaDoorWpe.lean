/-
  Plain laws of wides, part e: Nearest.
-/
import Derived.Test.YtlclmanhkhfilaaDoorWpc
import Derived.Test.YtlclmanhkhfilaaDoorWpd
import Derived.Test.YtlclmanhkhfilaaDoorWpb2
set_option linter.all false
set_option maxRecDepth 100000
namespace Go.Proofs.YtlclmanhkhfilaaDoor.Sx
open Go Go.RowKit

theorem b2i_cases (t : Bool) : b2i t = 0 ∨ b2i t = 1 := by cases t <;> simp [b2i]
theorem sv_of (t : Bool) (l : List Int) : (t = true ∧ sv (b2i t :: l) = -vd l) ∨ (t = false ∧ sv (b2i t :: l) = vd l) := by cases t <;> simp [b2i, sv]
theorem neg_sv {p m : Int} {r a : List Int} (hp : p = 0 ∨ p = 1) (hm : m = 0 ∨ m = 1) (h : (p = 1 ↔ m ≠ 1) ∧ r = a) : sv (p :: r) = -sv (m :: a) ∧ vd r = vd a := by
  obtain ⟨h1, rfl⟩ := h
  refine ⟨?_, rfl⟩
  rcases hp with rfl | rfl <;> rcases hm with rfl | rfl <;> simp [sv] at h1 ⊢

theorem near_end {A B U M q r : Int} (hU : U = 2 * A + B) (hf : isFloor M (2 * B) q r) : (U = M → isNear A B q) ∧ (U = -M → (0 < r → isNear A B (-(q + 1))) ∧ (r = 0 → isNear A B (-q))) := by
  obtain ⟨h1, h2, h3⟩ := hf
  have e0 : q * (2 * B) = 2 * (q * B) := by grind
  have e1 : 2 * B * q = 2 * (q * B) := by grind
  have e2 : 2 * B * (q + 1) = 2 * (q * B) + 2 * B := by grind
  have e3 : 2 * B * (-(q + 1)) = -(2 * (q * B)) - 2 * B := by grind
  have e4 : 2 * B * (-(q + 1) + 1) = -(2 * (q * B)) := by grind
  have e5 : 2 * B * (-q) = -(2 * (q * B)) := by grind
  have e6 : 2 * B * (-q + 1) = -(2 * (q * B)) + 2 * B := by grind
  rw [e0] at h1
  generalize q * B = x at *
  refine ⟨fun h => ⟨?_, ?_⟩, fun h => ⟨fun h => ⟨?_, ?_⟩, fun h => ⟨?_, ?_⟩⟩⟩ <;> omega

theorem near_bound {V B M q r : Int} (hB : 0 < B) (hV : 0 ≤ V) (hM : M ≤ 2 * V + B) (hq : 0 ≤ q) (hf : isFloor M (2 * B) q r) : q ≤ V + 1 := by
  obtain ⟨h1, h2, h3⟩ := hf
  have e0 : q * (2 * B) = 2 * (q * B) := by grind
  rw [e0] at h1
  have e1 : (q - 1) * B = q * B - B := by grind
  rcases Int.lt_or_le q 1 with h | h
  · omega
  · rcases Int.lt_or_le (V + 1) q with h5 | h5
    · exfalso
      have h6 := Int.mul_le_mul_of_nonneg_right (show V + 2 ≤ q by omega) (show 0 ≤ B by omega)
      have h7 : (V + 2) * B = V * B + 2 * B := by grind
      have h8 := Int.mul_le_mul_of_nonneg_left (show 1 ≤ B by omega) hV
      generalize q * B = x at *
      generalize V * B = y at *
      omega
    · exact h5

theorem vd_z (x0 x1 x2 x3 x4 x5 x6 x7 x8 x9 x10 x11 : Int) (h0 : 0 ≤ x0) (h1 : 0 ≤ x1) (h2 : 0 ≤ x2) (h3 : 0 ≤ x3) (h4 : 0 ≤ x4) (h5 : 0 ≤ x5) (h6 : 0 ≤ x6) (h7 : 0 ≤ x7) (h8 : 0 ≤ x8) (h9 : 0 ≤ x9) (h10 : 0 ≤ x10) (h11 : 0 ≤ x11) :
    (x0 = 0 ∧ (x1 = 0 ∧ (x2 = 0 ∧ (x3 = 0 ∧ (x4 = 0 ∧ (x5 = 0 ∧ (x6 = 0 ∧ (x7 = 0 ∧ (x8 = 0 ∧ (x9 = 0 ∧ (x10 = 0 ∧ x11 = 0))))))))))) ↔ vd [x0, x1, x2, x3, x4, x5, x6, x7, x8, x9, x10, x11] = 0 := by
  simp only [vd]; omega

theorem vd12 (x0 x1 x2 x3 x4 x5 x6 x7 x8 x9 x10 x11 : Int) (h0 : 0 ≤ x0 ∧ x0 ≤ 65535) (h1 : 0 ≤ x1 ∧ x1 ≤ 65535) (h2 : 0 ≤ x2 ∧ x2 ≤ 65535) (h3 : 0 ≤ x3 ∧ x3 ≤ 65535) (h4 : 0 ≤ x4 ∧ x4 ≤ 65535) (h5 : 0 ≤ x5 ∧ x5 ≤ 65535) (h6 : 0 ≤ x6 ∧ x6 ≤ 65535) (h7 : 0 ≤ x7 ∧ x7 ≤ 65535) (h8 : 0 ≤ x8 ∧ x8 ≤ 65535) (h9 : 0 ≤ x9 ∧ x9 ≤ 65535) (h10 : 0 ≤ x10 ∧ x10 ≤ 65535) (h11 : 0 ≤ x11 ∧ x11 ≤ 65535) :
    0 ≤ vd [x0, x1, x2, x3, x4, x5, x6, x7, x8, x9, x10, x11] ∧ vd [x0, x1, x2, x3, x4, x5, x6, x7, x8, x9, x10, x11] < top12 := by
  simp only [vd, top12]; omega

end Go.Proofs.YtlclmanhkhfilaaDoor.Sx
