
/-
  Plain laws, part b: numbers by digits.
-/
import Derived.Test.YtlclmanhkhfilaaDoorWa
set_option linter.all false
namespace Go.Proofs.YtlclmanhkhfilaaDoor.Sx
open Go Go.RowKit

theorem vd_nonneg : ∀ l : List Int, (∀ d ∈ l, 0 ≤ d) → 0 ≤ vd l
  | [], _ => Int.le_refl 0
  | d :: r, h => by
    have h1 := h d (by simp)
    have h2 := vd_nonneg r fun e he => h e (by simp [he])
    simp only [vd]; omega

theorem p_mul64 : P_mul64 := by
  unfold P_mul64
  intro a ha ha' b hb hb' _ x0 ex0 _ _ x1 ex1 _ _ y0 ey0 _ _ y1 ey1 _ _
  intro w0 ew0 _ _ t et _ _ w1 ew1 _ _ w2 ew2 _ _ w3 ew3 _ _ h eh _ _ l el _ _
  simp only [Post_mul64, wrap_u64] at *
  have e : a * b = 18446744073709551616 * (x1 * y1) + 4294967296 * (x1 * y0) + 4294967296 * (x0 * y1) + x0 * y0 := by
    have ea : a = 4294967296 * x1 + x0 := by omega
    have eb : b = 4294967296 * y1 + y0 := by omega
    rw [ea, eb]; grind
  rw [e] at el ⊢
  generalize x1 * y1 = p at *
  generalize x1 * y0 = q at *
  generalize x0 * y1 = r at *
  generalize x0 * y0 = s at *
  omega

end Go.Proofs.YtlclmanhkhfilaaDoor.Sx
