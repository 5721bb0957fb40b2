/-
  Plain laws of wides, part b2.
-/
import Derived.Test.YtogcbmadcgjljaaDoorWpb
set_option linter.all false
set_option maxRecDepth 100000
namespace Go.Proofs.YtogcbmadcgjljaaDoor.Sx
open Go Go.RowKit

theorem p_zero : P_zero := by
  unfold P_zero
  intro t
  intro n l_n u_n
  intro n1 l_n1 u_n1
  intro n2 l_n2 u_n2
  intro n3 l_n3 u_n3
  intro n4 l_n4 u_n4
  intro n5 l_n5 u_n5
  intro n6 l_n6 u_n6
  intro n7 l_n7 u_n7
  intro n8 l_n8 u_n8
  intro n9 l_n9 u_n9
  intro n10 l_n10 u_n10
  intro n11 l_n11 u_n11
  intro hpre
  replace hpre : True := hpre
  intro b
  show ((b2i ((n == 0) && ((n1 == 0) && ((n2 == 0) && ((n3 == 0) && ((n4 == 0) && ((n5 == 0) && ((n6 == 0) && ((n7 == 0) && ((n8 == 0) && ((n9 == 0) && ((n10 == 0) && (n11 == 0))))))))))))) = b2i (decide (vd [n, n1, n2, n3, n4, n5, n6, n7, n8, n9, n10, n11] = 0)))
  rw [b2i_dec]
  simp only [Bool.and_eq_true, beq_iff_eq, vd]
  omega

theorem p_rof : P_rof := by
  unfold P_rof
  intro n l_n u_n
  intro hpre
  replace hpre : True := hpre
  intro b
  refine ⟨fun c0 => ?_, fun c0 => ?_⟩
  · intro n1 e_n1 l_n1 u_n1
    simp only [wrap_u64, wrap_i64, wrap_i32, wrap_u32] at e_n1
    show w128 (-1 : Int) n1 = n
    simp only [tellW, inW, half128, w128, wv, top8, top12, isInt, isI64, b2i, decide_eq_true_eq, true_and, and_true, implies_true, and_self, false_and, and_false, imp_false]; first | omega | (simp only [Classical.not_iff] at *; omega)
  · intro n1 e_n1 l_n1 u_n1
    simp only [wrap_u64, wrap_i64, wrap_i32, wrap_u32] at e_n1
    show w128 (0 : Int) n1 = n
    simp only [tellW, inW, half128, w128, wv, top8, top12, isInt, isI64, b2i, decide_eq_true_eq, true_and, and_true, implies_true, and_self, false_and, and_false, imp_false]; first | omega | (simp only [Classical.not_iff] at *; omega)

theorem p_small : P_small := by
  unfold P_small
  intro n l_n u_n
  intro hpre
  replace hpre : True := hpre
  intro b
  refine ⟨trivial, ?_⟩
  intro n1 l_n1 u_n1
  intro n2 l_n2 u_n2
  intro h_rof
  replace h_rof : w128 n1 n2 = n := h_rof
  have k1 : w128 n1 n2 = n := h_rof
  refine ⟨trivial, ?_⟩
  intro t
  intro n3 l_n3 u_n3
  intro n4 l_n4 u_n4
  intro n5 l_n5 u_n5
  intro n6 l_n6 u_n6
  intro n7 l_n7 u_n7
  intro n8 l_n8 u_n8
  intro n9 l_n9 u_n9
  intro n10 l_n10 u_n10
  intro n11 l_n11 u_n11
  intro n12 l_n12 u_n12
  intro n13 l_n13 u_n13
  intro n14 l_n14 u_n14
  intro h_read
  replace h_read : (vd [n3, n4, n5, n6, n7, n8, n9, n10, n11, n12, n13, n14] ≤ 170141183460469231731687303715884105728 ∧ sv [b2i t, n3, n4, n5, n6, n7, n8, n9, n10, n11, n12, n13, n14] = w128 n1 n2 ∧ ((b2i t) = 1 ↔ n1 < 0)) := h_read
  rw [k1] at h_read
  show (vd [n3, n4, n5, n6, n7, n8, n9, n10, n11, n12, n13, n14] ≤ 9223372036854775808 ∧ sv [b2i t, n3, n4, n5, n6, n7, n8, n9, n10, n11, n12, n13, n14] = n ∧ ((b2i t) = 1 ↔ n < 0))
  simp only [w128] at k1
  simp only [sv] at h_read ⊢
  cases t <;> simp [b2i] at h_read ⊢ <;> omega

end Go.Proofs.YtogcbmadcgjljaaDoor.Sx
