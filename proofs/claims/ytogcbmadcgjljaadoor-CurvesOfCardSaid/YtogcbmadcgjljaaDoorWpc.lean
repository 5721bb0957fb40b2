/-
  Plain laws of wides, part c: Tell.
-/
import Derived.Test.YtogcbmadcgjljaaDoorWg
import Derived.Test.YtogcbmadcgjljaaDoorWpb
set_option linter.all false
set_option maxRecDepth 100000
namespace Go.Proofs.YtogcbmadcgjljaaDoor.Sx
open Go Go.RowKit

set_option maxHeartbeats 4000000 in
theorem p_tell : P_tell := by
  unfold P_tell
  intro t
  intro n l_n u_n
  intro n1 l_n1 u_n1
  intro n2 l_n2 u_n2
  intro n3 l_n3 u_n3
  intro n4 l_n4 u_n4
  intro n5 l_n5 u_n5
  intro n6 l_n6 u_n6
  intro n7 l_n7 u_n7
  intro n8 l_n8 u_n8
  intro n9 l_n9 u_n9
  intro n10 l_n10 u_n10
  intro n11 l_n11 u_n11
  intro hpre
  replace hpre : True := hpre
  intro b
  intro b1
  intro b2
  refine ⟨trivial, ?_⟩
  intro n12 l_n12 u_n12
  intro h_compare
  replace h_compare : ((vd [n, n1, n2, n3, n4, n5, n6, n7, n8, n9, n10, n11] < vd [0, 0, 0, 0, 0, 0, 0, 32768, 0, 0, 0, 0] → n12 = -1) ∧ (vd [n, n1, n2, n3, n4, n5, n6, n7, n8, n9, n10, n11] = vd [0, 0, 0, 0, 0, 0, 0, 32768, 0, 0, 0, 0] → n12 = 0) ∧ (vd [0, 0, 0, 0, 0, 0, 0, 32768, 0, 0, 0, 0] < vd [n, n1, n2, n3, n4, n5, n6, n7, n8, n9, n10, n11] → n12 = 1)) := h_compare
  simp only [vd] at h_compare
  refine ⟨fun c0 => ?_, fun c0 => ?_⟩
  · show tellW (sv [b2i t, n, n1, n2, n3, n4, n5, n6, n7, n8, n9, n10, n11]) (0 : Int) (0 : Int) (11 : Int)
    simp only [tellW, inW, half128, w128, sv, vd]
    first
      | (have hz := h_zero.1 (Classical.not_not.1 ‹¬¬ t1 = true›); clear h_zero; cases t <;> simp only [b2i, if_true, if_false, Bool.false_eq_true, true_and, and_true, implies_true, not_true_eq_false, not_false_eq_true, reduceCtorEq] <;> omega)
      | (cases t <;> simp [b2i] at * <;> omega)
  · refine ⟨fun c1 => ?_, fun c1 => ?_⟩
    · refine ⟨fun c2 => ?_, fun c2 => ?_⟩
      · have q2 := (b2i_zero t).2 c2
        show tellW (sv [b2i t, n, n1, n2, n3, n4, n5, n6, n7, n8, n9, n10, n11]) (0 : Int) (0 : Int) (11 : Int)
        simp only [tellW, inW, half128, w128, sv, vd]
        first
          | (have hz := h_zero.1 (Classical.not_not.1 ‹¬¬ t1 = true›); clear h_zero; cases t <;> simp only [b2i, if_true, if_false, Bool.false_eq_true, true_and, and_true, implies_true, not_true_eq_false, not_false_eq_true, reduceCtorEq] <;> omega)
          | (cases t <;> simp [b2i] at * <;> omega)
      · have q2 := (b2i_one t).2 (Classical.not_not.1 c2)
        refine ⟨fun c3 => ?_, fun c3 => ?_⟩
        · have q3 := (b2i_one t).2 c3
          refine ⟨trivial, ?_⟩
          intro t1
          intro h_zero
          replace h_zero : ((b2i t1) = b2i (decide (vd [n, n1, n2, n3, n4, n5, n6, n7, n8, n9, n10, n11] = 0))) := h_zero
          rw [b2i_dec] at h_zero; simp only [vd] at h_zero
          refine ⟨fun c4 => ?_, fun c4 => ?_⟩
          · have q4 := (b2i_zero t1).2 c4
            refine ⟨?_, ?_⟩
            · show vd [n, n1, n2, n3, n4, n5, n6, n7, n8, n9, n10, n11] ≤ vd [0, 0, 0, 0, 0, 0, 0, 0, 1, 0, 0, 0]
              simp only [vd]; omega
            intro n13 l_n13 u_n13
            intro n14 l_n14 u_n14
            intro n15 l_n15 u_n15
            intro n16 l_n16 u_n16
            intro n17 l_n17 u_n17
            intro n18 l_n18 u_n18
            intro n19 l_n19 u_n19
            intro n20 l_n20 u_n20
            intro n21 l_n21 u_n21
            intro n22 l_n22 u_n22
            intro n23 l_n23 u_n23
            intro n24 l_n24 u_n24
            intro h_less
            replace h_less : vd [n13, n14, n15, n16, n17, n18, n19, n20, n21, n22, n23, n24] = vd [0, 0, 0, 0, 0, 0, 0, 0, 1, 0, 0, 0] - vd [n, n1, n2, n3, n4, n5, n6, n7, n8, n9, n10, n11] := h_less
            simp only [vd] at h_less
            intro n25 e_n25 l_n25 u_n25
            intro n26 e_n26 l_n26 u_n26
            intro n27 e_n27 l_n27 u_n27
            intro n28 e_n28 l_n28 u_n28
            intro n29 e_n29 l_n29 u_n29
            intro n30 e_n30 l_n30 u_n30
            intro n31 e_n31 l_n31 u_n31
            simp only [wrap_u64, wrap_i64, wrap_i32, wrap_u32] at e_n31
            show tellW (sv [b2i t, n, n1, n2, n3, n4, n5, n6, n7, n8, n9, n10, n11]) n31 n29 (0 : Int)
            simp only [tellW, inW, half128, w128, sv, vd]
            first
              | (have hz := h_zero.1 (Classical.not_not.1 ‹¬¬ t1 = true›); clear h_zero; cases t <;> simp only [b2i, if_true, if_false, Bool.false_eq_true, true_and, and_true, implies_true, not_true_eq_false, not_false_eq_true, reduceCtorEq] <;> omega)
              | (cases t <;> simp [b2i] at * <;> omega)
          · have q4 := (b2i_one t1).2 (Classical.not_not.1 c4)
            intro n13 e_n13 l_n13 u_n13
            intro n14 e_n14 l_n14 u_n14
            intro n15 e_n15 l_n15 u_n15
            intro n16 e_n16 l_n16 u_n16
            intro n17 e_n17 l_n17 u_n17
            intro n18 e_n18 l_n18 u_n18
            intro n19 e_n19 l_n19 u_n19
            simp only [wrap_u64, wrap_i64, wrap_i32, wrap_u32] at e_n19
            show tellW (sv [b2i t, n, n1, n2, n3, n4, n5, n6, n7, n8, n9, n10, n11]) n19 n17 (0 : Int)
            simp only [tellW, inW, half128, w128, sv, vd]
            first
              | (have hz := h_zero.1 (Classical.not_not.1 ‹¬¬ t1 = true›); clear h_zero; cases t <;> simp only [b2i, if_true, if_false, Bool.false_eq_true, true_and, and_true, implies_true, not_true_eq_false, not_false_eq_true, reduceCtorEq] <;> omega)
              | (cases t <;> simp [b2i] at * <;> omega)
        · have q3 := (b2i_zero t).2 c3
          intro n13 e_n13 l_n13 u_n13
          intro n14 e_n14 l_n14 u_n14
          intro n15 e_n15 l_n15 u_n15
          intro n16 e_n16 l_n16 u_n16
          intro n17 e_n17 l_n17 u_n17
          intro n18 e_n18 l_n18 u_n18
          intro n19 e_n19 l_n19 u_n19
          simp only [wrap_u64, wrap_i64, wrap_i32, wrap_u32] at e_n19
          show tellW (sv [b2i t, n, n1, n2, n3, n4, n5, n6, n7, n8, n9, n10, n11]) n19 n17 (0 : Int)
          simp only [tellW, inW, half128, w128, sv, vd]
          first
            | (have hz := h_zero.1 (Classical.not_not.1 ‹¬¬ t1 = true›); clear h_zero; cases t <;> simp only [b2i, if_true, if_false, Bool.false_eq_true, true_and, and_true, implies_true, not_true_eq_false, not_false_eq_true, reduceCtorEq] <;> omega)
            | (cases t <;> simp [b2i] at * <;> omega)
    · refine ⟨fun c2 => ?_, fun c2 => ?_⟩
      · have q2 := (b2i_one t).2 c2
        refine ⟨trivial, ?_⟩
        intro t1
        intro h_zero
        replace h_zero : ((b2i t1) = b2i (decide (vd [n, n1, n2, n3, n4, n5, n6, n7, n8, n9, n10, n11] = 0))) := h_zero
        rw [b2i_dec] at h_zero; simp only [vd] at h_zero
        refine ⟨fun c3 => ?_, fun c3 => ?_⟩
        · have q3 := (b2i_zero t1).2 c3
          refine ⟨?_, ?_⟩
          · show vd [n, n1, n2, n3, n4, n5, n6, n7, n8, n9, n10, n11] ≤ vd [0, 0, 0, 0, 0, 0, 0, 0, 1, 0, 0, 0]
            simp only [vd]; omega
          intro n13 l_n13 u_n13
          intro n14 l_n14 u_n14
          intro n15 l_n15 u_n15
          intro n16 l_n16 u_n16
          intro n17 l_n17 u_n17
          intro n18 l_n18 u_n18
          intro n19 l_n19 u_n19
          intro n20 l_n20 u_n20
          intro n21 l_n21 u_n21
          intro n22 l_n22 u_n22
          intro n23 l_n23 u_n23
          intro n24 l_n24 u_n24
          intro h_less
          replace h_less : vd [n13, n14, n15, n16, n17, n18, n19, n20, n21, n22, n23, n24] = vd [0, 0, 0, 0, 0, 0, 0, 0, 1, 0, 0, 0] - vd [n, n1, n2, n3, n4, n5, n6, n7, n8, n9, n10, n11] := h_less
          simp only [vd] at h_less
          intro n25 e_n25 l_n25 u_n25
          intro n26 e_n26 l_n26 u_n26
          intro n27 e_n27 l_n27 u_n27
          intro n28 e_n28 l_n28 u_n28
          intro n29 e_n29 l_n29 u_n29
          intro n30 e_n30 l_n30 u_n30
          intro n31 e_n31 l_n31 u_n31
          simp only [wrap_u64, wrap_i64, wrap_i32, wrap_u32] at e_n31
          show tellW (sv [b2i t, n, n1, n2, n3, n4, n5, n6, n7, n8, n9, n10, n11]) n31 n29 (0 : Int)
          simp only [tellW, inW, half128, w128, sv, vd]
          first
            | (have hz := h_zero.1 (Classical.not_not.1 ‹¬¬ t1 = true›); clear h_zero; cases t <;> simp only [b2i, if_true, if_false, Bool.false_eq_true, true_and, and_true, implies_true, not_true_eq_false, not_false_eq_true, reduceCtorEq] <;> omega)
            | (cases t <;> simp [b2i] at * <;> omega)
        · have q3 := (b2i_one t1).2 (Classical.not_not.1 c3)
          intro n13 e_n13 l_n13 u_n13
          intro n14 e_n14 l_n14 u_n14
          intro n15 e_n15 l_n15 u_n15
          intro n16 e_n16 l_n16 u_n16
          intro n17 e_n17 l_n17 u_n17
          intro n18 e_n18 l_n18 u_n18
          intro n19 e_n19 l_n19 u_n19
          simp only [wrap_u64, wrap_i64, wrap_i32, wrap_u32] at e_n19
          show tellW (sv [b2i t, n, n1, n2, n3, n4, n5, n6, n7, n8, n9, n10, n11]) n19 n17 (0 : Int)
          simp only [tellW, inW, half128, w128, sv, vd]
          first
            | (have hz := h_zero.1 (Classical.not_not.1 ‹¬¬ t1 = true›); clear h_zero; cases t <;> simp only [b2i, if_true, if_false, Bool.false_eq_true, true_and, and_true, implies_true, not_true_eq_false, not_false_eq_true, reduceCtorEq] <;> omega)
            | (cases t <;> simp [b2i] at * <;> omega)
      · have q2 := (b2i_zero t).2 c2
        intro n13 e_n13 l_n13 u_n13
        intro n14 e_n14 l_n14 u_n14
        intro n15 e_n15 l_n15 u_n15
        intro n16 e_n16 l_n16 u_n16
        intro n17 e_n17 l_n17 u_n17
        intro n18 e_n18 l_n18 u_n18
        intro n19 e_n19 l_n19 u_n19
        simp only [wrap_u64, wrap_i64, wrap_i32, wrap_u32] at e_n19
        show tellW (sv [b2i t, n, n1, n2, n3, n4, n5, n6, n7, n8, n9, n10, n11]) n19 n17 (0 : Int)
        simp only [tellW, inW, half128, w128, sv, vd]
        first
          | (have hz := h_zero.1 (Classical.not_not.1 ‹¬¬ t1 = true›); clear h_zero; cases t <;> simp only [b2i, if_true, if_false, Bool.false_eq_true, true_and, and_true, implies_true, not_true_eq_false, not_false_eq_true, reduceCtorEq] <;> omega)
          | (cases t <;> simp [b2i] at * <;> omega)

end Go.Proofs.YtogcbmadcgjljaaDoor.Sx
