/-
  Plain laws of wides, part f: the document.
-/
import Derived.Test.YtogcbmadcgjljaaDoorWpe
set_option linter.all false
set_option maxRecDepth 100000
namespace Go.Proofs.YtogcbmadcgjljaaDoor.Sx
open Go Go.RowKit

theorem sv_mul {p m n : Int} {r a b : List Int} (hp : p = 0 ∨ p = 1) (hm : m = 0 ∨ m = 1) (hn : n = 0 ∨ n = 1) (h1 : (p = 1 ↔ m ≠ n) ∧ vd r = (vd a * vd b) % top12) (h0 : 0 ≤ vd a * vd b) (hlt : vd a * vd b < top12) :
    sv (p :: r) = sv (m :: a) * sv (n :: b) := by
  obtain ⟨h1, h2⟩ := h1
  rw [Int.emod_eq_of_lt h0 hlt] at h2
  rcases hp with rfl | rfl <;> rcases hm with rfl | rfl <;> rcases hn with rfl | rfl <;> simp [sv, h2] at h1 ⊢ <;> grind

theorem near_inW {A d q : Int} (h : isNear A d q) (hA : inW A) (hd : 1 ≤ d) : inW q := by
  obtain ⟨h1, h2⟩ := h
  simp only [inW, half128] at *
  constructor
  · rcases Int.lt_or_le q (-170141183460469231731687303715884105728) with h | h
    · have := Int.mul_le_mul_of_nonneg_left (show q + 1 ≤ -170141183460469231731687303715884105728 by omega) (show 0 ≤ 2 * d by omega)
      omega
    · exact h
  · rcases Int.lt_or_le q 170141183460469231731687303715884105728 with h | h
    · exact h
    · have := Int.mul_le_mul_of_nonneg_left h (show 0 ≤ 2 * d by omega)
      omega

theorem p_rcmp : P_rcmp := by
  unfold P_rcmp
  intro n l_n u_n
  intro n1 l_n1 u_n1
  intro n2 l_n2 u_n2
  intro n3 l_n3 u_n3
  intro hpre
  replace hpre : True := hpre
  intro b
  intro b1
  refine ⟨trivial, ?_⟩
  intro t
  intro n4 l_n4 u_n4
  intro n5 l_n5 u_n5
  intro n6 l_n6 u_n6
  intro n7 l_n7 u_n7
  intro n8 l_n8 u_n8
  intro n9 l_n9 u_n9
  intro n10 l_n10 u_n10
  intro n11 l_n11 u_n11
  intro n12 l_n12 u_n12
  intro n13 l_n13 u_n13
  intro n14 l_n14 u_n14
  intro n15 l_n15 u_n15
  intro h_read
  replace h_read : (vd [n4, n5, n6, n7, n8, n9, n10, n11, n12, n13, n14, n15] ≤ 170141183460469231731687303715884105728 ∧ sv [b2i t, n4, n5, n6, n7, n8, n9, n10, n11, n12, n13, n14, n15] = w128 n n1 ∧ ((b2i t) = 1 ↔ n < 0)) := h_read
  refine ⟨trivial, ?_⟩
  intro t1
  intro n16 l_n16 u_n16
  intro n17 l_n17 u_n17
  intro n18 l_n18 u_n18
  intro n19 l_n19 u_n19
  intro n20 l_n20 u_n20
  intro n21 l_n21 u_n21
  intro n22 l_n22 u_n22
  intro n23 l_n23 u_n23
  intro n24 l_n24 u_n24
  intro n25 l_n25 u_n25
  intro n26 l_n26 u_n26
  intro n27 l_n27 u_n27
  intro h_read1
  replace h_read1 : (vd [n16, n17, n18, n19, n20, n21, n22, n23, n24, n25, n26, n27] ≤ 170141183460469231731687303715884105728 ∧ sv [b2i t1, n16, n17, n18, n19, n20, n21, n22, n23, n24, n25, n26, n27] = w128 n2 n3 ∧ ((b2i t1) = 1 ↔ n2 < 0)) := h_read1
  refine ⟨trivial, ?_⟩
  intro t2
  intro n28 l_n28 u_n28
  intro n29 l_n29 u_n29
  intro n30 l_n30 u_n30
  intro n31 l_n31 u_n31
  intro n32 l_n32 u_n32
  intro n33 l_n33 u_n33
  intro n34 l_n34 u_n34
  intro n35 l_n35 u_n35
  intro n36 l_n36 u_n36
  intro n37 l_n37 u_n37
  intro n38 l_n38 u_n38
  intro n39 l_n39 u_n39
  intro h_minus
  replace h_minus : (((b2i t2) = 1 ↔ (b2i t1) ≠ 1) ∧ [n28, n29, n30, n31, n32, n33, n34, n35, n36, n37, n38, n39] = [n16, n17, n18, n19, n20, n21, n22, n23, n24, n25, n26, n27]) := h_minus
  have km0 := neg_sv (b2i_cases _) (b2i_cases _) h_minus
  clear h_minus
  refine ⟨?_, ?_⟩
  · show vd [n4, n5, n6, n7, n8, n9, n10, n11, n12, n13, n14, n15] + vd [n28, n29, n30, n31, n32, n33, n34, n35, n36, n37, n38, n39] < top12
    simp only [top12]; omega
  intro t3
  intro n40 l_n40 u_n40
  intro n41 l_n41 u_n41
  intro n42 l_n42 u_n42
  intro n43 l_n43 u_n43
  intro n44 l_n44 u_n44
  intro n45 l_n45 u_n45
  intro n46 l_n46 u_n46
  intro n47 l_n47 u_n47
  intro n48 l_n48 u_n48
  intro n49 l_n49 u_n49
  intro n50 l_n50 u_n50
  intro n51 l_n51 u_n51
  intro h_sum
  replace h_sum : (sv [b2i t3, n40, n41, n42, n43, n44, n45, n46, n47, n48, n49, n50, n51] = sv [b2i t, n4, n5, n6, n7, n8, n9, n10, n11, n12, n13, n14, n15] + sv [b2i t2, n28, n29, n30, n31, n32, n33, n34, n35, n36, n37, n38, n39] ∧ vd [n40, n41, n42, n43, n44, n45, n46, n47, n48, n49, n50, n51] ≤ vd [n4, n5, n6, n7, n8, n9, n10, n11, n12, n13, n14, n15] + vd [n28, n29, n30, n31, n32, n33, n34, n35, n36, n37, n38, n39]) := h_sum
  have hs := sv_of t3 [n40, n41, n42, n43, n44, n45, n46, n47, n48, n49, n50, n51]
  have h0 := vd12 n40 n41 n42 n43 n44 n45 n46 n47 n48 n49 n50 n51 ⟨l_n40, u_n40⟩ ⟨l_n41, u_n41⟩ ⟨l_n42, u_n42⟩ ⟨l_n43, u_n43⟩ ⟨l_n44, u_n44⟩ ⟨l_n45, u_n45⟩ ⟨l_n46, u_n46⟩ ⟨l_n47, u_n47⟩ ⟨l_n48, u_n48⟩ ⟨l_n49, u_n49⟩ ⟨l_n50, u_n50⟩ ⟨l_n51, u_n51⟩
  intro b2
  refine ⟨trivial, ?_⟩
  intro t4
  intro h_zero
  replace h_zero : ((b2i t4) = b2i (decide (vd [n40, n41, n42, n43, n44, n45, n46, n47, n48, n49, n50, n51] = 0))) := h_zero
  rw [b2i_dec] at h_zero
  refine ⟨fun c0 => ?_, fun c0 => ?_⟩
  · have q0 := (b2i_one t4).2 c0
    show ((w128 n n1 < w128 n2 n3 → (0 : Int) = -1) ∧ (w128 n n1 = w128 n2 n3 → (0 : Int) = 0) ∧ (w128 n2 n3 < w128 n n1 → (0 : Int) = 1))
    have z := h_zero.1 c0
    rcases hs with ⟨w, hs⟩ | ⟨w, hs⟩ <;> first | (exfalso; revert c1; simp [w]; done) | omega
  · have q0 := (b2i_zero t4).2 c0
    refine ⟨fun c1 => ?_, fun c1 => ?_⟩
    · have q1 := (b2i_one t3).2 c1
      show ((w128 n n1 < w128 n2 n3 → (-1 : Int) = -1) ∧ (w128 n n1 = w128 n2 n3 → (-1 : Int) = 0) ∧ (w128 n2 n3 < w128 n n1 → (-1 : Int) = 1))
      have z : ¬ (vd [n40, n41, n42, n43, n44, n45, n46, n47, n48, n49, n50, n51] = 0) := fun h => c0 (h_zero.2 h)
      rcases hs with ⟨w, hs⟩ | ⟨w, hs⟩ <;> first | (exfalso; revert c1; simp [w]; done) | omega
    · have q1 := (b2i_zero t3).2 c1
      show ((w128 n n1 < w128 n2 n3 → (1 : Int) = -1) ∧ (w128 n n1 = w128 n2 n3 → (1 : Int) = 0) ∧ (w128 n2 n3 < w128 n n1 → (1 : Int) = 1))
      have z : ¬ (vd [n40, n41, n42, n43, n44, n45, n46, n47, n48, n49, n50, n51] = 0) := fun h => c0 (h_zero.2 h)
      rcases hs with ⟨w, hs⟩ | ⟨w, hs⟩ <;> first | (exfalso; revert c1; simp [w]; done) | omega

theorem p_rint : P_rint := by
  unfold P_rint
  intro n l_n u_n
  intro n1 l_n1 u_n1
  intro hpre
  replace hpre : True := hpre
  intro b
  refine ⟨trivial, ?_⟩
  intro n2 l_n2 u_n2
  intro n3 l_n3 u_n3
  intro h_rof
  replace h_rof : w128 n2 n3 = (-9223372036854775808 : Int) := h_rof
  refine ⟨trivial, ?_⟩
  intro n4 l_n4 u_n4
  intro h_rcmp
  replace h_rcmp : ((w128 n n1 < w128 n2 n3 → n4 = -1) ∧ (w128 n n1 = w128 n2 n3 → n4 = 0) ∧ (w128 n2 n3 < w128 n n1 → n4 = 1)) := h_rcmp
  refine ⟨fun c0 => ?_, fun c0 => ?_⟩
  · show isInt (w128 n n1) (0 : Int) (b2i false)
    simp only [isInt, isI64, w128, b2i, if_true, Bool.false_eq_true, if_false, true_and, and_true, implies_true, and_self, false_and, and_false, imp_false]; simp only [w128] at *; omega
  · refine ⟨trivial, ?_⟩
    intro n5 l_n5 u_n5
    intro n6 l_n6 u_n6
    intro h_rof1
    replace h_rof1 : w128 n5 n6 = (9223372036854775807 : Int) := h_rof1
    refine ⟨trivial, ?_⟩
    intro n7 l_n7 u_n7
    intro h_rcmp1
    replace h_rcmp1 : ((w128 n n1 < w128 n5 n6 → n7 = -1) ∧ (w128 n n1 = w128 n5 n6 → n7 = 0) ∧ (w128 n5 n6 < w128 n n1 → n7 = 1)) := h_rcmp1
    refine ⟨fun c1 => ?_, fun c1 => ?_⟩
    · show isInt (w128 n n1) (0 : Int) (b2i false)
      simp only [isInt, isI64, w128, b2i, if_true, Bool.false_eq_true, if_false, true_and, and_true, implies_true, and_self, false_and, and_false, imp_false]; simp only [w128] at *; omega
    · intro n8 e_n8 l_n8 u_n8
      simp only [wrap_u64, wrap_i64, wrap_i32, wrap_u32] at e_n8
      show isInt (w128 n n1) n8 (b2i true)
      simp only [isInt, isI64, w128, b2i, if_true, Bool.false_eq_true, if_false, true_and, and_true, implies_true, and_self, false_and, and_false, imp_false]; simp only [w128] at *; omega

theorem p_rtms : P_rtms := by
  unfold P_rtms
  intro n l_n u_n
  intro n1 l_n1 u_n1
  intro n2 l_n2 u_n2
  intro hpre
  replace hpre : True := hpre
  intro b
  intro b1
  refine ⟨trivial, ?_⟩
  intro t
  intro n3 l_n3 u_n3
  intro n4 l_n4 u_n4
  intro n5 l_n5 u_n5
  intro n6 l_n6 u_n6
  intro n7 l_n7 u_n7
  intro n8 l_n8 u_n8
  intro n9 l_n9 u_n9
  intro n10 l_n10 u_n10
  intro n11 l_n11 u_n11
  intro n12 l_n12 u_n12
  intro n13 l_n13 u_n13
  intro n14 l_n14 u_n14
  intro h_read
  replace h_read : (vd [n3, n4, n5, n6, n7, n8, n9, n10, n11, n12, n13, n14] ≤ 170141183460469231731687303715884105728 ∧ sv [b2i t, n3, n4, n5, n6, n7, n8, n9, n10, n11, n12, n13, n14] = w128 n n1 ∧ ((b2i t) = 1 ↔ n < 0)) := h_read
  refine ⟨trivial, ?_⟩
  intro t1
  intro n15 l_n15 u_n15
  intro n16 l_n16 u_n16
  intro n17 l_n17 u_n17
  intro n18 l_n18 u_n18
  intro n19 l_n19 u_n19
  intro n20 l_n20 u_n20
  intro n21 l_n21 u_n21
  intro n22 l_n22 u_n22
  intro n23 l_n23 u_n23
  intro n24 l_n24 u_n24
  intro n25 l_n25 u_n25
  intro n26 l_n26 u_n26
  intro h_small
  replace h_small : (vd [n15, n16, n17, n18, n19, n20, n21, n22, n23, n24, n25, n26] ≤ 9223372036854775808 ∧ sv [b2i t1, n15, n16, n17, n18, n19, n20, n21, n22, n23, n24, n25, n26] = n2 ∧ ((b2i t1) = 1 ↔ n2 < 0)) := h_small
  refine ⟨trivial, ?_⟩
  intro t2
  intro n27 l_n27 u_n27
  intro n28 l_n28 u_n28
  intro n29 l_n29 u_n29
  intro n30 l_n30 u_n30
  intro n31 l_n31 u_n31
  intro n32 l_n32 u_n32
  intro n33 l_n33 u_n33
  intro n34 l_n34 u_n34
  intro n35 l_n35 u_n35
  intro n36 l_n36 u_n36
  intro n37 l_n37 u_n37
  intro n38 l_n38 u_n38
  intro h_product
  replace h_product : (((b2i t2) = 1 ↔ (b2i t) ≠ (b2i t1)) ∧ vd [n27, n28, n29, n30, n31, n32, n33, n34, n35, n36, n37, n38] = (vd [n3, n4, n5, n6, n7, n8, n9, n10, n11, n12, n13, n14] * vd [n15, n16, n17, n18, n19, n20, n21, n22, n23, n24, n25, n26]) % top12) := h_product
  have ha := vd12 n3 n4 n5 n6 n7 n8 n9 n10 n11 n12 n13 n14 ⟨l_n3, u_n3⟩ ⟨l_n4, u_n4⟩ ⟨l_n5, u_n5⟩ ⟨l_n6, u_n6⟩ ⟨l_n7, u_n7⟩ ⟨l_n8, u_n8⟩ ⟨l_n9, u_n9⟩ ⟨l_n10, u_n10⟩ ⟨l_n11, u_n11⟩ ⟨l_n12, u_n12⟩ ⟨l_n13, u_n13⟩ ⟨l_n14, u_n14⟩
  have hb := vd12 n15 n16 n17 n18 n19 n20 n21 n22 n23 n24 n25 n26 ⟨l_n15, u_n15⟩ ⟨l_n16, u_n16⟩ ⟨l_n17, u_n17⟩ ⟨l_n18, u_n18⟩ ⟨l_n19, u_n19⟩ ⟨l_n20, u_n20⟩ ⟨l_n21, u_n21⟩ ⟨l_n22, u_n22⟩ ⟨l_n23, u_n23⟩ ⟨l_n24, u_n24⟩ ⟨l_n25, u_n25⟩ ⟨l_n26, u_n26⟩
  have hm0 := Int.mul_nonneg ha.1 hb.1
  have hm1 := Int.mul_le_mul h_read.1 h_small.1 hb.1 (by omega)
  have hs := sv_mul (b2i_cases _) (b2i_cases _) (b2i_cases _) h_product hm0 (by simp only [top12]; omega)
  rw [h_read.2.1, h_small.2.1] at hs
  refine ⟨trivial, ?_⟩
  intro n39 l_n39 u_n39
  intro n40 l_n40 u_n40
  intro n41 l_n41 u_n41
  intro h_tell
  replace h_tell : tellW (sv [b2i t2, n27, n28, n29, n30, n31, n32, n33, n34, n35, n36, n37, n38]) n39 n40 n41 := h_tell
  show tellW (w128 n n1 * n2) n39 n40 n41
  rw [← hs]; exact h_tell

theorem p_rmul : P_rmul := by
  unfold P_rmul
  intro n l_n u_n
  intro n1 l_n1 u_n1
  intro hpre
  replace hpre : True := hpre
  intro b
  refine ⟨trivial, ?_⟩
  intro n2 l_n2 u_n2
  intro n3 l_n3 u_n3
  intro h_rof
  replace h_rof : w128 n2 n3 = n := h_rof
  refine ⟨trivial, ?_⟩
  intro n4 l_n4 u_n4
  intro n5 l_n5 u_n5
  intro n6 l_n6 u_n6
  intro h_rtms
  replace h_rtms : tellW (w128 n2 n3 * n1) n4 n5 n6 := h_rtms
  intro b1
  show w128 n4 n5 = n * n1
  have k1 : w128 n2 n3 = n := h_rof
  rw [k1] at h_rtms
  have k2 : n * n1 ≤ 9223372036854775808 * 9223372036854775808 ∧ -(9223372036854775808 * 9223372036854775808) ≤ n * n1 := by
    have := mul_in (a := n) (b := n1) (l1 := -9223372036854775808) (h1 := 9223372036854775807) (l2 := -9223372036854775808) (h2 := 9223372036854775807) ⟨l_n, u_n⟩ ⟨l_n1, u_n1⟩
    simp only [mn, mx] at this
    simp at this
    omega
  exact (h_rtms.1 (by simp only [inW, half128]; omega)).2

theorem p_rnear : P_rnear := by
  unfold P_rnear
  intro n l_n u_n
  intro n1 l_n1 u_n1
  intro n2 l_n2 u_n2
  intro hpre
  replace hpre : True := hpre
  intro b
  intro b1
  refine ⟨fun c0 => ?_, fun c0 => ?_⟩
  · show ((n2 < 1 → (0 : Int) = 0 ∧ (0 : Int) = 0 ∧ (1 : Int) = 1) ∧ (1 ≤ n2 → (1 : Int) = 0 ∧ isNear (w128 n n1) n2 (w128 (0 : Int) (0 : Int))))
    omega
  · refine ⟨trivial, ?_⟩
    intro t
    intro n3 l_n3 u_n3
    intro n4 l_n4 u_n4
    intro n5 l_n5 u_n5
    intro n6 l_n6 u_n6
    intro n7 l_n7 u_n7
    intro n8 l_n8 u_n8
    intro n9 l_n9 u_n9
    intro n10 l_n10 u_n10
    intro n11 l_n11 u_n11
    intro n12 l_n12 u_n12
    intro n13 l_n13 u_n13
    intro n14 l_n14 u_n14
    intro h_read
    replace h_read : (vd [n3, n4, n5, n6, n7, n8, n9, n10, n11, n12, n13, n14] ≤ 170141183460469231731687303715884105728 ∧ sv [b2i t, n3, n4, n5, n6, n7, n8, n9, n10, n11, n12, n13, n14] = w128 n n1 ∧ ((b2i t) = 1 ↔ n < 0)) := h_read
    refine ⟨trivial, ?_⟩
    intro t1
    intro n15 l_n15 u_n15
    intro n16 l_n16 u_n16
    intro n17 l_n17 u_n17
    intro n18 l_n18 u_n18
    intro n19 l_n19 u_n19
    intro n20 l_n20 u_n20
    intro n21 l_n21 u_n21
    intro n22 l_n22 u_n22
    intro n23 l_n23 u_n23
    intro n24 l_n24 u_n24
    intro n25 l_n25 u_n25
    intro n26 l_n26 u_n26
    intro h_small
    replace h_small : (vd [n15, n16, n17, n18, n19, n20, n21, n22, n23, n24, n25, n26] ≤ 9223372036854775808 ∧ sv [b2i t1, n15, n16, n17, n18, n19, n20, n21, n22, n23, n24, n25, n26] = n2 ∧ ((b2i t1) = 1 ↔ n2 < 0)) := h_small
    have hb := vd12 n15 n16 n17 n18 n19 n20 n21 n22 n23 n24 n25 n26 ⟨l_n15, u_n15⟩ ⟨l_n16, u_n16⟩ ⟨l_n17, u_n17⟩ ⟨l_n18, u_n18⟩ ⟨l_n19, u_n19⟩ ⟨l_n20, u_n20⟩ ⟨l_n21, u_n21⟩ ⟨l_n22, u_n22⟩ ⟨l_n23, u_n23⟩ ⟨l_n24, u_n24⟩ ⟨l_n25, u_n25⟩ ⟨l_n26, u_n26⟩
    have hs := sv_of t1 [n15, n16, n17, n18, n19, n20, n21, n22, n23, n24, n25, n26]
    have hv : vd [n15, n16, n17, n18, n19, n20, n21, n22, n23, n24, n25, n26] = n2 := by omega
    refine ⟨?_, ?_⟩
    · show (0 < vd [n15, n16, n17, n18, n19, n20, n21, n22, n23, n24, n25, n26] ∧ 2 * vd [n3, n4, n5, n6, n7, n8, n9, n10, n11, n12, n13, n14] + vd [n15, n16, n17, n18, n19, n20, n21, n22, n23, n24, n25, n26] < top12 ∧ 4 * vd [n15, n16, n17, n18, n19, n20, n21, n22, n23, n24, n25, n26] ≤ top12)
      rw [hv]; simp only [top12]; omega
    intro t2
    intro n27 l_n27 u_n27
    intro n28 l_n28 u_n28
    intro n29 l_n29 u_n29
    intro n30 l_n30 u_n30
    intro n31 l_n31 u_n31
    intro n32 l_n32 u_n32
    intro n33 l_n33 u_n33
    intro n34 l_n34 u_n34
    intro n35 l_n35 u_n35
    intro n36 l_n36 u_n36
    intro n37 l_n37 u_n37
    intro n38 l_n38 u_n38
    intro h_nearest
    replace h_nearest : (nearest (sv [b2i t, n3, n4, n5, n6, n7, n8, n9, n10, n11, n12, n13, n14]) (sv [b2i t1, n15, n16, n17, n18, n19, n20, n21, n22, n23, n24, n25, n26]) (sv [b2i t2, n27, n28, n29, n30, n31, n32, n33, n34, n35, n36, n37, n38]) ∧ vd [n27, n28, n29, n30, n31, n32, n33, n34, n35, n36, n37, n38] ≤ 2 * vd [n3, n4, n5, n6, n7, n8, n9, n10, n11, n12, n13, n14] + 2) := h_nearest
    refine ⟨trivial, ?_⟩
    intro n39 l_n39 u_n39
    intro n40 l_n40 u_n40
    intro n41 l_n41 u_n41
    intro h_tell
    replace h_tell : tellW (sv [b2i t2, n27, n28, n29, n30, n31, n32, n33, n34, n35, n36, n37, n38]) n39 n40 n41 := h_tell
    show ((n2 < 1 → n39 = 0 ∧ n40 = 0 ∧ n41 = 1) ∧ (1 ≤ n2 → n41 = 0 ∧ isNear (w128 n n1) n2 (w128 n39 n40)))
    have hn := h_nearest.1.1 (by omega)
    rw [h_read.2.1, h_small.2.1] at hn
    have hw := h_tell.1 (near_inW hn (inW_w l_n u_n l_n1 u_n1) (by omega))
    exact ⟨fun h => by omega, fun _ => ⟨hw.1, by rw [hw.2]; exact hn⟩⟩

set_option maxHeartbeats 4000000 in
theorem p_rfloor : P_rfloor := by
  unfold P_rfloor
  intro n l_n u_n
  intro n1 l_n1 u_n1
  intro n2 l_n2 u_n2
  intro hpre
  replace hpre : True := hpre
  intro b
  intro b1
  refine ⟨fun c0 => ?_, fun c0 => ?_⟩
  · show ((n2 < 1 → (0 : Int) = 0 ∧ (0 : Int) = 0 ∧ (0 : Int) = 0 ∧ (1 : Int) = 1) ∧ (1 ≤ n2 → (1 : Int) = 0 ∧ isFloor (w128 n n1) n2 (w128 (0 : Int) (0 : Int)) (0 : Int)))
    omega
  · refine ⟨trivial, ?_⟩
    intro t
    intro n3 l_n3 u_n3
    intro n4 l_n4 u_n4
    intro n5 l_n5 u_n5
    intro n6 l_n6 u_n6
    intro n7 l_n7 u_n7
    intro n8 l_n8 u_n8
    intro n9 l_n9 u_n9
    intro n10 l_n10 u_n10
    intro n11 l_n11 u_n11
    intro n12 l_n12 u_n12
    intro n13 l_n13 u_n13
    intro n14 l_n14 u_n14
    intro h_read
    replace h_read : (vd [n3, n4, n5, n6, n7, n8, n9, n10, n11, n12, n13, n14] ≤ 170141183460469231731687303715884105728 ∧ sv [b2i t, n3, n4, n5, n6, n7, n8, n9, n10, n11, n12, n13, n14] = w128 n n1 ∧ ((b2i t) = 1 ↔ n < 0)) := h_read
    have ha := vd12 n3 n4 n5 n6 n7 n8 n9 n10 n11 n12 n13 n14 ⟨l_n3, u_n3⟩ ⟨l_n4, u_n4⟩ ⟨l_n5, u_n5⟩ ⟨l_n6, u_n6⟩ ⟨l_n7, u_n7⟩ ⟨l_n8, u_n8⟩ ⟨l_n9, u_n9⟩ ⟨l_n10, u_n10⟩ ⟨l_n11, u_n11⟩ ⟨l_n12, u_n12⟩ ⟨l_n13, u_n13⟩ ⟨l_n14, u_n14⟩
    have hsa := sv_of t [n3, n4, n5, n6, n7, n8, n9, n10, n11, n12, n13, n14]
    intro b2
    refine ⟨trivial, ?_⟩
    intro t1
    intro n15 l_n15 u_n15
    intro n16 l_n16 u_n16
    intro n17 l_n17 u_n17
    intro n18 l_n18 u_n18
    intro n19 l_n19 u_n19
    intro n20 l_n20 u_n20
    intro n21 l_n21 u_n21
    intro n22 l_n22 u_n22
    intro n23 l_n23 u_n23
    intro n24 l_n24 u_n24
    intro n25 l_n25 u_n25
    intro n26 l_n26 u_n26
    intro h_small
    replace h_small : (vd [n15, n16, n17, n18, n19, n20, n21, n22, n23, n24, n25, n26] ≤ 9223372036854775808 ∧ sv [b2i t1, n15, n16, n17, n18, n19, n20, n21, n22, n23, n24, n25, n26] = n2 ∧ ((b2i t1) = 1 ↔ n2 < 0)) := h_small
    have hb := vd12 n15 n16 n17 n18 n19 n20 n21 n22 n23 n24 n25 n26 ⟨l_n15, u_n15⟩ ⟨l_n16, u_n16⟩ ⟨l_n17, u_n17⟩ ⟨l_n18, u_n18⟩ ⟨l_n19, u_n19⟩ ⟨l_n20, u_n20⟩ ⟨l_n21, u_n21⟩ ⟨l_n22, u_n22⟩ ⟨l_n23, u_n23⟩ ⟨l_n24, u_n24⟩ ⟨l_n25, u_n25⟩ ⟨l_n26, u_n26⟩
    have hs := sv_of t1 [n15, n16, n17, n18, n19, n20, n21, n22, n23, n24, n25, n26]
    have hv : vd [n15, n16, n17, n18, n19, n20, n21, n22, n23, n24, n25, n26] = n2 := by omega
    intro b3
    refine ⟨?_, ?_⟩
    · show (0 < vd [n15, n16, n17, n18, n19, n20, n21, n22, n23, n24, n25, n26] ∧ 2 * vd [n15, n16, n17, n18, n19, n20, n21, n22, n23, n24, n25, n26] ≤ top12)
      rw [hv]; simp only [top12]; omega
    intro n27 l_n27 u_n27
    intro n28 l_n28 u_n28
    intro n29 l_n29 u_n29
    intro n30 l_n30 u_n30
    intro n31 l_n31 u_n31
    intro n32 l_n32 u_n32
    intro n33 l_n33 u_n33
    intro n34 l_n34 u_n34
    intro n35 l_n35 u_n35
    intro n36 l_n36 u_n36
    intro n37 l_n37 u_n37
    intro n38 l_n38 u_n38
    intro n39 l_n39 u_n39
    intro n40 l_n40 u_n40
    intro n41 l_n41 u_n41
    intro n42 l_n42 u_n42
    intro n43 l_n43 u_n43
    intro n44 l_n44 u_n44
    intro n45 l_n45 u_n45
    intro n46 l_n46 u_n46
    intro n47 l_n47 u_n47
    intro n48 l_n48 u_n48
    intro n49 l_n49 u_n49
    intro n50 l_n50 u_n50
    intro h_divided
    replace h_divided : isFloor (vd [n3, n4, n5, n6, n7, n8, n9, n10, n11, n12, n13, n14]) (vd [n15, n16, n17, n18, n19, n20, n21, n22, n23, n24, n25, n26]) (vd [n27, n28, n29, n30, n31, n32, n33, n34, n35, n36, n37, n38]) (vd [n39, n40, n41, n42, n43, n44, n45, n46, n47, n48, n49, n50]) := h_divided
    rw [hv] at h_divided
    have hqb := floor_le h_divided ha.1 (by omega)
    have hz := vd_z n39 n40 n41 n42 n43 n44 n45 n46 n47 n48 n49 n50 l_n39 l_n40 l_n41 l_n42 l_n43 l_n44 l_n45 l_n46 l_n47 l_n48 l_n49 l_n50
    have hrr := h_divided.2
    intro b4
    intro b5
    refine ⟨fun c1 => ?_, fun c1 => ?_⟩
    · have q1 := (b2i_one t).2 c1
      refine ⟨fun c2 => ?_, fun c2 => ?_⟩
      · refine ⟨trivial, ?_⟩
        intro n51 l_n51 u_n51
        intro n52 l_n52 u_n52
        intro n53 l_n53 u_n53
        intro n54 l_n54 u_n54
        intro n55 l_n55 u_n55
        intro n56 l_n56 u_n56
        intro n57 l_n57 u_n57
        intro n58 l_n58 u_n58
        intro n59 l_n59 u_n59
        intro n60 l_n60 u_n60
        intro n61 l_n61 u_n61
        intro n62 l_n62 u_n62
        intro h_plus
        replace h_plus : vd [n51, n52, n53, n54, n55, n56, n57, n58, n59, n60, n61, n62] = (vd [n27, n28, n29, n30, n31, n32, n33, n34, n35, n36, n37, n38] + vd [1, 0, 0, 0, 0, 0, 0, 0, 0, 0, 0, 0]) % top12 := h_plus
        have ko : vd [n51, n52, n53, n54, n55, n56, n57, n58, n59, n60, n61, n62] = vd [n27, n28, n29, n30, n31, n32, n33, n34, n35, n36, n37, n38] + 1 := by
          rw [h_plus, show vd [1, 0, 0, 0, 0, 0, 0, 0, 0, 0, 0, 0] = 1 by simp [vd]]; simp only [top12]; omega
        refine ⟨?_, ?_⟩
        · show vd [n39, n40, n41, n42, n43, n44, n45, n46, n47, n48, n49, n50] ≤ vd [n15, n16, n17, n18, n19, n20, n21, n22, n23, n24, n25, n26]
          rw [hv]; omega
        intro n63 l_n63 u_n63
        intro n64 l_n64 u_n64
        intro n65 l_n65 u_n65
        intro n66 l_n66 u_n66
        intro n67 l_n67 u_n67
        intro n68 l_n68 u_n68
        intro n69 l_n69 u_n69
        intro n70 l_n70 u_n70
        intro n71 l_n71 u_n71
        intro n72 l_n72 u_n72
        intro n73 l_n73 u_n73
        intro n74 l_n74 u_n74
        intro h_less
        replace h_less : vd [n63, n64, n65, n66, n67, n68, n69, n70, n71, n72, n73, n74] = vd [n15, n16, n17, n18, n19, n20, n21, n22, n23, n24, n25, n26] - vd [n39, n40, n41, n42, n43, n44, n45, n46, n47, n48, n49, n50] := h_less
        rw [hv] at h_less
        refine ⟨trivial, ?_⟩
        intro n75 l_n75 u_n75
        intro n76 l_n76 u_n76
        intro n77 l_n77 u_n77
        intro h_tell
        replace h_tell : tellW (sv [b2i t, n51, n52, n53, n54, n55, n56, n57, n58, n59, n60, n61, n62]) n75 n76 n77 := h_tell
        intro b6
        refine ⟨trivial, ?_⟩
        intro n78 l_n78 u_n78
        intro n79 l_n79 u_n79
        intro n80 l_n80 u_n80
        intro h_tell1
        replace h_tell1 : tellW (sv [b2i false, n63, n64, n65, n66, n67, n68, n69, n70, n71, n72, n73, n74]) n78 n79 n80 := h_tell1
        intro b7
        intro n81 e_n81 l_n81 u_n81
        simp only [wrap_u64, wrap_i64, wrap_i32, wrap_u32] at e_n81
        show ((n2 < 1 → n75 = 0 ∧ n76 = 0 ∧ n81 = 0 ∧ (0 : Int) = 1) ∧ (1 ≤ n2 → (0 : Int) = 0 ∧ isFloor (w128 n n1) n2 (w128 n75 n76) n81))
        have hA : inW (w128 n n1) := inW_w l_n u_n l_n1 u_n1
        simp only [inW, half128] at hA
        refine ⟨fun h => by omega, fun _ => ⟨rfl, ?_⟩⟩
        have w1 : t = true := by simpa using c1
        subst w1
        simp only [Bool.true_eq_false, Bool.false_eq_true, reduceCtorEq, false_and, true_and, or_false, false_or] at hsa
        have g1 := (h_tell.1 (by rw [show sv [b2i true, n51, n52, n53, n54, n55, n56, n57, n58, n59, n60, n61, n62] = -vd [n51, n52, n53, n54, n55, n56, n57, n58, n59, n60, n61, n62] by simp [sv, b2i]]; simp only [inW, half128]; omega)).2
        have g2 := (h_tell1.1 (by rw [show sv [b2i false, n63, n64, n65, n66, n67, n68, n69, n70, n71, n72, n73, n74] = vd [n63, n64, n65, n66, n67, n68, n69, n70, n71, n72, n73, n74] by simp [sv, b2i]]; simp only [inW, half128]; omega)).2
        rw [show sv [b2i true, n51, n52, n53, n54, n55, n56, n57, n58, n59, n60, n61, n62] = -vd [n51, n52, n53, n54, n55, n56, n57, n58, n59, n60, n61, n62] by simp [sv, b2i]] at g1
        rw [show sv [b2i false, n63, n64, n65, n66, n67, n68, n69, n70, n71, n72, n73, n74] = vd [n63, n64, n65, n66, n67, n68, n69, n70, n71, n72, n73, n74] by simp [sv, b2i]] at g2
        have hpos : 0 < vd [n39, n40, n41, n42, n43, n44, n45, n46, n47, n48, n49, n50] := by
          have := fun h => c2 (hz.2 h)
          omega
        have hfl := (floor_neg (A := w128 n n1) (by rw [show -(w128 n n1) = vd [n3, n4, n5, n6, n7, n8, n9, n10, n11, n12, n13, n14] by omega]; exact h_divided)).1 hpos
        rw [g1, show -vd [n51, n52, n53, n54, n55, n56, n57, n58, n59, n60, n61, n62] = -vd [n27, n28, n29, n30, n31, n32, n33, n34, n35, n36, n37, n38] - 1 by omega, show n81 = n2 - vd [n39, n40, n41, n42, n43, n44, n45, n46, n47, n48, n49, n50] by simp only [w128] at g2; omega]
        exact hfl
      · refine ⟨trivial, ?_⟩
        intro n51 l_n51 u_n51
        intro n52 l_n52 u_n52
        intro n53 l_n53 u_n53
        intro h_tell
        replace h_tell : tellW (sv [b2i t, n27, n28, n29, n30, n31, n32, n33, n34, n35, n36, n37, n38]) n51 n52 n53 := h_tell
        intro b6
        refine ⟨trivial, ?_⟩
        intro n54 l_n54 u_n54
        intro n55 l_n55 u_n55
        intro n56 l_n56 u_n56
        intro h_tell1
        replace h_tell1 : tellW (sv [b2i false, n39, n40, n41, n42, n43, n44, n45, n46, n47, n48, n49, n50]) n54 n55 n56 := h_tell1
        intro b7
        intro n57 e_n57 l_n57 u_n57
        simp only [wrap_u64, wrap_i64, wrap_i32, wrap_u32] at e_n57
        show ((n2 < 1 → n51 = 0 ∧ n52 = 0 ∧ n57 = 0 ∧ (0 : Int) = 1) ∧ (1 ≤ n2 → (0 : Int) = 0 ∧ isFloor (w128 n n1) n2 (w128 n51 n52) n57))
        have hA : inW (w128 n n1) := inW_w l_n u_n l_n1 u_n1
        simp only [inW, half128] at hA
        refine ⟨fun h => by omega, fun _ => ⟨rfl, ?_⟩⟩
        have w1 : t = true := by simpa using c1
        subst w1
        simp only [Bool.true_eq_false, Bool.false_eq_true, reduceCtorEq, false_and, true_and, or_false, false_or] at hsa
        have g1 := (h_tell.1 (by rw [show sv [b2i true, n27, n28, n29, n30, n31, n32, n33, n34, n35, n36, n37, n38] = -vd [n27, n28, n29, n30, n31, n32, n33, n34, n35, n36, n37, n38] by simp [sv, b2i]]; simp only [inW, half128]; omega)).2
        have g2 := (h_tell1.1 (by rw [show sv [b2i false, n39, n40, n41, n42, n43, n44, n45, n46, n47, n48, n49, n50] = vd [n39, n40, n41, n42, n43, n44, n45, n46, n47, n48, n49, n50] by simp [sv, b2i]]; simp only [inW, half128]; omega)).2
        rw [show sv [b2i true, n27, n28, n29, n30, n31, n32, n33, n34, n35, n36, n37, n38] = -vd [n27, n28, n29, n30, n31, n32, n33, n34, n35, n36, n37, n38] by simp [sv, b2i]] at g1
        rw [show sv [b2i false, n39, n40, n41, n42, n43, n44, n45, n46, n47, n48, n49, n50] = vd [n39, n40, n41, n42, n43, n44, n45, n46, n47, n48, n49, n50] by simp [sv, b2i]] at g2
        have hfl := (floor_neg (A := w128 n n1) (by rw [show -(w128 n n1) = vd [n3, n4, n5, n6, n7, n8, n9, n10, n11, n12, n13, n14] by omega]; exact h_divided)).2 (hz.1 (Classical.not_not.1 c2))
        have hr00 := hz.1 (Classical.not_not.1 c2)
        rw [g1, show n57 = 0 by simp only [w128] at g2; omega]
        exact hfl
    · have q1 := (b2i_zero t).2 c1
      refine ⟨trivial, ?_⟩
      intro n51 l_n51 u_n51
      intro n52 l_n52 u_n52
      intro n53 l_n53 u_n53
      intro h_tell
      replace h_tell : tellW (sv [b2i t, n27, n28, n29, n30, n31, n32, n33, n34, n35, n36, n37, n38]) n51 n52 n53 := h_tell
      intro b6
      refine ⟨trivial, ?_⟩
      intro n54 l_n54 u_n54
      intro n55 l_n55 u_n55
      intro n56 l_n56 u_n56
      intro h_tell1
      replace h_tell1 : tellW (sv [b2i false, n39, n40, n41, n42, n43, n44, n45, n46, n47, n48, n49, n50]) n54 n55 n56 := h_tell1
      intro b7
      intro n57 e_n57 l_n57 u_n57
      simp only [wrap_u64, wrap_i64, wrap_i32, wrap_u32] at e_n57
      show ((n2 < 1 → n51 = 0 ∧ n52 = 0 ∧ n57 = 0 ∧ (0 : Int) = 1) ∧ (1 ≤ n2 → (0 : Int) = 0 ∧ isFloor (w128 n n1) n2 (w128 n51 n52) n57))
      have hA : inW (w128 n n1) := inW_w l_n u_n l_n1 u_n1
      simp only [inW, half128] at hA
      refine ⟨fun h => by omega, fun _ => ⟨rfl, ?_⟩⟩
      have w1 : t = false := by simpa using c1
      subst w1
      simp only [Bool.true_eq_false, Bool.false_eq_true, reduceCtorEq, false_and, true_and, or_false, false_or] at hsa
      have g1 := (h_tell.1 (by rw [show sv [b2i false, n27, n28, n29, n30, n31, n32, n33, n34, n35, n36, n37, n38] = vd [n27, n28, n29, n30, n31, n32, n33, n34, n35, n36, n37, n38] by simp [sv, b2i]]; simp only [inW, half128]; omega)).2
      have g2 := (h_tell1.1 (by rw [show sv [b2i false, n39, n40, n41, n42, n43, n44, n45, n46, n47, n48, n49, n50] = vd [n39, n40, n41, n42, n43, n44, n45, n46, n47, n48, n49, n50] by simp [sv, b2i]]; simp only [inW, half128]; omega)).2
      rw [show sv [b2i false, n27, n28, n29, n30, n31, n32, n33, n34, n35, n36, n37, n38] = vd [n27, n28, n29, n30, n31, n32, n33, n34, n35, n36, n37, n38] by simp [sv, b2i]] at g1
      rw [show sv [b2i false, n39, n40, n41, n42, n43, n44, n45, n46, n47, n48, n49, n50] = vd [n39, n40, n41, n42, n43, n44, n45, n46, n47, n48, n49, n50] by simp [sv, b2i]] at g2
      rw [g1, show n57 = vd [n39, n40, n41, n42, n43, n44, n45, n46, n47, n48, n49, n50] by simp only [w128] at g2; omega, show w128 n n1 = vd [n3, n4, n5, n6, n7, n8, n9, n10, n11, n12, n13, n14] by omega]
      exact h_divided

end Go.Proofs.YtogcbmadcgjljaaDoor.Sx
