/-
  The document's angles: sums of products.
-/
import Derived.Test.YtihfbliipjobdaaAf
set_option linter.all false
set_option maxRecDepth 100000
namespace Go.Proofs.Ytihfbliipjobdaa.Sx
open Go Go.RowKit

theorem or_i64 {h y : Int} (h0 : -2305843009213693952 ≤ h) (h1 : h < 2305843009213693952) (y0 : 0 ≤ y) (y1 : y < 4) : bitsI .or .i64 (h * 4) y = h * 4 + y := by
  have e : bitsI .or .i64 (h * 4) y = IntKind.wrap .i64 (((BitVec.ofInt 64 (h * 4) ||| BitVec.ofInt 64 y).toNat : Nat) : Int) := rfl
  rw [e, wrap_i64, BitVec.toNat_or, BitVec.toNat_ofInt, BitVec.toNat_ofInt]
  have e1 : (h * 4 % ((2 ^ 64 : Nat) : Int)).toNat = 2 ^ 2 * (h % 4611686018427387904).toNat := by omega
  have e2 : (y % ((2 ^ 64 : Nat) : Int)).toNat < 2 ^ 2 := by omega
  rw [e1, ← Nat.two_pow_add_eq_or_of_lt e2]
  omega
theorem floor62 {h l v : Int} (hv : w128 h l = v) (l0 : 0 ≤ l) (l1 : l ≤ 18446744073709551615) (v0 : -42535295865117307932921825928971026432 ≤ v) (v1 : v < 42535295865117307932921825928971026432) :
    bitsI .or .i64 (IntKind.wrap .i64 (h * 4)) (l / 4611686018427387904) = v / 4611686018427387904 := by
  simp only [w128] at hv
  have hh : -2305843009213693952 ≤ h ∧ h < 2305843009213693952 := by omega
  have e : IntKind.wrap .i64 (h * 4) = h * 4 := by rw [wrap_i64]; omega
  rw [e]
  have d : 0 ≤ l / 4611686018427387904 ∧ l / 4611686018427387904 < 4 := by omega
  have key : bitsI .or .i64 (h * 4) (l / 4611686018427387904) = h * 4 + l / 4611686018427387904 := or_i64 hh.1 hh.2 d.1 d.2
  rw [key]
  omega

theorem p_rt5 : P_rt5 := by
  unfold P_rt5
  intro n l_n u_n
  intro n1 l_n1 u_n1
  intro hpre
  replace hpre : True := hpre
  intro b
  refine ⟨trivial, ?_⟩
  intro t
  intro n2 l_n2 u_n2
  intro n3 l_n3 u_n3
  intro n4 l_n4 u_n4
  intro n5 l_n5 u_n5
  intro n6 l_n6 u_n6
  intro n7 l_n7 u_n7
  intro n8 l_n8 u_n8
  intro n9 l_n9 u_n9
  intro n10 l_n10 u_n10
  intro n11 l_n11 u_n11
  intro n12 l_n12 u_n12
  intro n13 l_n13 u_n13
  intro h_small
  replace h_small : (vd [n2, n3, n4, n5, n6, n7, n8, n9, n10, n11, n12, n13] ≤ 9223372036854775808 ∧ sv [b2i t, n2, n3, n4, n5, n6, n7, n8, n9, n10, n11, n12, n13] = n ∧ ((b2i t) = 1 ↔ n < 0)) := h_small
  refine ⟨trivial, ?_⟩
  intro t1
  intro n14 l_n14 u_n14
  intro n15 l_n15 u_n15
  intro n16 l_n16 u_n16
  intro n17 l_n17 u_n17
  intro n18 l_n18 u_n18
  intro n19 l_n19 u_n19
  intro n20 l_n20 u_n20
  intro n21 l_n21 u_n21
  intro n22 l_n22 u_n22
  intro n23 l_n23 u_n23
  intro n24 l_n24 u_n24
  intro n25 l_n25 u_n25
  intro h_small1
  replace h_small1 : (vd [n14, n15, n16, n17, n18, n19, n20, n21, n22, n23, n24, n25] ≤ 9223372036854775808 ∧ sv [b2i t1, n14, n15, n16, n17, n18, n19, n20, n21, n22, n23, n24, n25] = n1 ∧ ((b2i t1) = 1 ↔ n1 < 0)) := h_small1
  refine ⟨trivial, ?_⟩
  intro t2
  intro n26 l_n26 u_n26
  intro n27 l_n27 u_n27
  intro n28 l_n28 u_n28
  intro n29 l_n29 u_n29
  intro n30 l_n30 u_n30
  intro n31 l_n31 u_n31
  intro n32 l_n32 u_n32
  intro n33 l_n33 u_n33
  intro n34 l_n34 u_n34
  intro n35 l_n35 u_n35
  intro n36 l_n36 u_n36
  intro n37 l_n37 u_n37
  intro h_product
  replace h_product : (((b2i t2) = 1 ↔ (b2i t) ≠ (b2i t1)) ∧ vd [n26, n27, n28, n29, n30, n31, n32, n33, n34, n35, n36, n37] = (vd [n2, n3, n4, n5, n6, n7, n8, n9, n10, n11, n12, n13] * vd [n14, n15, n16, n17, n18, n19, n20, n21, n22, n23, n24, n25]) % top12) := h_product
  have ha := vd12 n2 n3 n4 n5 n6 n7 n8 n9 n10 n11 n12 n13 ⟨l_n2, u_n2⟩ ⟨l_n3, u_n3⟩ ⟨l_n4, u_n4⟩ ⟨l_n5, u_n5⟩ ⟨l_n6, u_n6⟩ ⟨l_n7, u_n7⟩ ⟨l_n8, u_n8⟩ ⟨l_n9, u_n9⟩ ⟨l_n10, u_n10⟩ ⟨l_n11, u_n11⟩ ⟨l_n12, u_n12⟩ ⟨l_n13, u_n13⟩
  have hb := vd12 n14 n15 n16 n17 n18 n19 n20 n21 n22 n23 n24 n25 ⟨l_n14, u_n14⟩ ⟨l_n15, u_n15⟩ ⟨l_n16, u_n16⟩ ⟨l_n17, u_n17⟩ ⟨l_n18, u_n18⟩ ⟨l_n19, u_n19⟩ ⟨l_n20, u_n20⟩ ⟨l_n21, u_n21⟩ ⟨l_n22, u_n22⟩ ⟨l_n23, u_n23⟩ ⟨l_n24, u_n24⟩ ⟨l_n25, u_n25⟩
  have hm0 := Int.mul_nonneg ha.1 hb.1
  have hm1 := Int.mul_le_mul h_small.1 h_small1.1 hb.1 (by omega)
  have hs := sv_mul (b2i_cases _) (b2i_cases _) (b2i_cases _) h_product hm0 (by simp only [top12]; omega)
  have hv := h_product.2
  rw [Int.emod_eq_of_lt hm0 (by simp only [top12]; omega)] at hv
  rw [h_small.2.1, h_small1.2.1] at hs
  show (sv [b2i t2, n26, n27, n28, n29, n30, n31, n32, n33, n34, n35, n36, n37] = n * n1 ∧ vd [n26, n27, n28, n29, n30, n31, n32, n33, n34, n35, n36, n37] ≤ 85070591730234615865843651857942052864)
  exact ⟨hs, by rw [hv]; omega⟩

theorem p_rfl5 : P_rfl5 := by
  unfold P_rfl5
  intro t
  intro n l_n u_n
  intro n1 l_n1 u_n1
  intro n2 l_n2 u_n2
  intro n3 l_n3 u_n3
  intro n4 l_n4 u_n4
  intro n5 l_n5 u_n5
  intro n6 l_n6 u_n6
  intro n7 l_n7 u_n7
  intro n8 l_n8 u_n8
  intro n9 l_n9 u_n9
  intro n10 l_n10 u_n10
  intro n11 l_n11 u_n11
  intro hpre
  replace hpre : (-42535295865117307932921825928971026432 ≤ sv [b2i t, n, n1, n2, n3, n4, n5, n6, n7, n8, n9, n10, n11] ∧ sv [b2i t, n, n1, n2, n3, n4, n5, n6, n7, n8, n9, n10, n11] < 42535295865117307932921825928971026432) := hpre
  intro b
  refine ⟨trivial, ?_⟩
  intro n12 l_n12 u_n12
  intro n13 l_n13 u_n13
  intro n14 l_n14 u_n14
  intro h_tell
  replace h_tell : tellW (sv [b2i t, n, n1, n2, n3, n4, n5, n6, n7, n8, n9, n10, n11]) n12 n13 n14 := h_tell
  have hw := (h_tell.1 (by simp only [inW, half128]; omega)).2
  intro b1
  intro n15 e_n15 l_n15 u_n15
  rw [floor62 hw l_n13 u_n13 hpre.1 hpre.2] at e_n15
  show n15 = sv [b2i t, n, n1, n2, n3, n4, n5, n6, n7, n8, n9, n10, n11] / 4611686018427387904
  exact e_n15

theorem p_ron : P_ron := by
  unfold P_ron
  intro n l_n u_n
  intro n1 l_n1 u_n1
  intro n2 l_n2 u_n2
  intro n3 l_n3 u_n3
  intro hpre
  replace hpre : (nb n n1 4611686018427387984 ∧ nb n2 n3 4611686018427387904) := hpre
  have hc := cross_in hpre.1 hpre.2
  intro b
  intro b1
  intro b2
  refine ⟨trivial, ?_⟩
  intro t
  intro n4 l_n4 u_n4
  intro n5 l_n5 u_n5
  intro n6 l_n6 u_n6
  intro n7 l_n7 u_n7
  intro n8 l_n8 u_n8
  intro n9 l_n9 u_n9
  intro n10 l_n10 u_n10
  intro n11 l_n11 u_n11
  intro n12 l_n12 u_n12
  intro n13 l_n13 u_n13
  intro n14 l_n14 u_n14
  intro n15 l_n15 u_n15
  intro h_rt5
  replace h_rt5 : (sv [b2i t, n4, n5, n6, n7, n8, n9, n10, n11, n12, n13, n14, n15] = n * n2 ∧ vd [n4, n5, n6, n7, n8, n9, n10, n11, n12, n13, n14, n15] ≤ 85070591730234615865843651857942052864) := h_rt5
  refine ⟨trivial, ?_⟩
  intro t1
  intro n16 l_n16 u_n16
  intro n17 l_n17 u_n17
  intro n18 l_n18 u_n18
  intro n19 l_n19 u_n19
  intro n20 l_n20 u_n20
  intro n21 l_n21 u_n21
  intro n22 l_n22 u_n22
  intro n23 l_n23 u_n23
  intro n24 l_n24 u_n24
  intro n25 l_n25 u_n25
  intro n26 l_n26 u_n26
  intro n27 l_n27 u_n27
  intro h_rt51
  replace h_rt51 : (sv [b2i t1, n16, n17, n18, n19, n20, n21, n22, n23, n24, n25, n26, n27] = n1 * n3 ∧ vd [n16, n17, n18, n19, n20, n21, n22, n23, n24, n25, n26, n27] ≤ 85070591730234615865843651857942052864) := h_rt51
  refine ⟨trivial, ?_⟩
  intro t2
  intro n28 l_n28 u_n28
  intro n29 l_n29 u_n29
  intro n30 l_n30 u_n30
  intro n31 l_n31 u_n31
  intro n32 l_n32 u_n32
  intro n33 l_n33 u_n33
  intro n34 l_n34 u_n34
  intro n35 l_n35 u_n35
  intro n36 l_n36 u_n36
  intro n37 l_n37 u_n37
  intro n38 l_n38 u_n38
  intro n39 l_n39 u_n39
  intro h_minus
  replace h_minus : (((b2i t2) = 1 ↔ (b2i t1) ≠ 1) ∧ [n28, n29, n30, n31, n32, n33, n34, n35, n36, n37, n38, n39] = [n16, n17, n18, n19, n20, n21, n22, n23, n24, n25, n26, n27]) := h_minus
  have km0 := neg_sv (b2i_cases _) (b2i_cases _) h_minus
  clear h_minus
  refine ⟨?_, ?_⟩
  · show vd [n4, n5, n6, n7, n8, n9, n10, n11, n12, n13, n14, n15] + vd [n28, n29, n30, n31, n32, n33, n34, n35, n36, n37, n38, n39] < top12
    simp only [top12]; omega
  intro t3
  intro n40 l_n40 u_n40
  intro n41 l_n41 u_n41
  intro n42 l_n42 u_n42
  intro n43 l_n43 u_n43
  intro n44 l_n44 u_n44
  intro n45 l_n45 u_n45
  intro n46 l_n46 u_n46
  intro n47 l_n47 u_n47
  intro n48 l_n48 u_n48
  intro n49 l_n49 u_n49
  intro n50 l_n50 u_n50
  intro n51 l_n51 u_n51
  intro h_sum
  replace h_sum : (sv [b2i t3, n40, n41, n42, n43, n44, n45, n46, n47, n48, n49, n50, n51] = sv [b2i t, n4, n5, n6, n7, n8, n9, n10, n11, n12, n13, n14, n15] + sv [b2i t2, n28, n29, n30, n31, n32, n33, n34, n35, n36, n37, n38, n39] ∧ vd [n40, n41, n42, n43, n44, n45, n46, n47, n48, n49, n50, n51] ≤ vd [n4, n5, n6, n7, n8, n9, n10, n11, n12, n13, n14, n15] + vd [n28, n29, n30, n31, n32, n33, n34, n35, n36, n37, n38, n39]) := h_sum
  refine ⟨?_, ?_⟩
  · show (-42535295865117307932921825928971026432 ≤ sv [b2i t3, n40, n41, n42, n43, n44, n45, n46, n47, n48, n49, n50, n51] ∧ sv [b2i t3, n40, n41, n42, n43, n44, n45, n46, n47, n48, n49, n50, n51] < 42535295865117307932921825928971026432)
    omega
  intro n52 l_n52 u_n52
  intro h_rfl5
  replace h_rfl5 : n52 = sv [b2i t3, n40, n41, n42, n43, n44, n45, n46, n47, n48, n49, n50, n51] / 4611686018427387904 := h_rfl5
  refine ⟨trivial, ?_⟩
  intro t4
  intro n53 l_n53 u_n53
  intro n54 l_n54 u_n54
  intro n55 l_n55 u_n55
  intro n56 l_n56 u_n56
  intro n57 l_n57 u_n57
  intro n58 l_n58 u_n58
  intro n59 l_n59 u_n59
  intro n60 l_n60 u_n60
  intro n61 l_n61 u_n61
  intro n62 l_n62 u_n62
  intro n63 l_n63 u_n63
  intro n64 l_n64 u_n64
  intro h_rt52
  replace h_rt52 : (sv [b2i t4, n53, n54, n55, n56, n57, n58, n59, n60, n61, n62, n63, n64] = n1 * n2 ∧ vd [n53, n54, n55, n56, n57, n58, n59, n60, n61, n62, n63, n64] ≤ 85070591730234615865843651857942052864) := h_rt52
  refine ⟨trivial, ?_⟩
  intro t5
  intro n65 l_n65 u_n65
  intro n66 l_n66 u_n66
  intro n67 l_n67 u_n67
  intro n68 l_n68 u_n68
  intro n69 l_n69 u_n69
  intro n70 l_n70 u_n70
  intro n71 l_n71 u_n71
  intro n72 l_n72 u_n72
  intro n73 l_n73 u_n73
  intro n74 l_n74 u_n74
  intro n75 l_n75 u_n75
  intro n76 l_n76 u_n76
  intro h_rt53
  replace h_rt53 : (sv [b2i t5, n65, n66, n67, n68, n69, n70, n71, n72, n73, n74, n75, n76] = n * n3 ∧ vd [n65, n66, n67, n68, n69, n70, n71, n72, n73, n74, n75, n76] ≤ 85070591730234615865843651857942052864) := h_rt53
  refine ⟨?_, ?_⟩
  · show vd [n53, n54, n55, n56, n57, n58, n59, n60, n61, n62, n63, n64] + vd [n65, n66, n67, n68, n69, n70, n71, n72, n73, n74, n75, n76] < top12
    simp only [top12]; omega
  intro t6
  intro n77 l_n77 u_n77
  intro n78 l_n78 u_n78
  intro n79 l_n79 u_n79
  intro n80 l_n80 u_n80
  intro n81 l_n81 u_n81
  intro n82 l_n82 u_n82
  intro n83 l_n83 u_n83
  intro n84 l_n84 u_n84
  intro n85 l_n85 u_n85
  intro n86 l_n86 u_n86
  intro n87 l_n87 u_n87
  intro n88 l_n88 u_n88
  intro h_sum1
  replace h_sum1 : (sv [b2i t6, n77, n78, n79, n80, n81, n82, n83, n84, n85, n86, n87, n88] = sv [b2i t4, n53, n54, n55, n56, n57, n58, n59, n60, n61, n62, n63, n64] + sv [b2i t5, n65, n66, n67, n68, n69, n70, n71, n72, n73, n74, n75, n76] ∧ vd [n77, n78, n79, n80, n81, n82, n83, n84, n85, n86, n87, n88] ≤ vd [n53, n54, n55, n56, n57, n58, n59, n60, n61, n62, n63, n64] + vd [n65, n66, n67, n68, n69, n70, n71, n72, n73, n74, n75, n76]) := h_sum1
  refine ⟨?_, ?_⟩
  · show (-42535295865117307932921825928971026432 ≤ sv [b2i t6, n77, n78, n79, n80, n81, n82, n83, n84, n85, n86, n87, n88] ∧ sv [b2i t6, n77, n78, n79, n80, n81, n82, n83, n84, n85, n86, n87, n88] < 42535295865117307932921825928971026432)
    omega
  intro n89 l_n89 u_n89
  intro h_rfl51
  replace h_rfl51 : n89 = sv [b2i t6, n77, n78, n79, n80, n81, n82, n83, n84, n85, n86, n87, n88] / 4611686018427387904 := h_rfl51
  show (n52 = onX n n1 n2 n3 ∧ n89 = onY n n1 n2 n3)
  simp only [onX, onY, Int.neg_mul]
  constructor <;> omega

theorem p_rback : P_rback := by
  unfold P_rback
  intro n l_n u_n
  intro n1 l_n1 u_n1
  intro n2 l_n2 u_n2
  intro n3 l_n3 u_n3
  intro hpre
  replace hpre : (nb n n1 4611686018427387984 ∧ nb n2 n3 4611686018427387904) := hpre
  have hc := cross_in hpre.1 (nb_conj hpre.2)
  simp only [Int.mul_neg] at hc
  intro b
  intro b1
  intro b2
  refine ⟨trivial, ?_⟩
  intro t
  intro n4 l_n4 u_n4
  intro n5 l_n5 u_n5
  intro n6 l_n6 u_n6
  intro n7 l_n7 u_n7
  intro n8 l_n8 u_n8
  intro n9 l_n9 u_n9
  intro n10 l_n10 u_n10
  intro n11 l_n11 u_n11
  intro n12 l_n12 u_n12
  intro n13 l_n13 u_n13
  intro n14 l_n14 u_n14
  intro n15 l_n15 u_n15
  intro h_rt5
  replace h_rt5 : (sv [b2i t, n4, n5, n6, n7, n8, n9, n10, n11, n12, n13, n14, n15] = n * n2 ∧ vd [n4, n5, n6, n7, n8, n9, n10, n11, n12, n13, n14, n15] ≤ 85070591730234615865843651857942052864) := h_rt5
  refine ⟨trivial, ?_⟩
  intro t1
  intro n16 l_n16 u_n16
  intro n17 l_n17 u_n17
  intro n18 l_n18 u_n18
  intro n19 l_n19 u_n19
  intro n20 l_n20 u_n20
  intro n21 l_n21 u_n21
  intro n22 l_n22 u_n22
  intro n23 l_n23 u_n23
  intro n24 l_n24 u_n24
  intro n25 l_n25 u_n25
  intro n26 l_n26 u_n26
  intro n27 l_n27 u_n27
  intro h_rt51
  replace h_rt51 : (sv [b2i t1, n16, n17, n18, n19, n20, n21, n22, n23, n24, n25, n26, n27] = n1 * n3 ∧ vd [n16, n17, n18, n19, n20, n21, n22, n23, n24, n25, n26, n27] ≤ 85070591730234615865843651857942052864) := h_rt51
  refine ⟨?_, ?_⟩
  · show vd [n4, n5, n6, n7, n8, n9, n10, n11, n12, n13, n14, n15] + vd [n16, n17, n18, n19, n20, n21, n22, n23, n24, n25, n26, n27] < top12
    simp only [top12]; omega
  intro t2
  intro n28 l_n28 u_n28
  intro n29 l_n29 u_n29
  intro n30 l_n30 u_n30
  intro n31 l_n31 u_n31
  intro n32 l_n32 u_n32
  intro n33 l_n33 u_n33
  intro n34 l_n34 u_n34
  intro n35 l_n35 u_n35
  intro n36 l_n36 u_n36
  intro n37 l_n37 u_n37
  intro n38 l_n38 u_n38
  intro n39 l_n39 u_n39
  intro h_sum
  replace h_sum : (sv [b2i t2, n28, n29, n30, n31, n32, n33, n34, n35, n36, n37, n38, n39] = sv [b2i t, n4, n5, n6, n7, n8, n9, n10, n11, n12, n13, n14, n15] + sv [b2i t1, n16, n17, n18, n19, n20, n21, n22, n23, n24, n25, n26, n27] ∧ vd [n28, n29, n30, n31, n32, n33, n34, n35, n36, n37, n38, n39] ≤ vd [n4, n5, n6, n7, n8, n9, n10, n11, n12, n13, n14, n15] + vd [n16, n17, n18, n19, n20, n21, n22, n23, n24, n25, n26, n27]) := h_sum
  refine ⟨?_, ?_⟩
  · show (-42535295865117307932921825928971026432 ≤ sv [b2i t2, n28, n29, n30, n31, n32, n33, n34, n35, n36, n37, n38, n39] ∧ sv [b2i t2, n28, n29, n30, n31, n32, n33, n34, n35, n36, n37, n38, n39] < 42535295865117307932921825928971026432)
    omega
  intro n40 l_n40 u_n40
  intro h_rfl5
  replace h_rfl5 : n40 = sv [b2i t2, n28, n29, n30, n31, n32, n33, n34, n35, n36, n37, n38, n39] / 4611686018427387904 := h_rfl5
  refine ⟨trivial, ?_⟩
  intro t3
  intro n41 l_n41 u_n41
  intro n42 l_n42 u_n42
  intro n43 l_n43 u_n43
  intro n44 l_n44 u_n44
  intro n45 l_n45 u_n45
  intro n46 l_n46 u_n46
  intro n47 l_n47 u_n47
  intro n48 l_n48 u_n48
  intro n49 l_n49 u_n49
  intro n50 l_n50 u_n50
  intro n51 l_n51 u_n51
  intro n52 l_n52 u_n52
  intro h_rt52
  replace h_rt52 : (sv [b2i t3, n41, n42, n43, n44, n45, n46, n47, n48, n49, n50, n51, n52] = n1 * n2 ∧ vd [n41, n42, n43, n44, n45, n46, n47, n48, n49, n50, n51, n52] ≤ 85070591730234615865843651857942052864) := h_rt52
  refine ⟨trivial, ?_⟩
  intro t4
  intro n53 l_n53 u_n53
  intro n54 l_n54 u_n54
  intro n55 l_n55 u_n55
  intro n56 l_n56 u_n56
  intro n57 l_n57 u_n57
  intro n58 l_n58 u_n58
  intro n59 l_n59 u_n59
  intro n60 l_n60 u_n60
  intro n61 l_n61 u_n61
  intro n62 l_n62 u_n62
  intro n63 l_n63 u_n63
  intro n64 l_n64 u_n64
  intro h_rt53
  replace h_rt53 : (sv [b2i t4, n53, n54, n55, n56, n57, n58, n59, n60, n61, n62, n63, n64] = n * n3 ∧ vd [n53, n54, n55, n56, n57, n58, n59, n60, n61, n62, n63, n64] ≤ 85070591730234615865843651857942052864) := h_rt53
  refine ⟨trivial, ?_⟩
  intro t5
  intro n65 l_n65 u_n65
  intro n66 l_n66 u_n66
  intro n67 l_n67 u_n67
  intro n68 l_n68 u_n68
  intro n69 l_n69 u_n69
  intro n70 l_n70 u_n70
  intro n71 l_n71 u_n71
  intro n72 l_n72 u_n72
  intro n73 l_n73 u_n73
  intro n74 l_n74 u_n74
  intro n75 l_n75 u_n75
  intro n76 l_n76 u_n76
  intro h_minus
  replace h_minus : (((b2i t5) = 1 ↔ (b2i t4) ≠ 1) ∧ [n65, n66, n67, n68, n69, n70, n71, n72, n73, n74, n75, n76] = [n53, n54, n55, n56, n57, n58, n59, n60, n61, n62, n63, n64]) := h_minus
  have km0 := neg_sv (b2i_cases _) (b2i_cases _) h_minus
  clear h_minus
  refine ⟨?_, ?_⟩
  · show vd [n41, n42, n43, n44, n45, n46, n47, n48, n49, n50, n51, n52] + vd [n65, n66, n67, n68, n69, n70, n71, n72, n73, n74, n75, n76] < top12
    simp only [top12]; omega
  intro t6
  intro n77 l_n77 u_n77
  intro n78 l_n78 u_n78
  intro n79 l_n79 u_n79
  intro n80 l_n80 u_n80
  intro n81 l_n81 u_n81
  intro n82 l_n82 u_n82
  intro n83 l_n83 u_n83
  intro n84 l_n84 u_n84
  intro n85 l_n85 u_n85
  intro n86 l_n86 u_n86
  intro n87 l_n87 u_n87
  intro n88 l_n88 u_n88
  intro h_sum1
  replace h_sum1 : (sv [b2i t6, n77, n78, n79, n80, n81, n82, n83, n84, n85, n86, n87, n88] = sv [b2i t3, n41, n42, n43, n44, n45, n46, n47, n48, n49, n50, n51, n52] + sv [b2i t5, n65, n66, n67, n68, n69, n70, n71, n72, n73, n74, n75, n76] ∧ vd [n77, n78, n79, n80, n81, n82, n83, n84, n85, n86, n87, n88] ≤ vd [n41, n42, n43, n44, n45, n46, n47, n48, n49, n50, n51, n52] + vd [n65, n66, n67, n68, n69, n70, n71, n72, n73, n74, n75, n76]) := h_sum1
  refine ⟨?_, ?_⟩
  · show (-42535295865117307932921825928971026432 ≤ sv [b2i t6, n77, n78, n79, n80, n81, n82, n83, n84, n85, n86, n87, n88] ∧ sv [b2i t6, n77, n78, n79, n80, n81, n82, n83, n84, n85, n86, n87, n88] < 42535295865117307932921825928971026432)
    omega
  intro n89 l_n89 u_n89
  intro h_rfl51
  replace h_rfl51 : n89 = sv [b2i t6, n77, n78, n79, n80, n81, n82, n83, n84, n85, n86, n87, n88] / 4611686018427387904 := h_rfl51
  show (n40 = bkX n n1 n2 n3 ∧ n89 = bkY n n1 n2 n3)
  simp only [bkX, bkY, Int.neg_mul]
  constructor <;> omega

theorem p_rnr5 : P_rnr5 := by
  unfold P_rnr5
  intro n l_n u_n
  intro hpre
  replace hpre : True := hpre
  refine ⟨trivial, ?_⟩
  intro n1 l_n1 u_n1
  intro n2 l_n2 u_n2
  intro h_rof
  replace h_rof : w128 n1 n2 = n := h_rof
  refine ⟨trivial, ?_⟩
  intro n3 l_n3 u_n3
  intro n4 l_n4 u_n4
  intro n5 l_n5 u_n5
  intro h_rnear
  replace h_rnear : (((70368744177664 : Int) < 1 → n3 = 0 ∧ n4 = 0 ∧ n5 = 1) ∧ (1 ≤ (70368744177664 : Int) → n5 = 0 ∧ isNear (w128 n1 n2) (70368744177664 : Int) (w128 n3 n4))) := h_rnear
  have hw := (h_rnear.2 (by omega)).2
  have k1 : w128 n1 n2 = n := h_rof
  rw [k1] at hw
  have hq : w128 n3 n4 = nearS n := by
    obtain ⟨q1, q2⟩ := hw
    unfold nearS
    omega
  have hb : -65537 ≤ nearS n ∧ nearS n ≤ 65537 := by
    unfold nearS; omega
  intro b
  refine ⟨trivial, ?_⟩
  intro n6 l_n6 u_n6
  intro t
  intro h_rint
  replace h_rint : isInt (w128 n3 n4) n6 (b2i t) := h_rint
  have hi := (h_rint.1 (by simp only [isI64]; omega)).2
  intro n7 e_n7 l_n7 u_n7
  simp only [wrap_u64, wrap_i64, wrap_i32, wrap_u32, wrap_u8] at e_n7
  refine ⟨by omega, ?_⟩
  refine ⟨by omega, ?_⟩
  intro n8 e_n8 l_n8 u_n8
  show n8 = nearS n
  rw [← hq]; omega

theorem root_in {h l x X : Int} (hw : w128 h l = (4611686018427387904 + X) * 2305843009213693952) (h0 : 0 ≤ X) (h1 : X ≤ 4611686018427387904) (hr : isRoot (w128 h l) x) (x0 : 0 ≤ x) : 3260954456333195552 ≤ x ∧ x < 4611686018427387905 := by
  obtain ⟨r1, r2⟩ := hr
  rw [hw] at r1 r2
  constructor
  · rcases Int.lt_or_le x 3260954456333195552 with z | z
    · have := Int.mul_le_mul (show x + 1 ≤ 3260954456333195552 by omega) (show x + 1 ≤ 3260954456333195552 by omega) (by omega) (by omega)
      omega
    · exact z
  · rcases Int.lt_or_le x 4611686018427387905 with z | z
    · exact z
    · have := Int.mul_le_mul z z (by omega) (by omega)
      omega
theorem q_in {y c : Int} (h0 : 0 ≤ y) (h1 : y ≤ 4611686018427387904) (hc : 3260954456333195552 ≤ c) : 0 ≤ y * 2305843009213693952 / c ∧ y * 2305843009213693952 / c ≤ 4611686018427387904 := by
  refine ⟨Int.ediv_nonneg (by omega) (by omega), ?_⟩
  refine Int.ediv_le_of_le_mul (by omega) ?_
  have := Int.mul_le_mul h1 hc (by omega) (by omega)
  omega

theorem p_tnext : P_tnext := by
  unfold P_tnext
  intro n l_n u_n
  intro hpre
  replace hpre : True := hpre
  intro n1 e_n1 l_n1 u_n1
  show n1 = n + 1
  exact e_n1

theorem p_rsin : P_rsin := by
  unfold P_rsin
  intro n l_n u_n
  intro hpre
  replace hpre : True := hpre
  refine ⟨trivial, ?_⟩
  intro n1 l_n1 u_n1
  intro n2 l_n2 u_n2
  intro h_rboth
  replace h_rboth : (n1 = cosF n ∧ n2 = sinF n) := h_rboth
  show n2 = sinF n
  exact h_rboth.2

theorem p_rcos : P_rcos := by
  unfold P_rcos
  intro n l_n u_n
  intro hpre
  replace hpre : True := hpre
  refine ⟨trivial, ?_⟩
  intro n1 l_n1 u_n1
  intro n2 l_n2 u_n2
  intro h_rboth
  replace h_rboth : (n1 = cosF n ∧ n2 = sinF n) := h_rboth
  show n1 = cosF n
  exact h_rboth.1

set_option maxHeartbeats 2000000 in
theorem p_tround : P_tround := by
  unfold P_tround
  intro n l_n u_n
  intro n1 l_n1 u_n1
  intro hpre
  replace hpre : True := hpre
  refine ⟨trivial, ?_⟩
  intro t
  intro n2 l_n2 u_n2
  intro n3 l_n3 u_n3
  intro n4 l_n4 u_n4
  intro n5 l_n5 u_n5
  intro n6 l_n6 u_n6
  intro n7 l_n7 u_n7
  intro n8 l_n8 u_n8
  intro n9 l_n9 u_n9
  intro n10 l_n10 u_n10
  intro n11 l_n11 u_n11
  intro n12 l_n12 u_n12
  intro n13 l_n13 u_n13
  intro h_rt5
  replace h_rt5 : (sv [b2i t, n2, n3, n4, n5, n6, n7, n8, n9, n10, n11, n12, n13] = (4611686018427387904 : Int) * (2305843009213693952 : Int) ∧ vd [n2, n3, n4, n5, n6, n7, n8, n9, n10, n11, n12, n13] ≤ 85070591730234615865843651857942052864) := h_rt5
  refine ⟨trivial, ?_⟩
  intro t1
  intro n14 l_n14 u_n14
  intro n15 l_n15 u_n15
  intro n16 l_n16 u_n16
  intro n17 l_n17 u_n17
  intro n18 l_n18 u_n18
  intro n19 l_n19 u_n19
  intro n20 l_n20 u_n20
  intro n21 l_n21 u_n21
  intro n22 l_n22 u_n22
  intro n23 l_n23 u_n23
  intro n24 l_n24 u_n24
  intro n25 l_n25 u_n25
  intro h_rt51
  replace h_rt51 : (sv [b2i t1, n14, n15, n16, n17, n18, n19, n20, n21, n22, n23, n24, n25] = n * (2305843009213693952 : Int) ∧ vd [n14, n15, n16, n17, n18, n19, n20, n21, n22, n23, n24, n25] ≤ 85070591730234615865843651857942052864) := h_rt51
  refine ⟨?_, ?_⟩
  · show vd [n2, n3, n4, n5, n6, n7, n8, n9, n10, n11, n12, n13] + vd [n14, n15, n16, n17, n18, n19, n20, n21, n22, n23, n24, n25] < top12
    simp only [top12]; omega
  intro t2
  intro n26 l_n26 u_n26
  intro n27 l_n27 u_n27
  intro n28 l_n28 u_n28
  intro n29 l_n29 u_n29
  intro n30 l_n30 u_n30
  intro n31 l_n31 u_n31
  intro n32 l_n32 u_n32
  intro n33 l_n33 u_n33
  intro n34 l_n34 u_n34
  intro n35 l_n35 u_n35
  intro n36 l_n36 u_n36
  intro n37 l_n37 u_n37
  intro h_sum
  replace h_sum : (sv [b2i t2, n26, n27, n28, n29, n30, n31, n32, n33, n34, n35, n36, n37] = sv [b2i t, n2, n3, n4, n5, n6, n7, n8, n9, n10, n11, n12, n13] + sv [b2i t1, n14, n15, n16, n17, n18, n19, n20, n21, n22, n23, n24, n25] ∧ vd [n26, n27, n28, n29, n30, n31, n32, n33, n34, n35, n36, n37] ≤ vd [n2, n3, n4, n5, n6, n7, n8, n9, n10, n11, n12, n13] + vd [n14, n15, n16, n17, n18, n19, n20, n21, n22, n23, n24, n25]) := h_sum
  intro b
  refine ⟨trivial, ?_⟩
  intro n38 l_n38 u_n38
  intro n39 l_n39 u_n39
  intro n40 l_n40 u_n40
  intro h_tell
  replace h_tell : tellW (sv [b2i t2, n26, n27, n28, n29, n30, n31, n32, n33, n34, n35, n36, n37]) n38 n39 n40 := h_tell
  have hw := (h_tell.1 (by simp only [inW, half128]; omega)).2
  have hw2 : w128 n38 n39 = (4611686018427387904 + n) * 2305843009213693952 := by omega
  have hw3 : 0 ≤ n38 := by simp only [w128] at hw2; omega
  intro b1
  refine ⟨trivial, ?_⟩
  intro n41 l_n41 u_n41
  intro n42 l_n42 u_n42
  intro h_rRootWide
  replace h_rRootWide : ((n38 < 0 → n41 = 0 ∧ n42 = 1) ∧ (0 ≤ n38 → n42 = 0 ∧ isRoot (w128 n38 n39) n41)) := h_rRootWide
  have hr := (h_rRootWide.2 hw3).2
  have hx := root_in hw2 l_n u_n hr l_n41
  have hq := q_in (c := n41) l_n1 u_n1 hx.1
  refine ⟨trivial, ?_⟩
  intro t3
  intro n43 l_n43 u_n43
  intro n44 l_n44 u_n44
  intro n45 l_n45 u_n45
  intro n46 l_n46 u_n46
  intro n47 l_n47 u_n47
  intro n48 l_n48 u_n48
  intro n49 l_n49 u_n49
  intro n50 l_n50 u_n50
  intro n51 l_n51 u_n51
  intro n52 l_n52 u_n52
  intro n53 l_n53 u_n53
  intro n54 l_n54 u_n54
  intro h_rt52
  replace h_rt52 : (sv [b2i t3, n43, n44, n45, n46, n47, n48, n49, n50, n51, n52, n53, n54] = n1 * (2305843009213693952 : Int) ∧ vd [n43, n44, n45, n46, n47, n48, n49, n50, n51, n52, n53, n54] ≤ 85070591730234615865843651857942052864) := h_rt52
  refine ⟨trivial, ?_⟩
  intro n55 l_n55 u_n55
  intro n56 l_n56 u_n56
  intro n57 l_n57 u_n57
  intro h_tell1
  replace h_tell1 : tellW (sv [b2i t3, n43, n44, n45, n46, n47, n48, n49, n50, n51, n52, n53, n54]) n55 n56 n57 := h_tell1
  have hv := (h_tell1.1 (by simp only [inW, half128]; omega)).2
  have hv2 : w128 n55 n56 = n1 * 2305843009213693952 := by omega
  intro n58 e_n58 l_n58 u_n58
  rw [wrap_i64] at e_n58
  have e58 : n58 = n41 := by omega
  refine ⟨trivial, ?_⟩
  intro n59 l_n59 u_n59
  intro n60 l_n60 u_n60
  intro n61 l_n61 u_n61
  intro n62 l_n62 u_n62
  intro h_rfloor
  replace h_rfloor : ((n58 < 1 → n59 = 0 ∧ n60 = 0 ∧ n61 = 0 ∧ n62 = 1) ∧ (1 ≤ n58 → n62 = 0 ∧ isFloor (w128 n55 n56) n58 (w128 n59 n60) n61)) := h_rfloor
  have hf := (h_rfloor.2 (by omega)).2
  rw [hv2, e58] at hf
  have hf2 : w128 n59 n60 = n1 * 2305843009213693952 / n41 := by
    obtain ⟨f1, f2, f3⟩ := hf
    have e := Int.add_mul_ediv_right n61 (w128 n59 n60) (show n41 ≠ 0 by omega)
    rw [f1, Int.add_comm, e, Int.ediv_eq_zero_of_lt f2 f3]
    omega
  rw [← hf2] at hq
  have e60 : n60 = w128 n59 n60 := by simp only [w128] at hq ⊢; omega
  intro b2
  intro b3
  show (isRoot ((4611686018427387904 + n) * 2305843009213693952) (IntKind.wrap .i64 n41) ∧ (IntKind.wrap .i64 n60) = n1 * 2305843009213693952 / (IntKind.wrap .i64 n41))
  have k1 : IntKind.wrap .i64 n41 = n41 := by rw [wrap_i64]; omega
  have k2 : IntKind.wrap .i64 n60 = n60 := by rw [wrap_i64]; omega
  rw [k1, k2, ← hw2]
  exact ⟨hr, e60.trans hf2⟩

end Go.Proofs.Ytihfbliipjobdaa.Sx
