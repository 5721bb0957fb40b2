/-
  Plain laws of wides, part e: Nearest.
-/
import Derived.Test.YtogcbmadcgjljaaDoorWpc
import Derived.Test.YtogcbmadcgjljaaDoorWpd
import Derived.Test.YtogcbmadcgjljaaDoorWpb2
set_option linter.all false
set_option maxRecDepth 100000
namespace Go.Proofs.YtogcbmadcgjljaaDoor.Sx
open Go Go.RowKit

theorem b2i_cases (t : Bool) : b2i t = 0 ∨ b2i t = 1 := by cases t <;> simp [b2i]
theorem sv_of (t : Bool) (l : List Int) : (t = true ∧ sv (b2i t :: l) = -vd l) ∨ (t = false ∧ sv (b2i t :: l) = vd l) := by cases t <;> simp [b2i, sv]
theorem neg_sv {p m : Int} {r a : List Int} (hp : p = 0 ∨ p = 1) (hm : m = 0 ∨ m = 1) (h : (p = 1 ↔ m ≠ 1) ∧ r = a) : sv (p :: r) = -sv (m :: a) ∧ vd r = vd a := by
  obtain ⟨h1, rfl⟩ := h
  refine ⟨?_, rfl⟩
  rcases hp with rfl | rfl <;> rcases hm with rfl | rfl <;> simp [sv] at h1 ⊢

theorem near_end {A B U M q r : Int} (hU : U = 2 * A + B) (hf : isFloor M (2 * B) q r) : (U = M → isNear A B q) ∧ (U = -M → (0 < r → isNear A B (-(q + 1))) ∧ (r = 0 → isNear A B (-q))) := by
  obtain ⟨h1, h2, h3⟩ := hf
  have e0 : q * (2 * B) = 2 * (q * B) := by grind
  have e1 : 2 * B * q = 2 * (q * B) := by grind
  have e2 : 2 * B * (q + 1) = 2 * (q * B) + 2 * B := by grind
  have e3 : 2 * B * (-(q + 1)) = -(2 * (q * B)) - 2 * B := by grind
  have e4 : 2 * B * (-(q + 1) + 1) = -(2 * (q * B)) := by grind
  have e5 : 2 * B * (-q) = -(2 * (q * B)) := by grind
  have e6 : 2 * B * (-q + 1) = -(2 * (q * B)) + 2 * B := by grind
  rw [e0] at h1
  generalize q * B = x at *
  refine ⟨fun h => ⟨?_, ?_⟩, fun h => ⟨fun h => ⟨?_, ?_⟩, fun h => ⟨?_, ?_⟩⟩⟩ <;> omega

theorem near_bound {V B M q r : Int} (hB : 0 < B) (hV : 0 ≤ V) (hM : M ≤ 2 * V + B) (hq : 0 ≤ q) (hf : isFloor M (2 * B) q r) : q ≤ V + 1 := by
  obtain ⟨h1, h2, h3⟩ := hf
  have e0 : q * (2 * B) = 2 * (q * B) := by grind
  rw [e0] at h1
  have e1 : (q - 1) * B = q * B - B := by grind
  rcases Int.lt_or_le q 1 with h | h
  · omega
  · rcases Int.lt_or_le (V + 1) q with h5 | h5
    · exfalso
      have h6 := Int.mul_le_mul_of_nonneg_right (show V + 2 ≤ q by omega) (show 0 ≤ B by omega)
      have h7 : (V + 2) * B = V * B + 2 * B := by grind
      have h8 := Int.mul_le_mul_of_nonneg_left (show 1 ≤ B by omega) hV
      generalize q * B = x at *
      generalize V * B = y at *
      omega
    · exact h5

theorem vd_z (x0 x1 x2 x3 x4 x5 x6 x7 x8 x9 x10 x11 : Int) (h0 : 0 ≤ x0) (h1 : 0 ≤ x1) (h2 : 0 ≤ x2) (h3 : 0 ≤ x3) (h4 : 0 ≤ x4) (h5 : 0 ≤ x5) (h6 : 0 ≤ x6) (h7 : 0 ≤ x7) (h8 : 0 ≤ x8) (h9 : 0 ≤ x9) (h10 : 0 ≤ x10) (h11 : 0 ≤ x11) :
    (x0 = 0 ∧ (x1 = 0 ∧ (x2 = 0 ∧ (x3 = 0 ∧ (x4 = 0 ∧ (x5 = 0 ∧ (x6 = 0 ∧ (x7 = 0 ∧ (x8 = 0 ∧ (x9 = 0 ∧ (x10 = 0 ∧ x11 = 0))))))))))) ↔ vd [x0, x1, x2, x3, x4, x5, x6, x7, x8, x9, x10, x11] = 0 := by
  simp only [vd]; omega

theorem vd12 (x0 x1 x2 x3 x4 x5 x6 x7 x8 x9 x10 x11 : Int) (h0 : 0 ≤ x0 ∧ x0 ≤ 65535) (h1 : 0 ≤ x1 ∧ x1 ≤ 65535) (h2 : 0 ≤ x2 ∧ x2 ≤ 65535) (h3 : 0 ≤ x3 ∧ x3 ≤ 65535) (h4 : 0 ≤ x4 ∧ x4 ≤ 65535) (h5 : 0 ≤ x5 ∧ x5 ≤ 65535) (h6 : 0 ≤ x6 ∧ x6 ≤ 65535) (h7 : 0 ≤ x7 ∧ x7 ≤ 65535) (h8 : 0 ≤ x8 ∧ x8 ≤ 65535) (h9 : 0 ≤ x9 ∧ x9 ≤ 65535) (h10 : 0 ≤ x10 ∧ x10 ≤ 65535) (h11 : 0 ≤ x11 ∧ x11 ≤ 65535) :
    0 ≤ vd [x0, x1, x2, x3, x4, x5, x6, x7, x8, x9, x10, x11] ∧ vd [x0, x1, x2, x3, x4, x5, x6, x7, x8, x9, x10, x11] < top12 := by
  simp only [vd, top12]; omega

set_option maxHeartbeats 4000000 in
theorem p_nearest : P_nearest := by
  unfold P_nearest
  intro t
  intro n l_n u_n
  intro n1 l_n1 u_n1
  intro n2 l_n2 u_n2
  intro n3 l_n3 u_n3
  intro n4 l_n4 u_n4
  intro n5 l_n5 u_n5
  intro n6 l_n6 u_n6
  intro n7 l_n7 u_n7
  intro n8 l_n8 u_n8
  intro n9 l_n9 u_n9
  intro n10 l_n10 u_n10
  intro n11 l_n11 u_n11
  intro t1
  intro n12 l_n12 u_n12
  intro n13 l_n13 u_n13
  intro n14 l_n14 u_n14
  intro n15 l_n15 u_n15
  intro n16 l_n16 u_n16
  intro n17 l_n17 u_n17
  intro n18 l_n18 u_n18
  intro n19 l_n19 u_n19
  intro n20 l_n20 u_n20
  intro n21 l_n21 u_n21
  intro n22 l_n22 u_n22
  intro n23 l_n23 u_n23
  intro hpre
  replace hpre : (0 < vd [n12, n13, n14, n15, n16, n17, n18, n19, n20, n21, n22, n23] ∧ 2 * vd [n, n1, n2, n3, n4, n5, n6, n7, n8, n9, n10, n11] + vd [n12, n13, n14, n15, n16, n17, n18, n19, n20, n21, n22, n23] < top12 ∧ 4 * vd [n12, n13, n14, n15, n16, n17, n18, n19, n20, n21, n22, n23] ≤ top12) := hpre
  intro b
  intro b1
  intro b2
  refine ⟨fun c0 => ?_, fun c0 => ?_⟩
  · have q0 := (b2i_one t1).2 c0
    refine ⟨trivial, ?_⟩
    intro t2
    intro n24 l_n24 u_n24
    intro n25 l_n25 u_n25
    intro n26 l_n26 u_n26
    intro n27 l_n27 u_n27
    intro n28 l_n28 u_n28
    intro n29 l_n29 u_n29
    intro n30 l_n30 u_n30
    intro n31 l_n31 u_n31
    intro n32 l_n32 u_n32
    intro n33 l_n33 u_n33
    intro n34 l_n34 u_n34
    intro n35 l_n35 u_n35
    intro h_minus
    replace h_minus : (((b2i t2) = 1 ↔ (b2i t) ≠ 1) ∧ [n24, n25, n26, n27, n28, n29, n30, n31, n32, n33, n34, n35] = [n, n1, n2, n3, n4, n5, n6, n7, n8, n9, n10, n11]) := h_minus
    have km0 := neg_sv (b2i_cases _) (b2i_cases _) h_minus
    clear h_minus
    refine ⟨trivial, ?_⟩
    intro t3
    intro n36 l_n36 u_n36
    intro n37 l_n37 u_n37
    intro n38 l_n38 u_n38
    intro n39 l_n39 u_n39
    intro n40 l_n40 u_n40
    intro n41 l_n41 u_n41
    intro n42 l_n42 u_n42
    intro n43 l_n43 u_n43
    intro n44 l_n44 u_n44
    intro n45 l_n45 u_n45
    intro n46 l_n46 u_n46
    intro n47 l_n47 u_n47
    intro h_minus1
    replace h_minus1 : (((b2i t3) = 1 ↔ (b2i t1) ≠ 1) ∧ [n36, n37, n38, n39, n40, n41, n42, n43, n44, n45, n46, n47] = [n12, n13, n14, n15, n16, n17, n18, n19, n20, n21, n22, n23]) := h_minus1
    have km1 := neg_sv (b2i_cases _) (b2i_cases _) h_minus1
    clear h_minus1
    refine ⟨?_, ?_⟩
    · show vd [n24, n25, n26, n27, n28, n29, n30, n31, n32, n33, n34, n35] + vd [n24, n25, n26, n27, n28, n29, n30, n31, n32, n33, n34, n35] < top12
      omega
    intro t4
    intro n48 l_n48 u_n48
    intro n49 l_n49 u_n49
    intro n50 l_n50 u_n50
    intro n51 l_n51 u_n51
    intro n52 l_n52 u_n52
    intro n53 l_n53 u_n53
    intro n54 l_n54 u_n54
    intro n55 l_n55 u_n55
    intro n56 l_n56 u_n56
    intro n57 l_n57 u_n57
    intro n58 l_n58 u_n58
    intro n59 l_n59 u_n59
    intro h_sum
    replace h_sum : (sv [b2i t4, n48, n49, n50, n51, n52, n53, n54, n55, n56, n57, n58, n59] = sv [b2i t2, n24, n25, n26, n27, n28, n29, n30, n31, n32, n33, n34, n35] + sv [b2i t2, n24, n25, n26, n27, n28, n29, n30, n31, n32, n33, n34, n35] ∧ vd [n48, n49, n50, n51, n52, n53, n54, n55, n56, n57, n58, n59] ≤ vd [n24, n25, n26, n27, n28, n29, n30, n31, n32, n33, n34, n35] + vd [n24, n25, n26, n27, n28, n29, n30, n31, n32, n33, n34, n35]) := h_sum
    refine ⟨?_, ?_⟩
    · show vd [n48, n49, n50, n51, n52, n53, n54, n55, n56, n57, n58, n59] + vd [n36, n37, n38, n39, n40, n41, n42, n43, n44, n45, n46, n47] < top12
      omega
    intro t5
    intro n60 l_n60 u_n60
    intro n61 l_n61 u_n61
    intro n62 l_n62 u_n62
    intro n63 l_n63 u_n63
    intro n64 l_n64 u_n64
    intro n65 l_n65 u_n65
    intro n66 l_n66 u_n66
    intro n67 l_n67 u_n67
    intro n68 l_n68 u_n68
    intro n69 l_n69 u_n69
    intro n70 l_n70 u_n70
    intro n71 l_n71 u_n71
    intro h_sum1
    replace h_sum1 : (sv [b2i t5, n60, n61, n62, n63, n64, n65, n66, n67, n68, n69, n70, n71] = sv [b2i t4, n48, n49, n50, n51, n52, n53, n54, n55, n56, n57, n58, n59] + sv [b2i t3, n36, n37, n38, n39, n40, n41, n42, n43, n44, n45, n46, n47] ∧ vd [n60, n61, n62, n63, n64, n65, n66, n67, n68, n69, n70, n71] ≤ vd [n48, n49, n50, n51, n52, n53, n54, n55, n56, n57, n58, n59] + vd [n36, n37, n38, n39, n40, n41, n42, n43, n44, n45, n46, n47]) := h_sum1
    intro b3
    refine ⟨trivial, ?_⟩
    intro n72 l_n72 u_n72
    intro n73 l_n73 u_n73
    intro n74 l_n74 u_n74
    intro n75 l_n75 u_n75
    intro n76 l_n76 u_n76
    intro n77 l_n77 u_n77
    intro n78 l_n78 u_n78
    intro n79 l_n79 u_n79
    intro n80 l_n80 u_n80
    intro n81 l_n81 u_n81
    intro n82 l_n82 u_n82
    intro n83 l_n83 u_n83
    intro h_plus
    replace h_plus : vd [n72, n73, n74, n75, n76, n77, n78, n79, n80, n81, n82, n83] = (vd [n36, n37, n38, n39, n40, n41, n42, n43, n44, n45, n46, n47] + vd [n36, n37, n38, n39, n40, n41, n42, n43, n44, n45, n46, n47]) % top12 := h_plus
    have kd : vd [n72, n73, n74, n75, n76, n77, n78, n79, n80, n81, n82, n83] = 2 * vd [n36, n37, n38, n39, n40, n41, n42, n43, n44, n45, n46, n47] := by
      rw [h_plus]; have := vd12 n36 n37 n38 n39 n40 n41 n42 n43 n44 n45 n46 n47 ⟨l_n36, u_n36⟩ ⟨l_n37, u_n37⟩ ⟨l_n38, u_n38⟩ ⟨l_n39, u_n39⟩ ⟨l_n40, u_n40⟩ ⟨l_n41, u_n41⟩ ⟨l_n42, u_n42⟩ ⟨l_n43, u_n43⟩ ⟨l_n44, u_n44⟩ ⟨l_n45, u_n45⟩ ⟨l_n46, u_n46⟩ ⟨l_n47, u_n47⟩; obtain ⟨p1, p2, p3⟩ := hpre; first | omega | (simp only [top12] at *; omega)
    refine ⟨?_, ?_⟩
    · show (0 < vd [n72, n73, n74, n75, n76, n77, n78, n79, n80, n81, n82, n83] ∧ 2 * vd [n72, n73, n74, n75, n76, n77, n78, n79, n80, n81, n82, n83] ≤ top12)
      rw [kd]; omega
    intro n84 l_n84 u_n84
    intro n85 l_n85 u_n85
    intro n86 l_n86 u_n86
    intro n87 l_n87 u_n87
    intro n88 l_n88 u_n88
    intro n89 l_n89 u_n89
    intro n90 l_n90 u_n90
    intro n91 l_n91 u_n91
    intro n92 l_n92 u_n92
    intro n93 l_n93 u_n93
    intro n94 l_n94 u_n94
    intro n95 l_n95 u_n95
    intro n96 l_n96 u_n96
    intro n97 l_n97 u_n97
    intro n98 l_n98 u_n98
    intro n99 l_n99 u_n99
    intro n100 l_n100 u_n100
    intro n101 l_n101 u_n101
    intro n102 l_n102 u_n102
    intro n103 l_n103 u_n103
    intro n104 l_n104 u_n104
    intro n105 l_n105 u_n105
    intro n106 l_n106 u_n106
    intro n107 l_n107 u_n107
    intro h_divided
    replace h_divided : isFloor (vd [n60, n61, n62, n63, n64, n65, n66, n67, n68, n69, n70, n71]) (vd [n72, n73, n74, n75, n76, n77, n78, n79, n80, n81, n82, n83]) (vd [n84, n85, n86, n87, n88, n89, n90, n91, n92, n93, n94, n95]) (vd [n96, n97, n98, n99, n100, n101, n102, n103, n104, n105, n106, n107]) := h_divided
    rw [kd, km1.2] at h_divided
    have hva := vd12 n n1 n2 n3 n4 n5 n6 n7 n8 n9 n10 n11 ⟨l_n, u_n⟩ ⟨l_n1, u_n1⟩ ⟨l_n2, u_n2⟩ ⟨l_n3, u_n3⟩ ⟨l_n4, u_n4⟩ ⟨l_n5, u_n5⟩ ⟨l_n6, u_n6⟩ ⟨l_n7, u_n7⟩ ⟨l_n8, u_n8⟩ ⟨l_n9, u_n9⟩ ⟨l_n10, u_n10⟩ ⟨l_n11, u_n11⟩
    have hq0 := vd12 n84 n85 n86 n87 n88 n89 n90 n91 n92 n93 n94 n95 ⟨l_n84, u_n84⟩ ⟨l_n85, u_n85⟩ ⟨l_n86, u_n86⟩ ⟨l_n87, u_n87⟩ ⟨l_n88, u_n88⟩ ⟨l_n89, u_n89⟩ ⟨l_n90, u_n90⟩ ⟨l_n91, u_n91⟩ ⟨l_n92, u_n92⟩ ⟨l_n93, u_n93⟩ ⟨l_n94, u_n94⟩ ⟨l_n95, u_n95⟩
    have hz := vd_z n96 n97 n98 n99 n100 n101 n102 n103 n104 n105 n106 n107 l_n96 l_n97 l_n98 l_n99 l_n100 l_n101 l_n102 l_n103 l_n104 l_n105 l_n106 l_n107
    have hr0 := vd12 n96 n97 n98 n99 n100 n101 n102 n103 n104 n105 n106 n107 ⟨l_n96, u_n96⟩ ⟨l_n97, u_n97⟩ ⟨l_n98, u_n98⟩ ⟨l_n99, u_n99⟩ ⟨l_n100, u_n100⟩ ⟨l_n101, u_n101⟩ ⟨l_n102, u_n102⟩ ⟨l_n103, u_n103⟩ ⟨l_n104, u_n104⟩ ⟨l_n105, u_n105⟩ ⟨l_n106, u_n106⟩ ⟨l_n107, u_n107⟩
    have hu0 := vd12 n60 n61 n62 n63 n64 n65 n66 n67 n68 n69 n70 n71 ⟨l_n60, u_n60⟩ ⟨l_n61, u_n61⟩ ⟨l_n62, u_n62⟩ ⟨l_n63, u_n63⟩ ⟨l_n64, u_n64⟩ ⟨l_n65, u_n65⟩ ⟨l_n66, u_n66⟩ ⟨l_n67, u_n67⟩ ⟨l_n68, u_n68⟩ ⟨l_n69, u_n69⟩ ⟨l_n70, u_n70⟩ ⟨l_n71, u_n71⟩
    have hsu := sv_of t5 [n60, n61, n62, n63, n64, n65, n66, n67, n68, n69, n70, n71]
    have hql := near_bound (V := vd [n, n1, n2, n3, n4, n5, n6, n7, n8, n9, n10, n11]) (by omega) hva.1 (by omega) hq0.1 h_divided
    intro b4
    intro b5
    refine ⟨fun c1 => ?_, fun c1 => ?_⟩
    · have q1 := (b2i_one t5).2 c1
      refine ⟨fun c2 => ?_, fun c2 => ?_⟩
      · refine ⟨trivial, ?_⟩
        intro n108 l_n108 u_n108
        intro n109 l_n109 u_n109
        intro n110 l_n110 u_n110
        intro n111 l_n111 u_n111
        intro n112 l_n112 u_n112
        intro n113 l_n113 u_n113
        intro n114 l_n114 u_n114
        intro n115 l_n115 u_n115
        intro n116 l_n116 u_n116
        intro n117 l_n117 u_n117
        intro n118 l_n118 u_n118
        intro n119 l_n119 u_n119
        intro h_plus1
        replace h_plus1 : vd [n108, n109, n110, n111, n112, n113, n114, n115, n116, n117, n118, n119] = (vd [n84, n85, n86, n87, n88, n89, n90, n91, n92, n93, n94, n95] + vd [1, 0, 0, 0, 0, 0, 0, 0, 0, 0, 0, 0]) % top12 := h_plus1
        have ko : vd [n108, n109, n110, n111, n112, n113, n114, n115, n116, n117, n118, n119] = vd [n84, n85, n86, n87, n88, n89, n90, n91, n92, n93, n94, n95] + 1 := by
          rw [h_plus1, show vd [1, 0, 0, 0, 0, 0, 0, 0, 0, 0, 0, 0] = 1 by simp [vd]]; simp only [top12] at *; omega
        show (nearest (sv [b2i t, n, n1, n2, n3, n4, n5, n6, n7, n8, n9, n10, n11]) (sv [b2i t1, n12, n13, n14, n15, n16, n17, n18, n19, n20, n21, n22, n23]) (sv [b2i t5, n108, n109, n110, n111, n112, n113, n114, n115, n116, n117, n118, n119]) ∧ vd [n108, n109, n110, n111, n112, n113, n114, n115, n116, n117, n118, n119] ≤ 2 * vd [n, n1, n2, n3, n4, n5, n6, n7, n8, n9, n10, n11] + 2)
        have w0 : t1 = true := by simpa using c0
        have w1 : t5 = true := by simpa using c1
        subst w0; subst w1
        simp only [Bool.true_eq_false, Bool.false_eq_true, reduceCtorEq, false_and, true_and, or_false, false_or] at hsu
        have hsb : sv [b2i true, n12, n13, n14, n15, n16, n17, n18, n19, n20, n21, n22, n23] = -vd [n12, n13, n14, n15, n16, n17, n18, n19, n20, n21, n22, n23] := by simp [sv, b2i]
        have hBp := hpre.1
        have hne := near_end (A := (-sv [b2i t, n, n1, n2, n3, n4, n5, n6, n7, n8, n9, n10, n11])) (B := vd [n12, n13, n14, n15, n16, n17, n18, n19, n20, n21, n22, n23]) (U := sv [b2i true, n60, n61, n62, n63, n64, n65, n66, n67, n68, n69, n70, n71]) (by omega) h_divided
        have hrs : sv [b2i true, n108, n109, n110, n111, n112, n113, n114, n115, n116, n117, n118, n119] = -vd [n108, n109, n110, n111, n112, n113, n114, n115, n116, n117, n118, n119] := by simp [sv, b2i]
        refine ⟨⟨fun hb => ?_, fun hb => ?_⟩, by omega⟩
        · exfalso; omega
        · rw [show -sv [b2i true, n12, n13, n14, n15, n16, n17, n18, n19, n20, n21, n22, n23] = vd [n12, n13, n14, n15, n16, n17, n18, n19, n20, n21, n22, n23] by omega]
          rw [show sv [b2i true, n108, n109, n110, n111, n112, n113, n114, n115, n116, n117, n118, n119] = -(vd [n84, n85, n86, n87, n88, n89, n90, n91, n92, n93, n94, n95] + 1) by omega]
          have hpos : 0 < vd [n96, n97, n98, n99, n100, n101, n102, n103, n104, n105, n106, n107] := by
            have := fun h => c2 (hz.2 h)
            omega
          exact (hne.2 (by omega)).1 hpos
      · show (nearest (sv [b2i t, n, n1, n2, n3, n4, n5, n6, n7, n8, n9, n10, n11]) (sv [b2i t1, n12, n13, n14, n15, n16, n17, n18, n19, n20, n21, n22, n23]) (sv [b2i t5, n84, n85, n86, n87, n88, n89, n90, n91, n92, n93, n94, n95]) ∧ vd [n84, n85, n86, n87, n88, n89, n90, n91, n92, n93, n94, n95] ≤ 2 * vd [n, n1, n2, n3, n4, n5, n6, n7, n8, n9, n10, n11] + 2)
        have w0 : t1 = true := by simpa using c0
        have w1 : t5 = true := by simpa using c1
        subst w0; subst w1
        simp only [Bool.true_eq_false, Bool.false_eq_true, reduceCtorEq, false_and, true_and, or_false, false_or] at hsu
        have hsb : sv [b2i true, n12, n13, n14, n15, n16, n17, n18, n19, n20, n21, n22, n23] = -vd [n12, n13, n14, n15, n16, n17, n18, n19, n20, n21, n22, n23] := by simp [sv, b2i]
        have hBp := hpre.1
        have hne := near_end (A := (-sv [b2i t, n, n1, n2, n3, n4, n5, n6, n7, n8, n9, n10, n11])) (B := vd [n12, n13, n14, n15, n16, n17, n18, n19, n20, n21, n22, n23]) (U := sv [b2i true, n60, n61, n62, n63, n64, n65, n66, n67, n68, n69, n70, n71]) (by omega) h_divided
        have hrs : sv [b2i true, n84, n85, n86, n87, n88, n89, n90, n91, n92, n93, n94, n95] = -vd [n84, n85, n86, n87, n88, n89, n90, n91, n92, n93, n94, n95] := by simp [sv, b2i]
        refine ⟨⟨fun hb => ?_, fun hb => ?_⟩, by omega⟩
        · exfalso; omega
        · rw [show -sv [b2i true, n12, n13, n14, n15, n16, n17, n18, n19, n20, n21, n22, n23] = vd [n12, n13, n14, n15, n16, n17, n18, n19, n20, n21, n22, n23] by omega]
          rw [hrs]
          exact (hne.2 (by omega)).2 (hz.1 (Classical.not_not.1 c2))
    · have q1 := (b2i_zero t5).2 c1
      show (nearest (sv [b2i t, n, n1, n2, n3, n4, n5, n6, n7, n8, n9, n10, n11]) (sv [b2i t1, n12, n13, n14, n15, n16, n17, n18, n19, n20, n21, n22, n23]) (sv [b2i t5, n84, n85, n86, n87, n88, n89, n90, n91, n92, n93, n94, n95]) ∧ vd [n84, n85, n86, n87, n88, n89, n90, n91, n92, n93, n94, n95] ≤ 2 * vd [n, n1, n2, n3, n4, n5, n6, n7, n8, n9, n10, n11] + 2)
      have w0 : t1 = true := by simpa using c0
      have w1 : t5 = false := by simpa using c1
      subst w0; subst w1
      simp only [Bool.true_eq_false, Bool.false_eq_true, reduceCtorEq, false_and, true_and, or_false, false_or] at hsu
      have hsb : sv [b2i true, n12, n13, n14, n15, n16, n17, n18, n19, n20, n21, n22, n23] = -vd [n12, n13, n14, n15, n16, n17, n18, n19, n20, n21, n22, n23] := by simp [sv, b2i]
      have hBp := hpre.1
      have hne := near_end (A := (-sv [b2i t, n, n1, n2, n3, n4, n5, n6, n7, n8, n9, n10, n11])) (B := vd [n12, n13, n14, n15, n16, n17, n18, n19, n20, n21, n22, n23]) (U := sv [b2i false, n60, n61, n62, n63, n64, n65, n66, n67, n68, n69, n70, n71]) (by omega) h_divided
      have hrs : sv [b2i false, n84, n85, n86, n87, n88, n89, n90, n91, n92, n93, n94, n95] = vd [n84, n85, n86, n87, n88, n89, n90, n91, n92, n93, n94, n95] := by simp [sv, b2i]
      refine ⟨⟨fun hb => ?_, fun hb => ?_⟩, by omega⟩
      · exfalso; omega
      · rw [show -sv [b2i true, n12, n13, n14, n15, n16, n17, n18, n19, n20, n21, n22, n23] = vd [n12, n13, n14, n15, n16, n17, n18, n19, n20, n21, n22, n23] by omega]
        rw [hrs]
        exact hne.1 (by omega)
  · have q0 := (b2i_zero t1).2 c0
    refine ⟨?_, ?_⟩
    · show vd [n, n1, n2, n3, n4, n5, n6, n7, n8, n9, n10, n11] + vd [n, n1, n2, n3, n4, n5, n6, n7, n8, n9, n10, n11] < top12
      omega
    intro t2
    intro n24 l_n24 u_n24
    intro n25 l_n25 u_n25
    intro n26 l_n26 u_n26
    intro n27 l_n27 u_n27
    intro n28 l_n28 u_n28
    intro n29 l_n29 u_n29
    intro n30 l_n30 u_n30
    intro n31 l_n31 u_n31
    intro n32 l_n32 u_n32
    intro n33 l_n33 u_n33
    intro n34 l_n34 u_n34
    intro n35 l_n35 u_n35
    intro h_sum
    replace h_sum : (sv [b2i t2, n24, n25, n26, n27, n28, n29, n30, n31, n32, n33, n34, n35] = sv [b2i t, n, n1, n2, n3, n4, n5, n6, n7, n8, n9, n10, n11] + sv [b2i t, n, n1, n2, n3, n4, n5, n6, n7, n8, n9, n10, n11] ∧ vd [n24, n25, n26, n27, n28, n29, n30, n31, n32, n33, n34, n35] ≤ vd [n, n1, n2, n3, n4, n5, n6, n7, n8, n9, n10, n11] + vd [n, n1, n2, n3, n4, n5, n6, n7, n8, n9, n10, n11]) := h_sum
    refine ⟨?_, ?_⟩
    · show vd [n24, n25, n26, n27, n28, n29, n30, n31, n32, n33, n34, n35] + vd [n12, n13, n14, n15, n16, n17, n18, n19, n20, n21, n22, n23] < top12
      omega
    intro t3
    intro n36 l_n36 u_n36
    intro n37 l_n37 u_n37
    intro n38 l_n38 u_n38
    intro n39 l_n39 u_n39
    intro n40 l_n40 u_n40
    intro n41 l_n41 u_n41
    intro n42 l_n42 u_n42
    intro n43 l_n43 u_n43
    intro n44 l_n44 u_n44
    intro n45 l_n45 u_n45
    intro n46 l_n46 u_n46
    intro n47 l_n47 u_n47
    intro h_sum1
    replace h_sum1 : (sv [b2i t3, n36, n37, n38, n39, n40, n41, n42, n43, n44, n45, n46, n47] = sv [b2i t2, n24, n25, n26, n27, n28, n29, n30, n31, n32, n33, n34, n35] + sv [b2i t1, n12, n13, n14, n15, n16, n17, n18, n19, n20, n21, n22, n23] ∧ vd [n36, n37, n38, n39, n40, n41, n42, n43, n44, n45, n46, n47] ≤ vd [n24, n25, n26, n27, n28, n29, n30, n31, n32, n33, n34, n35] + vd [n12, n13, n14, n15, n16, n17, n18, n19, n20, n21, n22, n23]) := h_sum1
    intro b3
    refine ⟨trivial, ?_⟩
    intro n48 l_n48 u_n48
    intro n49 l_n49 u_n49
    intro n50 l_n50 u_n50
    intro n51 l_n51 u_n51
    intro n52 l_n52 u_n52
    intro n53 l_n53 u_n53
    intro n54 l_n54 u_n54
    intro n55 l_n55 u_n55
    intro n56 l_n56 u_n56
    intro n57 l_n57 u_n57
    intro n58 l_n58 u_n58
    intro n59 l_n59 u_n59
    intro h_plus
    replace h_plus : vd [n48, n49, n50, n51, n52, n53, n54, n55, n56, n57, n58, n59] = (vd [n12, n13, n14, n15, n16, n17, n18, n19, n20, n21, n22, n23] + vd [n12, n13, n14, n15, n16, n17, n18, n19, n20, n21, n22, n23]) % top12 := h_plus
    have kd : vd [n48, n49, n50, n51, n52, n53, n54, n55, n56, n57, n58, n59] = 2 * vd [n12, n13, n14, n15, n16, n17, n18, n19, n20, n21, n22, n23] := by
      rw [h_plus]; have := vd12 n12 n13 n14 n15 n16 n17 n18 n19 n20 n21 n22 n23 ⟨l_n12, u_n12⟩ ⟨l_n13, u_n13⟩ ⟨l_n14, u_n14⟩ ⟨l_n15, u_n15⟩ ⟨l_n16, u_n16⟩ ⟨l_n17, u_n17⟩ ⟨l_n18, u_n18⟩ ⟨l_n19, u_n19⟩ ⟨l_n20, u_n20⟩ ⟨l_n21, u_n21⟩ ⟨l_n22, u_n22⟩ ⟨l_n23, u_n23⟩; obtain ⟨p1, p2, p3⟩ := hpre; first | omega | (simp only [top12] at *; omega)
    refine ⟨?_, ?_⟩
    · show (0 < vd [n48, n49, n50, n51, n52, n53, n54, n55, n56, n57, n58, n59] ∧ 2 * vd [n48, n49, n50, n51, n52, n53, n54, n55, n56, n57, n58, n59] ≤ top12)
      rw [kd]; omega
    intro n60 l_n60 u_n60
    intro n61 l_n61 u_n61
    intro n62 l_n62 u_n62
    intro n63 l_n63 u_n63
    intro n64 l_n64 u_n64
    intro n65 l_n65 u_n65
    intro n66 l_n66 u_n66
    intro n67 l_n67 u_n67
    intro n68 l_n68 u_n68
    intro n69 l_n69 u_n69
    intro n70 l_n70 u_n70
    intro n71 l_n71 u_n71
    intro n72 l_n72 u_n72
    intro n73 l_n73 u_n73
    intro n74 l_n74 u_n74
    intro n75 l_n75 u_n75
    intro n76 l_n76 u_n76
    intro n77 l_n77 u_n77
    intro n78 l_n78 u_n78
    intro n79 l_n79 u_n79
    intro n80 l_n80 u_n80
    intro n81 l_n81 u_n81
    intro n82 l_n82 u_n82
    intro n83 l_n83 u_n83
    intro h_divided
    replace h_divided : isFloor (vd [n36, n37, n38, n39, n40, n41, n42, n43, n44, n45, n46, n47]) (vd [n48, n49, n50, n51, n52, n53, n54, n55, n56, n57, n58, n59]) (vd [n60, n61, n62, n63, n64, n65, n66, n67, n68, n69, n70, n71]) (vd [n72, n73, n74, n75, n76, n77, n78, n79, n80, n81, n82, n83]) := h_divided
    rw [kd] at h_divided
    have hva := vd12 n n1 n2 n3 n4 n5 n6 n7 n8 n9 n10 n11 ⟨l_n, u_n⟩ ⟨l_n1, u_n1⟩ ⟨l_n2, u_n2⟩ ⟨l_n3, u_n3⟩ ⟨l_n4, u_n4⟩ ⟨l_n5, u_n5⟩ ⟨l_n6, u_n6⟩ ⟨l_n7, u_n7⟩ ⟨l_n8, u_n8⟩ ⟨l_n9, u_n9⟩ ⟨l_n10, u_n10⟩ ⟨l_n11, u_n11⟩
    have hq0 := vd12 n60 n61 n62 n63 n64 n65 n66 n67 n68 n69 n70 n71 ⟨l_n60, u_n60⟩ ⟨l_n61, u_n61⟩ ⟨l_n62, u_n62⟩ ⟨l_n63, u_n63⟩ ⟨l_n64, u_n64⟩ ⟨l_n65, u_n65⟩ ⟨l_n66, u_n66⟩ ⟨l_n67, u_n67⟩ ⟨l_n68, u_n68⟩ ⟨l_n69, u_n69⟩ ⟨l_n70, u_n70⟩ ⟨l_n71, u_n71⟩
    have hz := vd_z n72 n73 n74 n75 n76 n77 n78 n79 n80 n81 n82 n83 l_n72 l_n73 l_n74 l_n75 l_n76 l_n77 l_n78 l_n79 l_n80 l_n81 l_n82 l_n83
    have hr0 := vd12 n72 n73 n74 n75 n76 n77 n78 n79 n80 n81 n82 n83 ⟨l_n72, u_n72⟩ ⟨l_n73, u_n73⟩ ⟨l_n74, u_n74⟩ ⟨l_n75, u_n75⟩ ⟨l_n76, u_n76⟩ ⟨l_n77, u_n77⟩ ⟨l_n78, u_n78⟩ ⟨l_n79, u_n79⟩ ⟨l_n80, u_n80⟩ ⟨l_n81, u_n81⟩ ⟨l_n82, u_n82⟩ ⟨l_n83, u_n83⟩
    have hu0 := vd12 n36 n37 n38 n39 n40 n41 n42 n43 n44 n45 n46 n47 ⟨l_n36, u_n36⟩ ⟨l_n37, u_n37⟩ ⟨l_n38, u_n38⟩ ⟨l_n39, u_n39⟩ ⟨l_n40, u_n40⟩ ⟨l_n41, u_n41⟩ ⟨l_n42, u_n42⟩ ⟨l_n43, u_n43⟩ ⟨l_n44, u_n44⟩ ⟨l_n45, u_n45⟩ ⟨l_n46, u_n46⟩ ⟨l_n47, u_n47⟩
    have hsu := sv_of t3 [n36, n37, n38, n39, n40, n41, n42, n43, n44, n45, n46, n47]
    have hql := near_bound (V := vd [n, n1, n2, n3, n4, n5, n6, n7, n8, n9, n10, n11]) (by omega) hva.1 (by omega) hq0.1 h_divided
    intro b4
    intro b5
    refine ⟨fun c1 => ?_, fun c1 => ?_⟩
    · have q1 := (b2i_one t3).2 c1
      refine ⟨fun c2 => ?_, fun c2 => ?_⟩
      · refine ⟨trivial, ?_⟩
        intro n84 l_n84 u_n84
        intro n85 l_n85 u_n85
        intro n86 l_n86 u_n86
        intro n87 l_n87 u_n87
        intro n88 l_n88 u_n88
        intro n89 l_n89 u_n89
        intro n90 l_n90 u_n90
        intro n91 l_n91 u_n91
        intro n92 l_n92 u_n92
        intro n93 l_n93 u_n93
        intro n94 l_n94 u_n94
        intro n95 l_n95 u_n95
        intro h_plus1
        replace h_plus1 : vd [n84, n85, n86, n87, n88, n89, n90, n91, n92, n93, n94, n95] = (vd [n60, n61, n62, n63, n64, n65, n66, n67, n68, n69, n70, n71] + vd [1, 0, 0, 0, 0, 0, 0, 0, 0, 0, 0, 0]) % top12 := h_plus1
        have ko : vd [n84, n85, n86, n87, n88, n89, n90, n91, n92, n93, n94, n95] = vd [n60, n61, n62, n63, n64, n65, n66, n67, n68, n69, n70, n71] + 1 := by
          rw [h_plus1, show vd [1, 0, 0, 0, 0, 0, 0, 0, 0, 0, 0, 0] = 1 by simp [vd]]; simp only [top12] at *; omega
        show (nearest (sv [b2i t, n, n1, n2, n3, n4, n5, n6, n7, n8, n9, n10, n11]) (sv [b2i t1, n12, n13, n14, n15, n16, n17, n18, n19, n20, n21, n22, n23]) (sv [b2i t3, n84, n85, n86, n87, n88, n89, n90, n91, n92, n93, n94, n95]) ∧ vd [n84, n85, n86, n87, n88, n89, n90, n91, n92, n93, n94, n95] ≤ 2 * vd [n, n1, n2, n3, n4, n5, n6, n7, n8, n9, n10, n11] + 2)
        have w0 : t1 = false := by simpa using c0
        have w1 : t3 = true := by simpa using c1
        subst w0; subst w1
        simp only [Bool.true_eq_false, Bool.false_eq_true, reduceCtorEq, false_and, true_and, or_false, false_or] at hsu
        have hsb : sv [b2i false, n12, n13, n14, n15, n16, n17, n18, n19, n20, n21, n22, n23] = vd [n12, n13, n14, n15, n16, n17, n18, n19, n20, n21, n22, n23] := by simp [sv, b2i]
        have hBp := hpre.1
        have hne := near_end (A := sv [b2i t, n, n1, n2, n3, n4, n5, n6, n7, n8, n9, n10, n11]) (B := vd [n12, n13, n14, n15, n16, n17, n18, n19, n20, n21, n22, n23]) (U := sv [b2i true, n36, n37, n38, n39, n40, n41, n42, n43, n44, n45, n46, n47]) (by omega) h_divided
        have hrs : sv [b2i true, n84, n85, n86, n87, n88, n89, n90, n91, n92, n93, n94, n95] = -vd [n84, n85, n86, n87, n88, n89, n90, n91, n92, n93, n94, n95] := by simp [sv, b2i]
        refine ⟨⟨fun hb => ?_, fun hb => ?_⟩, by omega⟩
        · rw [show sv [b2i false, n12, n13, n14, n15, n16, n17, n18, n19, n20, n21, n22, n23] = vd [n12, n13, n14, n15, n16, n17, n18, n19, n20, n21, n22, n23] by omega]
          rw [show sv [b2i true, n84, n85, n86, n87, n88, n89, n90, n91, n92, n93, n94, n95] = -(vd [n60, n61, n62, n63, n64, n65, n66, n67, n68, n69, n70, n71] + 1) by omega]
          have hpos : 0 < vd [n72, n73, n74, n75, n76, n77, n78, n79, n80, n81, n82, n83] := by
            have := fun h => c2 (hz.2 h)
            omega
          exact (hne.2 (by omega)).1 hpos
        · exfalso; omega
      · show (nearest (sv [b2i t, n, n1, n2, n3, n4, n5, n6, n7, n8, n9, n10, n11]) (sv [b2i t1, n12, n13, n14, n15, n16, n17, n18, n19, n20, n21, n22, n23]) (sv [b2i t3, n60, n61, n62, n63, n64, n65, n66, n67, n68, n69, n70, n71]) ∧ vd [n60, n61, n62, n63, n64, n65, n66, n67, n68, n69, n70, n71] ≤ 2 * vd [n, n1, n2, n3, n4, n5, n6, n7, n8, n9, n10, n11] + 2)
        have w0 : t1 = false := by simpa using c0
        have w1 : t3 = true := by simpa using c1
        subst w0; subst w1
        simp only [Bool.true_eq_false, Bool.false_eq_true, reduceCtorEq, false_and, true_and, or_false, false_or] at hsu
        have hsb : sv [b2i false, n12, n13, n14, n15, n16, n17, n18, n19, n20, n21, n22, n23] = vd [n12, n13, n14, n15, n16, n17, n18, n19, n20, n21, n22, n23] := by simp [sv, b2i]
        have hBp := hpre.1
        have hne := near_end (A := sv [b2i t, n, n1, n2, n3, n4, n5, n6, n7, n8, n9, n10, n11]) (B := vd [n12, n13, n14, n15, n16, n17, n18, n19, n20, n21, n22, n23]) (U := sv [b2i true, n36, n37, n38, n39, n40, n41, n42, n43, n44, n45, n46, n47]) (by omega) h_divided
        have hrs : sv [b2i true, n60, n61, n62, n63, n64, n65, n66, n67, n68, n69, n70, n71] = -vd [n60, n61, n62, n63, n64, n65, n66, n67, n68, n69, n70, n71] := by simp [sv, b2i]
        refine ⟨⟨fun hb => ?_, fun hb => ?_⟩, by omega⟩
        · rw [show sv [b2i false, n12, n13, n14, n15, n16, n17, n18, n19, n20, n21, n22, n23] = vd [n12, n13, n14, n15, n16, n17, n18, n19, n20, n21, n22, n23] by omega]
          rw [hrs]
          exact (hne.2 (by omega)).2 (hz.1 (Classical.not_not.1 c2))
        · exfalso; omega
    · have q1 := (b2i_zero t3).2 c1
      show (nearest (sv [b2i t, n, n1, n2, n3, n4, n5, n6, n7, n8, n9, n10, n11]) (sv [b2i t1, n12, n13, n14, n15, n16, n17, n18, n19, n20, n21, n22, n23]) (sv [b2i t3, n60, n61, n62, n63, n64, n65, n66, n67, n68, n69, n70, n71]) ∧ vd [n60, n61, n62, n63, n64, n65, n66, n67, n68, n69, n70, n71] ≤ 2 * vd [n, n1, n2, n3, n4, n5, n6, n7, n8, n9, n10, n11] + 2)
      have w0 : t1 = false := by simpa using c0
      have w1 : t3 = false := by simpa using c1
      subst w0; subst w1
      simp only [Bool.true_eq_false, Bool.false_eq_true, reduceCtorEq, false_and, true_and, or_false, false_or] at hsu
      have hsb : sv [b2i false, n12, n13, n14, n15, n16, n17, n18, n19, n20, n21, n22, n23] = vd [n12, n13, n14, n15, n16, n17, n18, n19, n20, n21, n22, n23] := by simp [sv, b2i]
      have hBp := hpre.1
      have hne := near_end (A := sv [b2i t, n, n1, n2, n3, n4, n5, n6, n7, n8, n9, n10, n11]) (B := vd [n12, n13, n14, n15, n16, n17, n18, n19, n20, n21, n22, n23]) (U := sv [b2i false, n36, n37, n38, n39, n40, n41, n42, n43, n44, n45, n46, n47]) (by omega) h_divided
      have hrs : sv [b2i false, n60, n61, n62, n63, n64, n65, n66, n67, n68, n69, n70, n71] = vd [n60, n61, n62, n63, n64, n65, n66, n67, n68, n69, n70, n71] := by simp [sv, b2i]
      refine ⟨⟨fun hb => ?_, fun hb => ?_⟩, by omega⟩
      · rw [show sv [b2i false, n12, n13, n14, n15, n16, n17, n18, n19, n20, n21, n22, n23] = vd [n12, n13, n14, n15, n16, n17, n18, n19, n20, n21, n22, n23] by omega]
        rw [hrs]
        exact hne.1 (by omega)
      · exfalso; omega

end Go.Proofs.YtogcbmadcgjljaaDoor.Sx
