/-
  Plain laws of nets, part d: the laws.
-/
import Derived.Test.YtndfeckmfhiniaaDoorNc
set_option linter.all false
set_option maxRecDepth 100000
namespace Go.Proofs.YtndfeckmfhiniaaDoor.Sx
open Go Go.RowKit

set_option maxHeartbeats 4000000 in
theorem p_lives : P_lives := by
  unfold P_lives
  intro _ _ _ _ _ _ _ _ _ _ _ _ _ _ _ _ _ _ _ _ _
  refine ⟨trivial, ?_⟩
  intro n l_n u_n n1 l_n1 u_n1 n2 l_n2 u_n2 n3 l_n3 u_n3 n4 l_n4 u_n4 n5 l_n5 u_n5 n6 l_n6 u_n6 n7 l_n7 u_n7 n8 l_n8 u_n8 n9 l_n9 u_n9 n10 l_n10 u_n10 n11 l_n11 u_n11
  intro n12 l_n12 u_n12 n13 l_n13 u_n13 n14 l_n14 u_n14 n15 l_n15 u_n15 n16 l_n16 u_n16 n17 l_n17 u_n17 n18 l_n18 u_n18 n19 l_n19 u_n19 n20 l_n20 u_n20 n21 l_n21 u_n21 n22 l_n22 u_n22 n23 l_n23 u_n23
  intro n24 l_n24 u_n24 n25 l_n25 u_n25 n26 l_n26 u_n26 n27 l_n27 u_n27 n28 l_n28 u_n28 n29 l_n29 u_n29 n30 l_n30 u_n30 n31 l_n31 u_n31 n32 l_n32 u_n32
  intro h
  have e1 : [n, n1, n2, n3, n4, n5, n6, n7, n8, n9, n10, n11, n12, n13, n14, n15, n16, n17, n18, n19, n20, n21, n22, n23, n24, n25, n26, n27, n28, n29, n30, n31] = [0, 0, 0, 65536, 0, 131072, 0, 196608, 65536, 0, 65536, 65536, 65536, 131072, 65536, 196608, 131072, 0, 131072, 65536, 131072, 131072, 131072, 196608, 196608, 0, 196608, 65536, 196608, 131072, 196608, 196608] := h.1.trans (by decide +kernel)
  have e2 : n32 = 0 := h.2.trans (by decide +kernel)
  simp only [List.cons.injEq, and_true] at e1
  obtain ⟨rfl, rfl, rfl, rfl, rfl, rfl, rfl, rfl, rfl, rfl, rfl, rfl, rfl, rfl, rfl, rfl, rfl, rfl, rfl, rfl, rfl, rfl, rfl, rfl, rfl, rfl, rfl, rfl, rfl, rfl, rfl, rfl⟩ := e1
  subst e2
  intro _
  refine ⟨trivial, ?_⟩
  intro n33 l_n33 u_n33 n34 l_n34 u_n34 n35 l_n35 u_n35 n36 l_n36 u_n36 n37 l_n37 u_n37 n38 l_n38 u_n38 n39 l_n39 u_n39 n40 l_n40 u_n40 n41 l_n41 u_n41
  intro h2
  intro _
  have e3 : n41 = 1 := h2.2
  subst e3
  refine ⟨fun c => absurd rfl c, fun _ => ⟨fun c => absurd rfl c, fun _ => ?_⟩⟩
  refine ⟨fun c => absurd ⟨rfl, rfl⟩ c, fun _ => ?_⟩
  refine ⟨fun c => absurd ⟨rfl, rfl⟩ c, fun _ => ?_⟩
  refine ⟨fun c => absurd ⟨rfl, rfl⟩ c, fun _ => ?_⟩
  refine ⟨fun c => absurd ⟨rfl, rfl⟩ c, fun _ => ?_⟩
  refine ⟨fun c => absurd ⟨rfl, rfl⟩ c, fun _ => ?_⟩
  refine ⟨fun c => absurd ⟨rfl, rfl⟩ c, fun _ => ?_⟩
  refine ⟨fun c => absurd ⟨rfl, rfl⟩ c, fun _ => ?_⟩
  refine ⟨fun c => absurd ⟨rfl, rfl⟩ c, fun _ => ?_⟩
  refine ⟨fun c => absurd ⟨rfl, rfl⟩ c, fun _ => ?_⟩
  refine ⟨fun c => absurd ⟨rfl, rfl⟩ c, fun _ => ?_⟩
  refine ⟨fun c => absurd ⟨rfl, rfl⟩ c, fun _ => ?_⟩
  refine ⟨fun c => absurd ⟨rfl, rfl⟩ c, fun _ => ?_⟩
  refine ⟨fun c => absurd ⟨rfl, rfl⟩ c, fun _ => ?_⟩
  refine ⟨fun c => absurd ⟨rfl, rfl⟩ c, fun _ => ?_⟩
  refine ⟨fun c => absurd ⟨rfl, rfl⟩ c, fun _ => ?_⟩
  refine ⟨fun c => absurd ⟨rfl, rfl⟩ c, fun _ => ?_⟩
  rfl

set_option maxHeartbeats 4000000 in
theorem p_lborder : P_lborder := by
  unfold P_lborder
  intro n l_n u_n n1 l_n1 u_n1 n2 l_n2 u_n2 n3 l_n3 u_n3 n4 l_n4 u_n4 n5 l_n5 u_n5 n6 l_n6 u_n6 n7 l_n7 u_n7 n8 l_n8 u_n8 n9 l_n9 u_n9 n10 l_n10 u_n10 n11 l_n11 u_n11
  intro n12 l_n12 u_n12 n13 l_n13 u_n13 n14 l_n14 u_n14 n15 l_n15 u_n15 n16 l_n16 u_n16 n17 l_n17 u_n17 n18 l_n18 u_n18 n19 l_n19 u_n19 n20 l_n20 u_n20 n21 l_n21 u_n21 n22 l_n22 u_n22 n23 l_n23 u_n23
  intro n24 l_n24 u_n24 n25 l_n25 u_n25 n26 l_n26 u_n26 n27 l_n27 u_n27 n28 l_n28 u_n28 n29 l_n29 u_n29 n30 l_n30 u_n30 n31 l_n31 u_n31 n32 l_n32 u_n32
  intro _ _
  refine ⟨trivial, ?_⟩
  intro n33 l_n33 u_n33 n34 l_n34 u_n34 n35 l_n35 u_n35 n36 l_n36 u_n36 n37 l_n37 u_n37 n38 l_n38 u_n38 n39 l_n39 u_n39 n40 l_n40 u_n40 n41 l_n41 u_n41
  intro h1
  intro _
  refine ⟨trivial, ?_⟩
  intro n42 l_n42 u_n42 n43 l_n43 u_n43 n44 l_n44 u_n44 n45 l_n45 u_n45 n46 l_n46 u_n46 n47 l_n47 u_n47 n48 l_n48 u_n48 n49 l_n49 u_n49 n50 l_n50 u_n50
  intro h2
  intro _
  have e : [n33, n34, n35, n36, n37, n38, n39, n40] = [n42, n43, n44, n45, n46, n47, n48, n49] := h1.1.trans h2.1.symm
  have f : n41 = n50 := h1.2.trans h2.2.symm
  simp only [List.cons.injEq, and_true] at e
  obtain ⟨rfl, rfl, rfl, rfl, rfl, rfl, rfl, rfl⟩ := e
  subst f
  refine ⟨fun _ => ⟨fun _ => ⟨trivial, fun t h => h⟩, fun c => absurd rfl c⟩, fun c => absurd (by simp) c⟩

set_option maxHeartbeats 4000000 in
theorem p_lround : P_lround := by
  unfold P_lround
  intro n l_n u_n n1 l_n1 u_n1 n2 l_n2 u_n2 n3 l_n3 u_n3 n4 l_n4 u_n4 n5 l_n5 u_n5 n6 l_n6 u_n6 n7 l_n7 u_n7 n8 l_n8 u_n8 n9 l_n9 u_n9 n10 l_n10 u_n10 n11 l_n11 u_n11
  intro n12 l_n12 u_n12 n13 l_n13 u_n13 n14 l_n14 u_n14 n15 l_n15 u_n15 n16 l_n16 u_n16 n17 l_n17 u_n17 n18 l_n18 u_n18 n19 l_n19 u_n19 n20 l_n20 u_n20 n21 l_n21 u_n21 n22 l_n22 u_n22 n23 l_n23 u_n23
  intro n24 l_n24 u_n24 n25 l_n25 u_n25 n26 l_n26 u_n26 n27 l_n27 u_n27 n28 l_n28 u_n28 n29 l_n29 u_n29 n30 l_n30 u_n30 n31 l_n31 u_n31
  intro _ _ _
  refine ⟨trivial, ?_⟩
  intro n32 l_n32 u_n32 n33 l_n33 u_n33 n34 l_n34 u_n34 n35 l_n35 u_n35 n36 l_n36 u_n36 n37 l_n37 u_n37 n38 l_n38 u_n38 n39 l_n39 u_n39 n40 l_n40 u_n40
  intro h
  have e : [n, n1, n8, n9, n16, n17, n24, n25] = [n32, n33, n34, n35, n36, n37, n38, n39] := h.1.symm
  have f : 0 = n40 := h.2.symm
  simp only [List.cons.injEq, and_true] at e
  obtain ⟨rfl, rfl, rfl, rfl, rfl, rfl, rfl, rfl⟩ := e
  subst f
  clear h
  intro _
  refine ⟨fun c => absurd rfl c, fun _ => ?_⟩
  refine ⟨trivial, ?_⟩
  intro n41 l_n41 u_n41 n42 l_n42 u_n42 n43 l_n43 u_n43 n44 l_n44 u_n44 n45 l_n45 u_n45 n46 l_n46 u_n46 n47 l_n47 u_n47 n48 l_n48 u_n48 n49 l_n49 u_n49
  intro h
  have e : [n24, n25, n26, n27, n28, n29, n30, n31] = [n41, n42, n43, n44, n45, n46, n47, n48] := h.1.symm
  have f : 0 = n49 := h.2.symm
  simp only [List.cons.injEq, and_true] at e
  obtain ⟨rfl, rfl, rfl, rfl, rfl, rfl, rfl, rfl⟩ := e
  subst f
  clear h
  intro _
  refine ⟨fun c => absurd rfl c, fun _ => ?_⟩
  refine ⟨trivial, ?_⟩
  intro n50 l_n50 u_n50 n51 l_n51 u_n51 n52 l_n52 u_n52 n53 l_n53 u_n53 n54 l_n54 u_n54 n55 l_n55 u_n55 n56 l_n56 u_n56 n57 l_n57 u_n57 n58 l_n58 u_n58
  intro h
  have e : [n30, n31, n22, n23, n14, n15, n6, n7] = [n50, n51, n52, n53, n54, n55, n56, n57] := h.1.symm
  have f : 0 = n58 := h.2.symm
  simp only [List.cons.injEq, and_true] at e
  obtain ⟨rfl, rfl, rfl, rfl, rfl, rfl, rfl, rfl⟩ := e
  subst f
  clear h
  intro _
  refine ⟨fun c => absurd rfl c, fun _ => ?_⟩
  refine ⟨trivial, ?_⟩
  intro n59 l_n59 u_n59 n60 l_n60 u_n60 n61 l_n61 u_n61 n62 l_n62 u_n62 n63 l_n63 u_n63 n64 l_n64 u_n64 n65 l_n65 u_n65 n66 l_n66 u_n66 n67 l_n67 u_n67
  intro h
  have e : [n6, n7, n4, n5, n2, n3, n, n1] = [n59, n60, n61, n62, n63, n64, n65, n66] := h.1.symm
  have f : 0 = n67 := h.2.symm
  simp only [List.cons.injEq, and_true] at e
  obtain ⟨rfl, rfl, rfl, rfl, rfl, rfl, rfl, rfl⟩ := e
  subst f
  clear h
  intro _
  refine ⟨fun c => absurd rfl c, fun _ => ?_⟩
  refine ⟨fun c => absurd ⟨rfl, rfl⟩ c, fun _ => ?_⟩
  refine ⟨fun c => absurd ⟨rfl, rfl⟩ c, fun _ => ?_⟩
  refine ⟨fun c => absurd ⟨rfl, rfl⟩ c, fun _ => ?_⟩
  refine ⟨fun c => absurd ⟨rfl, rfl⟩ c, fun _ => ?_⟩
  intro _
  exact ⟨fun _ => ⟨trivial, fun t h => h⟩, fun c => absurd (by simp) c⟩

set_option maxHeartbeats 4000000 in
theorem p_lturned : P_lturned := by
  unfold P_lturned
  intro n l_n u_n n1 l_n1 u_n1 n2 l_n2 u_n2 n3 l_n3 u_n3 n4 l_n4 u_n4 n5 l_n5 u_n5 n6 l_n6 u_n6 n7 l_n7 u_n7 n8 l_n8 u_n8 n9 l_n9 u_n9 n10 l_n10 u_n10 n11 l_n11 u_n11
  intro n12 l_n12 u_n12 n13 l_n13 u_n13 n14 l_n14 u_n14 n15 l_n15 u_n15 n16 l_n16 u_n16 n17 l_n17 u_n17 n18 l_n18 u_n18 n19 l_n19 u_n19 n20 l_n20 u_n20 n21 l_n21 u_n21 n22 l_n22 u_n22 n23 l_n23 u_n23
  intro n24 l_n24 u_n24 n25 l_n25 u_n25 n26 l_n26 u_n26 n27 l_n27 u_n27 n28 l_n28 u_n28 n29 l_n29 u_n29 n30 l_n30 u_n30 n31 l_n31 u_n31 n32 l_n32 u_n32 n33 l_n33 u_n33 n34 l_n34 u_n34 n35 l_n35 u_n35
  intro n36 l_n36 u_n36 n37 l_n37 u_n37 n38 l_n38 u_n38 n39 l_n39 u_n39 n40 l_n40 u_n40 n41 l_n41 u_n41 n42 l_n42 u_n42 n43 l_n43 u_n43 n44 l_n44 u_n44 n45 l_n45 u_n45 n46 l_n46 u_n46 n47 l_n47 u_n47
  intro n48 l_n48 u_n48 n49 l_n49 u_n49 n50 l_n50 u_n50 n51 l_n51 u_n51 n52 l_n52 u_n52 n53 l_n53 u_n53 n54 l_n54 u_n54 n55 l_n55 u_n55 n56 l_n56 u_n56 n57 l_n57 u_n57 n58 l_n58 u_n58 n59 l_n59 u_n59
  intro n60 l_n60 u_n60 n61 l_n61 u_n61 n62 l_n62 u_n62 n63 l_n63 u_n63 n64 l_n64 u_n64 n65 l_n65 u_n65 n66 l_n66 u_n66 n67 l_n67 u_n67 n68 l_n68 u_n68 n69 l_n69 u_n69 n70 l_n70 u_n70 n71 l_n71 u_n71
  intro _ _
  refine ⟨trivial, ?_⟩
  intro n72 l_n72 u_n72 n73 l_n73 u_n73 n74 l_n74 u_n74 n75 l_n75 u_n75 n76 l_n76 u_n76 n77 l_n77 u_n77 n78 l_n78 u_n78 n79 l_n79 u_n79 n80 l_n80 u_n80 n81 l_n81 u_n81 n82 l_n82 u_n82 n83 l_n83 u_n83
  intro n84 l_n84 u_n84 n85 l_n85 u_n85 n86 l_n86 u_n86 n87 l_n87 u_n87 n88 l_n88 u_n88 n89 l_n89 u_n89 n90 l_n90 u_n90 n91 l_n91 u_n91 n92 l_n92 u_n92 n93 l_n93 u_n93 n94 l_n94 u_n94 n95 l_n95 u_n95
  intro n96 l_n96 u_n96 n97 l_n97 u_n97 n98 l_n98 u_n98 n99 l_n99 u_n99 n100 l_n100 u_n100 n101 l_n101 u_n101 n102 l_n102 u_n102 n103 l_n103 u_n103 n104 l_n104 u_n104
  intro h1
  intro _
  refine ⟨trivial, ?_⟩
  intro n105 l_n105 u_n105 n106 l_n106 u_n106 n107 l_n107 u_n107 n108 l_n108 u_n108 n109 l_n109 u_n109 n110 l_n110 u_n110 n111 l_n111 u_n111 n112 l_n112 u_n112 n113 l_n113 u_n113 n114 l_n114 u_n114 n115 l_n115 u_n115 n116 l_n116 u_n116
  intro n117 l_n117 u_n117 n118 l_n118 u_n118 n119 l_n119 u_n119 n120 l_n120 u_n120 n121 l_n121 u_n121 n122 l_n122 u_n122 n123 l_n123 u_n123 n124 l_n124 u_n124 n125 l_n125 u_n125 n126 l_n126 u_n126 n127 l_n127 u_n127 n128 l_n128 u_n128
  intro n129 l_n129 u_n129 n130 l_n130 u_n130 n131 l_n131 u_n131 n132 l_n132 u_n132 n133 l_n133 u_n133 n134 l_n134 u_n134 n135 l_n135 u_n135 n136 l_n136 u_n136 n137 l_n137 u_n137 n138 l_n138 u_n138 n139 l_n139 u_n139 n140 l_n140 u_n140
  intro n141 l_n141 u_n141 n142 l_n142 u_n142 n143 l_n143 u_n143 n144 l_n144 u_n144 n145 l_n145 u_n145 n146 l_n146 u_n146 n147 l_n147 u_n147 n148 l_n148 u_n148 n149 l_n149 u_n149 n150 l_n150 u_n150 n151 l_n151 u_n151 n152 l_n152 u_n152
  intro hq
  skip
  refine ⟨trivial, ?_⟩
  intro n153 l_n153 u_n153 n154 l_n154 u_n154 n155 l_n155 u_n155 n156 l_n156 u_n156 n157 l_n157 u_n157 n158 l_n158 u_n158 n159 l_n159 u_n159 n160 l_n160 u_n160 n161 l_n161 u_n161 n162 l_n162 u_n162 n163 l_n163 u_n163 n164 l_n164 u_n164
  intro n165 l_n165 u_n165 n166 l_n166 u_n166 n167 l_n167 u_n167 n168 l_n168 u_n168 n169 l_n169 u_n169 n170 l_n170 u_n170 n171 l_n171 u_n171 n172 l_n172 u_n172 n173 l_n173 u_n173 n174 l_n174 u_n174 n175 l_n175 u_n175 n176 l_n176 u_n176
  intro n177 l_n177 u_n177 n178 l_n178 u_n178 n179 l_n179 u_n179 n180 l_n180 u_n180 n181 l_n181 u_n181 n182 l_n182 u_n182 n183 l_n183 u_n183 n184 l_n184 u_n184 n185 l_n185 u_n185
  intro h2
  intro _
  obtain ⟨L, hL⟩ : ∃ x : List Int, x = [n, n1, n2, n3, n4, n5, n6, n7, n8, n9, n10, n11, n12, n13, n14, n15, n16, n17] := ⟨_, rfl⟩
  obtain ⟨P, hP⟩ : ∃ x : List Int, x = [n18, n19, n20, n21, n22, n23, n24, n25, n26, n27, n28, n29, n30, n31, n32, n33, n34, n35, n36, n37, n38, n39, n40, n41, n42, n43, n44, n45, n46, n47, n48, n49, n50, n51, n52, n53, n54, n55, n56, n57, n58, n59, n60, n61, n62, n63, n64, n65] := ⟨_, rfl⟩
  obtain ⟨M, hM⟩ : ∃ x : List Int, x = [n66, n67, n68, n69, n70, n71] := ⟨_, rfl⟩
  have a1 : [n72, n73, n74, n75, n76, n77, n78, n79, n80, n81, n82, n83, n84, n85, n86, n87, n88, n89, n90, n91, n92, n93, n94, n95, n96, n97, n98, n99, n100, n101, n102, n103] = netN L P M := by rw [hL, hP, hM]; exact h1.1
  have a2 : n104 = netE L P M := by rw [hL, hP, hM]; exact h1.2
  have q1 : [n105, n106, n107, n108, n109, n110, n111, n112, n113, n114, n115, n116, n117, n118, n119, n120, n121, n122, n123, n124, n125, n126, n127, n128, n129, n130, n131, n132, n133, n134, n135, n136, n137, n138, n139, n140, n141, n142, n143, n144, n145, n146, n147, n148, n149, n150, n151, n152] = turnF L P := by rw [hL, hP]; exact hq
  have b1 : [n153, n154, n155, n156, n157, n158, n159, n160, n161, n162, n163, n164, n165, n166, n167, n168, n169, n170, n171, n172, n173, n174, n175, n176, n177, n178, n179, n180, n181, n182, n183, n184] = netN L (turnF L P) M := by rw [← q1, hL, hM]; exact h2.1
  have b2 : n185 = netE L (turnF L P) M := by rw [← q1, hL, hM]; exact h2.2
  clear h1 hq h2 q1 hL hP hM
  by_cases z : netE L P M = 0
  · have z' := turn_netE.2 z
    rw [z] at a2
    rw [z'] at b2
    rw [netN_eq z] at a1
    rw [netN_eq z'] at b1
    simp only [List.cons.injEq, and_true] at a1 b1
    obtain ⟨rfl, rfl, rfl, rfl, rfl, rfl, rfl, rfl, rfl, rfl, rfl, rfl, rfl, rfl, rfl, rfl, rfl, rfl, rfl, rfl, rfl, rfl, rfl, rfl, rfl, rfl, rfl, rfl, rfl, rfl, rfl, rfl⟩ := a1
    obtain ⟨rfl, rfl, rfl, rfl, rfl, rfl, rfl, rfl, rfl, rfl, rfl, rfl, rfl, rfl, rfl, rfl, rfl, rfl, rfl, rfl, rfl, rfl, rfl, rfl, rfl, rfl, rfl, rfl, rfl, rfl, rfl, rfl⟩ := b1
    subst a2 b2
    have t := fun k (hk : k < 16) => turn_pl (l := L) (p := P) (m := M) hk
    refine ⟨fun c => absurd rfl c, fun _ => ⟨fun c => absurd rfl c, fun _ => ?_⟩⟩
    refine ⟨fun c => absurd ⟨(t 0 (by decide)).1.symm, (t 0 (by decide)).2.symm⟩ c, fun _ => ?_⟩
    refine ⟨fun c => absurd ⟨(t 1 (by decide)).1.symm, (t 1 (by decide)).2.symm⟩ c, fun _ => ?_⟩
    refine ⟨fun c => absurd ⟨(t 2 (by decide)).1.symm, (t 2 (by decide)).2.symm⟩ c, fun _ => ?_⟩
    refine ⟨fun c => absurd ⟨(t 3 (by decide)).1.symm, (t 3 (by decide)).2.symm⟩ c, fun _ => ?_⟩
    refine ⟨fun c => absurd ⟨(t 11 (by decide)).1.symm, (t 11 (by decide)).2.symm⟩ c, fun _ => ?_⟩
    refine ⟨fun c => absurd ⟨(t 12 (by decide)).1.symm, (t 12 (by decide)).2.symm⟩ c, fun _ => ?_⟩
    refine ⟨fun c => absurd ⟨(t 13 (by decide)).1.symm, (t 13 (by decide)).2.symm⟩ c, fun _ => ?_⟩
    refine ⟨fun c => absurd ⟨(t 4 (by decide)).1.symm, (t 4 (by decide)).2.symm⟩ c, fun _ => ?_⟩
    refine ⟨fun c => absurd ⟨(t 10 (by decide)).1.symm, (t 10 (by decide)).2.symm⟩ c, fun _ => ?_⟩
    refine ⟨fun c => absurd ⟨(t 15 (by decide)).1.symm, (t 15 (by decide)).2.symm⟩ c, fun _ => ?_⟩
    refine ⟨fun c => absurd ⟨(t 14 (by decide)).1.symm, (t 14 (by decide)).2.symm⟩ c, fun _ => ?_⟩
    refine ⟨fun c => absurd ⟨(t 5 (by decide)).1.symm, (t 5 (by decide)).2.symm⟩ c, fun _ => ?_⟩
    refine ⟨fun c => absurd ⟨(t 9 (by decide)).1.symm, (t 9 (by decide)).2.symm⟩ c, fun _ => ?_⟩
    refine ⟨fun c => absurd ⟨(t 8 (by decide)).1.symm, (t 8 (by decide)).2.symm⟩ c, fun _ => ?_⟩
    refine ⟨fun c => absurd ⟨(t 7 (by decide)).1.symm, (t 7 (by decide)).2.symm⟩ c, fun _ => ?_⟩
    refine ⟨fun c => absurd ⟨(t 6 (by decide)).1.symm, (t 6 (by decide)).2.symm⟩ c, fun _ => ?_⟩
    exact ⟨trivial, fun t h => h⟩
  · have z' : ¬ netE L (turnF L P) M = 0 := fun w => z (turn_netE.1 w)
    rw [netN_bad z] at a1
    rw [netN_bad z'] at b1
    have c : [n72, n73, n74, n75, n76, n77, n78, n79, n80, n81, n82, n83, n84, n85, n86, n87, n88, n89, n90, n91, n92, n93, n94, n95, n96, n97, n98, n99, n100, n101, n102, n103] = [n153, n154, n155, n156, n157, n158, n159, n160, n161, n162, n163, n164, n165, n166, n167, n168, n169, n170, n171, n172, n173, n174, n175, n176, n177, n178, n179, n180, n181, n182, n183, n184] := a1.trans b1.symm
    simp only [List.cons.injEq, and_true] at c
    clear a1 b1
    obtain ⟨rfl, rfl, rfl, rfl, rfl, rfl, rfl, rfl, rfl, rfl, rfl, rfl, rfl, rfl, rfl, rfl, rfl, rfl, rfl, rfl, rfl, rfl, rfl, rfl, rfl, rfl, rfl, rfl, rfl, rfl, rfl, rfl⟩ := c
    refine ⟨fun _ => ⟨fun _ => ⟨fun _ => ⟨trivial, fun t h => h⟩, fun c => absurd (by simp) c⟩, fun c => absurd ⟨fun w => absurd (a2.symm.trans w) z, fun w => absurd (b2.symm.trans w) z'⟩ c⟩, fun c => absurd (fun w => z (a2.symm.trans w)) c⟩

set_option maxHeartbeats 4000000 in
theorem p_lseven : P_lseven := by
  unfold P_lseven
  intro n l_n u_n n1 l_n1 u_n1 n2 l_n2 u_n2 n3 l_n3 u_n3 n4 l_n4 u_n4 n5 l_n5 u_n5 n6 l_n6 u_n6 n7 l_n7 u_n7 n8 l_n8 u_n8 n9 l_n9 u_n9 n10 l_n10 u_n10 n11 l_n11 u_n11
  intro n12 l_n12 u_n12 n13 l_n13 u_n13 n14 l_n14 u_n14 n15 l_n15 u_n15 n16 l_n16 u_n16 n17 l_n17 u_n17 n18 l_n18 u_n18 n19 l_n19 u_n19 n20 l_n20 u_n20 n21 l_n21 u_n21 n22 l_n22 u_n22 n23 l_n23 u_n23
  intro n24 l_n24 u_n24 n25 l_n25 u_n25 n26 l_n26 u_n26 n27 l_n27 u_n27 n28 l_n28 u_n28 n29 l_n29 u_n29 n30 l_n30 u_n30 n31 l_n31 u_n31 n32 l_n32 u_n32 n33 l_n33 u_n33 n34 l_n34 u_n34 n35 l_n35 u_n35
  intro n36 l_n36 u_n36 n37 l_n37 u_n37 n38 l_n38 u_n38 n39 l_n39 u_n39 n40 l_n40 u_n40 n41 l_n41 u_n41 n42 l_n42 u_n42 n43 l_n43 u_n43 n44 l_n44 u_n44 n45 l_n45 u_n45 n46 l_n46 u_n46 n47 l_n47 u_n47
  intro n48 l_n48 u_n48 n49 l_n49 u_n49 n50 l_n50 u_n50 n51 l_n51 u_n51 n52 l_n52 u_n52 n53 l_n53 u_n53 n54 l_n54 u_n54 n55 l_n55 u_n55 n56 l_n56 u_n56 n57 l_n57 u_n57 n58 l_n58 u_n58 n59 l_n59 u_n59
  intro n60 l_n60 u_n60 n61 l_n61 u_n61 n62 l_n62 u_n62 n63 l_n63 u_n63 n64 l_n64 u_n64 n65 l_n65 u_n65 n66 l_n66 u_n66 n67 l_n67 u_n67 n68 l_n68 u_n68 n69 l_n69 u_n69 n70 l_n70 u_n70 n71 l_n71 u_n71
  intro n72 l_n72 u_n72 n73 l_n73 u_n73 n74 l_n74 u_n74
  intro _ _ _
  refine ⟨trivial, ?_⟩
  intro n75 l_n75 u_n75 n76 l_n76 u_n76 n77 l_n77 u_n77 n78 l_n78 u_n78 n79 l_n79 u_n79 n80 l_n80 u_n80 n81 l_n81 u_n81 n82 l_n82 u_n82 n83 l_n83 u_n83 n84 l_n84 u_n84 n85 l_n85 u_n85 n86 l_n86 u_n86
  intro n87 l_n87 u_n87 n88 l_n88 u_n88 n89 l_n89 u_n89 n90 l_n90 u_n90 n91 l_n91 u_n91 n92 l_n92 u_n92 n93 l_n93 u_n93 n94 l_n94 u_n94 n95 l_n95 u_n95 n96 l_n96 u_n96 n97 l_n97 u_n97 n98 l_n98 u_n98
  intro n99 l_n99 u_n99 n100 l_n100 u_n100 n101 l_n101 u_n101 n102 l_n102 u_n102 n103 l_n103 u_n103 n104 l_n104 u_n104 n105 l_n105 u_n105 n106 l_n106 u_n106 n107 l_n107 u_n107
  intro h1
  intro _ _
  intro n108 e_n108 l_n108 u_n108 n109 e_n109 l_n109 u_n109 n110 e_n110 l_n110 u_n110 n111 e_n111 l_n111 u_n111 n112 e_n112 l_n112 u_n112 n113 e_n113 l_n113 u_n113 n114 e_n114 l_n114 u_n114 n115 e_n115 l_n115 u_n115
  intro n116 e_n116 l_n116 u_n116 n117 e_n117 l_n117 u_n117 n118 e_n118 l_n118 u_n118 n119 e_n119 l_n119 u_n119 n120 e_n120 l_n120 u_n120 n121 e_n121 l_n121 u_n121 n122 e_n122 l_n122 u_n122 n123 e_n123 l_n123 u_n123
  intro n124 e_n124 l_n124 u_n124 n125 e_n125 l_n125 u_n125 n126 e_n126 l_n126 u_n126 n127 e_n127 l_n127 u_n127 n128 e_n128 l_n128 u_n128 n129 e_n129 l_n129 u_n129 n130 e_n130 l_n130 u_n130 n131 e_n131 l_n131 u_n131
  intro n132 e_n132 l_n132 u_n132 n133 e_n133 l_n133 u_n133 n134 e_n134 l_n134 u_n134 n135 e_n135 l_n135 u_n135 n136 e_n136 l_n136 u_n136 n137 e_n137 l_n137 u_n137 n138 e_n138 l_n138 u_n138 n139 e_n139 l_n139 u_n139
  intro n140 e_n140 l_n140 u_n140
  refine ⟨trivial, ?_⟩
  intro n141 l_n141 u_n141 n142 l_n142 u_n142 n143 l_n143 u_n143 n144 l_n144 u_n144 n145 l_n145 u_n145 n146 l_n146 u_n146 n147 l_n147 u_n147 n148 l_n148 u_n148 n149 l_n149 u_n149 n150 l_n150 u_n150 n151 l_n151 u_n151 n152 l_n152 u_n152
  intro n153 l_n153 u_n153 n154 l_n154 u_n154 n155 l_n155 u_n155 n156 l_n156 u_n156 n157 l_n157 u_n157 n158 l_n158 u_n158 n159 l_n159 u_n159 n160 l_n160 u_n160 n161 l_n161 u_n161 n162 l_n162 u_n162 n163 l_n163 u_n163 n164 l_n164 u_n164
  intro n165 l_n165 u_n165 n166 l_n166 u_n166 n167 l_n167 u_n167 n168 l_n168 u_n168 n169 l_n169 u_n169 n170 l_n170 u_n170 n171 l_n171 u_n171 n172 l_n172 u_n172 n173 l_n173 u_n173
  intro h2
  intro _
  obtain ⟨L, hL⟩ : ∃ x : List Int, x = [n, n1, n2, n3, n4, n5, n6, n7, n8, n9, n10, n11, n12, n13, n14, n15, n16, n17] := ⟨_, rfl⟩
  obtain ⟨P, hP⟩ : ∃ x : List Int, x = [n18, n19, n20, n21, n22, n23, n24, n25, n26, n27, n28, n29, n30, n31, n32, n33, n34, n35, n36, n37, n38, n39, n40, n41, n42, n43, n44, n45, n46, n47, n48, n49, n50, n51, n52, n53, n54, n55, n56, n57, n58, n59, n60, n61, n62, n63, n64, n65] := ⟨_, rfl⟩
  obtain ⟨M, hM⟩ : ∃ x : List Int, x = [n66, n67, n68, n69, n70, n71] := ⟨_, rfl⟩
  obtain ⟨Q, hQ⟩ : ∃ x : List Int, x = [n109, n110, n111, n112, n113, n114, n115, n116, n117, n118, n119, n120, n121, n122, n123, n124, n125, n126, n127, n128, n129, n130, n131, n132, n133, n134, n135, n136, n137, n138, n139, n140, n50, n51, n52, n53, n54, n55, n56, n57, n58, n59, n60, n61, n62, n63, n64, n65] := ⟨_, rfl⟩
  have a1 : [n75, n76, n77, n78, n79, n80, n81, n82, n83, n84, n85, n86, n87, n88, n89, n90, n91, n92, n93, n94, n95, n96, n97, n98, n99, n100, n101, n102, n103, n104, n105, n106] = netN L P M := by rw [hL, hP, hM]; exact h1.1
  have a2 : n107 = netE L P M := by rw [hL, hP, hM]; exact h1.2
  have b1 : [n141, n142, n143, n144, n145, n146, n147, n148, n149, n150, n151, n152, n153, n154, n155, n156, n157, n158, n159, n160, n161, n162, n163, n164, n165, n166, n167, n168, n169, n170, n171, n172] = netN L Q M := by rw [hL, hQ, hM]; exact h2.1
  have b2 : n173 = netE L Q M := by rw [hL, hQ, hM]; exact h2.2
  have L0 : nth L 0 = n := by rw [hL]; rfl
  have hpt : ∀ j : Nat, j < 16 → ¬ n108 = (j : Int) → nth Q (2 * j) = nth P (2 * j) ∧ nth Q (2 * j + 1) = nth P (2 * j + 1) := by
    intro j hj h
    rw [hP, hQ]
    rcases c16 hj with rfl | rfl | rfl | rfl | rfl | rfl | rfl | rfl | rfl | rfl | rfl | rfl | rfl | rfl | rfl | rfl
    · exact ⟨e_n109.trans (if_neg h), e_n110.trans (if_neg h)⟩
    · exact ⟨e_n111.trans (if_neg h), e_n112.trans (if_neg h)⟩
    · exact ⟨e_n113.trans (if_neg h), e_n114.trans (if_neg h)⟩
    · exact ⟨e_n115.trans (if_neg h), e_n116.trans (if_neg h)⟩
    · exact ⟨e_n117.trans (if_neg h), e_n118.trans (if_neg h)⟩
    · exact ⟨e_n119.trans (if_neg h), e_n120.trans (if_neg h)⟩
    · exact ⟨e_n121.trans (if_neg h), e_n122.trans (if_neg h)⟩
    · exact ⟨e_n123.trans (if_neg h), e_n124.trans (if_neg h)⟩
    · exact ⟨e_n125.trans (if_neg h), e_n126.trans (if_neg h)⟩
    · exact ⟨e_n127.trans (if_neg h), e_n128.trans (if_neg h)⟩
    · exact ⟨e_n129.trans (if_neg h), e_n130.trans (if_neg h)⟩
    · exact ⟨e_n131.trans (if_neg h), e_n132.trans (if_neg h)⟩
    · exact ⟨e_n133.trans (if_neg h), e_n134.trans (if_neg h)⟩
    · exact ⟨e_n135.trans (if_neg h), e_n136.trans (if_neg h)⟩
    · exact ⟨e_n137.trans (if_neg h), e_n138.trans (if_neg h)⟩
    · exact ⟨e_n139.trans (if_neg h), e_n140.trans (if_neg h)⟩
  clear h1 h2 hL hP hM hQ
  have hs : nth L 0 = 7 → netE L P M = 0 → netE L Q M = 0 → unl [n75, n76, n77, n78, n79, n80, n81, n82, n83, n84, n85, n86, n87, n88, n89, n90, n91, n92, n93, n94, n95, n96, n97, n98, n99, n100, n101, n102, n103, n104, n105, n106] [n141, n142, n143, n144, n145, n146, n147, n148, n149, n150, n151, n152, n153, n154, n155, n156, n157, n158, n159, n160, n161, n162, n163, n164, n165, n166, n167, n168, n169, n170, n171, n172] 16 ≤ 1 := by
    intro q1 q2 q3
    rw [a1, b1]
    exact seven_one (by unfold many; rw [if_pos q1]) q2 q3 (k := n108.toNat) (by omega) fun j hj hne => hpt j hj (by omega)
  refine ⟨fun c0 => ⟨fun c1 => ?_, fun c1 => ⟨fun _ => ⟨trivial, fun t h => h⟩, fun c => absurd (show ¬ n = 7 by omega) c⟩⟩, fun c0 => ⟨fun _ => ⟨trivial, fun t h => h⟩, fun c1 => ?_⟩⟩
  · have hm : many L = 12 := by unfold many; rw [L0, if_neg (by omega)]
    have q := fun (j : Nat) (hj : j < many L) => hpt j (by omega) (by omega)
    have r1 := same_net (m := M) q hm
    have r2 := same_pts (m := M) q
    have c : [n75, n76, n77, n78, n79, n80, n81, n82, n83, n84, n85, n86, n87, n88, n89, n90, n91, n92, n93, n94, n95, n96, n97, n98, n99, n100, n101, n102, n103, n104, n105, n106] = [n141, n142, n143, n144, n145, n146, n147, n148, n149, n150, n151, n152, n153, n154, n155, n156, n157, n158, n159, n160, n161, n162, n163, n164, n165, n166, n167, n168, n169, n170, n171, n172] := a1.trans (r1.symm.trans b1.symm)
    simp only [List.cons.injEq, and_true] at c
    clear a1 b1 hs
    obtain ⟨rfl, rfl, rfl, rfl, rfl, rfl, rfl, rfl, rfl, rfl, rfl, rfl, rfl, rfl, rfl, rfl, rfl, rfl, rfl, rfl, rfl, rfl, rfl, rfl, rfl, rfl, rfl, rfl, rfl, rfl, rfl, rfl⟩ := c
    exact ⟨fun _ => ⟨fun _ => ⟨trivial, fun t h => h⟩, fun c => absurd (a2.trans (r2.symm.trans b2.symm)) c⟩, fun c => absurd (by simp) c⟩
  refine ⟨fun _ => ⟨trivial, fun t h => h⟩, fun c2 => ⟨fun _ => ⟨trivial, fun t h => h⟩, fun c3 => ⟨rfl, ?_⟩⟩⟩
  have hs1 := hs (by omega) (by omega) (by omega)
  intro n174 l_n174 u_n174 n175 l_n175 u_n175 hi vs hvs
  replace hi : n174 = unl [n75, n76, n77, n78, n79, n80, n81, n82, n83, n84, n85, n86, n87, n88, n89, n90, n91, n92, n93, n94, n95, n96, n97, n98, n99, n100, n101, n102, n103, n104, n105, n106] [n141, n142, n143, n144, n145, n146, n147, n148, n149, n150, n151, n152, n153, n154, n155, n156, n157, n158, n159, n160, n161, n162, n163, n164, n165, n166, n167, n168, n169, n170, n171, n172] n175.toNat := hi
  obtain ⟨A, hA⟩ : ∃ x : List Int, x = [n75, n76, n77, n78, n79, n80, n81, n82, n83, n84, n85, n86, n87, n88, n89, n90, n91, n92, n93, n94, n95, n96, n97, n98, n99, n100, n101, n102, n103, n104, n105, n106] := ⟨_, rfl⟩
  obtain ⟨B, hB⟩ : ∃ x : List Int, x = [n141, n142, n143, n144, n145, n146, n147, n148, n149, n150, n151, n152, n153, n154, n155, n156, n157, n158, n159, n160, n161, n162, n163, n164, n165, n166, n167, n168, n169, n170, n171, n172] := ⟨_, rfl⟩
  rw [← hA, ← hB] at hi hs1
  have hle := unl_le A B n175.toNat
  rw [← hi] at hle
  refine ⟨fun c4 => ⟨c4, c4, ?_⟩, fun c4 => ⟨fun _ => ⟨trivial, fun t h => h⟩, fun c => absurd ?_ c⟩⟩
  · obtain ⟨i, hi16, rfl⟩ : ∃ i : Nat, i < 16 ∧ n175 = (i : Int) := ⟨n175.toNat, by omega, by omega⟩
    rw [Int.toNat_natCast] at hi hle
    refine ⟨fun c => ?_, fun c => ?_⟩
    · have c' : ¬ (nth A (2 * i) = nth B (2 * i) ∧ nth A (2 * i + 1) = nth B (2 * i + 1)) := by
        rw [hA, hB]
        rcases c16 hi16 with rfl | rfl | rfl | rfl | rfl | rfl | rfl | rfl | rfl | rfl | rfl | rfl | rfl | rfl | rfl | rfl
        all_goals exact c
      intro n176 e1 _ _ n177 e2 _ _
      refine ⟨by omega, fun n178 e3 _ _ => ⟨by omega, fun n179 e4 _ _ => ⟨?_, ?_⟩⟩⟩
      · show n178 = unl [n75, n76, n77, n78, n79, n80, n81, n82, n83, n84, n85, n86, n87, n88, n89, n90, n91, n92, n93, n94, n95, n96, n97, n98, n99, n100, n101, n102, n103, n104, n105, n106] [n141, n142, n143, n144, n145, n146, n147, n148, n149, n150, n151, n152, n153, n154, n155, n156, n157, n158, n159, n160, n161, n162, n163, n164, n165, n166, n167, n168, n169, n170, n171, n172] n179.toNat
        rw [← hA, ← hB, show n179.toNat = i + 1 by omega]
        unfold unl
        rw [if_neg c']
        omega
      · show (16 - n179).toNat < (16 - (i : Int)).toNat
        omega
    · have c' : nth A (2 * i) = nth B (2 * i) ∧ nth A (2 * i + 1) = nth B (2 * i + 1) := by
        have c := Classical.not_not.1 c
        rw [hA, hB]
        rcases c16 hi16 with rfl | rfl | rfl | rfl | rfl | rfl | rfl | rfl | rfl | rfl | rfl | rfl | rfl | rfl | rfl | rfl
        all_goals exact c
      intro n176 e1 _ _
      refine ⟨by omega, fun n177 e2 _ _ => ⟨?_, ?_⟩⟩
      · show n174 = unl [n75, n76, n77, n78, n79, n80, n81, n82, n83, n84, n85, n86, n87, n88, n89, n90, n91, n92, n93, n94, n95, n96, n97, n98, n99, n100, n101, n102, n103, n104, n105, n106] [n141, n142, n143, n144, n145, n146, n147, n148, n149, n150, n151, n152, n153, n154, n155, n156, n157, n158, n159, n160, n161, n162, n163, n164, n165, n166, n167, n168, n169, n170, n171, n172] n177.toNat
        rw [← hA, ← hB, show n177.toNat = i + 1 by omega]
        unfold unl
        rw [if_pos c']
        omega
      · show (16 - n177).toNat < (16 - (i : Int)).toNat
        omega
  · rw [show n175.toNat = 16 by omega] at hi
    omega

set_option maxHeartbeats 4000000 in
theorem p_lflat : P_lflat := by
  unfold P_lflat
  intro n l_n u_n n1 l_n1 u_n1 n2 l_n2 u_n2 n3 l_n3 u_n3 n4 l_n4 u_n4 n5 l_n5 u_n5 n6 l_n6 u_n6 n7 l_n7 u_n7
  intro _
  intro _
  intro _
  intro _
  intro _
  intro _
  intro _
  intro _
  intro _
  intro _
  intro _
  intro _
  intro _
  intro _
  intro _
  intro _
  intro _
  intro _
  intro _
  intro _
  intro _
  intro _
  intro _
  intro n8 e_n8 l_n8 u_n8
  intro n9 e_n9 l_n9 u_n9
  intro n10 e_n10 l_n10 u_n10
  intro n11 e_n11 l_n11 u_n11
  intro n12 e_n12 l_n12 u_n12
  intro n13 e_n13 l_n13 u_n13
  intro n14 e_n14 l_n14 u_n14
  intro n15 e_n15 l_n15 u_n15
  intro n16 e_n16 l_n16 u_n16
  intro n17 e_n17 l_n17 u_n17
  intro n18 e_n18 l_n18 u_n18
  intro n19 e_n19 l_n19 u_n19
  intro n20 e_n20 l_n20 u_n20
  intro n21 e_n21 l_n21 u_n21
  intro n22 e_n22 l_n22 u_n22
  intro n23 e_n23 l_n23 u_n23
  intro _
  intro n24 e_n24 l_n24 u_n24
  intro n25 e_n25 l_n25 u_n25
  intro n26 e_n26 l_n26 u_n26
  intro n27 e_n27 l_n27 u_n27
  intro n28 e_n28 l_n28 u_n28
  intro n29 e_n29 l_n29 u_n29
  refine ⟨trivial, ?_⟩
  intro n30 l_n30 u_n30 n31 l_n31 u_n31 n32 l_n32 u_n32 n33 l_n33 u_n33 n34 l_n34 u_n34 n35 l_n35 u_n35 n36 l_n36 u_n36 n37 l_n37 u_n37 n38 l_n38 u_n38 n39 l_n39 u_n39 n40 l_n40 u_n40 n41 l_n41 u_n41
  intro n42 l_n42 u_n42 n43 l_n43 u_n43 n44 l_n44 u_n44 n45 l_n45 u_n45 n46 l_n46 u_n46 n47 l_n47 u_n47 n48 l_n48 u_n48 n49 l_n49 u_n49 n50 l_n50 u_n50 n51 l_n51 u_n51 n52 l_n52 u_n52 n53 l_n53 u_n53
  intro n54 l_n54 u_n54 n55 l_n55 u_n55 n56 l_n56 u_n56 n57 l_n57 u_n57 n58 l_n58 u_n58 n59 l_n59 u_n59 n60 l_n60 u_n60 n61 l_n61 u_n61 n62 l_n62 u_n62
  intro h1
  obtain ⟨L, hL⟩ : ∃ x : List Int, x = [6, 8, 1, 2, 1, 0, 0, 16711680, 0, 16711680, 0, 65536, 0, 0, 0, 0, 0, 0] := ⟨_, rfl⟩
  obtain ⟨P, hP⟩ : ∃ x : List Int, x = [3, 7, 3, n8, 3, n9, 3, n10, n11, n12, n13, n14, n15, n16, n17, n18, n19, n20, n21, 7, n22, 7, n23, 7, 0, 0, 0, 0, 0, 0, 0, 0, 0, 0, 0, 0, 0, 0, 0, 0, 0, 0, 0, 0, 0, 0, 0, 0] := ⟨_, rfl⟩
  obtain ⟨M, hM⟩ : ∃ x : List Int, x = [n24, n25, n26, n27, n28, n29] := ⟨_, rfl⟩
  have a1 : [n30, n31, n32, n33, n34, n35, n36, n37, n38, n39, n40, n41, n42, n43, n44, n45, n46, n47, n48, n49, n50, n51, n52, n53, n54, n55, n56, n57, n58, n59, n60, n61] = netN L P M := by rw [hL, hP, hM]; exact h1.1
  have a2 : n62 = netE L P M := by rw [hL, hP, hM]; exact h1.2
  clear h1
  rw [e_n24, e_n25, e_n26, e_n27, e_n28, e_n29] at hM
  have L1 : nth L 1 = 8 := by rw [hL]; rfl
  have L6 : nth L 6 = 0 := by rw [hL]; rfl
  have L7 : nth L 7 = 16711680 := by rw [hL]; rfl
  have L8 : nth L 8 = 0 := by rw [hL]; rfl
  have L9 : nth L 9 = 16711680 := by rw [hL]; rfl
  obtain ⟨E0, X0, Y0⟩ := flat_at (L := L) (P := P) (M := M) 0 (rx := 0 * (n6 % 80) + 3) (ry := 0 * (n7 % 80) + 7) L1 L6 L7 L8 L9 (by rw [hP]; show (3 : Int) = _; omega) (by rw [hP]; show (7 : Int) = _; omega) hM l_n u_n l_n1 u_n1 l_n2 u_n2 l_n3 u_n3 l_n4 u_n4 l_n5 u_n5 (by omega) (by omega) (by omega) (by omega)
  obtain ⟨E1, X1, Y1⟩ := flat_at (L := L) (P := P) (M := M) 1 (rx := 0 * (n6 % 80) + 3) (ry := 1 * (n7 % 80) + 7) L1 L6 L7 L8 L9 (by rw [hP]; show (3 : Int) = _; omega) (by rw [hP]; show (n8 : Int) = _; omega) hM l_n u_n l_n1 u_n1 l_n2 u_n2 l_n3 u_n3 l_n4 u_n4 l_n5 u_n5 (by omega) (by omega) (by omega) (by omega)
  obtain ⟨E2, X2, Y2⟩ := flat_at (L := L) (P := P) (M := M) 2 (rx := 0 * (n6 % 80) + 3) (ry := 2 * (n7 % 80) + 7) L1 L6 L7 L8 L9 (by rw [hP]; show (3 : Int) = _; omega) (by rw [hP]; show (n9 : Int) = _; omega) hM l_n u_n l_n1 u_n1 l_n2 u_n2 l_n3 u_n3 l_n4 u_n4 l_n5 u_n5 (by omega) (by omega) (by omega) (by omega)
  obtain ⟨E3, X3, Y3⟩ := flat_at (L := L) (P := P) (M := M) 3 (rx := 0 * (n6 % 80) + 3) (ry := 3 * (n7 % 80) + 7) L1 L6 L7 L8 L9 (by rw [hP]; show (3 : Int) = _; omega) (by rw [hP]; show (n10 : Int) = _; omega) hM l_n u_n l_n1 u_n1 l_n2 u_n2 l_n3 u_n3 l_n4 u_n4 l_n5 u_n5 (by omega) (by omega) (by omega) (by omega)
  obtain ⟨E4, X4, Y4⟩ := flat_at (L := L) (P := P) (M := M) 4 (rx := 1 * (n6 % 80) + 3) (ry := 3 * (n7 % 80) + 7) L1 L6 L7 L8 L9 (by rw [hP]; show (n11 : Int) = _; omega) (by rw [hP]; show (n12 : Int) = _; omega) hM l_n u_n l_n1 u_n1 l_n2 u_n2 l_n3 u_n3 l_n4 u_n4 l_n5 u_n5 (by omega) (by omega) (by omega) (by omega)
  obtain ⟨E5, X5, Y5⟩ := flat_at (L := L) (P := P) (M := M) 5 (rx := 2 * (n6 % 80) + 3) (ry := 3 * (n7 % 80) + 7) L1 L6 L7 L8 L9 (by rw [hP]; show (n13 : Int) = _; omega) (by rw [hP]; show (n14 : Int) = _; omega) hM l_n u_n l_n1 u_n1 l_n2 u_n2 l_n3 u_n3 l_n4 u_n4 l_n5 u_n5 (by omega) (by omega) (by omega) (by omega)
  obtain ⟨E6, X6, Y6⟩ := flat_at (L := L) (P := P) (M := M) 6 (rx := 3 * (n6 % 80) + 3) (ry := 3 * (n7 % 80) + 7) L1 L6 L7 L8 L9 (by rw [hP]; show (n15 : Int) = _; omega) (by rw [hP]; show (n16 : Int) = _; omega) hM l_n u_n l_n1 u_n1 l_n2 u_n2 l_n3 u_n3 l_n4 u_n4 l_n5 u_n5 (by omega) (by omega) (by omega) (by omega)
  obtain ⟨E7, X7, Y7⟩ := flat_at (L := L) (P := P) (M := M) 7 (rx := 3 * (n6 % 80) + 3) (ry := 2 * (n7 % 80) + 7) L1 L6 L7 L8 L9 (by rw [hP]; show (n17 : Int) = _; omega) (by rw [hP]; show (n18 : Int) = _; omega) hM l_n u_n l_n1 u_n1 l_n2 u_n2 l_n3 u_n3 l_n4 u_n4 l_n5 u_n5 (by omega) (by omega) (by omega) (by omega)
  obtain ⟨E8, X8, Y8⟩ := flat_at (L := L) (P := P) (M := M) 8 (rx := 3 * (n6 % 80) + 3) (ry := 1 * (n7 % 80) + 7) L1 L6 L7 L8 L9 (by rw [hP]; show (n19 : Int) = _; omega) (by rw [hP]; show (n20 : Int) = _; omega) hM l_n u_n l_n1 u_n1 l_n2 u_n2 l_n3 u_n3 l_n4 u_n4 l_n5 u_n5 (by omega) (by omega) (by omega) (by omega)
  obtain ⟨E9, X9, Y9⟩ := flat_at (L := L) (P := P) (M := M) 9 (rx := 3 * (n6 % 80) + 3) (ry := 0 * (n7 % 80) + 7) L1 L6 L7 L8 L9 (by rw [hP]; show (n21 : Int) = _; omega) (by rw [hP]; show (7 : Int) = _; omega) hM l_n u_n l_n1 u_n1 l_n2 u_n2 l_n3 u_n3 l_n4 u_n4 l_n5 u_n5 (by omega) (by omega) (by omega) (by omega)
  obtain ⟨E10, X10, Y10⟩ := flat_at (L := L) (P := P) (M := M) 10 (rx := 2 * (n6 % 80) + 3) (ry := 0 * (n7 % 80) + 7) L1 L6 L7 L8 L9 (by rw [hP]; show (n22 : Int) = _; omega) (by rw [hP]; show (7 : Int) = _; omega) hM l_n u_n l_n1 u_n1 l_n2 u_n2 l_n3 u_n3 l_n4 u_n4 l_n5 u_n5 (by omega) (by omega) (by omega) (by omega)
  obtain ⟨E11, X11, Y11⟩ := flat_at (L := L) (P := P) (M := M) 11 (rx := 1 * (n6 % 80) + 3) (ry := 0 * (n7 % 80) + 7) L1 L6 L7 L8 L9 (by rw [hP]; show (n23 : Int) = _; omega) (by rw [hP]; show (7 : Int) = _; omega) hM l_n u_n l_n1 u_n1 l_n2 u_n2 l_n3 u_n3 l_n4 u_n4 l_n5 u_n5 (by omega) (by omega) (by omega) (by omega)
  have hm : many L = 12 := by rw [hL]; rfl
  have hB : layB L = true := by rw [hL]; decide
  have z : netE L P M = 0 := netE_zero hB fun j hj => by
    rw [hm] at hj
    rcases c12 hj with rfl | rfl | rfl | rfl | rfl | rfl | rfl | rfl | rfl | rfl | rfl | rfl
    all_goals assumption
  have U0 : plX L P M 0 = Fl n n2 n4 (n6 % 80) (n7 % 80) 0 0 := (plX_lt (by omega)).trans X0
  have W0 : plY L P M 0 = Fl n1 n3 n5 (n6 % 80) (n7 % 80) 0 0 := (plY_lt (by omega)).trans Y0
  have U1 : plX L P M 1 = Fl n n2 n4 (n6 % 80) (n7 % 80) 0 1 := (plX_lt (by omega)).trans X1
  have W1 : plY L P M 1 = Fl n1 n3 n5 (n6 % 80) (n7 % 80) 0 1 := (plY_lt (by omega)).trans Y1
  have U2 : plX L P M 2 = Fl n n2 n4 (n6 % 80) (n7 % 80) 0 2 := (plX_lt (by omega)).trans X2
  have W2 : plY L P M 2 = Fl n1 n3 n5 (n6 % 80) (n7 % 80) 0 2 := (plY_lt (by omega)).trans Y2
  have U3 : plX L P M 3 = Fl n n2 n4 (n6 % 80) (n7 % 80) 0 3 := (plX_lt (by omega)).trans X3
  have W3 : plY L P M 3 = Fl n1 n3 n5 (n6 % 80) (n7 % 80) 0 3 := (plY_lt (by omega)).trans Y3
  have U4 : plX L P M 4 = Fl n n2 n4 (n6 % 80) (n7 % 80) 1 3 := (plX_lt (by omega)).trans X4
  have W4 : plY L P M 4 = Fl n1 n3 n5 (n6 % 80) (n7 % 80) 1 3 := (plY_lt (by omega)).trans Y4
  have U5 : plX L P M 5 = Fl n n2 n4 (n6 % 80) (n7 % 80) 2 3 := (plX_lt (by omega)).trans X5
  have W5 : plY L P M 5 = Fl n1 n3 n5 (n6 % 80) (n7 % 80) 2 3 := (plY_lt (by omega)).trans Y5
  have U6 : plX L P M 6 = Fl n n2 n4 (n6 % 80) (n7 % 80) 3 3 := (plX_lt (by omega)).trans X6
  have W6 : plY L P M 6 = Fl n1 n3 n5 (n6 % 80) (n7 % 80) 3 3 := (plY_lt (by omega)).trans Y6
  have U7 : plX L P M 7 = Fl n n2 n4 (n6 % 80) (n7 % 80) 3 2 := (plX_lt (by omega)).trans X7
  have W7 : plY L P M 7 = Fl n1 n3 n5 (n6 % 80) (n7 % 80) 3 2 := (plY_lt (by omega)).trans Y7
  have U8 : plX L P M 8 = Fl n n2 n4 (n6 % 80) (n7 % 80) 3 1 := (plX_lt (by omega)).trans X8
  have W8 : plY L P M 8 = Fl n1 n3 n5 (n6 % 80) (n7 % 80) 3 1 := (plY_lt (by omega)).trans Y8
  have U9 : plX L P M 9 = Fl n n2 n4 (n6 % 80) (n7 % 80) 3 0 := (plX_lt (by omega)).trans X9
  have W9 : plY L P M 9 = Fl n1 n3 n5 (n6 % 80) (n7 % 80) 3 0 := (plY_lt (by omega)).trans Y9
  have U10 : plX L P M 10 = Fl n n2 n4 (n6 % 80) (n7 % 80) 2 0 := (plX_lt (by omega)).trans X10
  have W10 : plY L P M 10 = Fl n1 n3 n5 (n6 % 80) (n7 % 80) 2 0 := (plY_lt (by omega)).trans Y10
  have U11 : plX L P M 11 = Fl n n2 n4 (n6 % 80) (n7 % 80) 1 0 := (plX_lt (by omega)).trans X11
  have W11 : plY L P M 11 = Fl n1 n3 n5 (n6 % 80) (n7 % 80) 1 0 := (plY_lt (by omega)).trans Y11
  have U12 : plX L P M 12 = Fl n n2 n4 (n6 % 80) (n7 % 80) 1 1 := by
    refine (plX_in hm (by omega)).trans ?_
    show mixF (pX L P M 0) (pX L P M 1) (pX L P M 11) (pX L P M 3) (pX L P M 9) (pX L P M 8) (pX L P M 4) (pX L P M 6) = _
    rw [X0, X1, X11, X3, X9, X8, X4, X6]
    exact (Fl_mix (a := n) (c := n2) (e := n4) (s := n6 % 80) (t := n7 % 80)).1
  have W12 : plY L P M 12 = Fl n1 n3 n5 (n6 % 80) (n7 % 80) 1 1 := by
    refine (plY_in hm (by omega)).trans ?_
    show mixF (pY L P M 0) (pY L P M 1) (pY L P M 11) (pY L P M 3) (pY L P M 9) (pY L P M 8) (pY L P M 4) (pY L P M 6) = _
    rw [Y0, Y1, Y11, Y3, Y9, Y8, Y4, Y6]
    exact (Fl_mix (a := n1) (c := n3) (e := n5) (s := n6 % 80) (t := n7 % 80)).1
  have U13 : plX L P M 13 = Fl n n2 n4 (n6 % 80) (n7 % 80) 1 2 := by
    refine (plX_in hm (by omega)).trans ?_
    show mixF (pX L P M 3) (pX L P M 2) (pX L P M 4) (pX L P M 0) (pX L P M 6) (pX L P M 7) (pX L P M 11) (pX L P M 9) = _
    rw [X3, X2, X4, X0, X6, X7, X11, X9]
    exact (Fl_mix (a := n) (c := n2) (e := n4) (s := n6 % 80) (t := n7 % 80)).2.1
  have W13 : plY L P M 13 = Fl n1 n3 n5 (n6 % 80) (n7 % 80) 1 2 := by
    refine (plY_in hm (by omega)).trans ?_
    show mixF (pY L P M 3) (pY L P M 2) (pY L P M 4) (pY L P M 0) (pY L P M 6) (pY L P M 7) (pY L P M 11) (pY L P M 9) = _
    rw [Y3, Y2, Y4, Y0, Y6, Y7, Y11, Y9]
    exact (Fl_mix (a := n1) (c := n3) (e := n5) (s := n6 % 80) (t := n7 % 80)).2.1
  have U15 : plX L P M 15 = Fl n n2 n4 (n6 % 80) (n7 % 80) 2 1 := by
    refine (plX_in hm (by omega)).trans ?_
    show mixF (pX L P M 9) (pX L P M 8) (pX L P M 10) (pX L P M 6) (pX L P M 0) (pX L P M 1) (pX L P M 5) (pX L P M 3) = _
    rw [X9, X8, X10, X6, X0, X1, X5, X3]
    exact (Fl_mix (a := n) (c := n2) (e := n4) (s := n6 % 80) (t := n7 % 80)).2.2.1
  have W15 : plY L P M 15 = Fl n1 n3 n5 (n6 % 80) (n7 % 80) 2 1 := by
    refine (plY_in hm (by omega)).trans ?_
    show mixF (pY L P M 9) (pY L P M 8) (pY L P M 10) (pY L P M 6) (pY L P M 0) (pY L P M 1) (pY L P M 5) (pY L P M 3) = _
    rw [Y9, Y8, Y10, Y6, Y0, Y1, Y5, Y3]
    exact (Fl_mix (a := n1) (c := n3) (e := n5) (s := n6 % 80) (t := n7 % 80)).2.2.1
  have U14 : plX L P M 14 = Fl n n2 n4 (n6 % 80) (n7 % 80) 2 2 := by
    refine (plX_in hm (by omega)).trans ?_
    show mixF (pX L P M 6) (pX L P M 7) (pX L P M 5) (pX L P M 9) (pX L P M 3) (pX L P M 2) (pX L P M 10) (pX L P M 0) = _
    rw [X6, X7, X5, X9, X3, X2, X10, X0]
    exact (Fl_mix (a := n) (c := n2) (e := n4) (s := n6 % 80) (t := n7 % 80)).2.2.2
  have W14 : plY L P M 14 = Fl n1 n3 n5 (n6 % 80) (n7 % 80) 2 2 := by
    refine (plY_in hm (by omega)).trans ?_
    show mixF (pY L P M 6) (pY L P M 7) (pY L P M 5) (pY L P M 9) (pY L P M 3) (pY L P M 2) (pY L P M 10) (pY L P M 0) = _
    rw [Y6, Y7, Y5, Y9, Y3, Y2, Y10, Y0]
    exact (Fl_mix (a := n1) (c := n3) (e := n5) (s := n6 % 80) (t := n7 % 80)).2.2.2
  rw [netN_eq z, U0, W0, U1, W1, U2, W2, U3, W3, U11, W11, U12, W12, U13, W13, U4, W4, U10, W10, U15, W15, U14, W14, U5, W5, U9, W9, U8, W8, U7, W7, U6, W6] at a1
  rw [z] at a2
  simp only [List.cons.injEq, and_true] at a1
  obtain ⟨rfl, rfl, rfl, rfl, rfl, rfl, rfl, rfl, rfl, rfl, rfl, rfl, rfl, rfl, rfl, rfl, rfl, rfl, rfl, rfl, rfl, rfl, rfl, rfl, rfl, rfl, rfl, rfl, rfl, rfl, rfl, rfl⟩ := a1
  subst a2
  intro _
  refine ⟨fun c => absurd rfl c, fun _ => ?_⟩
  intro _
  intro n63 e_n63 l_n63 u_n63
  intro n64 e_n64 l_n64 u_n64
  refine ⟨fun c => absurd ⟨by rw [e_n63]; unfold Fl; rw [show (0 * (n6 % 80) + 3 : Int) = 3 by omega, show (0 * (n7 % 80) + 7 : Int) = 7 by omega], by rw [e_n64]; unfold Fl; rw [show (0 * (n6 % 80) + 3 : Int) = 3 by omega, show (0 * (n7 % 80) + 7 : Int) = 7 by omega]⟩ c, fun _ => ?_⟩
  intro n65 e_n65 l_n65 u_n65
  intro _
  intro n66 e_n66 l_n66 u_n66
  intro n67 e_n67 l_n67 u_n67
  refine ⟨fun c => absurd ⟨by rw [e_n66]; unfold Fl; rw [show (0 * (n6 % 80) + 3 : Int) = 3 by omega, show (1 * (n7 % 80) + 7 : Int) = n65 by omega], by rw [e_n67]; unfold Fl; rw [show (0 * (n6 % 80) + 3 : Int) = 3 by omega, show (1 * (n7 % 80) + 7 : Int) = n65 by omega]⟩ c, fun _ => ?_⟩
  intro n68 e_n68 l_n68 u_n68
  intro _
  intro n69 e_n69 l_n69 u_n69
  intro n70 e_n70 l_n70 u_n70
  refine ⟨fun c => absurd ⟨by rw [e_n69]; unfold Fl; rw [show (0 * (n6 % 80) + 3 : Int) = 3 by omega, show (2 * (n7 % 80) + 7 : Int) = n68 by omega], by rw [e_n70]; unfold Fl; rw [show (0 * (n6 % 80) + 3 : Int) = 3 by omega, show (2 * (n7 % 80) + 7 : Int) = n68 by omega]⟩ c, fun _ => ?_⟩
  intro n71 e_n71 l_n71 u_n71
  intro _
  intro n72 e_n72 l_n72 u_n72
  intro n73 e_n73 l_n73 u_n73
  refine ⟨fun c => absurd ⟨by rw [e_n72]; unfold Fl; rw [show (0 * (n6 % 80) + 3 : Int) = 3 by omega, show (3 * (n7 % 80) + 7 : Int) = n71 by omega], by rw [e_n73]; unfold Fl; rw [show (0 * (n6 % 80) + 3 : Int) = 3 by omega, show (3 * (n7 % 80) + 7 : Int) = n71 by omega]⟩ c, fun _ => ?_⟩
  intro n74 e_n74 l_n74 u_n74
  intro _
  intro n75 e_n75 l_n75 u_n75
  intro n76 e_n76 l_n76 u_n76
  refine ⟨fun c => absurd ⟨by rw [e_n75]; unfold Fl; rw [show (1 * (n6 % 80) + 3 : Int) = n74 by omega, show (0 * (n7 % 80) + 7 : Int) = 7 by omega], by rw [e_n76]; unfold Fl; rw [show (1 * (n6 % 80) + 3 : Int) = n74 by omega, show (0 * (n7 % 80) + 7 : Int) = 7 by omega]⟩ c, fun _ => ?_⟩
  intro n77 e_n77 l_n77 u_n77
  intro n78 e_n78 l_n78 u_n78
  intro _
  intro n79 e_n79 l_n79 u_n79
  intro n80 e_n80 l_n80 u_n80
  refine ⟨fun c => absurd ⟨by rw [e_n79]; unfold Fl; rw [show (1 * (n6 % 80) + 3 : Int) = n77 by omega, show (1 * (n7 % 80) + 7 : Int) = n78 by omega], by rw [e_n80]; unfold Fl; rw [show (1 * (n6 % 80) + 3 : Int) = n77 by omega, show (1 * (n7 % 80) + 7 : Int) = n78 by omega]⟩ c, fun _ => ?_⟩
  intro n81 e_n81 l_n81 u_n81
  intro n82 e_n82 l_n82 u_n82
  intro _
  intro n83 e_n83 l_n83 u_n83
  intro n84 e_n84 l_n84 u_n84
  refine ⟨fun c => absurd ⟨by rw [e_n83]; unfold Fl; rw [show (1 * (n6 % 80) + 3 : Int) = n81 by omega, show (2 * (n7 % 80) + 7 : Int) = n82 by omega], by rw [e_n84]; unfold Fl; rw [show (1 * (n6 % 80) + 3 : Int) = n81 by omega, show (2 * (n7 % 80) + 7 : Int) = n82 by omega]⟩ c, fun _ => ?_⟩
  intro n85 e_n85 l_n85 u_n85
  intro n86 e_n86 l_n86 u_n86
  intro _
  intro n87 e_n87 l_n87 u_n87
  intro n88 e_n88 l_n88 u_n88
  refine ⟨fun c => absurd ⟨by rw [e_n87]; unfold Fl; rw [show (1 * (n6 % 80) + 3 : Int) = n85 by omega, show (3 * (n7 % 80) + 7 : Int) = n86 by omega], by rw [e_n88]; unfold Fl; rw [show (1 * (n6 % 80) + 3 : Int) = n85 by omega, show (3 * (n7 % 80) + 7 : Int) = n86 by omega]⟩ c, fun _ => ?_⟩
  intro n89 e_n89 l_n89 u_n89
  intro _
  intro n90 e_n90 l_n90 u_n90
  intro n91 e_n91 l_n91 u_n91
  refine ⟨fun c => absurd ⟨by rw [e_n90]; unfold Fl; rw [show (2 * (n6 % 80) + 3 : Int) = n89 by omega, show (0 * (n7 % 80) + 7 : Int) = 7 by omega], by rw [e_n91]; unfold Fl; rw [show (2 * (n6 % 80) + 3 : Int) = n89 by omega, show (0 * (n7 % 80) + 7 : Int) = 7 by omega]⟩ c, fun _ => ?_⟩
  intro n92 e_n92 l_n92 u_n92
  intro n93 e_n93 l_n93 u_n93
  intro _
  intro n94 e_n94 l_n94 u_n94
  intro n95 e_n95 l_n95 u_n95
  refine ⟨fun c => absurd ⟨by rw [e_n94]; unfold Fl; rw [show (2 * (n6 % 80) + 3 : Int) = n92 by omega, show (1 * (n7 % 80) + 7 : Int) = n93 by omega], by rw [e_n95]; unfold Fl; rw [show (2 * (n6 % 80) + 3 : Int) = n92 by omega, show (1 * (n7 % 80) + 7 : Int) = n93 by omega]⟩ c, fun _ => ?_⟩
  intro n96 e_n96 l_n96 u_n96
  intro n97 e_n97 l_n97 u_n97
  intro _
  intro n98 e_n98 l_n98 u_n98
  intro n99 e_n99 l_n99 u_n99
  refine ⟨fun c => absurd ⟨by rw [e_n98]; unfold Fl; rw [show (2 * (n6 % 80) + 3 : Int) = n96 by omega, show (2 * (n7 % 80) + 7 : Int) = n97 by omega], by rw [e_n99]; unfold Fl; rw [show (2 * (n6 % 80) + 3 : Int) = n96 by omega, show (2 * (n7 % 80) + 7 : Int) = n97 by omega]⟩ c, fun _ => ?_⟩
  intro n100 e_n100 l_n100 u_n100
  intro n101 e_n101 l_n101 u_n101
  intro _
  intro n102 e_n102 l_n102 u_n102
  intro n103 e_n103 l_n103 u_n103
  refine ⟨fun c => absurd ⟨by rw [e_n102]; unfold Fl; rw [show (2 * (n6 % 80) + 3 : Int) = n100 by omega, show (3 * (n7 % 80) + 7 : Int) = n101 by omega], by rw [e_n103]; unfold Fl; rw [show (2 * (n6 % 80) + 3 : Int) = n100 by omega, show (3 * (n7 % 80) + 7 : Int) = n101 by omega]⟩ c, fun _ => ?_⟩
  intro n104 e_n104 l_n104 u_n104
  intro _
  intro n105 e_n105 l_n105 u_n105
  intro n106 e_n106 l_n106 u_n106
  refine ⟨fun c => absurd ⟨by rw [e_n105]; unfold Fl; rw [show (3 * (n6 % 80) + 3 : Int) = n104 by omega, show (0 * (n7 % 80) + 7 : Int) = 7 by omega], by rw [e_n106]; unfold Fl; rw [show (3 * (n6 % 80) + 3 : Int) = n104 by omega, show (0 * (n7 % 80) + 7 : Int) = 7 by omega]⟩ c, fun _ => ?_⟩
  intro n107 e_n107 l_n107 u_n107
  intro n108 e_n108 l_n108 u_n108
  intro _
  intro n109 e_n109 l_n109 u_n109
  intro n110 e_n110 l_n110 u_n110
  refine ⟨fun c => absurd ⟨by rw [e_n109]; unfold Fl; rw [show (3 * (n6 % 80) + 3 : Int) = n107 by omega, show (1 * (n7 % 80) + 7 : Int) = n108 by omega], by rw [e_n110]; unfold Fl; rw [show (3 * (n6 % 80) + 3 : Int) = n107 by omega, show (1 * (n7 % 80) + 7 : Int) = n108 by omega]⟩ c, fun _ => ?_⟩
  intro n111 e_n111 l_n111 u_n111
  intro n112 e_n112 l_n112 u_n112
  intro _
  intro n113 e_n113 l_n113 u_n113
  intro n114 e_n114 l_n114 u_n114
  refine ⟨fun c => absurd ⟨by rw [e_n113]; unfold Fl; rw [show (3 * (n6 % 80) + 3 : Int) = n111 by omega, show (2 * (n7 % 80) + 7 : Int) = n112 by omega], by rw [e_n114]; unfold Fl; rw [show (3 * (n6 % 80) + 3 : Int) = n111 by omega, show (2 * (n7 % 80) + 7 : Int) = n112 by omega]⟩ c, fun _ => ?_⟩
  intro n115 e_n115 l_n115 u_n115
  intro n116 e_n116 l_n116 u_n116
  intro _
  intro n117 e_n117 l_n117 u_n117
  intro n118 e_n118 l_n118 u_n118
  refine ⟨fun c => absurd ⟨by rw [e_n117]; unfold Fl; rw [show (3 * (n6 % 80) + 3 : Int) = n115 by omega, show (3 * (n7 % 80) + 7 : Int) = n116 by omega], by rw [e_n118]; unfold Fl; rw [show (3 * (n6 % 80) + 3 : Int) = n115 by omega, show (3 * (n7 % 80) + 7 : Int) = n116 by omega]⟩ c, fun _ => ?_⟩
  exact ⟨trivial, fun t h => h⟩

end Go.Proofs.YtndfeckmfhiniaaDoor.Sx
