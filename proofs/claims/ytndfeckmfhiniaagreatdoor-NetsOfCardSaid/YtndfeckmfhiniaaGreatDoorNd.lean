/-
  Plain laws of nets, part d: the laws.
-/
import Derived.Test.YtndfeckmfhiniaaGreatDoorNc
set_option linter.all false
set_option maxRecDepth 100000
namespace Go.Proofs.YtndfeckmfhiniaaGreatDoor.Sx
open Go Go.RowKit

set_option maxHeartbeats 4000000 in
theorem p_lives : P_lives := by
  unfold P_lives
  intro _ _ _ _ _ _ _ _ _ _ _ _ _ _ _ _ _ _ _ _ _
  refine ⟨trivial, ?_⟩
  intro n l_n u_n n1 l_n1 u_n1 n2 l_n2 u_n2 n3 l_n3 u_n3 n4 l_n4 u_n4 n5 l_n5 u_n5 n6 l_n6 u_n6 n7 l_n7 u_n7 n8 l_n8 u_n8 n9 l_n9 u_n9 n10 l_n10 u_n10 n11 l_n11 u_n11
  intro n12 l_n12 u_n12 n13 l_n13 u_n13 n14 l_n14 u_n14 n15 l_n15 u_n15 n16 l_n16 u_n16 n17 l_n17 u_n17 n18 l_n18 u_n18 n19 l_n19 u_n19 n20 l_n20 u_n20 n21 l_n21 u_n21 n22 l_n22 u_n22 n23 l_n23 u_n23
  intro n24 l_n24 u_n24 n25 l_n25 u_n25 n26 l_n26 u_n26 n27 l_n27 u_n27 n28 l_n28 u_n28 n29 l_n29 u_n29 n30 l_n30 u_n30 n31 l_n31 u_n31 n32 l_n32 u_n32
  intro h
  have e1 : [n, n1, n2, n3, n4, n5, n6, n7, n8, n9, n10, n11, n12, n13, n14, n15, n16, n17, n18, n19, n20, n21, n22, n23, n24, n25, n26, n27, n28, n29, n30, n31] = [0, 0, 0, 65536, 0, 131072, 0, 196608, 65536, 0, 65536, 65536, 65536, 131072, 65536, 196608, 131072, 0, 131072, 65536, 131072, 131072, 131072, 196608, 196608, 0, 196608, 65536, 196608, 131072, 196608, 196608] := h.1.trans (by decide +kernel)
  have e2 : n32 = 0 := h.2.trans (by decide +kernel)
  simp only [List.cons.injEq, and_true] at e1
  obtain ⟨rfl, rfl, rfl, rfl, rfl, rfl, rfl, rfl, rfl, rfl, rfl, rfl, rfl, rfl, rfl, rfl, rfl, rfl, rfl, rfl, rfl, rfl, rfl, rfl, rfl, rfl, rfl, rfl, rfl, rfl, rfl, rfl⟩ := e1
  subst e2
  intro _
  refine ⟨trivial, ?_⟩
  intro n33 l_n33 u_n33 n34 l_n34 u_n34 n35 l_n35 u_n35 n36 l_n36 u_n36 n37 l_n37 u_n37 n38 l_n38 u_n38 n39 l_n39 u_n39 n40 l_n40 u_n40 n41 l_n41 u_n41
  intro h2
  intro _
  have e3 : n41 = 1 := h2.2
  subst e3
  refine ⟨fun c => absurd rfl c, fun _ => ⟨fun c => absurd rfl c, fun _ => ?_⟩⟩
  refine ⟨fun c => absurd ⟨rfl, rfl⟩ c, fun _ => ?_⟩
  refine ⟨fun c => absurd ⟨rfl, rfl⟩ c, fun _ => ?_⟩
  refine ⟨fun c => absurd ⟨rfl, rfl⟩ c, fun _ => ?_⟩
  refine ⟨fun c => absurd ⟨rfl, rfl⟩ c, fun _ => ?_⟩
  refine ⟨fun c => absurd ⟨rfl, rfl⟩ c, fun _ => ?_⟩
  refine ⟨fun c => absurd ⟨rfl, rfl⟩ c, fun _ => ?_⟩
  refine ⟨fun c => absurd ⟨rfl, rfl⟩ c, fun _ => ?_⟩
  refine ⟨fun c => absurd ⟨rfl, rfl⟩ c, fun _ => ?_⟩
  refine ⟨fun c => absurd ⟨rfl, rfl⟩ c, fun _ => ?_⟩
  refine ⟨fun c => absurd ⟨rfl, rfl⟩ c, fun _ => ?_⟩
  refine ⟨fun c => absurd ⟨rfl, rfl⟩ c, fun _ => ?_⟩
  refine ⟨fun c => absurd ⟨rfl, rfl⟩ c, fun _ => ?_⟩
  refine ⟨fun c => absurd ⟨rfl, rfl⟩ c, fun _ => ?_⟩
  refine ⟨fun c => absurd ⟨rfl, rfl⟩ c, fun _ => ?_⟩
  refine ⟨fun c => absurd ⟨rfl, rfl⟩ c, fun _ => ?_⟩
  refine ⟨fun c => absurd ⟨rfl, rfl⟩ c, fun _ => ?_⟩
  rfl

set_option maxHeartbeats 4000000 in
theorem p_lof : P_lof := by
  unfold P_lof
  intro n l_n u_n n1 l_n1 u_n1 n2 l_n2 u_n2 n3 l_n3 u_n3 n4 l_n4 u_n4 n5 l_n5 u_n5 n6 l_n6 u_n6 n7 l_n7 u_n7 n8 l_n8 u_n8 n9 l_n9 u_n9 n10 l_n10 u_n10 n11 l_n11 u_n11
  intro n12 l_n12 u_n12 n13 l_n13 u_n13 n14 l_n14 u_n14 n15 l_n15 u_n15 n16 l_n16 u_n16 n17 l_n17 u_n17 n18 l_n18 u_n18 n19 l_n19 u_n19 n20 l_n20 u_n20 n21 l_n21 u_n21 n22 l_n22 u_n22 n23 l_n23 u_n23
  intro n24 l_n24 u_n24 n25 l_n25 u_n25 n26 l_n26 u_n26 n27 l_n27 u_n27 n28 l_n28 u_n28 n29 l_n29 u_n29 n30 l_n30 u_n30 n31 l_n31 u_n31 n32 l_n32 u_n32 n33 l_n33 u_n33 n34 l_n34 u_n34 n35 l_n35 u_n35
  intro n36 l_n36 u_n36 n37 l_n37 u_n37 n38 l_n38 u_n38 n39 l_n39 u_n39 n40 l_n40 u_n40 n41 l_n41 u_n41 n42 l_n42 u_n42 n43 l_n43 u_n43 n44 l_n44 u_n44 n45 l_n45 u_n45 n46 l_n46 u_n46 n47 l_n47 u_n47
  intro n48 l_n48 u_n48 n49 l_n49 u_n49 n50 l_n50 u_n50 n51 l_n51 u_n51 n52 l_n52 u_n52 n53 l_n53 u_n53 n54 l_n54 u_n54 n55 l_n55 u_n55 n56 l_n56 u_n56 n57 l_n57 u_n57 n58 l_n58 u_n58 n59 l_n59 u_n59
  intro n60 l_n60 u_n60 n61 l_n61 u_n61 n62 l_n62 u_n62 n63 l_n63 u_n63 n64 l_n64 u_n64 n65 l_n65 u_n65 n66 l_n66 u_n66 n67 l_n67 u_n67 n68 l_n68 u_n68 n69 l_n69 u_n69 n70 l_n70 u_n70 n71 l_n71 u_n71
  intro _ _
  refine ⟨trivial, ?_⟩
  intro n72 l_n72 u_n72 n73 l_n73 u_n73 n74 l_n74 u_n74 n75 l_n75 u_n75 n76 l_n76 u_n76 n77 l_n77 u_n77 n78 l_n78 u_n78 n79 l_n79 u_n79 n80 l_n80 u_n80 n81 l_n81 u_n81 n82 l_n82 u_n82 n83 l_n83 u_n83
  intro n84 l_n84 u_n84 n85 l_n85 u_n85 n86 l_n86 u_n86 n87 l_n87 u_n87 n88 l_n88 u_n88 n89 l_n89 u_n89 n90 l_n90 u_n90 n91 l_n91 u_n91 n92 l_n92 u_n92 n93 l_n93 u_n93 n94 l_n94 u_n94 n95 l_n95 u_n95
  intro n96 l_n96 u_n96 n97 l_n97 u_n97 n98 l_n98 u_n98 n99 l_n99 u_n99 n100 l_n100 u_n100 n101 l_n101 u_n101 n102 l_n102 u_n102 n103 l_n103 u_n103 n104 l_n104 u_n104
  intro h1
  intro _
  refine ⟨trivial, ?_⟩
  intro n105 l_n105 u_n105 n106 l_n106 u_n106 n107 l_n107 u_n107 n108 l_n108 u_n108 n109 l_n109 u_n109 n110 l_n110 u_n110 n111 l_n111 u_n111 n112 l_n112 u_n112 n113 l_n113 u_n113 n114 l_n114 u_n114 n115 l_n115 u_n115 n116 l_n116 u_n116
  intro n117 l_n117 u_n117 n118 l_n118 u_n118 n119 l_n119 u_n119 n120 l_n120 u_n120 n121 l_n121 u_n121 n122 l_n122 u_n122 n123 l_n123 u_n123 n124 l_n124 u_n124 n125 l_n125 u_n125 n126 l_n126 u_n126 n127 l_n127 u_n127 n128 l_n128 u_n128
  intro n129 l_n129 u_n129 n130 l_n130 u_n130 n131 l_n131 u_n131 n132 l_n132 u_n132 n133 l_n133 u_n133 n134 l_n134 u_n134 n135 l_n135 u_n135 n136 l_n136 u_n136 n137 l_n137 u_n137
  intro h2
  intro _
  have e : [n72, n73, n74, n75, n76, n77, n78, n79, n80, n81, n82, n83, n84, n85, n86, n87, n88, n89, n90, n91, n92, n93, n94, n95, n96, n97, n98, n99, n100, n101, n102, n103] = [n105, n106, n107, n108, n109, n110, n111, n112, n113, n114, n115, n116, n117, n118, n119, n120, n121, n122, n123, n124, n125, n126, n127, n128, n129, n130, n131, n132, n133, n134, n135, n136] := h1.1.trans h2.1.symm
  have f : n104 = n137 := h1.2.trans h2.2.symm
  clear h1 h2
  simp only [List.cons.injEq, and_true] at e
  obtain ⟨rfl, rfl, rfl, rfl, rfl, rfl, rfl, rfl, rfl, rfl, rfl, rfl, rfl, rfl, rfl, rfl, rfl, rfl, rfl, rfl, rfl, rfl, rfl, rfl, rfl, rfl, rfl, rfl, rfl, rfl, rfl, rfl⟩ := e
  subst f
  refine ⟨fun _ => ⟨fun _ => ⟨trivial, fun t h => h⟩, fun c => absurd rfl c⟩, fun c => absurd (by simp) c⟩

end Go.Proofs.YtndfeckmfhiniaaGreatDoor.Sx
