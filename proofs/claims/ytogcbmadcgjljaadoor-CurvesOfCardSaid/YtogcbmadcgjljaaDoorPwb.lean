/-
  Plain laws of powers: the table.
-/
import Derived.Test.YtogcbmadcgjljaaDoorRq
import Derived.Test.YtogcbmadcgjljaaDoorWz
set_option linter.all false
set_option maxRecDepth 100000
namespace Go.Proofs.YtogcbmadcgjljaaDoor.Sx
open Go Go.RowKit

theorem split64 {h l v : Int} (H L : Int) (e : h * 18446744073709551616 + l = v) (l0 : 0 ≤ l) (l1 : l ≤ 18446744073709551615) (hv : v = H * 18446744073709551616 + L) (hL : 0 ≤ L) (hL' : L ≤ 18446744073709551615) : h = H ∧ l = L := by omega
theorem root_val {h l x e : Int} (H L C : Int) (hp : (h < 0 → x = 0 ∧ e = 1) ∧ (0 ≤ h → e = 0 ∧ isRoot (w128 h l) x)) (eh : h = H) (el : l = L) (hH : 0 ≤ H) (h1 : C * C ≤ H * 18446744073709551616 + L) (h2 : H * 18446744073709551616 + L < (C + 1) * (C + 1)) (x0 : 0 ≤ x) (c0 : 0 ≤ C) : x = C := by
  subst eh el
  exact root_uniq (hp.2 hH).2 ⟨h1, h2⟩ x0 c0
theorem floor_val {a d h l r e : Int} (A D Q R : Int) (hp : (d < 1 → h = 0 ∧ l = 0 ∧ r = 0 ∧ e = 1) ∧ (1 ≤ d → e = 0 ∧ isFloor a d (w128 h l) r)) (ea : a = A) (ed : d = D) (hD : 1 ≤ D) (h1 : A = Q * D + R) (h2 : 0 ≤ R) (h3 : R < D) : w128 h l = Q := by
  subst ea ed
  exact (floor_uniq (hp.2 hD).2 ⟨h1, h2, h3⟩).1
theorem int_val {v n t : Int} (V : Int) (h : isInt v n t) (e : v = V) (h1 : -9223372036854775808 ≤ V) (h2 : V ≤ 9223372036854775807) : n = V := by
  subst e; exact (h.1 ⟨h1, h2⟩).2

set_option maxHeartbeats 4000000 in
theorem p_pmade : P_pmade := by
  unfold P_pmade
  intro hpre
  replace hpre : True := hpre
  intro b
  intro b1
  refine ⟨trivial, ?_⟩
  intro n l_n u_n
  intro n1 l_n1 u_n1
  intro h_rootWide
  replace h_rootWide : (((2305843009213693952 : Int) < 0 → n = 0 ∧ n1 = 1) ∧ (0 ≤ (2305843009213693952 : Int) → n1 = 0 ∧ isRoot (w128 (2305843009213693952 : Int) (0 : Int)) n)) := h_rootWide
  have v_n : n = 6521908912666391106 := root_val 2305843009213693952 0 6521908912666391106 h_rootWide rfl rfl (by decide) (by decide) (by decide) l_n (by decide)
  intro n2 e_n2 l_n2 u_n2
  have v_n2 : n2 = 1630477228166597776 := by
    rw [e_n2, v_n] <;> kernel_rfl
  intro n3 e_n3 l_n3 u_n3
  have v_n3 : n3 = 9223372036854775808 := by
    rw [e_n3, v_n] <;> kernel_rfl
  refine ⟨trivial, ?_⟩
  intro n4 l_n4 u_n4
  intro n5 l_n5 u_n5
  intro h_rootWide1
  replace h_rootWide1 : ((n2 < 0 → n4 = 0 ∧ n5 = 1) ∧ (0 ≤ n2 → n5 = 0 ∧ isRoot (w128 n2 n3) n4)) := h_rootWide1
  have v_n4 : n4 = 5484249825272419511 := root_val 1630477228166597776 9223372036854775808 5484249825272419511 h_rootWide1 v_n2 v_n3 (by decide) (by decide) (by decide) l_n4 (by decide)
  intro n6 e_n6 l_n6 u_n6
  have v_n6 : n6 = 1371062456318104877 := by
    rw [e_n6, v_n4] <;> kernel_rfl
  intro n7 e_n7 l_n7 u_n7
  have v_n7 : n7 = 13835058055282163712 := by
    rw [e_n7, v_n4] <;> kernel_rfl
  refine ⟨trivial, ?_⟩
  intro n8 l_n8 u_n8
  intro n9 l_n9 u_n9
  intro h_rootWide2
  replace h_rootWide2 : ((n6 < 0 → n8 = 0 ∧ n9 = 1) ∧ (0 ≤ n6 → n9 = 0 ∧ isRoot (w128 n6 n7) n8)) := h_rootWide2
  have v_n8 : n8 = 5029079263719320435 := root_val 1371062456318104877 13835058055282163712 5029079263719320435 h_rootWide2 v_n6 v_n7 (by decide) (by decide) (by decide) l_n8 (by decide)
  intro n10 e_n10 l_n10 u_n10
  have v_n10 : n10 = 1257269815929830108 := by
    rw [e_n10, v_n8] <;> kernel_rfl
  intro n11 e_n11 l_n11 u_n11
  have v_n11 : n11 = 13835058055282163712 := by
    rw [e_n11, v_n8] <;> kernel_rfl
  refine ⟨trivial, ?_⟩
  intro n12 l_n12 u_n12
  intro n13 l_n13 u_n13
  intro h_rootWide3
  replace h_rootWide3 : ((n10 < 0 → n12 = 0 ∧ n13 = 1) ∧ (0 ≤ n10 → n13 = 0 ∧ isRoot (w128 n10 n11) n12)) := h_rootWide3
  have v_n12 : n12 = 4815862801830788490 := root_val 1257269815929830108 13835058055282163712 4815862801830788490 h_rootWide3 v_n10 v_n11 (by decide) (by decide) (by decide) l_n12 (by decide)
  intro n14 e_n14 l_n14 u_n14
  have v_n14 : n14 = 1203965700457697122 := by
    rw [e_n14, v_n12] <;> kernel_rfl
  intro n15 e_n15 l_n15 u_n15
  have v_n15 : n15 = 9223372036854775808 := by
    rw [e_n15, v_n12] <;> kernel_rfl
  refine ⟨trivial, ?_⟩
  intro n16 l_n16 u_n16
  intro n17 l_n17 u_n17
  intro h_rootWide4
  replace h_rootWide4 : ((n14 < 0 → n16 = 0 ∧ n17 = 1) ∧ (0 ≤ n14 → n17 = 0 ∧ isRoot (w128 n14 n15) n16)) := h_rootWide4
  have v_n16 : n16 = 4712668792719003883 := root_val 1203965700457697122 9223372036854775808 4712668792719003883 h_rootWide4 v_n14 v_n15 (by decide) (by decide) (by decide) l_n16 (by decide)
  intro n18 e_n18 l_n18 u_n18
  have v_n18 : n18 = 1178167198179750970 := by
    rw [e_n18, v_n16] <;> kernel_rfl
  intro n19 e_n19 l_n19 u_n19
  have v_n19 : n19 = 13835058055282163712 := by
    rw [e_n19, v_n16] <;> kernel_rfl
  refine ⟨trivial, ?_⟩
  intro n20 l_n20 u_n20
  intro n21 l_n21 u_n21
  intro h_rootWide5
  replace h_rootWide5 : ((n18 < 0 → n20 = 0 ∧ n21 = 1) ∧ (0 ≤ n18 → n21 = 0 ∧ isRoot (w128 n18 n19) n20)) := h_rootWide5
  have v_n20 : n20 = 4661903986662671289 := root_val 1178167198179750970 13835058055282163712 4661903986662671289 h_rootWide5 v_n18 v_n19 (by decide) (by decide) (by decide) l_n20 (by decide)
  intro n22 e_n22 l_n22 u_n22
  have v_n22 : n22 = 1165475996665667822 := by
    rw [e_n22, v_n20] <;> kernel_rfl
  intro n23 e_n23 l_n23 u_n23
  have v_n23 : n23 = 4611686018427387904 := by
    rw [e_n23, v_n20] <;> kernel_rfl
  refine ⟨trivial, ?_⟩
  intro n24 l_n24 u_n24
  intro n25 l_n25 u_n25
  intro h_rootWide6
  replace h_rootWide6 : ((n22 < 0 → n24 = 0 ∧ n25 = 1) ∧ (0 ≤ n22 → n25 = 0 ∧ isRoot (w128 n22 n23) n24)) := h_rootWide6
  have v_n24 : n24 = 4636727017470743989 := root_val 1165475996665667822 4611686018427387904 4636727017470743989 h_rootWide6 v_n22 v_n23 (by decide) (by decide) (by decide) l_n24 (by decide)
  intro n26 e_n26 l_n26 u_n26
  have v_n26 : n26 = 1159181754367685997 := by
    rw [e_n26, v_n24] <;> kernel_rfl
  intro n27 e_n27 l_n27 u_n27
  have v_n27 : n27 = 4611686018427387904 := by
    rw [e_n27, v_n24] <;> kernel_rfl
  refine ⟨trivial, ?_⟩
  intro n28 l_n28 u_n28
  intro n29 l_n29 u_n29
  intro h_rootWide7
  replace h_rootWide7 : ((n26 < 0 → n28 = 0 ∧ n29 = 1) ∧ (0 ≤ n26 → n29 = 0 ∧ isRoot (w128 n26 n27) n28)) := h_rootWide7
  have v_n28 : n28 = 4624189567668517719 := root_val 1159181754367685997 4611686018427387904 4624189567668517719 h_rootWide7 v_n26 v_n27 (by decide) (by decide) (by decide) l_n28 (by decide)
  intro n30 e_n30 l_n30 u_n30
  have v_n30 : n30 = 1156047391917129429 := by
    rw [e_n30, v_n28] <;> kernel_rfl
  intro n31 e_n31 l_n31 u_n31
  have v_n31 : n31 = 13835058055282163712 := by
    rw [e_n31, v_n28] <;> kernel_rfl
  refine ⟨trivial, ?_⟩
  intro n32 l_n32 u_n32
  intro n33 l_n33 u_n33
  intro h_rootWide8
  replace h_rootWide8 : ((n30 < 0 → n32 = 0 ∧ n33 = 1) ∧ (0 ≤ n30 → n33 = 0 ∧ isRoot (w128 n30 n31) n32)) := h_rootWide8
  have v_n32 : n32 = 4617933561212708775 := root_val 1156047391917129429 13835058055282163712 4617933561212708775 h_rootWide8 v_n30 v_n31 (by decide) (by decide) (by decide) l_n32 (by decide)
  intro n34 e_n34 l_n34 u_n34
  have v_n34 : n34 = 1154483390303177193 := by
    rw [e_n34, v_n32] <;> kernel_rfl
  intro n35 e_n35 l_n35 u_n35
  have v_n35 : n35 = 13835058055282163712 := by
    rw [e_n35, v_n32] <;> kernel_rfl
  refine ⟨trivial, ?_⟩
  intro n36 l_n36 u_n36
  intro n37 l_n37 u_n37
  intro h_rootWide9
  replace h_rootWide9 : ((n34 < 0 → n36 = 0 ∧ n37 = 1) ∧ (0 ≤ n34 → n37 = 0 ∧ isRoot (w128 n34 n35) n36)) := h_rootWide9
  have v_n36 : n36 = 4614808732577250067 := root_val 1154483390303177193 13835058055282163712 4614808732577250067 h_rootWide9 v_n34 v_n35 (by decide) (by decide) (by decide) l_n36 (by decide)
  intro n38 e_n38 l_n38 u_n38
  have v_n38 : n38 = 1153702183144312516 := by
    rw [e_n38, v_n36] <;> kernel_rfl
  intro n39 e_n39 l_n39 u_n39
  have v_n39 : n39 = 13835058055282163712 := by
    rw [e_n39, v_n36] <;> kernel_rfl
  refine ⟨trivial, ?_⟩
  intro n40 l_n40 u_n40
  intro n41 l_n41 u_n41
  intro h_rootWide10
  replace h_rootWide10 : ((n38 < 0 → n40 = 0 ∧ n41 = 1) ∧ (0 ≤ n38 → n41 = 0 ∧ isRoot (w128 n38 n39) n40)) := h_rootWide10
  have v_n40 : n40 = 4613247111281068007 := root_val 1153702183144312516 13835058055282163712 4613247111281068007 h_rootWide10 v_n38 v_n39 (by decide) (by decide) (by decide) l_n40 (by decide)
  intro n42 e_n42 l_n42 u_n42
  have v_n42 : n42 = 1153311777820267001 := by
    rw [e_n42, v_n40] <;> kernel_rfl
  intro n43 e_n43 l_n43 u_n43
  have v_n43 : n43 = 13835058055282163712 := by
    rw [e_n43, v_n40] <;> kernel_rfl
  refine ⟨trivial, ?_⟩
  intro n44 l_n44 u_n44
  intro n45 l_n45 u_n45
  intro h_rootWide11
  replace h_rootWide11 : ((n42 < 0 → n44 = 0 ∧ n45 = 1) ∧ (0 ≤ n42 → n45 = 0 ∧ isRoot (w128 n42 n43) n44)) := h_rootWide11
  have v_n44 : n44 = 4612466498810092973 := root_val 1153311777820267001 13835058055282163712 4612466498810092973 h_rootWide11 v_n42 v_n43 (by decide) (by decide) (by decide) l_n44 (by decide)
  intro n46 e_n46 l_n46 u_n46
  have v_n46 : n46 = 1153116624702523243 := by
    rw [e_n46, v_n44] <;> kernel_rfl
  intro n47 e_n47 l_n47 u_n47
  have v_n47 : n47 = 4611686018427387904 := by
    rw [e_n47, v_n44] <;> kernel_rfl
  refine ⟨trivial, ?_⟩
  intro n48 l_n48 u_n48
  intro n49 l_n49 u_n49
  intro h_rootWide12
  replace h_rootWide12 : ((n46 < 0 → n48 = 0 ∧ n49 = 1) ∧ (0 ≤ n46 → n49 = 0 ∧ isRoot (w128 n46 n47) n48)) := h_rootWide12
  have v_n48 : n48 = 4612076242109103706 := root_val 1153116624702523243 4611686018427387904 4612076242109103706 h_rootWide12 v_n46 v_n47 (by decide) (by decide) (by decide) l_n48 (by decide)
  intro n50 e_n50 l_n50 u_n50
  have v_n50 : n50 = 1153019060527275926 := by
    rw [e_n50, v_n48] <;> kernel_rfl
  intro n51 e_n51 l_n51 u_n51
  have v_n51 : n51 = 9223372036854775808 := by
    rw [e_n51, v_n48] <;> kernel_rfl
  refine ⟨trivial, ?_⟩
  intro n52 l_n52 u_n52
  intro n53 l_n53 u_n53
  intro h_rootWide13
  replace h_rootWide13 : ((n50 < 0 → n52 = 0 ∧ n53 = 1) ∧ (0 ≤ n50 → n53 = 0 ∧ isRoot (w128 n50 n51) n52)) := h_rootWide13
  have v_n52 : n52 = 4611881126141011235 := root_val 1153019060527275926 9223372036854775808 4611881126141011235 h_rootWide13 v_n50 v_n51 (by decide) (by decide) (by decide) l_n52 (by decide)
  intro n54 e_n54 l_n54 u_n54
  have v_n54 : n54 = 1152970281535252808 := by
    rw [e_n54, v_n52] <;> kernel_rfl
  intro n55 e_n55 l_n55 u_n55
  have v_n55 : n55 = 13835058055282163712 := by
    rw [e_n55, v_n52] <;> kernel_rfl
  refine ⟨trivial, ?_⟩
  intro n56 l_n56 u_n56
  intro n57 l_n57 u_n57
  intro h_rootWide14
  replace h_rootWide14 : ((n54 < 0 → n56 = 0 ∧ n57 = 1) ∧ (0 ≤ n54 → n57 = 0 ∧ isRoot (w128 n54 n55) n56)) := h_rootWide14
  have v_n56 : n56 = 4611783571252412753 := root_val 1152970281535252808 13835058055282163712 4611783571252412753 h_rootWide14 v_n54 v_n55 (by decide) (by decide) (by decide) l_n56 (by decide)
  intro n58 e_n58 l_n58 u_n58
  have v_n58 : n58 = 1152945892813103188 := by
    rw [e_n58, v_n56] <;> kernel_rfl
  intro n59 e_n59 l_n59 u_n59
  have v_n59 : n59 = 4611686018427387904 := by
    rw [e_n59, v_n56] <;> kernel_rfl
  refine ⟨trivial, ?_⟩
  intro n60 l_n60 u_n60
  intro n61 l_n61 u_n61
  intro h_rootWide15
  replace h_rootWide15 : ((n58 < 0 → n60 = 0 ∧ n61 = 1) ∧ (0 ≤ n58 → n61 = 0 ∧ isRoot (w128 n58 n59) n60)) := h_rootWide15
  have v_n60 : n60 = 4611734794581956352 := root_val 1152945892813103188 4611686018427387904 4611734794581956352 h_rootWide15 v_n58 v_n59 (by decide) (by decide) (by decide) l_n60 (by decide)
  intro n62 e_n62 l_n62 u_n62
  have v_n62 : n62 = 1152933698645489088 := by
    rw [e_n62, v_n60] <;> kernel_rfl
  intro n63 e_n63 l_n63 u_n63
  have v_n63 : n63 = 0 := by
    rw [e_n63, v_n60] <;> kernel_rfl
  refine ⟨trivial, ?_⟩
  intro n64 l_n64 u_n64
  intro n65 l_n65 u_n65
  intro h_rootWide16
  replace h_rootWide16 : ((n62 < 0 → n64 = 0 ∧ n65 = 1) ∧ (0 ≤ n62 → n65 = 0 ∧ isRoot (w128 n62 n63) n64)) := h_rootWide16
  have v_n64 : n64 = 4611710406440186475 := root_val 1152933698645489088 0 4611710406440186475 h_rootWide16 v_n62 v_n63 (by decide) (by decide) (by decide) l_n64 (by decide)
  intro n66 e_n66 l_n66 u_n66
  have v_n66 : n66 = 1152927601610046618 := by
    rw [e_n66, v_n64] <;> kernel_rfl
  intro n67 e_n67 l_n67 u_n67
  have v_n67 : n67 = 13835058055282163712 := by
    rw [e_n67, v_n64] <;> kernel_rfl
  refine ⟨trivial, ?_⟩
  intro n68 l_n68 u_n68
  intro n69 l_n69 u_n69
  intro h_rootWide17
  replace h_rootWide17 : ((n66 < 0 → n68 = 0 ∧ n69 = 1) ∧ (0 ≤ n66 → n69 = 0 ∧ isRoot (w128 n66 n67) n68)) := h_rootWide17
  have v_n68 : n68 = 4611698212417665818 := root_val 1152927601610046618 13835058055282163712 4611698212417665818 h_rootWide17 v_n66 v_n67 (by decide) (by decide) (by decide) l_n68 (by decide)
  intro n70 e_n70 l_n70 u_n70
  have v_n70 : n70 = 1152924553104416454 := by
    rw [e_n70, v_n68] <;> kernel_rfl
  intro n71 e_n71 l_n71 u_n71
  have v_n71 : n71 = 9223372036854775808 := by
    rw [e_n71, v_n68] <;> kernel_rfl
  refine ⟨trivial, ?_⟩
  intro n72 l_n72 u_n72
  intro n73 l_n73 u_n73
  intro h_rootWide18
  replace h_rootWide18 : ((n70 < 0 → n72 = 0 ∧ n73 = 1) ∧ (0 ≤ n70 → n73 = 0 ∧ isRoot (w128 n70 n71) n72)) := h_rootWide18
  have v_n72 : n72 = 4611692115418496523 := root_val 1152924553104416454 9223372036854775808 4611692115418496523 h_rootWide18 v_n70 v_n71 (by decide) (by decide) (by decide) l_n72 (by decide)
  intro n74 e_n74 l_n74 u_n74
  have v_n74 : n74 = 1152923028854624130 := by
    rw [e_n74, v_n72] <;> kernel_rfl
  intro n75 e_n75 l_n75 u_n75
  have v_n75 : n75 = 13835058055282163712 := by
    rw [e_n75, v_n72] <;> kernel_rfl
  refine ⟨trivial, ?_⟩
  intro n76 l_n76 u_n76
  intro n77 l_n77 u_n77
  intro h_rootWide19
  replace h_rootWide19 : ((n74 < 0 → n76 = 0 ∧ n77 = 1) ∧ (0 ≤ n74 → n77 = 0 ∧ isRoot (w128 n74 n75) n76)) := h_rootWide19
  have v_n76 : n76 = 4611689066921934629 := root_val 1152923028854624130 13835058055282163712 4611689066921934629 h_rootWide19 v_n74 v_n75 (by decide) (by decide) (by decide) l_n76 (by decide)
  intro n78 e_n78 l_n78 u_n78
  have v_n78 : n78 = 1152922266730483657 := by
    rw [e_n78, v_n76] <;> kernel_rfl
  intro n79 e_n79 l_n79 u_n79
  have v_n79 : n79 = 4611686018427387904 := by
    rw [e_n79, v_n76] <;> kernel_rfl
  refine ⟨trivial, ?_⟩
  intro n80 l_n80 u_n80
  intro n81 l_n81 u_n81
  intro h_rootWide20
  replace h_rootWide20 : ((n78 < 0 → n80 = 0 ∧ n81 = 1) ∧ (0 ≤ n78 → n81 = 0 ∧ isRoot (w128 n78 n79) n80)) := h_rootWide20
  have v_n80 : n80 = 4611687542674409370 := root_val 1152922266730483657 4611686018427387904 4611687542674409370 h_rootWide20 v_n78 v_n79 (by decide) (by decide) (by decide) l_n80 (by decide)
  intro n82 e_n82 l_n82 u_n82
  have v_n82 : n82 = 1152921885668602342 := by
    rw [e_n82, v_n80] <;> kernel_rfl
  intro n83 e_n83 l_n83 u_n83
  have v_n83 : n83 = 9223372036854775808 := by
    rw [e_n83, v_n80] <;> kernel_rfl
  refine ⟨trivial, ?_⟩
  intro n84 l_n84 u_n84
  intro n85 l_n85 u_n85
  intro h_rootWide21
  replace h_rootWide21 : ((n82 < 0 → n84 = 0 ∧ n85 = 1) ∧ (0 ≤ n82 → n85 = 0 ∧ isRoot (w128 n82 n83) n84)) := h_rootWide21
  have v_n84 : n84 = 4611686780550835663 := root_val 1152921885668602342 9223372036854775808 4611686780550835663 h_rootWide21 v_n82 v_n83 (by decide) (by decide) (by decide) l_n84 (by decide)
  intro n86 e_n86 l_n86 u_n86
  have v_n86 : n86 = 1152921695137708915 := by
    rw [e_n86, v_n84] <;> kernel_rfl
  intro n87 e_n87 l_n87 u_n87
  have v_n87 : n87 = 13835058055282163712 := by
    rw [e_n87, v_n84] <;> kernel_rfl
  refine ⟨trivial, ?_⟩
  intro n88 l_n88 u_n88
  intro n89 l_n89 u_n89
  intro h_rootWide22
  replace h_rootWide22 : ((n86 < 0 → n88 = 0 ∧ n89 = 1) ∧ (0 ≤ n86 → n89 = 0 ∧ isRoot (w128 n86 n87) n88)) := h_rootWide22
  have v_n88 : n88 = 4611686399489096040 := root_val 1152921695137708915 13835058055282163712 4611686399489096040 h_rootWide22 v_n86 v_n87 (by decide) (by decide) (by decide) l_n88 (by decide)
  intro n90 e_n90 l_n90 u_n90
  have v_n90 : n90 = 1152921599872274010 := by
    rw [e_n90, v_n88] <;> kernel_rfl
  intro n91 e_n91 l_n91 u_n91
  have v_n91 : n91 = 0 := by
    rw [e_n91, v_n88] <;> kernel_rfl
  refine ⟨trivial, ?_⟩
  intro n92 l_n92 u_n92
  intro n93 l_n93 u_n93
  intro h_rootWide23
  replace h_rootWide23 : ((n90 < 0 → n92 = 0 ∧ n93 = 1) ∧ (0 ≤ n90 → n93 = 0 ∧ isRoot (w128 n90 n91) n92)) := h_rootWide23
  have v_n92 : n92 = 4611686208958238036 := root_val 1152921599872274010 0 4611686208958238036 h_rootWide23 v_n90 v_n91 (by decide) (by decide) (by decide) l_n92 (by decide)
  intro n94 e_n94 l_n94 u_n94
  have v_n94 : n94 = 1152921552239559509 := by
    rw [e_n94, v_n92] <;> kernel_rfl
  intro n95 e_n95 l_n95 u_n95
  have v_n95 : n95 = 0 := by
    rw [e_n95, v_n92] <;> kernel_rfl
  refine ⟨trivial, ?_⟩
  intro n96 l_n96 u_n96
  intro n97 l_n97 u_n97
  intro h_rootWide24
  replace h_rootWide24 : ((n94 < 0 → n96 = 0 ∧ n97 = 1) ∧ (0 ≤ n94 → n97 = 0 ∧ isRoot (w128 n94 n95) n96)) := h_rootWide24
  have v_n96 : n96 = 4611686113692811986 := root_val 1152921552239559509 0 4611686113692811986 h_rootWide24 v_n94 v_n95 (by decide) (by decide) (by decide) l_n96 (by decide)
  intro n98 e_n98 l_n98 u_n98
  have v_n98 : n98 = 1152921528423202996 := by
    rw [e_n98, v_n96] <;> kernel_rfl
  intro n99 e_n99 l_n99 u_n99
  have v_n99 : n99 = 9223372036854775808 := by
    rw [e_n99, v_n96] <;> kernel_rfl
  refine ⟨trivial, ?_⟩
  intro n100 l_n100 u_n100
  intro n101 l_n101 u_n101
  intro h_rootWide25
  replace h_rootWide25 : ((n98 < 0 → n100 = 0 ∧ n101 = 1) ∧ (0 ≤ n98 → n101 = 0 ∧ isRoot (w128 n98 n99) n100)) := h_rootWide25
  have v_n100 : n100 = 4611686066060099699 := root_val 1152921528423202996 9223372036854775808 4611686066060099699 h_rootWide25 v_n98 v_n99 (by decide) (by decide) (by decide) l_n100 (by decide)
  intro n102 e_n102 l_n102 u_n102
  have v_n102 : n102 = 1152921516515024924 := by
    rw [e_n102, v_n100] <;> kernel_rfl
  intro n103 e_n103 l_n103 u_n103
  have v_n103 : n103 = 13835058055282163712 := by
    rw [e_n103, v_n100] <;> kernel_rfl
  refine ⟨trivial, ?_⟩
  intro n104 l_n104 u_n104
  intro n105 l_n105 u_n105
  intro h_rootWide26
  replace h_rootWide26 : ((n102 < 0 → n104 = 0 ∧ n105 = 1) ∧ (0 ≤ n102 → n105 = 0 ∧ isRoot (w128 n102 n103) n104)) := h_rootWide26
  have v_n104 : n104 = 4611686042243743740 := root_val 1152921516515024924 13835058055282163712 4611686042243743740 h_rootWide26 v_n102 v_n103 (by decide) (by decide) (by decide) l_n104 (by decide)
  intro n106 e_n106 l_n106 u_n106
  have v_n106 : n106 = 1152921510560935935 := by
    rw [e_n106, v_n104] <;> kernel_rfl
  intro n107 e_n107 l_n107 u_n107
  have v_n107 : n107 = 0 := by
    rw [e_n107, v_n104] <;> kernel_rfl
  refine ⟨trivial, ?_⟩
  intro n108 l_n108 u_n108
  intro n109 l_n109 u_n109
  intro h_rootWide27
  replace h_rootWide27 : ((n106 < 0 → n108 = 0 ∧ n109 = 1) ∧ (0 ≤ n106 → n109 = 0 ∧ isRoot (w128 n106 n107) n108)) := h_rootWide27
  have v_n108 : n108 = 4611686030335565806 := root_val 1152921510560935935 0 4611686030335565806 h_rootWide27 v_n106 v_n107 (by decide) (by decide) (by decide) l_n108 (by decide)
  intro n110 e_n110 l_n110 u_n110
  have v_n110 : n110 = 1152921507583891451 := by
    rw [e_n110, v_n108] <;> kernel_rfl
  intro n111 e_n111 l_n111 u_n111
  have v_n111 : n111 = 9223372036854775808 := by
    rw [e_n111, v_n108] <;> kernel_rfl
  refine ⟨trivial, ?_⟩
  intro n112 l_n112 u_n112
  intro n113 l_n113 u_n113
  intro h_rootWide28
  replace h_rootWide28 : ((n110 < 0 → n112 = 0 ∧ n113 = 1) ∧ (0 ≤ n110 → n113 = 0 ∧ isRoot (w128 n110 n111) n112)) := h_rootWide28
  have v_n112 : n112 = 4611686024381476851 := root_val 1152921507583891451 9223372036854775808 4611686024381476851 h_rootWide28 v_n110 v_n111 (by decide) (by decide) (by decide) l_n112 (by decide)
  intro n114 e_n114 l_n114 u_n114
  have v_n114 : n114 = 1152921506095369212 := by
    rw [e_n114, v_n112] <;> kernel_rfl
  intro n115 e_n115 l_n115 u_n115
  have v_n115 : n115 = 13835058055282163712 := by
    rw [e_n115, v_n112] <;> kernel_rfl
  refine ⟨trivial, ?_⟩
  intro n116 l_n116 u_n116
  intro n117 l_n117 u_n117
  intro h_rootWide29
  replace h_rootWide29 : ((n114 < 0 → n116 = 0 ∧ n117 = 1) ∧ (0 ≤ n114 → n117 = 0 ∧ isRoot (w128 n114 n115) n116)) := h_rootWide29
  have v_n116 : n116 = 4611686021404432376 := root_val 1152921506095369212 13835058055282163712 4611686021404432376 h_rootWide29 v_n114 v_n115 (by decide) (by decide) (by decide) l_n116 (by decide)
  intro n118 e_n118 l_n118 u_n118
  have v_n118 : n118 = 1152921505351108094 := by
    rw [e_n118, v_n116] <;> kernel_rfl
  intro n119 e_n119 l_n119 u_n119
  have v_n119 : n119 = 0 := by
    rw [e_n119, v_n116] <;> kernel_rfl
  refine ⟨trivial, ?_⟩
  intro n120 l_n120 u_n120
  intro n121 l_n121 u_n121
  intro h_rootWide30
  replace h_rootWide30 : ((n118 < 0 → n120 = 0 ∧ n121 = 1) ∧ (0 ≤ n118 → n121 = 0 ∧ isRoot (w128 n118 n119) n120)) := h_rootWide30
  have v_n120 : n120 = 4611686019915910139 := root_val 1152921505351108094 0 4611686019915910139 h_rootWide30 v_n118 v_n119 (by decide) (by decide) (by decide) l_n120 (by decide)
  intro n122 e_n122 l_n122 u_n122
  have v_n122 : n122 = 1152921504978977534 := by
    rw [e_n122, v_n120] <;> kernel_rfl
  intro n123 e_n123 l_n123 u_n123
  have v_n123 : n123 = 13835058055282163712 := by
    rw [e_n123, v_n120] <;> kernel_rfl
  refine ⟨trivial, ?_⟩
  intro n124 l_n124 u_n124
  intro n125 l_n125 u_n125
  intro h_rootWide31
  replace h_rootWide31 : ((n122 < 0 → n124 = 0 ∧ n125 = 1) ∧ (0 ≤ n122 → n125 = 0 ∧ isRoot (w128 n122 n123) n124)) := h_rootWide31
  have v_n124 : n124 = 4611686019171649021 := root_val 1152921504978977534 13835058055282163712 4611686019171649021 h_rootWide31 v_n122 v_n123 (by decide) (by decide) (by decide) l_n124 (by decide)
  refine ⟨by rw [v_n] <;> decide, ?_⟩
  refine ⟨by rw [v_n] <;> decide, ?_⟩
  intro n126 e_n126 l_n126 u_n126
  have v_n126 : n126 = 6521908912666391106 := by
    rw [e_n126, v_n] <;> kernel_rfl
  refine ⟨by rw [v_n4] <;> decide, ?_⟩
  refine ⟨by rw [v_n4] <;> decide, ?_⟩
  intro n127 e_n127 l_n127 u_n127
  have v_n127 : n127 = 5484249825272419511 := by
    rw [e_n127, v_n4] <;> kernel_rfl
  refine ⟨by rw [v_n8] <;> decide, ?_⟩
  refine ⟨by rw [v_n8] <;> decide, ?_⟩
  intro n128 e_n128 l_n128 u_n128
  have v_n128 : n128 = 5029079263719320435 := by
    rw [e_n128, v_n8] <;> kernel_rfl
  refine ⟨by rw [v_n12] <;> decide, ?_⟩
  refine ⟨by rw [v_n12] <;> decide, ?_⟩
  intro n129 e_n129 l_n129 u_n129
  have v_n129 : n129 = 4815862801830788490 := by
    rw [e_n129, v_n12] <;> kernel_rfl
  refine ⟨by rw [v_n16] <;> decide, ?_⟩
  refine ⟨by rw [v_n16] <;> decide, ?_⟩
  intro n130 e_n130 l_n130 u_n130
  have v_n130 : n130 = 4712668792719003883 := by
    rw [e_n130, v_n16] <;> kernel_rfl
  refine ⟨by rw [v_n20] <;> decide, ?_⟩
  refine ⟨by rw [v_n20] <;> decide, ?_⟩
  intro n131 e_n131 l_n131 u_n131
  have v_n131 : n131 = 4661903986662671289 := by
    rw [e_n131, v_n20] <;> kernel_rfl
  refine ⟨by rw [v_n24] <;> decide, ?_⟩
  refine ⟨by rw [v_n24] <;> decide, ?_⟩
  intro n132 e_n132 l_n132 u_n132
  have v_n132 : n132 = 4636727017470743989 := by
    rw [e_n132, v_n24] <;> kernel_rfl
  refine ⟨by rw [v_n28] <;> decide, ?_⟩
  refine ⟨by rw [v_n28] <;> decide, ?_⟩
  intro n133 e_n133 l_n133 u_n133
  have v_n133 : n133 = 4624189567668517719 := by
    rw [e_n133, v_n28] <;> kernel_rfl
  refine ⟨by rw [v_n32] <;> decide, ?_⟩
  refine ⟨by rw [v_n32] <;> decide, ?_⟩
  intro n134 e_n134 l_n134 u_n134
  have v_n134 : n134 = 4617933561212708775 := by
    rw [e_n134, v_n32] <;> kernel_rfl
  refine ⟨by rw [v_n36] <;> decide, ?_⟩
  refine ⟨by rw [v_n36] <;> decide, ?_⟩
  intro n135 e_n135 l_n135 u_n135
  have v_n135 : n135 = 4614808732577250067 := by
    rw [e_n135, v_n36] <;> kernel_rfl
  refine ⟨by rw [v_n40] <;> decide, ?_⟩
  refine ⟨by rw [v_n40] <;> decide, ?_⟩
  intro n136 e_n136 l_n136 u_n136
  have v_n136 : n136 = 4613247111281068007 := by
    rw [e_n136, v_n40] <;> kernel_rfl
  refine ⟨by rw [v_n44] <;> decide, ?_⟩
  refine ⟨by rw [v_n44] <;> decide, ?_⟩
  intro n137 e_n137 l_n137 u_n137
  have v_n137 : n137 = 4612466498810092973 := by
    rw [e_n137, v_n44] <;> kernel_rfl
  refine ⟨by rw [v_n48] <;> decide, ?_⟩
  refine ⟨by rw [v_n48] <;> decide, ?_⟩
  intro n138 e_n138 l_n138 u_n138
  have v_n138 : n138 = 4612076242109103706 := by
    rw [e_n138, v_n48] <;> kernel_rfl
  refine ⟨by rw [v_n52] <;> decide, ?_⟩
  refine ⟨by rw [v_n52] <;> decide, ?_⟩
  intro n139 e_n139 l_n139 u_n139
  have v_n139 : n139 = 4611881126141011235 := by
    rw [e_n139, v_n52] <;> kernel_rfl
  refine ⟨by rw [v_n56] <;> decide, ?_⟩
  refine ⟨by rw [v_n56] <;> decide, ?_⟩
  intro n140 e_n140 l_n140 u_n140
  have v_n140 : n140 = 4611783571252412753 := by
    rw [e_n140, v_n56] <;> kernel_rfl
  refine ⟨by rw [v_n60] <;> decide, ?_⟩
  refine ⟨by rw [v_n60] <;> decide, ?_⟩
  intro n141 e_n141 l_n141 u_n141
  have v_n141 : n141 = 4611734794581956352 := by
    rw [e_n141, v_n60] <;> kernel_rfl
  refine ⟨by rw [v_n64] <;> decide, ?_⟩
  refine ⟨by rw [v_n64] <;> decide, ?_⟩
  intro n142 e_n142 l_n142 u_n142
  have v_n142 : n142 = 4611710406440186475 := by
    rw [e_n142, v_n64] <;> kernel_rfl
  refine ⟨by rw [v_n68] <;> decide, ?_⟩
  refine ⟨by rw [v_n68] <;> decide, ?_⟩
  intro n143 e_n143 l_n143 u_n143
  have v_n143 : n143 = 4611698212417665818 := by
    rw [e_n143, v_n68] <;> kernel_rfl
  refine ⟨by rw [v_n72] <;> decide, ?_⟩
  refine ⟨by rw [v_n72] <;> decide, ?_⟩
  intro n144 e_n144 l_n144 u_n144
  have v_n144 : n144 = 4611692115418496523 := by
    rw [e_n144, v_n72] <;> kernel_rfl
  refine ⟨by rw [v_n76] <;> decide, ?_⟩
  refine ⟨by rw [v_n76] <;> decide, ?_⟩
  intro n145 e_n145 l_n145 u_n145
  have v_n145 : n145 = 4611689066921934629 := by
    rw [e_n145, v_n76] <;> kernel_rfl
  refine ⟨by rw [v_n80] <;> decide, ?_⟩
  refine ⟨by rw [v_n80] <;> decide, ?_⟩
  intro n146 e_n146 l_n146 u_n146
  have v_n146 : n146 = 4611687542674409370 := by
    rw [e_n146, v_n80] <;> kernel_rfl
  refine ⟨by rw [v_n84] <;> decide, ?_⟩
  refine ⟨by rw [v_n84] <;> decide, ?_⟩
  intro n147 e_n147 l_n147 u_n147
  have v_n147 : n147 = 4611686780550835663 := by
    rw [e_n147, v_n84] <;> kernel_rfl
  refine ⟨by rw [v_n88] <;> decide, ?_⟩
  refine ⟨by rw [v_n88] <;> decide, ?_⟩
  intro n148 e_n148 l_n148 u_n148
  have v_n148 : n148 = 4611686399489096040 := by
    rw [e_n148, v_n88] <;> kernel_rfl
  refine ⟨by rw [v_n92] <;> decide, ?_⟩
  refine ⟨by rw [v_n92] <;> decide, ?_⟩
  intro n149 e_n149 l_n149 u_n149
  have v_n149 : n149 = 4611686208958238036 := by
    rw [e_n149, v_n92] <;> kernel_rfl
  refine ⟨by rw [v_n96] <;> decide, ?_⟩
  refine ⟨by rw [v_n96] <;> decide, ?_⟩
  intro n150 e_n150 l_n150 u_n150
  have v_n150 : n150 = 4611686113692811986 := by
    rw [e_n150, v_n96] <;> kernel_rfl
  refine ⟨by rw [v_n100] <;> decide, ?_⟩
  refine ⟨by rw [v_n100] <;> decide, ?_⟩
  intro n151 e_n151 l_n151 u_n151
  have v_n151 : n151 = 4611686066060099699 := by
    rw [e_n151, v_n100] <;> kernel_rfl
  refine ⟨by rw [v_n104] <;> decide, ?_⟩
  refine ⟨by rw [v_n104] <;> decide, ?_⟩
  intro n152 e_n152 l_n152 u_n152
  have v_n152 : n152 = 4611686042243743740 := by
    rw [e_n152, v_n104] <;> kernel_rfl
  refine ⟨by rw [v_n108] <;> decide, ?_⟩
  refine ⟨by rw [v_n108] <;> decide, ?_⟩
  intro n153 e_n153 l_n153 u_n153
  have v_n153 : n153 = 4611686030335565806 := by
    rw [e_n153, v_n108] <;> kernel_rfl
  refine ⟨by rw [v_n112] <;> decide, ?_⟩
  refine ⟨by rw [v_n112] <;> decide, ?_⟩
  intro n154 e_n154 l_n154 u_n154
  have v_n154 : n154 = 4611686024381476851 := by
    rw [e_n154, v_n112] <;> kernel_rfl
  refine ⟨by rw [v_n116] <;> decide, ?_⟩
  refine ⟨by rw [v_n116] <;> decide, ?_⟩
  intro n155 e_n155 l_n155 u_n155
  have v_n155 : n155 = 4611686021404432376 := by
    rw [e_n155, v_n116] <;> kernel_rfl
  refine ⟨by rw [v_n120] <;> decide, ?_⟩
  refine ⟨by rw [v_n120] <;> decide, ?_⟩
  intro n156 e_n156 l_n156 u_n156
  have v_n156 : n156 = 4611686019915910139 := by
    rw [e_n156, v_n120] <;> kernel_rfl
  refine ⟨by rw [v_n124] <;> decide, ?_⟩
  refine ⟨by rw [v_n124] <;> decide, ?_⟩
  intro n157 e_n157 l_n157 u_n157
  have v_n157 : n157 = 4611686019171649021 := by
    rw [e_n157, v_n124] <;> kernel_rfl
  show True
  trivial

end Go.Proofs.YtogcbmadcgjljaaDoor.Sx
