/-
  Plain laws of angles: the table.
-/
import Derived.Test.YtihfbliipjobdaaRq
import Derived.Test.YtihfbliipjobdaaWz
set_option linter.all false
set_option maxRecDepth 100000
namespace Go.Proofs.Ytihfbliipjobdaa.Sx
open Go Go.RowKit

theorem split64 {h l v : Int} (H L : Int) (e : h * 18446744073709551616 + l = v) (l0 : 0 ≤ l) (l1 : l ≤ 18446744073709551615) (hv : v = H * 18446744073709551616 + L) (hL : 0 ≤ L) (hL' : L ≤ 18446744073709551615) : h = H ∧ l = L := by omega
theorem root_val {h l x e : Int} (H L C : Int) (hp : (h < 0 → x = 0 ∧ e = 1) ∧ (0 ≤ h → e = 0 ∧ isRoot (w128 h l) x)) (eh : h = H) (el : l = L) (hH : 0 ≤ H) (h1 : C * C ≤ H * 18446744073709551616 + L) (h2 : H * 18446744073709551616 + L < (C + 1) * (C + 1)) (x0 : 0 ≤ x) (c0 : 0 ≤ C) : x = C := by
  subst eh el
  exact root_uniq (hp.2 hH).2 ⟨h1, h2⟩ x0 c0
theorem floor_val {a d h l r e : Int} (A D Q R : Int) (hp : (d < 1 → h = 0 ∧ l = 0 ∧ r = 0 ∧ e = 1) ∧ (1 ≤ d → e = 0 ∧ isFloor a d (w128 h l) r)) (ea : a = A) (ed : d = D) (hD : 1 ≤ D) (h1 : A = Q * D + R) (h2 : 0 ≤ R) (h3 : R < D) : w128 h l = Q := by
  subst ea ed
  exact (floor_uniq (hp.2 hD).2 ⟨h1, h2, h3⟩).1
theorem int_val {v n t : Int} (V : Int) (h : isInt v n t) (e : v = V) (h1 : -9223372036854775808 ≤ V) (h2 : V ≤ 9223372036854775807) : n = V := by
  subst e; exact (h.1 ⟨h1, h2⟩).2

set_option maxHeartbeats 4000000 in
theorem p_made : P_made := by
  unfold P_made
  intro hpre
  replace hpre : True := hpre
  intro b
  refine ⟨trivial, ?_⟩
  intro n l_n u_n
  intro n1 l_n1 u_n1
  intro h_mul64
  replace h_mul64 : n * 18446744073709551616 + n1 = (4611686018427387904 : Int) * (2305843009213693952 : Int) := h_mul64
  obtain ⟨v_n, v_n1⟩ := split64 576460752303423488 0 h_mul64 l_n1 u_n1 (by decide) (by decide) (by decide)
  intro n2 e_n2 l_n2 u_n2
  have v_n2 : n2 = 576460752303423488 := by
    rw [e_n2, v_n] <;> kernel_rfl
  refine ⟨trivial, ?_⟩
  intro n3 l_n3 u_n3
  intro n4 l_n4 u_n4
  intro h_rootWide
  replace h_rootWide : ((n2 < 0 → n3 = 0 ∧ n4 = 1) ∧ (0 ≤ n2 → n4 = 0 ∧ isRoot (w128 n2 n1) n3)) := h_rootWide
  have v_n3 : n3 = 3260954456333195553 := root_val 576460752303423488 0 3260954456333195553 h_rootWide v_n2 v_n1 (by decide) (by decide) (by decide) l_n3 (by decide)
  refine ⟨trivial, ?_⟩
  intro n5 l_n5 u_n5
  intro n6 l_n6 u_n6
  intro h_wmul
  replace h_wmul : w128 n5 n6 = (4611686018427387904 : Int) * (2305843009213693952 : Int) := h_wmul
  obtain ⟨v_n5, v_n6⟩ := split64 576460752303423488 0 h_wmul l_n6 u_n6 (by decide) (by decide) (by decide)
  intro n7 e_n7 l_n7 u_n7
  have v_n7 : n7 = 3260954456333195553 := by
    rw [e_n7, v_n3] <;> kernel_rfl
  refine ⟨trivial, ?_⟩
  intro n8 l_n8 u_n8
  intro n9 l_n9 u_n9
  intro n10 l_n10 u_n10
  intro n11 l_n11 u_n11
  intro h_wfloor
  replace h_wfloor : ((n7 < 1 → n8 = 0 ∧ n9 = 0 ∧ n10 = 0 ∧ n11 = 1) ∧ (1 ≤ n7 → n11 = 0 ∧ isFloor (w128 n5 n6) n7 (w128 n8 n9) n10)) := h_wfloor
  have k_n9 : w128 n8 n9 = 3260954456333195553 := floor_val 10633823966279326983230456482242756608 3260954456333195553 3260954456333195553 569968869703780799 h_wfloor (show w128 n5 n6 = 10633823966279326983230456482242756608 by rw [v_n5, v_n6]; decide) v_n7 (by decide) (by decide) (by decide) (by decide)
  intro b1
  intro n12 e_n12 l_n12 u_n12
  have v_n12 : n12 = 3260954456333195553 := by
    rw [e_n12, v_n3] <;> kernel_rfl
  refine ⟨trivial, ?_⟩
  intro n13 l_n13 u_n13
  intro t
  intro h_wint
  replace h_wint : isInt (w128 n8 n9) n13 (b2i t) := h_wint
  have v_n13 : n13 = 3260954456333195553 := int_val 3260954456333195553 h_wint k_n9 (by decide) (by decide)
  intro n14 e_n14 l_n14 u_n14
  have v_n14 : n14 = 7872640474760583457 := by
    rw [e_n14, v_n12] <;> kernel_rfl
  refine ⟨trivial, ?_⟩
  intro n15 l_n15 u_n15
  intro n16 l_n16 u_n16
  intro h_mul641
  replace h_mul641 : n15 * 18446744073709551616 + n16 = n14 * (2305843009213693952 : Int) := h_mul641
  obtain ⟨v_n15, v_n16⟩ := split64 984080059345072932 2305843009213693952 h_mul641 l_n16 u_n16 (by rw [v_n14]; decide) (by decide) (by decide)
  intro n17 e_n17 l_n17 u_n17
  have v_n17 : n17 = 984080059345072932 := by
    rw [e_n17, v_n15] <;> kernel_rfl
  refine ⟨trivial, ?_⟩
  intro n18 l_n18 u_n18
  intro n19 l_n19 u_n19
  intro h_rootWide1
  replace h_rootWide1 : ((n17 < 0 → n18 = 0 ∧ n19 = 1) ∧ (0 ≤ n17 → n19 = 0 ∧ isRoot (w128 n17 n16) n18)) := h_rootWide1
  have v_n18 : n18 = 4260642322793532497 := root_val 984080059345072932 2305843009213693952 4260642322793532497 h_rootWide1 v_n17 v_n16 (by decide) (by decide) (by decide) l_n18 (by decide)
  refine ⟨trivial, ?_⟩
  intro n20 l_n20 u_n20
  intro n21 l_n21 u_n21
  intro h_wmul1
  replace h_wmul1 : w128 n20 n21 = n13 * (2305843009213693952 : Int) := h_wmul1
  obtain ⟨v_n20, v_n21⟩ := split64 407619307041649444 2305843009213693952 h_wmul1 l_n21 u_n21 (by rw [v_n13]; decide) (by decide) (by decide)
  intro n22 e_n22 l_n22 u_n22
  have v_n22 : n22 = 4260642322793532497 := by
    rw [e_n22, v_n18] <;> kernel_rfl
  refine ⟨trivial, ?_⟩
  intro n23 l_n23 u_n23
  intro n24 l_n24 u_n24
  intro n25 l_n25 u_n25
  intro n26 l_n26 u_n26
  intro h_wfloor1
  replace h_wfloor1 : ((n22 < 1 → n23 = 0 ∧ n24 = 0 ∧ n25 = 0 ∧ n26 = 1) ∧ (1 ≤ n22 → n26 = 0 ∧ isFloor (w128 n20 n21) n22 (w128 n23 n24) n25)) := h_wfloor1
  have k_n24 : w128 n23 n24 = 1764815834521887441 := floor_val 7519249036500140985580790963509395456 4260642322793532497 1764815834521887441 3222620819299725279 h_wfloor1 (show w128 n20 n21 = 7519249036500140985580790963509395456 by rw [v_n20, v_n21]; decide) v_n22 (by decide) (by decide) (by decide) (by decide)
  intro b2
  intro n27 e_n27 l_n27 u_n27
  have v_n27 : n27 = 4260642322793532497 := by
    rw [e_n27, v_n18] <;> kernel_rfl
  refine ⟨trivial, ?_⟩
  intro n28 l_n28 u_n28
  intro t1
  intro h_wint1
  replace h_wint1 : isInt (w128 n23 n24) n28 (b2i t1) := h_wint1
  have v_n28 : n28 = 1764815834521887441 := int_val 1764815834521887441 h_wint1 k_n24 (by decide) (by decide)
  intro n29 e_n29 l_n29 u_n29
  have v_n29 : n29 = 8872328341220920401 := by
    rw [e_n29, v_n27] <;> kernel_rfl
  refine ⟨trivial, ?_⟩
  intro n30 l_n30 u_n30
  intro n31 l_n31 u_n31
  intro h_mul642
  replace h_mul642 : n30 * 18446744073709551616 + n31 = n29 * (2305843009213693952 : Int) := h_mul642
  obtain ⟨v_n30, v_n31⟩ := split64 1109041042652615050 2305843009213693952 h_mul642 l_n31 u_n31 (by rw [v_n29]; decide) (by decide) (by decide)
  intro n32 e_n32 l_n32 u_n32
  have v_n32 : n32 = 1109041042652615050 := by
    rw [e_n32, v_n30] <;> kernel_rfl
  refine ⟨trivial, ?_⟩
  intro n33 l_n33 u_n33
  intro n34 l_n34 u_n34
  intro h_rootWide2
  replace h_rootWide2 : ((n32 < 0 → n33 = 0 ∧ n34 = 1) ∧ (0 ≤ n32 → n34 = 0 ∧ isRoot (w128 n32 n31) n33)) := h_rootWide2
  have v_n33 : n33 = 4523073764714963029 := root_val 1109041042652615050 2305843009213693952 4523073764714963029 h_rootWide2 v_n32 v_n31 (by decide) (by decide) (by decide) l_n33 (by decide)
  refine ⟨trivial, ?_⟩
  intro n35 l_n35 u_n35
  intro n36 l_n36 u_n36
  intro h_wmul2
  replace h_wmul2 : w128 n35 n36 = n28 * (2305843009213693952 : Int) := h_wmul2
  obtain ⟨v_n35, v_n36⟩ := split64 220601979315235930 2305843009213693952 h_wmul2 l_n36 u_n36 (by rw [v_n28]; decide) (by decide) (by decide)
  intro n37 e_n37 l_n37 u_n37
  have v_n37 : n37 = 4523073764714963029 := by
    rw [e_n37, v_n33] <;> kernel_rfl
  refine ⟨trivial, ?_⟩
  intro n38 l_n38 u_n38
  intro n39 l_n39 u_n39
  intro n40 l_n40 u_n40
  intro n41 l_n41 u_n41
  intro h_wfloor2
  replace h_wfloor2 : ((n37 < 1 → n38 = 0 ∧ n39 = 0 ∧ n40 = 0 ∧ n41 = 1) ∧ (1 ≤ n37 → n41 = 0 ∧ isFloor (w128 n35 n36) n37 (w128 n38 n39) n40)) := h_wfloor2
  have k_n39 : w128 n38 n39 = 899695310372275546 := floor_val 4069388254581925483545910126766456832 4523073764714963029 899695310372275546 4173677740775667998 h_wfloor2 (show w128 n35 n36 = 4069388254581925483545910126766456832 by rw [v_n35, v_n36]; decide) v_n37 (by decide) (by decide) (by decide) (by decide)
  intro b3
  intro n42 e_n42 l_n42 u_n42
  have v_n42 : n42 = 4523073764714963029 := by
    rw [e_n42, v_n33] <;> kernel_rfl
  refine ⟨trivial, ?_⟩
  intro n43 l_n43 u_n43
  intro t2
  intro h_wint2
  replace h_wint2 : isInt (w128 n38 n39) n43 (b2i t2) := h_wint2
  have v_n43 : n43 = 899695310372275546 := int_val 899695310372275546 h_wint2 k_n39 (by decide) (by decide)
  intro n44 e_n44 l_n44 u_n44
  have v_n44 : n44 = 9134759783142350933 := by
    rw [e_n44, v_n42] <;> kernel_rfl
  refine ⟨trivial, ?_⟩
  intro n45 l_n45 u_n45
  intro n46 l_n46 u_n46
  intro h_mul643
  replace h_mul643 : n45 * 18446744073709551616 + n46 = n44 * (2305843009213693952 : Int) := h_mul643
  obtain ⟨v_n45, v_n46⟩ := split64 1141844972892793866 11529215046068469760 h_mul643 l_n46 u_n46 (by rw [v_n44]; decide) (by decide) (by decide)
  intro n47 e_n47 l_n47 u_n47
  have v_n47 : n47 = 1141844972892793866 := by
    rw [e_n47, v_n45] <;> kernel_rfl
  refine ⟨trivial, ?_⟩
  intro n48 l_n48 u_n48
  intro n49 l_n49 u_n49
  intro h_rootWide3
  replace h_rootWide3 : ((n47 < 0 → n48 = 0 ∧ n49 = 1) ∧ (0 ≤ n47 → n49 = 0 ∧ isRoot (w128 n47 n46) n48)) := h_rootWide3
  have v_n48 : n48 = 4589479489746651963 := root_val 1141844972892793866 11529215046068469760 4589479489746651963 h_rootWide3 v_n47 v_n46 (by decide) (by decide) (by decide) l_n48 (by decide)
  refine ⟨trivial, ?_⟩
  intro n50 l_n50 u_n50
  intro n51 l_n51 u_n51
  intro h_wmul3
  replace h_wmul3 : w128 n50 n51 = n43 * (2305843009213693952 : Int) := h_wmul3
  obtain ⟨v_n50, v_n51⟩ := split64 112461913796534443 4611686018427387904 h_wmul3 l_n51 u_n51 (by rw [v_n43]; decide) (by decide) (by decide)
  intro n52 e_n52 l_n52 u_n52
  have v_n52 : n52 = 4589479489746651963 := by
    rw [e_n52, v_n48] <;> kernel_rfl
  refine ⟨trivial, ?_⟩
  intro n53 l_n53 u_n53
  intro n54 l_n54 u_n54
  intro n55 l_n55 u_n55
  intro n56 l_n56 u_n56
  intro h_wfloor3
  replace h_wfloor3 : ((n52 < 1 → n53 = 0 ∧ n54 = 0 ∧ n55 = 0 ∧ n56 = 1) ∧ (1 ≤ n52 → n56 = 0 ∧ isFloor (w128 n50 n51) n52 (w128 n53 n54) n55)) := h_wfloor3
  have k_n54 : w128 n53 n54 = 452024275624069879 := floor_val 2074556141844256201635076066657697792 4589479489746651963 452024275624069879 4543499410453175315 h_wfloor3 (show w128 n50 n51 = 2074556141844256201635076066657697792 by rw [v_n50, v_n51]; decide) v_n52 (by decide) (by decide) (by decide) (by decide)
  intro b4
  intro n57 e_n57 l_n57 u_n57
  have v_n57 : n57 = 4589479489746651963 := by
    rw [e_n57, v_n48] <;> kernel_rfl
  refine ⟨trivial, ?_⟩
  intro n58 l_n58 u_n58
  intro t3
  intro h_wint3
  replace h_wint3 : isInt (w128 n53 n54) n58 (b2i t3) := h_wint3
  have v_n58 : n58 = 452024275624069879 := int_val 452024275624069879 h_wint3 k_n54 (by decide) (by decide)
  intro n59 e_n59 l_n59 u_n59
  have v_n59 : n59 = 9201165508174039867 := by
    rw [e_n59, v_n57] <;> kernel_rfl
  refine ⟨trivial, ?_⟩
  intro n60 l_n60 u_n60
  intro n61 l_n61 u_n61
  intro h_mul644
  replace h_mul644 : n60 * 18446744073709551616 + n61 = n59 * (2305843009213693952 : Int) := h_mul644
  obtain ⟨v_n60, v_n61⟩ := split64 1150145688521754983 6917529027641081856 h_mul644 l_n61 u_n61 (by rw [v_n59]; decide) (by decide) (by decide)
  intro n62 e_n62 l_n62 u_n62
  have v_n62 : n62 = 1150145688521754983 := by
    rw [e_n62, v_n60] <;> kernel_rfl
  refine ⟨trivial, ?_⟩
  intro n63 l_n63 u_n63
  intro n64 l_n64 u_n64
  intro h_rootWide4
  replace h_rootWide4 : ((n62 < 0 → n63 = 0 ∧ n64 = 1) ∧ (0 ≤ n62 → n64 = 0 ∧ isRoot (w128 n62 n61) n63)) := h_rootWide4
  have v_n63 : n63 = 4606131040650197959 := root_val 1150145688521754983 6917529027641081856 4606131040650197959 h_rootWide4 v_n62 v_n61 (by decide) (by decide) (by decide) l_n63 (by decide)
  refine ⟨trivial, ?_⟩
  intro n65 l_n65 u_n65
  intro n66 l_n66 u_n66
  intro h_wmul4
  replace h_wmul4 : w128 n65 n66 = n58 * (2305843009213693952 : Int) := h_wmul4
  obtain ⟨v_n65, v_n66⟩ := split64 56503034453008734 16140901064495857664 h_wmul4 l_n66 u_n66 (by rw [v_n58]; decide) (by decide) (by decide)
  intro n67 e_n67 l_n67 u_n67
  have v_n67 : n67 = 4606131040650197959 := by
    rw [e_n67, v_n63] <;> kernel_rfl
  refine ⟨trivial, ?_⟩
  intro n68 l_n68 u_n68
  intro n69 l_n69 u_n69
  intro n70 l_n70 u_n70
  intro n71 l_n71 u_n71
  intro h_wfloor4
  replace h_wfloor4 : ((n67 < 1 → n68 = 0 ∧ n69 = 0 ∧ n70 = 0 ∧ n71 = 1) ∧ (1 ≤ n67 → n71 = 0 ∧ isFloor (w128 n65 n66) n67 (w128 n68 n69) n70)) := h_wfloor4
  have k_n69 : w128 n68 n69 = 226284707652502140 := floor_val 1042297015942645496477670669767671808 4606131040650197959 226284707652502140 688676497096539548 h_wfloor4 (show w128 n65 n66 = 1042297015942645496477670669767671808 by rw [v_n65, v_n66]; decide) v_n67 (by decide) (by decide) (by decide) (by decide)
  intro b5
  intro n72 e_n72 l_n72 u_n72
  have v_n72 : n72 = 4606131040650197959 := by
    rw [e_n72, v_n63] <;> kernel_rfl
  refine ⟨trivial, ?_⟩
  intro n73 l_n73 u_n73
  intro t4
  intro h_wint4
  replace h_wint4 : isInt (w128 n68 n69) n73 (b2i t4) := h_wint4
  have v_n73 : n73 = 226284707652502140 := int_val 226284707652502140 h_wint4 k_n69 (by decide) (by decide)
  intro n74 e_n74 l_n74 u_n74
  have v_n74 : n74 = 9217817059077585863 := by
    rw [e_n74, v_n72] <;> kernel_rfl
  refine ⟨trivial, ?_⟩
  intro n75 l_n75 u_n75
  intro n76 l_n76 u_n76
  intro h_mul645
  replace h_mul645 : n75 * 18446744073709551616 + n76 = n74 * (2305843009213693952 : Int) := h_mul645
  obtain ⟨v_n75, v_n76⟩ := split64 1152227132384698232 16140901064495857664 h_mul645 l_n76 u_n76 (by rw [v_n74]; decide) (by decide) (by decide)
  intro n77 e_n77 l_n77 u_n77
  have v_n77 : n77 = 1152227132384698232 := by
    rw [e_n77, v_n75] <;> kernel_rfl
  refine ⟨trivial, ?_⟩
  intro n78 l_n78 u_n78
  intro n79 l_n79 u_n79
  intro h_rootWide5
  replace h_rootWide5 : ((n77 < 0 → n78 = 0 ∧ n79 = 1) ∧ (0 ≤ n77 → n79 = 0 ∧ isRoot (w128 n77 n76) n78)) := h_rootWide5
  have v_n78 : n78 = 4610297064819661174 := root_val 1152227132384698232 16140901064495857664 4610297064819661174 h_rootWide5 v_n77 v_n76 (by decide) (by decide) (by decide) l_n78 (by decide)
  refine ⟨trivial, ?_⟩
  intro n80 l_n80 u_n80
  intro n81 l_n81 u_n81
  intro h_wmul5
  replace h_wmul5 : w128 n80 n81 = n73 * (2305843009213693952 : Int) := h_wmul5
  obtain ⟨v_n80, v_n81⟩ := split64 28285588456562767 9223372036854775808 h_wmul5 l_n81 u_n81 (by rw [v_n73]; decide) (by decide) (by decide)
  intro n82 e_n82 l_n82 u_n82
  have v_n82 : n82 = 4610297064819661174 := by
    rw [e_n82, v_n78] <;> kernel_rfl
  refine ⟨trivial, ?_⟩
  intro n83 l_n83 u_n83
  intro n84 l_n84 u_n84
  intro n85 l_n85 u_n85
  intro n86 l_n86 u_n86
  intro h_wfloor5
  replace h_wfloor5 : ((n82 < 1 → n83 = 0 ∧ n84 = 0 ∧ n85 = 0 ∧ n86 = 1) ∧ (1 ≤ n82 → n86 = 0 ∧ isFloor (w128 n80 n81) n82 (w128 n83 n84) n85)) := h_wfloor5
  have k_n84 : w128 n83 n84 = 113176440454146015 := floor_val 521777011232486534331967084985057280 4610297064819661174 113176440454146015 698380709162735670 h_wfloor5 (show w128 n80 n81 = 521777011232486534331967084985057280 by rw [v_n80, v_n81]; decide) v_n82 (by decide) (by decide) (by decide) (by decide)
  intro b6
  intro n87 e_n87 l_n87 u_n87
  have v_n87 : n87 = 4610297064819661174 := by
    rw [e_n87, v_n78] <;> kernel_rfl
  refine ⟨trivial, ?_⟩
  intro n88 l_n88 u_n88
  intro t5
  intro h_wint5
  replace h_wint5 : isInt (w128 n83 n84) n88 (b2i t5) := h_wint5
  have v_n88 : n88 = 113176440454146015 := int_val 113176440454146015 h_wint5 k_n84 (by decide) (by decide)
  intro n89 e_n89 l_n89 u_n89
  have v_n89 : n89 = 9221983083247049078 := by
    rw [e_n89, v_n87] <;> kernel_rfl
  refine ⟨trivial, ?_⟩
  intro n90 l_n90 u_n90
  intro n91 l_n91 u_n91
  intro h_mul646
  replace h_mul646 : n90 * 18446744073709551616 + n91 = n89 * (2305843009213693952 : Int) := h_mul646
  obtain ⟨v_n90, v_n91⟩ := split64 1152747885405881134 13835058055282163712 h_mul646 l_n91 u_n91 (by rw [v_n89]; decide) (by decide) (by decide)
  intro n92 e_n92 l_n92 u_n92
  have v_n92 : n92 = 1152747885405881134 := by
    rw [e_n92, v_n90] <;> kernel_rfl
  refine ⟨trivial, ?_⟩
  intro n93 l_n93 u_n93
  intro n94 l_n94 u_n94
  intro h_rootWide6
  replace h_rootWide6 : ((n92 < 0 → n93 = 0 ∧ n94 = 1) ∧ (0 ≤ n92 → n94 = 0 ∧ isRoot (w128 n92 n91) n93)) := h_rootWide6
  have v_n93 : n93 = 4611338766951757486 := root_val 1152747885405881134 13835058055282163712 4611338766951757486 h_rootWide6 v_n92 v_n91 (by decide) (by decide) (by decide) l_n93 (by decide)
  refine ⟨trivial, ?_⟩
  intro n95 l_n95 u_n95
  intro n96 l_n96 u_n96
  intro h_wmul6
  replace h_wmul6 : w128 n95 n96 = n88 * (2305843009213693952 : Int) := h_wmul6
  obtain ⟨v_n95, v_n96⟩ := split64 14147055056768251 16140901064495857664 h_wmul6 l_n96 u_n96 (by rw [v_n88]; decide) (by decide) (by decide)
  intro n97 e_n97 l_n97 u_n97
  have v_n97 : n97 = 4611338766951757486 := by
    rw [e_n97, v_n93] <;> kernel_rfl
  refine ⟨trivial, ?_⟩
  intro n98 l_n98 u_n98
  intro n99 l_n99 u_n99
  intro n100 l_n100 u_n100
  intro n101 l_n101 u_n101
  intro h_wfloor6
  replace h_wfloor6 : ((n97 < 1 → n98 = 0 ∧ n99 = 0 ∧ n100 = 0 ∧ n101 = 1) ∧ (1 ≤ n97 → n101 = 0 ∧ isFloor (w128 n95 n96) n97 (w128 n98 n99) n100)) := h_wfloor6
  have k_n99 : w128 n98 n99 = 56592481536850978 := floor_val 260967104028882494586898271730401280 4611338766951757486 56592481536850978 4216470420552479972 h_wfloor6 (show w128 n95 n96 = 260967104028882494586898271730401280 by rw [v_n95, v_n96]; decide) v_n97 (by decide) (by decide) (by decide) (by decide)
  intro b7
  intro n102 e_n102 l_n102 u_n102
  have v_n102 : n102 = 4611338766951757486 := by
    rw [e_n102, v_n93] <;> kernel_rfl
  refine ⟨trivial, ?_⟩
  intro n103 l_n103 u_n103
  intro t6
  intro h_wint6
  replace h_wint6 : isInt (w128 n98 n99) n103 (b2i t6) := h_wint6
  have v_n103 : n103 = 56592481536850978 := int_val 56592481536850978 h_wint6 k_n99 (by decide) (by decide)
  intro n104 e_n104 l_n104 u_n104
  have v_n104 : n104 = 9223024785379145390 := by
    rw [e_n104, v_n102] <;> kernel_rfl
  refine ⟨trivial, ?_⟩
  intro n105 l_n105 u_n105
  intro n106 l_n106 u_n106
  intro h_mul647
  replace h_mul647 : n105 * 18446744073709551616 + n106 = n104 * (2305843009213693952 : Int) := h_mul647
  obtain ⟨v_n105, v_n106⟩ := split64 1152878098172393173 13835058055282163712 h_mul647 l_n106 u_n106 (by rw [v_n104]; decide) (by decide) (by decide)
  intro n107 e_n107 l_n107 u_n107
  have v_n107 : n107 = 1152878098172393173 := by
    rw [e_n107, v_n105] <;> kernel_rfl
  refine ⟨trivial, ?_⟩
  intro n108 l_n108 u_n108
  intro n109 l_n109 u_n109
  intro h_rootWide7
  replace h_rootWide7 : ((n107 < 0 → n108 = 0 ∧ n109 = 1) ∧ (0 ≤ n107 → n109 = 0 ∧ isRoot (w128 n107 n106) n108)) := h_rootWide7
  have v_n108 : n108 = 4611599204741358746 := root_val 1152878098172393173 13835058055282163712 4611599204741358746 h_rootWide7 v_n107 v_n106 (by decide) (by decide) (by decide) l_n108 (by decide)
  refine ⟨trivial, ?_⟩
  intro n110 l_n110 u_n110
  intro n111 l_n111 u_n111
  intro h_wmul7
  replace h_wmul7 : w128 n110 n111 = n103 * (2305843009213693952 : Int) := h_wmul7
  obtain ⟨v_n110, v_n111⟩ := split64 7074060192106372 4611686018427387904 h_wmul7 l_n111 u_n111 (by rw [v_n103]; decide) (by decide) (by decide)
  intro n112 e_n112 l_n112 u_n112
  have v_n112 : n112 = 4611599204741358746 := by
    rw [e_n112, v_n108] <;> kernel_rfl
  refine ⟨trivial, ?_⟩
  intro n113 l_n113 u_n113
  intro n114 l_n114 u_n114
  intro n115 l_n115 u_n115
  intro n116 l_n116 u_n116
  intro h_wfloor7
  replace h_wfloor7 : ((n112 < 1 → n113 = 0 ∧ n114 = 0 ∧ n115 = 0 ∧ n116 = 1) ∧ (1 ≤ n112 → n116 = 0 ∧ isFloor (w128 n110 n111) n112 (w128 n113 n114) n115)) := h_wfloor7
  have k_n114 : w128 n113 n114 = 28296773447188931 := floor_val 130493377925802874529209521123885056 4611599204741358746 28296773447188931 3813344514012644530 h_wfloor7 (show w128 n110 n111 = 130493377925802874529209521123885056 by rw [v_n110, v_n111]; decide) v_n112 (by decide) (by decide) (by decide) (by decide)
  intro b8
  intro n117 e_n117 l_n117 u_n117
  have v_n117 : n117 = 4611599204741358746 := by
    rw [e_n117, v_n108] <;> kernel_rfl
  refine ⟨trivial, ?_⟩
  intro n118 l_n118 u_n118
  intro t7
  intro h_wint7
  replace h_wint7 : isInt (w128 n113 n114) n118 (b2i t7) := h_wint7
  have v_n118 : n118 = 28296773447188931 := int_val 28296773447188931 h_wint7 k_n114 (by decide) (by decide)
  intro n119 e_n119 l_n119 u_n119
  have v_n119 : n119 = 9223285223168746650 := by
    rw [e_n119, v_n117] <;> kernel_rfl
  refine ⟨trivial, ?_⟩
  intro n120 l_n120 u_n120
  intro n121 l_n121 u_n121
  intro h_mul648
  replace h_mul648 : n120 * 18446744073709551616 + n121 = n119 * (2305843009213693952 : Int) := h_mul648
  obtain ⟨v_n120, v_n121⟩ := split64 1152910652896093331 4611686018427387904 h_mul648 l_n121 u_n121 (by rw [v_n119]; decide) (by decide) (by decide)
  intro n122 e_n122 l_n122 u_n122
  have v_n122 : n122 = 1152910652896093331 := by
    rw [e_n122, v_n120] <;> kernel_rfl
  refine ⟨trivial, ?_⟩
  intro n123 l_n123 u_n123
  intro n124 l_n124 u_n124
  intro h_rootWide8
  replace h_rootWide8 : ((n122 < 0 → n123 = 0 ∧ n124 = 1) ∧ (0 ≤ n122 → n124 = 0 ∧ isRoot (w128 n122 n121) n123)) := h_rootWide8
  have v_n123 : n123 = 4611664314954810277 := root_val 1152910652896093331 4611686018427387904 4611664314954810277 h_rootWide8 v_n122 v_n121 (by decide) (by decide) (by decide) l_n123 (by decide)
  refine ⟨trivial, ?_⟩
  intro n125 l_n125 u_n125
  intro n126 l_n126 u_n126
  intro h_wmul8
  replace h_wmul8 : w128 n125 n126 = n118 * (2305843009213693952 : Int) := h_wmul8
  obtain ⟨v_n125, v_n126⟩ := split64 3537096680898616 6917529027641081856 h_wmul8 l_n126 u_n126 (by rw [v_n118]; decide) (by decide) (by decide)
  intro n127 e_n127 l_n127 u_n127
  have v_n127 : n127 = 4611664314954810277 := by
    rw [e_n127, v_n123] <;> kernel_rfl
  refine ⟨trivial, ?_⟩
  intro n128 l_n128 u_n128
  intro n129 l_n129 u_n129
  intro n130 l_n130 u_n130
  intro n131 l_n131 u_n131
  intro h_wfloor8
  replace h_wfloor8 : ((n127 < 1 → n128 = 0 ∧ n129 = 0 ∧ n130 = 0 ∧ n131 = 1) ∧ (1 ≤ n127 → n131 = 0 ∧ isFloor (w128 n125 n126) n127 (w128 n128 n129) n130)) := h_wfloor8
  have k_n129 : w128 n128 n129 = 14148453308909939 := floor_val 65247917236504276595311844956045312 4611664314954810277 14148453308909939 4046093133531402209 h_wfloor8 (show w128 n125 n126 = 65247917236504276595311844956045312 by rw [v_n125, v_n126]; decide) v_n127 (by decide) (by decide) (by decide) (by decide)
  intro b9
  intro n132 e_n132 l_n132 u_n132
  have v_n132 : n132 = 4611664314954810277 := by
    rw [e_n132, v_n123] <;> kernel_rfl
  refine ⟨trivial, ?_⟩
  intro n133 l_n133 u_n133
  intro t8
  intro h_wint8
  replace h_wint8 : isInt (w128 n128 n129) n133 (b2i t8) := h_wint8
  have v_n133 : n133 = 14148453308909939 := int_val 14148453308909939 h_wint8 k_n129 (by decide) (by decide)
  intro n134 e_n134 l_n134 u_n134
  have v_n134 : n134 = 9223350333382198181 := by
    rw [e_n134, v_n132] <;> kernel_rfl
  refine ⟨trivial, ?_⟩
  intro n135 l_n135 u_n135
  intro n136 l_n136 u_n136
  intro h_mul649
  replace h_mul649 : n135 * 18446744073709551616 + n136 = n134 * (2305843009213693952 : Int) := h_mul649
  obtain ⟨v_n135, v_n136⟩ := split64 1152918791672774772 11529215046068469760 h_mul649 l_n136 u_n136 (by rw [v_n134]; decide) (by decide) (by decide)
  intro n137 e_n137 l_n137 u_n137
  have v_n137 : n137 = 1152918791672774772 := by
    rw [e_n137, v_n135] <;> kernel_rfl
  refine ⟨trivial, ?_⟩
  intro n138 l_n138 u_n138
  intro n139 l_n139 u_n139
  intro h_rootWide9
  replace h_rootWide9 : ((n137 < 0 → n138 = 0 ∧ n139 = 1) ∧ (0 ≤ n137 → n139 = 0 ∧ isRoot (w128 n137 n136) n138)) := h_rootWide9
  have v_n138 : n138 = 4611680592556051597 := root_val 1152918791672774772 11529215046068469760 4611680592556051597 h_rootWide9 v_n137 v_n136 (by decide) (by decide) (by decide) l_n138 (by decide)
  refine ⟨trivial, ?_⟩
  intro n140 l_n140 u_n140
  intro n141 l_n141 u_n141
  intro h_wmul9
  replace h_wmul9 : w128 n140 n141 = n133 * (2305843009213693952 : Int) := h_wmul9
  obtain ⟨v_n140, v_n141⟩ := split64 1768556663613742 6917529027641081856 h_wmul9 l_n141 u_n141 (by rw [v_n133]; decide) (by decide) (by decide)
  intro n142 e_n142 l_n142 u_n142
  have v_n142 : n142 = 4611680592556051597 := by
    rw [e_n142, v_n138] <;> kernel_rfl
  refine ⟨trivial, ?_⟩
  intro n143 l_n143 u_n143
  intro n144 l_n144 u_n144
  intro n145 l_n145 u_n145
  intro n146 l_n146 u_n146
  intro h_wfloor9
  replace h_wfloor9 : ((n142 < 1 → n143 = 0 ∧ n144 = 0 ∧ n145 = 0 ∧ n146 = 1) ∧ (1 ≤ n142 → n146 = 0 ∧ isFloor (w128 n140 n141) n142 (w128 n143 n144) n145)) := h_wfloor9
  have k_n144 : w128 n143 n144 = 7074234977634092 := floor_val 32624112153536339156034892676988928 4611680592556051597 7074234977634092 3345225732538744004 h_wfloor9 (show w128 n140 n141 = 32624112153536339156034892676988928 by rw [v_n140, v_n141]; decide) v_n142 (by decide) (by decide) (by decide) (by decide)
  intro b10
  intro n147 e_n147 l_n147 u_n147
  have v_n147 : n147 = 4611680592556051597 := by
    rw [e_n147, v_n138] <;> kernel_rfl
  refine ⟨trivial, ?_⟩
  intro n148 l_n148 u_n148
  intro t9
  intro h_wint9
  replace h_wint9 : isInt (w128 n143 n144) n148 (b2i t9) := h_wint9
  have v_n148 : n148 = 7074234977634092 := int_val 7074234977634092 h_wint9 k_n144 (by decide) (by decide)
  intro n149 e_n149 l_n149 u_n149
  have v_n149 : n149 = 9223366610983439501 := by
    rw [e_n149, v_n147] <;> kernel_rfl
  refine ⟨trivial, ?_⟩
  intro n150 l_n150 u_n150
  intro n151 l_n151 u_n151
  intro h_mul6410
  replace h_mul6410 : n150 * 18446744073709551616 + n151 = n149 * (2305843009213693952 : Int) := h_mul6410
  obtain ⟨v_n150, v_n151⟩ := split64 1152920826372929937 11529215046068469760 h_mul6410 l_n151 u_n151 (by rw [v_n149]; decide) (by decide) (by decide)
  intro n152 e_n152 l_n152 u_n152
  have v_n152 : n152 = 1152920826372929937 := by
    rw [e_n152, v_n150] <;> kernel_rfl
  refine ⟨trivial, ?_⟩
  intro n153 l_n153 u_n153
  intro n154 l_n154 u_n154
  intro h_rootWide10
  replace h_rootWide10 : ((n152 < 0 → n153 = 0 ∧ n154 = 1) ∧ (0 ≤ n152 → n154 = 0 ∧ isRoot (w128 n152 n151) n153)) := h_rootWide10
  have v_n153 : n153 = 4611684661959354333 := root_val 1152920826372929937 11529215046068469760 4611684661959354333 h_rootWide10 v_n152 v_n151 (by decide) (by decide) (by decide) l_n153 (by decide)
  refine ⟨trivial, ?_⟩
  intro n155 l_n155 u_n155
  intro n156 l_n156 u_n156
  intro h_wmul10
  replace h_wmul10 : w128 n155 n156 = n148 * (2305843009213693952 : Int) := h_wmul10
  obtain ⟨v_n155, v_n156⟩ := split64 884279372204261 9223372036854775808 h_wmul10 l_n156 u_n156 (by rw [v_n148]; decide) (by decide) (by decide)
  intro n157 e_n157 l_n157 u_n157
  have v_n157 : n157 = 4611684661959354333 := by
    rw [e_n157, v_n153] <;> kernel_rfl
  refine ⟨trivial, ?_⟩
  intro n158 l_n158 u_n158
  intro n159 l_n159 u_n159
  intro n160 l_n160 u_n160
  intro n161 l_n161 u_n161
  intro h_wfloor10
  replace h_wfloor10 : ((n157 < 1 → n158 = 0 ∧ n159 = 0 ∧ n160 = 0 ∧ n161 = 1) ∧ (1 ≤ n157 → n161 = 0 ∧ isFloor (w128 n155 n156) n157 (w128 n158 n159) n160)) := h_wfloor10
  have k_n159 : w128 n158 n159 = 3537118529214895 := floor_val 16312075268712563628010088729411584 4611684661959354333 3537118529214895 1996447597123021549 h_wfloor10 (show w128 n155 n156 = 16312075268712563628010088729411584 by rw [v_n155, v_n156]; decide) v_n157 (by decide) (by decide) (by decide) (by decide)
  intro b11
  intro n162 e_n162 l_n162 u_n162
  have v_n162 : n162 = 4611684661959354333 := by
    rw [e_n162, v_n153] <;> kernel_rfl
  refine ⟨trivial, ?_⟩
  intro n163 l_n163 u_n163
  intro t10
  intro h_wint10
  replace h_wint10 : isInt (w128 n158 n159) n163 (b2i t10) := h_wint10
  have v_n163 : n163 = 3537118529214895 := int_val 3537118529214895 h_wint10 k_n159 (by decide) (by decide)
  intro n164 e_n164 l_n164 u_n164
  have v_n164 : n164 = 9223370680386742237 := by
    rw [e_n164, v_n162] <;> kernel_rfl
  refine ⟨trivial, ?_⟩
  intro n165 l_n165 u_n165
  intro n166 l_n166 u_n166
  intro h_mul6411
  replace h_mul6411 : n165 * 18446744073709551616 + n166 = n164 * (2305843009213693952 : Int) := h_mul6411
  obtain ⟨v_n165, v_n166⟩ := split64 1152921335048342779 11529215046068469760 h_mul6411 l_n166 u_n166 (by rw [v_n164]; decide) (by decide) (by decide)
  intro n167 e_n167 l_n167 u_n167
  have v_n167 : n167 = 1152921335048342779 := by
    rw [e_n167, v_n165] <;> kernel_rfl
  refine ⟨trivial, ?_⟩
  intro n168 l_n168 u_n168
  intro n169 l_n169 u_n169
  intro h_rootWide11
  replace h_rootWide11 : ((n167 < 0 → n168 = 0 ∧ n169 = 1) ∧ (0 ≤ n167 → n169 = 0 ∧ isRoot (w128 n167 n166) n168)) := h_rootWide11
  have v_n168 : n168 = 4611685679310367042 := root_val 1152921335048342779 11529215046068469760 4611685679310367042 h_rootWide11 v_n167 v_n166 (by decide) (by decide) (by decide) l_n168 (by decide)
  refine ⟨trivial, ?_⟩
  intro n170 l_n170 u_n170
  intro n171 l_n171 u_n171
  intro h_wmul11
  replace h_wmul11 : w128 n170 n171 = n163 * (2305843009213693952 : Int) := h_wmul11
  obtain ⟨v_n170, v_n171⟩ := split64 442139816151861 16140901064495857664 h_wmul11 l_n171 u_n171 (by rw [v_n163]; decide) (by decide) (by decide)
  intro n172 e_n172 l_n172 u_n172
  have v_n172 : n172 = 4611685679310367042 := by
    rw [e_n172, v_n168] <;> kernel_rfl
  refine ⟨trivial, ?_⟩
  intro n173 l_n173 u_n173
  intro n174 l_n174 u_n174
  intro n175 l_n175 u_n175
  intro n176 l_n176 u_n176
  intro h_wfloor11
  replace h_wfloor11 : ((n172 < 1 → n173 = 0 ∧ n174 = 0 ∧ n175 = 0 ∧ n176 = 1) ∧ (1 ≤ n172 → n176 = 0 ∧ isFloor (w128 n170 n171) n172 (w128 n173 n174) n175)) := h_wfloor11
  have k_n174 : w128 n173 n174 = 1768559394657193 := floor_val 8156040033350388731619413369815040 4611685679310367042 1768559394657193 111259302774381934 h_wfloor11 (show w128 n170 n171 = 8156040033350388731619413369815040 by rw [v_n170, v_n171]; decide) v_n172 (by decide) (by decide) (by decide) (by decide)
  intro b12
  intro n177 e_n177 l_n177 u_n177
  have v_n177 : n177 = 4611685679310367042 := by
    rw [e_n177, v_n168] <;> kernel_rfl
  refine ⟨trivial, ?_⟩
  intro n178 l_n178 u_n178
  intro t11
  intro h_wint11
  replace h_wint11 : isInt (w128 n173 n174) n178 (b2i t11) := h_wint11
  have v_n178 : n178 = 1768559394657193 := int_val 1768559394657193 h_wint11 k_n174 (by decide) (by decide)
  intro n179 e_n179 l_n179 u_n179
  have v_n179 : n179 = 9223371697737754946 := by
    rw [e_n179, v_n177] <;> kernel_rfl
  refine ⟨trivial, ?_⟩
  intro n180 l_n180 u_n180
  intro n181 l_n181 u_n181
  intro h_mul6412
  replace h_mul6412 : n180 * 18446744073709551616 + n181 = n179 * (2305843009213693952 : Int) := h_mul6412
  obtain ⟨v_n180, v_n181⟩ := split64 1152921462217219368 4611686018427387904 h_mul6412 l_n181 u_n181 (by rw [v_n179]; decide) (by decide) (by decide)
  intro n182 e_n182 l_n182 u_n182
  have v_n182 : n182 = 1152921462217219368 := by
    rw [e_n182, v_n180] <;> kernel_rfl
  refine ⟨trivial, ?_⟩
  intro n183 l_n183 u_n183
  intro n184 l_n184 u_n184
  intro h_rootWide12
  replace h_rootWide12 : ((n182 < 0 → n183 = 0 ∧ n184 = 1) ∧ (0 ≤ n182 → n184 = 0 ∧ isRoot (w128 n182 n181) n183)) := h_rootWide12
  have v_n183 : n183 = 4611685933648131909 := root_val 1152921462217219368 4611686018427387904 4611685933648131909 h_rootWide12 v_n182 v_n181 (by decide) (by decide) (by decide) l_n183 (by decide)
  refine ⟨trivial, ?_⟩
  intro n185 l_n185 u_n185
  intro n186 l_n186 u_n186
  intro h_wmul12
  replace h_wmul12 : w128 n185 n186 = n178 * (2305843009213693952 : Int) := h_wmul12
  obtain ⟨v_n185, v_n186⟩ := split64 221069924332149 2305843009213693952 h_wmul12 l_n186 u_n186 (by rw [v_n178]; decide) (by decide) (by decide)
  intro n187 e_n187 l_n187 u_n187
  have v_n187 : n187 = 4611685933648131909 := by
    rw [e_n187, v_n183] <;> kernel_rfl
  refine ⟨trivial, ?_⟩
  intro n188 l_n188 u_n188
  intro n189 l_n189 u_n189
  intro n190 l_n190 u_n190
  intro n191 l_n191 u_n191
  intro h_wfloor12
  replace h_wfloor12 : ((n187 < 1 → n188 = 0 ∧ n189 = 0 ∧ n190 = 0 ∧ n191 = 1) ∧ (1 ≤ n187 → n191 = 0 ∧ isFloor (w128 n185 n186) n187 (w128 n188 n189) n190)) := h_wfloor12
  have k_n189 : w128 n188 n189 = 884279713584815 := floor_val 4078020316549490877004760257396736 4611685933648131909 884279713584815 640241665878034901 h_wfloor12 (show w128 n185 n186 = 4078020316549490877004760257396736 by rw [v_n185, v_n186]; decide) v_n187 (by decide) (by decide) (by decide) (by decide)
  intro b13
  intro n192 e_n192 l_n192 u_n192
  have v_n192 : n192 = 4611685933648131909 := by
    rw [e_n192, v_n183] <;> kernel_rfl
  refine ⟨trivial, ?_⟩
  intro n193 l_n193 u_n193
  intro t12
  intro h_wint12
  replace h_wint12 : isInt (w128 n188 n189) n193 (b2i t12) := h_wint12
  have v_n193 : n193 = 884279713584815 := int_val 884279713584815 h_wint12 k_n189 (by decide) (by decide)
  intro n194 e_n194 l_n194 u_n194
  have v_n194 : n194 = 9223371952075519813 := by
    rw [e_n194, v_n192] <;> kernel_rfl
  refine ⟨trivial, ?_⟩
  intro n195 l_n195 u_n195
  intro n196 l_n196 u_n196
  intro h_mul6413
  replace h_mul6413 : n195 * 18446744073709551616 + n196 = n194 * (2305843009213693952 : Int) := h_mul6413
  obtain ⟨v_n195, v_n196⟩ := split64 1152921494009439976 11529215046068469760 h_mul6413 l_n196 u_n196 (by rw [v_n194]; decide) (by decide) (by decide)
  intro n197 e_n197 l_n197 u_n197
  have v_n197 : n197 = 1152921494009439976 := by
    rw [e_n197, v_n195] <;> kernel_rfl
  refine ⟨trivial, ?_⟩
  intro n198 l_n198 u_n198
  intro n199 l_n199 u_n199
  intro h_rootWide13
  replace h_rootWide13 : ((n197 < 0 → n198 = 0 ∧ n199 = 1) ∧ (0 ≤ n197 → n199 = 0 ∧ isRoot (w128 n197 n196) n198)) := h_rootWide13
  have v_n198 : n198 = 4611685997232573856 := root_val 1152921494009439976 11529215046068469760 4611685997232573856 h_rootWide13 v_n197 v_n196 (by decide) (by decide) (by decide) l_n198 (by decide)
  refine ⟨trivial, ?_⟩
  intro n200 l_n200 u_n200
  intro n201 l_n201 u_n201
  intro h_wmul13
  replace h_wmul13 : w128 n200 n201 = n193 * (2305843009213693952 : Int) := h_wmul13
  obtain ⟨v_n200, v_n201⟩ := split64 110534964198101 16140901064495857664 h_wmul13 l_n201 u_n201 (by rw [v_n193]; decide) (by decide) (by decide)
  intro n202 e_n202 l_n202 u_n202
  have v_n202 : n202 = 4611685997232573856 := by
    rw [e_n202, v_n198] <;> kernel_rfl
  refine ⟨trivial, ?_⟩
  intro n203 l_n203 u_n203
  intro n204 l_n204 u_n204
  intro n205 l_n205 u_n205
  intro n206 l_n206 u_n206
  intro h_wfloor13
  replace h_wfloor13 : ((n202 < 1 → n203 = 0 ∧ n204 = 0 ∧ n205 = 0 ∧ n206 = 1) ∧ (1 ≤ n202 → n206 = 0 ∧ isFloor (w128 n200 n201) n202 (w128 n203 n204) n205)) := h_wfloor13
  have k_n204 : w128 n203 n204 = 442139858824434 := floor_val 2039010195759033222977702204538880 4611685997232573856 442139858824434 3891868909962141376 h_wfloor13 (show w128 n200 n201 = 2039010195759033222977702204538880 by rw [v_n200, v_n201]; decide) v_n202 (by decide) (by decide) (by decide) (by decide)
  intro b14
  intro n207 e_n207 l_n207 u_n207
  have v_n207 : n207 = 4611685997232573856 := by
    rw [e_n207, v_n198] <;> kernel_rfl
  refine ⟨trivial, ?_⟩
  intro n208 l_n208 u_n208
  intro t13
  intro h_wint13
  replace h_wint13 : isInt (w128 n203 n204) n208 (b2i t13) := h_wint13
  have v_n208 : n208 = 442139858824434 := int_val 442139858824434 h_wint13 k_n204 (by decide) (by decide)
  intro n209 e_n209 l_n209 u_n209
  have v_n209 : n209 = 9223372015659961760 := by
    rw [e_n209, v_n207] <;> kernel_rfl
  refine ⟨trivial, ?_⟩
  intro n210 l_n210 u_n210
  intro n211 l_n211 u_n211
  intro h_mul6414
  replace h_mul6414 : n210 * 18446744073709551616 + n211 = n209 * (2305843009213693952 : Int) := h_mul6414
  obtain ⟨v_n210, v_n211⟩ := split64 1152921501957495220 0 h_mul6414 l_n211 u_n211 (by rw [v_n209]; decide) (by decide) (by decide)
  intro n212 e_n212 l_n212 u_n212
  have v_n212 : n212 = 1152921501957495220 := by
    rw [e_n212, v_n210] <;> kernel_rfl
  refine ⟨trivial, ?_⟩
  intro n213 l_n213 u_n213
  intro n214 l_n214 u_n214
  intro h_rootWide14
  replace h_rootWide14 : ((n212 < 0 → n213 = 0 ∧ n214 = 1) ∧ (0 ≤ n212 → n214 = 0 ∧ isRoot (w128 n212 n211) n213)) := h_rootWide14
  have v_n213 : n213 = 4611686013128684388 := root_val 1152921501957495220 0 4611686013128684388 h_rootWide14 v_n212 v_n211 (by decide) (by decide) (by decide) l_n213 (by decide)
  refine ⟨trivial, ?_⟩
  intro n215 l_n215 u_n215
  intro n216 l_n216 u_n216
  intro h_wmul14
  replace h_wmul14 : w128 n215 n216 = n208 * (2305843009213693952 : Int) := h_wmul14
  obtain ⟨v_n215, v_n216⟩ := split64 55267482353054 4611686018427387904 h_wmul14 l_n216 u_n216 (by rw [v_n208]; decide) (by decide) (by decide)
  intro n217 e_n217 l_n217 u_n217
  have v_n217 : n217 = 4611686013128684388 := by
    rw [e_n217, v_n213] <;> kernel_rfl
  refine ⟨trivial, ?_⟩
  intro n218 l_n218 u_n218
  intro n219 l_n219 u_n219
  intro n220 l_n220 u_n220
  intro n221 l_n221 u_n221
  intro h_wfloor14
  replace h_wfloor14 : ((n217 < 1 → n218 = 0 ∧ n219 = 0 ∧ n220 = 0 ∧ n221 = 1) ∧ (1 ≤ n217 → n221 = 0 ∧ isFloor (w128 n215 n216) n217 (w128 n218 n219) n220)) := h_wfloor14
  have k_n219 : w128 n218 n219 = 221069929666220 := floor_val 1019505102565050711050821375623168 4611686013128684388 221069929666220 1929865660810649808 h_wfloor14 (show w128 n215 n216 = 1019505102565050711050821375623168 by rw [v_n215, v_n216]; decide) v_n217 (by decide) (by decide) (by decide) (by decide)
  intro b15
  intro n222 e_n222 l_n222 u_n222
  have v_n222 : n222 = 4611686013128684388 := by
    rw [e_n222, v_n213] <;> kernel_rfl
  refine ⟨trivial, ?_⟩
  intro n223 l_n223 u_n223
  intro t14
  intro h_wint14
  replace h_wint14 : isInt (w128 n218 n219) n223 (b2i t14) := h_wint14
  have v_n223 : n223 = 221069929666220 := int_val 221069929666220 h_wint14 k_n219 (by decide) (by decide)
  intro n224 e_n224 l_n224 u_n224
  have v_n224 : n224 = 9223372031556072292 := by
    rw [e_n224, v_n222] <;> kernel_rfl
  refine ⟨trivial, ?_⟩
  intro n225 l_n225 u_n225
  intro n226 l_n226 u_n226
  intro h_mul6415
  replace h_mul6415 : n225 * 18446744073709551616 + n226 = n224 * (2305843009213693952 : Int) := h_mul6415
  obtain ⟨v_n225, v_n226⟩ := split64 1152921503944509036 9223372036854775808 h_mul6415 l_n226 u_n226 (by rw [v_n224]; decide) (by decide) (by decide)
  intro n227 e_n227 l_n227 u_n227
  have v_n227 : n227 = 1152921503944509036 := by
    rw [e_n227, v_n225] <;> kernel_rfl
  refine ⟨trivial, ?_⟩
  intro n228 l_n228 u_n228
  intro n229 l_n229 u_n229
  intro h_rootWide15
  replace h_rootWide15 : ((n227 < 0 → n228 = 0 ∧ n229 = 1) ∧ (0 ≤ n227 → n229 = 0 ∧ isRoot (w128 n227 n226) n228)) := h_rootWide15
  have v_n228 : n228 = 4611686017102712024 := root_val 1152921503944509036 9223372036854775808 4611686017102712024 h_rootWide15 v_n227 v_n226 (by decide) (by decide) (by decide) l_n228 (by decide)
  refine ⟨trivial, ?_⟩
  intro n230 l_n230 u_n230
  intro n231 l_n231 u_n231
  intro h_wmul15
  replace h_wmul15 : w128 n230 n231 = n223 * (2305843009213693952 : Int) := h_wmul15
  obtain ⟨v_n230, v_n231⟩ := split64 27633741208277 9223372036854775808 h_wmul15 l_n231 u_n231 (by rw [v_n223]; decide) (by decide) (by decide)
  intro n232 e_n232 l_n232 u_n232
  have v_n232 : n232 = 4611686017102712024 := by
    rw [e_n232, v_n228] <;> kernel_rfl
  refine ⟨trivial, ?_⟩
  intro n233 l_n233 u_n233
  intro n234 l_n234 u_n234
  intro n235 l_n235 u_n235
  intro n236 l_n236 u_n236
  intro h_wfloor15
  replace h_wfloor15 : ((n232 < 1 → n233 = 0 ∧ n234 = 0 ∧ n235 = 0 ∧ n236 = 1) ∧ (1 ≤ n232 → n236 = 0 ∧ isFloor (w128 n230 n231) n232 (w128 n233 n234) n235)) := h_wfloor15
  have k_n234 : w128 n233 n234 = 110534964864860 := floor_val 509752551868216397394716592701440 4611686017102712024 110534964864860 1970768057935624800 h_wfloor15 (show w128 n230 n231 = 509752551868216397394716592701440 by rw [v_n230, v_n231]; decide) v_n232 (by decide) (by decide) (by decide) (by decide)
  intro b16
  intro n237 e_n237 l_n237 u_n237
  have v_n237 : n237 = 4611686017102712024 := by
    rw [e_n237, v_n228] <;> kernel_rfl
  refine ⟨trivial, ?_⟩
  intro n238 l_n238 u_n238
  intro t15
  intro h_wint15
  replace h_wint15 : isInt (w128 n233 n234) n238 (b2i t15) := h_wint15
  have v_n238 : n238 = 110534964864860 := int_val 110534964864860 h_wint15 k_n234 (by decide) (by decide)
  intro n239 e_n239 l_n239 u_n239
  have v_n239 : n239 = 9223372035530099928 := by
    rw [e_n239, v_n237] <;> kernel_rfl
  refine ⟨trivial, ?_⟩
  intro n240 l_n240 u_n240
  intro n241 l_n241 u_n241
  intro h_mul6416
  replace h_mul6416 : n240 * 18446744073709551616 + n241 = n239 * (2305843009213693952 : Int) := h_mul6416
  obtain ⟨v_n240, v_n241⟩ := split64 1152921504441262491 0 h_mul6416 l_n241 u_n241 (by rw [v_n239]; decide) (by decide) (by decide)
  intro n242 e_n242 l_n242 u_n242
  have v_n242 : n242 = 1152921504441262491 := by
    rw [e_n242, v_n240] <;> kernel_rfl
  refine ⟨trivial, ?_⟩
  intro n243 l_n243 u_n243
  intro n244 l_n244 u_n244
  intro h_rootWide16
  replace h_rootWide16 : ((n242 < 0 → n243 = 0 ∧ n244 = 1) ∧ (0 ≤ n242 → n244 = 0 ∧ isRoot (w128 n242 n241) n243)) := h_rootWide16
  have v_n243 : n243 = 4611686018096218933 := root_val 1152921504441262491 0 4611686018096218933 h_rootWide16 v_n242 v_n241 (by decide) (by decide) (by decide) l_n243 (by decide)
  refine ⟨trivial, ?_⟩
  intro n245 l_n245 u_n245
  intro n246 l_n246 u_n246
  intro h_wmul16
  replace h_wmul16 : w128 n245 n246 = n238 * (2305843009213693952 : Int) := h_wmul16
  obtain ⟨v_n245, v_n246⟩ := split64 13816870608107 9223372036854775808 h_wmul16 l_n246 u_n246 (by rw [v_n238]; decide) (by decide) (by decide)
  intro n247 e_n247 l_n247 u_n247
  have v_n247 : n247 = 4611686018096218933 := by
    rw [e_n247, v_n243] <;> kernel_rfl
  refine ⟨trivial, ?_⟩
  intro n248 l_n248 u_n248
  intro n249 l_n249 u_n249
  intro n250 l_n250 u_n250
  intro n251 l_n251 u_n251
  intro h_wfloor16
  replace h_wfloor16 : ((n247 < 1 → n248 = 0 ∧ n249 = 0 ∧ n250 = 0 ∧ n251 = 1) ∧ (1 ≤ n247 → n251 = 0 ∧ isFloor (w128 n245 n246) n247 (w128 n248 n249) n250)) := h_wfloor16
  have k_n249 : w128 n248 n249 = 55267482436398 := floor_val 254876276007318714239893079326720 4611686018096218933 55267482436398 3705167102623403386 h_wfloor16 (show w128 n245 n246 = 254876276007318714239893079326720 by rw [v_n245, v_n246]; decide) v_n247 (by decide) (by decide) (by decide) (by decide)
  intro b17
  intro n252 e_n252 l_n252 u_n252
  have v_n252 : n252 = 4611686018096218933 := by
    rw [e_n252, v_n243] <;> kernel_rfl
  refine ⟨trivial, ?_⟩
  intro n253 l_n253 u_n253
  intro t16
  intro h_wint16
  replace h_wint16 : isInt (w128 n248 n249) n253 (b2i t16) := h_wint16
  have v_n253 : n253 = 55267482436398 := int_val 55267482436398 h_wint16 k_n249 (by decide) (by decide)
  intro n254 e_n254 l_n254 u_n254
  have v_n254 : n254 = 9223372036523606837 := by
    rw [e_n254, v_n252] <;> kernel_rfl
  refine ⟨trivial, ?_⟩
  intro n255 l_n255 u_n255
  intro n256 l_n256 u_n256
  intro h_mul6417
  replace h_mul6417 : n255 * 18446744073709551616 + n256 = n254 * (2305843009213693952 : Int) := h_mul6417
  obtain ⟨v_n255, v_n256⟩ := split64 1152921504565450854 11529215046068469760 h_mul6417 l_n256 u_n256 (by rw [v_n254]; decide) (by decide) (by decide)
  intro n257 e_n257 l_n257 u_n257
  have v_n257 : n257 = 1152921504565450854 := by
    rw [e_n257, v_n255] <;> kernel_rfl
  refine ⟨trivial, ?_⟩
  intro n258 l_n258 u_n258
  intro n259 l_n259 u_n259
  intro h_rootWide17
  replace h_rootWide17 : ((n257 < 0 → n258 = 0 ∧ n259 = 1) ∧ (0 ≤ n257 → n259 = 0 ∧ isRoot (w128 n257 n256) n258)) := h_rootWide17
  have v_n258 : n258 = 4611686018344595661 := root_val 1152921504565450854 11529215046068469760 4611686018344595661 h_rootWide17 v_n257 v_n256 (by decide) (by decide) (by decide) l_n258 (by decide)
  refine ⟨trivial, ?_⟩
  intro n260 l_n260 u_n260
  intro n261 l_n261 u_n261
  intro h_wmul17
  replace h_wmul17 : w128 n260 n261 = n253 * (2305843009213693952 : Int) := h_wmul17
  obtain ⟨v_n260, v_n261⟩ := split64 6908435304549 13835058055282163712 h_wmul17 l_n261 u_n261 (by rw [v_n253]; decide) (by decide) (by decide)
  intro n262 e_n262 l_n262 u_n262
  have v_n262 : n262 = 4611686018344595661 := by
    rw [e_n262, v_n258] <;> kernel_rfl
  refine ⟨trivial, ?_⟩
  intro n263 l_n263 u_n263
  intro n264 l_n264 u_n264
  intro n265 l_n265 u_n265
  intro n266 l_n266 u_n266
  intro h_wfloor17
  replace h_wfloor17 : ((n262 < 1 → n263 = 0 ∧ n264 = 0 ∧ n265 = 0 ∧ n266 = 1) ∧ (1 ≤ n262 → n266 = 0 ∧ isFloor (w128 n260 n261) n262 (w128 n263 n264) n265)) := h_wfloor17
  have k_n264 : w128 n263 n264 = 27633741218695 := floor_val 127438138012808942180506477264896 4611686018344595661 27633741218695 463152837328182501 h_wfloor17 (show w128 n260 n261 = 127438138012808942180506477264896 by rw [v_n260, v_n261]; decide) v_n262 (by decide) (by decide) (by decide) (by decide)
  intro b18
  intro n267 e_n267 l_n267 u_n267
  have v_n267 : n267 = 4611686018344595661 := by
    rw [e_n267, v_n258] <;> kernel_rfl
  refine ⟨trivial, ?_⟩
  intro n268 l_n268 u_n268
  intro t17
  intro h_wint17
  replace h_wint17 : isInt (w128 n263 n264) n268 (b2i t17) := h_wint17
  have v_n268 : n268 = 27633741218695 := int_val 27633741218695 h_wint17 k_n264 (by decide) (by decide)
  intro n269 e_n269 l_n269 u_n269
  have v_n269 : n269 = 9223372036771983565 := by
    rw [e_n269, v_n267] <;> kernel_rfl
  refine ⟨trivial, ?_⟩
  intro n270 l_n270 u_n270
  intro n271 l_n271 u_n271
  intro h_mul6418
  replace h_mul6418 : n270 * 18446744073709551616 + n271 = n269 * (2305843009213693952 : Int) := h_mul6418
  obtain ⟨v_n270, v_n271⟩ := split64 1152921504596497945 11529215046068469760 h_mul6418 l_n271 u_n271 (by rw [v_n269]; decide) (by decide) (by decide)
  intro n272 e_n272 l_n272 u_n272
  have v_n272 : n272 = 1152921504596497945 := by
    rw [e_n272, v_n270] <;> kernel_rfl
  refine ⟨trivial, ?_⟩
  intro n273 l_n273 u_n273
  intro n274 l_n274 u_n274
  intro h_rootWide18
  replace h_rootWide18 : ((n272 < 0 → n273 = 0 ∧ n274 = 1) ∧ (0 ≤ n272 → n274 = 0 ∧ isRoot (w128 n272 n271) n273)) := h_rootWide18
  have v_n273 : n273 = 4611686018406689843 := root_val 1152921504596497945 11529215046068469760 4611686018406689843 h_rootWide18 v_n272 v_n271 (by decide) (by decide) (by decide) l_n273 (by decide)
  refine ⟨trivial, ?_⟩
  intro n275 l_n275 u_n275
  intro n276 l_n276 u_n276
  intro h_wmul18
  replace h_wmul18 : w128 n275 n276 = n268 * (2305843009213693952 : Int) := h_wmul18
  obtain ⟨v_n275, v_n276⟩ := split64 3454217652336 16140901064495857664 h_wmul18 l_n276 u_n276 (by rw [v_n268]; decide) (by decide) (by decide)
  intro n277 e_n277 l_n277 u_n277
  have v_n277 : n277 = 4611686018406689843 := by
    rw [e_n277, v_n273] <;> kernel_rfl
  refine ⟨trivial, ?_⟩
  intro n278 l_n278 u_n278
  intro n279 l_n279 u_n279
  intro n280 l_n280 u_n280
  intro n281 l_n281 u_n281
  intro h_wfloor18
  replace h_wfloor18 : ((n277 < 1 → n278 = 0 ∧ n279 = 0 ∧ n280 = 0 ∧ n281 = 1) ∧ (1 ≤ n277 → n281 = 0 ∧ isFloor (w128 n275 n276) n277 (w128 n278 n279) n280)) := h_wfloor18
  have k_n279 : w128 n278 n279 = 13816870609409 := floor_val 63719069007548169222823230832640 4611686018406689843 13816870609409 2363740569370299853 h_wfloor18 (show w128 n275 n276 = 63719069007548169222823230832640 by rw [v_n275, v_n276]; decide) v_n277 (by decide) (by decide) (by decide) (by decide)
  intro b19
  intro n282 e_n282 l_n282 u_n282
  have v_n282 : n282 = 4611686018406689843 := by
    rw [e_n282, v_n273] <;> kernel_rfl
  refine ⟨trivial, ?_⟩
  intro n283 l_n283 u_n283
  intro t18
  intro h_wint18
  replace h_wint18 : isInt (w128 n278 n279) n283 (b2i t18) := h_wint18
  have v_n283 : n283 = 13816870609409 := int_val 13816870609409 h_wint18 k_n279 (by decide) (by decide)
  intro n284 e_n284 l_n284 u_n284
  have v_n284 : n284 = 9223372036834077747 := by
    rw [e_n284, v_n282] <;> kernel_rfl
  refine ⟨trivial, ?_⟩
  intro n285 l_n285 u_n285
  intro n286 l_n286 u_n286
  intro h_mul6419
  replace h_mul6419 : n285 * 18446744073709551616 + n286 = n284 * (2305843009213693952 : Int) := h_mul6419
  obtain ⟨v_n285, v_n286⟩ := split64 1152921504604259718 6917529027641081856 h_mul6419 l_n286 u_n286 (by rw [v_n284]; decide) (by decide) (by decide)
  intro n287 e_n287 l_n287 u_n287
  have v_n287 : n287 = 1152921504604259718 := by
    rw [e_n287, v_n285] <;> kernel_rfl
  refine ⟨trivial, ?_⟩
  intro n288 l_n288 u_n288
  intro n289 l_n289 u_n289
  intro h_rootWide19
  replace h_rootWide19 : ((n287 < 0 → n288 = 0 ∧ n289 = 1) ∧ (0 ≤ n287 → n289 = 0 ∧ isRoot (w128 n287 n286) n288)) := h_rootWide19
  have v_n288 : n288 = 4611686018422213388 := root_val 1152921504604259718 6917529027641081856 4611686018422213388 h_rootWide19 v_n287 v_n286 (by decide) (by decide) (by decide) l_n288 (by decide)
  refine ⟨trivial, ?_⟩
  intro n290 l_n290 u_n290
  intro n291 l_n291 u_n291
  intro h_wmul19
  replace h_wmul19 : w128 n290 n291 = n283 * (2305843009213693952 : Int) := h_wmul19
  obtain ⟨v_n290, v_n291⟩ := split64 1727108826176 2305843009213693952 h_wmul19 l_n291 u_n291 (by rw [v_n283]; decide) (by decide) (by decide)
  intro n292 e_n292 l_n292 u_n292
  have v_n292 : n292 = 4611686018422213388 := by
    rw [e_n292, v_n288] <;> kernel_rfl
  refine ⟨trivial, ?_⟩
  intro n293 l_n293 u_n293
  intro n294 l_n294 u_n294
  intro n295 l_n295 u_n295
  intro n296 l_n296 u_n296
  intro h_wfloor19
  replace h_wfloor19 : ((n292 < 1 → n293 = 0 ∧ n294 = 0 ∧ n295 = 0 ∧ n296 = 1) ∧ (1 ≤ n292 → n296 = 0 ∧ isFloor (w128 n290 n291) n292 (w128 n293 n294) n295)) := h_wfloor19
  have k_n294 : w128 n293 n294 = 6908435304712 := floor_val 31859534503915893956478257594368 4611686018422213388 6908435304712 1160163880991710112 h_wfloor19 (show w128 n290 n291 = 31859534503915893956478257594368 by rw [v_n290, v_n291]; decide) v_n292 (by decide) (by decide) (by decide) (by decide)
  intro b20
  intro n297 e_n297 l_n297 u_n297
  have v_n297 : n297 = 4611686018422213388 := by
    rw [e_n297, v_n288] <;> kernel_rfl
  refine ⟨trivial, ?_⟩
  intro n298 l_n298 u_n298
  intro t19
  intro h_wint19
  replace h_wint19 : isInt (w128 n293 n294) n298 (b2i t19) := h_wint19
  have v_n298 : n298 = 6908435304712 := int_val 6908435304712 h_wint19 k_n294 (by decide) (by decide)
  intro n299 e_n299 l_n299 u_n299
  have v_n299 : n299 = 9223372036849601292 := by
    rw [e_n299, v_n297] <;> kernel_rfl
  refine ⟨trivial, ?_⟩
  intro n300 l_n300 u_n300
  intro n301 l_n301 u_n301
  intro h_mul6420
  replace h_mul6420 : n300 * 18446744073709551616 + n301 = n299 * (2305843009213693952 : Int) := h_mul6420
  obtain ⟨v_n300, v_n301⟩ := split64 1152921504606200161 9223372036854775808 h_mul6420 l_n301 u_n301 (by rw [v_n299]; decide) (by decide) (by decide)
  intro n302 e_n302 l_n302 u_n302
  have v_n302 : n302 = 1152921504606200161 := by
    rw [e_n302, v_n300] <;> kernel_rfl
  refine ⟨trivial, ?_⟩
  intro n303 l_n303 u_n303
  intro n304 l_n304 u_n304
  intro h_rootWide20
  replace h_rootWide20 : ((n302 < 0 → n303 = 0 ∧ n304 = 1) ∧ (0 ≤ n302 → n304 = 0 ∧ isRoot (w128 n302 n301) n303)) := h_rootWide20
  have v_n303 : n303 = 4611686018426094274 := root_val 1152921504606200161 9223372036854775808 4611686018426094274 h_rootWide20 v_n302 v_n301 (by decide) (by decide) (by decide) l_n303 (by decide)
  refine ⟨trivial, ?_⟩
  intro n305 l_n305 u_n305
  intro n306 l_n306 u_n306
  intro h_wmul20
  replace h_wmul20 : w128 n305 n306 = n298 * (2305843009213693952 : Int) := h_wmul20
  obtain ⟨v_n305, v_n306⟩ := split64 863554413089 0 h_wmul20 l_n306 u_n306 (by rw [v_n298]; decide) (by decide) (by decide)
  intro n307 e_n307 l_n307 u_n307
  have v_n307 : n307 = 4611686018426094274 := by
    rw [e_n307, v_n303] <;> kernel_rfl
  refine ⟨trivial, ?_⟩
  intro n308 l_n308 u_n308
  intro n309 l_n309 u_n309
  intro n310 l_n310 u_n310
  intro n311 l_n311 u_n311
  intro h_wfloor20
  replace h_wfloor20 : ((n307 < 1 → n308 = 0 ∧ n309 = 0 ∧ n310 = 0 ∧ n311 = 1) ∧ (1 ≤ n307 → n311 = 0 ∧ isFloor (w128 n305 n306) n307 (w128 n308 n309) n310)) := h_wfloor20
  have k_n309 : w128 n308 n309 = 3454217652356 := floor_val 15929767251975240800808231501824 4611686018426094274 3454217652356 4468479581617292280 h_wfloor20 (show w128 n305 n306 = 15929767251975240800808231501824 by rw [v_n305, v_n306]; decide) v_n307 (by decide) (by decide) (by decide) (by decide)
  intro b21
  intro n312 e_n312 l_n312 u_n312
  have v_n312 : n312 = 4611686018426094274 := by
    rw [e_n312, v_n303] <;> kernel_rfl
  refine ⟨trivial, ?_⟩
  intro n313 l_n313 u_n313
  intro t20
  intro h_wint20
  replace h_wint20 : isInt (w128 n308 n309) n313 (b2i t20) := h_wint20
  have v_n313 : n313 = 3454217652356 := int_val 3454217652356 h_wint20 k_n309 (by decide) (by decide)
  intro n314 e_n314 l_n314 u_n314
  have v_n314 : n314 = 9223372036853482178 := by
    rw [e_n314, v_n312] <;> kernel_rfl
  refine ⟨trivial, ?_⟩
  intro n315 l_n315 u_n315
  intro n316 l_n316 u_n316
  intro h_mul6421
  replace h_mul6421 : n315 * 18446744073709551616 + n316 = n314 * (2305843009213693952 : Int) := h_mul6421
  obtain ⟨v_n315, v_n316⟩ := split64 1152921504606685272 4611686018427387904 h_mul6421 l_n316 u_n316 (by rw [v_n314]; decide) (by decide) (by decide)
  intro n317 e_n317 l_n317 u_n317
  have v_n317 : n317 = 1152921504606685272 := by
    rw [e_n317, v_n315] <;> kernel_rfl
  refine ⟨trivial, ?_⟩
  intro n318 l_n318 u_n318
  intro n319 l_n319 u_n319
  intro h_rootWide21
  replace h_rootWide21 : ((n317 < 0 → n318 = 0 ∧ n319 = 1) ∧ (0 ≤ n317 → n319 = 0 ∧ isRoot (w128 n317 n316) n318)) := h_rootWide21
  have v_n318 : n318 = 4611686018427064496 := root_val 1152921504606685272 4611686018427387904 4611686018427064496 h_rootWide21 v_n317 v_n316 (by decide) (by decide) (by decide) l_n318 (by decide)
  refine ⟨trivial, ?_⟩
  intro n320 l_n320 u_n320
  intro n321 l_n321 u_n321
  intro h_wmul21
  replace h_wmul21 : w128 n320 n321 = n313 * (2305843009213693952 : Int) := h_wmul21
  obtain ⟨v_n320, v_n321⟩ := split64 431777206544 9223372036854775808 h_wmul21 l_n321 u_n321 (by rw [v_n313]; decide) (by decide) (by decide)
  intro n322 e_n322 l_n322 u_n322
  have v_n322 : n322 = 4611686018427064496 := by
    rw [e_n322, v_n318] <;> kernel_rfl
  refine ⟨trivial, ?_⟩
  intro n323 l_n323 u_n323
  intro n324 l_n324 u_n324
  intro n325 l_n325 u_n325
  intro n326 l_n326 u_n326
  intro h_wfloor21
  replace h_wfloor21 : ((n322 < 1 → n323 = 0 ∧ n324 = 0 ∧ n325 = 0 ∧ n326 = 1) ∧ (1 ≤ n322 → n326 = 0 ∧ isFloor (w128 n320 n321) n322 (w128 n323 n324) n325)) := h_wfloor21
  have k_n324 : w128 n323 n324 = 1727108826178 := floor_val 7964883625987620400404115750912 4611686018427064496 1727108826178 558560811256574624 h_wfloor21 (show w128 n320 n321 = 7964883625987620400404115750912 by rw [v_n320, v_n321]; decide) v_n322 (by decide) (by decide) (by decide) (by decide)
  intro b22
  intro n327 e_n327 l_n327 u_n327
  have v_n327 : n327 = 4611686018427064496 := by
    rw [e_n327, v_n318] <;> kernel_rfl
  refine ⟨trivial, ?_⟩
  intro n328 l_n328 u_n328
  intro t21
  intro h_wint21
  replace h_wint21 : isInt (w128 n323 n324) n328 (b2i t21) := h_wint21
  have v_n328 : n328 = 1727108826178 := int_val 1727108826178 h_wint21 k_n324 (by decide) (by decide)
  intro n329 e_n329 l_n329 u_n329
  have v_n329 : n329 = 9223372036854452400 := by
    rw [e_n329, v_n327] <;> kernel_rfl
  refine ⟨trivial, ?_⟩
  intro n330 l_n330 u_n330
  intro n331 l_n331 u_n331
  intro h_mul6422
  replace h_mul6422 : n330 * 18446744073709551616 + n331 = n329 * (2305843009213693952 : Int) := h_mul6422
  obtain ⟨v_n330, v_n331⟩ := split64 1152921504606806550 0 h_mul6422 l_n331 u_n331 (by rw [v_n329]; decide) (by decide) (by decide)
  intro n332 e_n332 l_n332 u_n332
  have v_n332 : n332 = 1152921504606806550 := by
    rw [e_n332, v_n330] <;> kernel_rfl
  refine ⟨trivial, ?_⟩
  intro n333 l_n333 u_n333
  intro n334 l_n334 u_n334
  intro h_rootWide22
  replace h_rootWide22 : ((n332 < 0 → n333 = 0 ∧ n334 = 1) ∧ (0 ≤ n332 → n334 = 0 ∧ isRoot (w128 n332 n331) n333)) := h_rootWide22
  have v_n333 : n333 = 4611686018427307051 := root_val 1152921504606806550 0 4611686018427307051 h_rootWide22 v_n332 v_n331 (by decide) (by decide) (by decide) l_n333 (by decide)
  refine ⟨trivial, ?_⟩
  intro n335 l_n335 u_n335
  intro n336 l_n336 u_n336
  intro h_wmul22
  replace h_wmul22 : w128 n335 n336 = n328 * (2305843009213693952 : Int) := h_wmul22
  obtain ⟨v_n335, v_n336⟩ := split64 215888603272 4611686018427387904 h_wmul22 l_n336 u_n336 (by rw [v_n328]; decide) (by decide) (by decide)
  intro n337 e_n337 l_n337 u_n337
  have v_n337 : n337 = 4611686018427307051 := by
    rw [e_n337, v_n333] <;> kernel_rfl
  refine ⟨trivial, ?_⟩
  intro n338 l_n338 u_n338
  intro n339 l_n339 u_n339
  intro n340 l_n340 u_n340
  intro n341 l_n341 u_n341
  intro h_wfloor22
  replace h_wfloor22 : ((n337 < 1 → n338 = 0 ∧ n339 = 0 ∧ n340 = 0 ∧ n341 = 1) ∧ (1 ≤ n337 → n341 = 0 ∧ isFloor (w128 n335 n336) n337 (w128 n338 n339) n340)) := h_wfloor22
  have k_n339 : w128 n338 n339 = 863554413089 := floor_val 3982441812993810200202057875456 4611686018427307051 863554413089 69820964961484917 h_wfloor22 (show w128 n335 n336 = 3982441812993810200202057875456 by rw [v_n335, v_n336]; decide) v_n337 (by decide) (by decide) (by decide) (by decide)
  intro b23
  intro n342 e_n342 l_n342 u_n342
  have v_n342 : n342 = 4611686018427307051 := by
    rw [e_n342, v_n333] <;> kernel_rfl
  refine ⟨trivial, ?_⟩
  intro n343 l_n343 u_n343
  intro t22
  intro h_wint22
  replace h_wint22 : isInt (w128 n338 n339) n343 (b2i t22) := h_wint22
  have v_n343 : n343 = 863554413089 := int_val 863554413089 h_wint22 k_n339 (by decide) (by decide)
  intro n344 e_n344 l_n344 u_n344
  have v_n344 : n344 = 9223372036854694955 := by
    rw [e_n344, v_n342] <;> kernel_rfl
  refine ⟨trivial, ?_⟩
  intro n345 l_n345 u_n345
  intro n346 l_n346 u_n346
  intro h_mul6423
  replace h_mul6423 : n345 * 18446744073709551616 + n346 = n344 * (2305843009213693952 : Int) := h_mul6423
  obtain ⟨v_n345, v_n346⟩ := split64 1152921504606836869 6917529027641081856 h_mul6423 l_n346 u_n346 (by rw [v_n344]; decide) (by decide) (by decide)
  intro n347 e_n347 l_n347 u_n347
  have v_n347 : n347 = 1152921504606836869 := by
    rw [e_n347, v_n345] <;> kernel_rfl
  refine ⟨trivial, ?_⟩
  intro n348 l_n348 u_n348
  intro n349 l_n349 u_n349
  intro h_rootWide23
  replace h_rootWide23 : ((n347 < 0 → n348 = 0 ∧ n349 = 1) ∧ (0 ≤ n347 → n349 = 0 ∧ isRoot (w128 n347 n346) n348)) := h_rootWide23
  have v_n348 : n348 = 4611686018427367690 := root_val 1152921504606836869 6917529027641081856 4611686018427367690 h_rootWide23 v_n347 v_n346 (by decide) (by decide) (by decide) l_n348 (by decide)
  refine ⟨trivial, ?_⟩
  intro n350 l_n350 u_n350
  intro n351 l_n351 u_n351
  intro h_wmul23
  replace h_wmul23 : w128 n350 n351 = n343 * (2305843009213693952 : Int) := h_wmul23
  obtain ⟨v_n350, v_n351⟩ := split64 107944301636 2305843009213693952 h_wmul23 l_n351 u_n351 (by rw [v_n343]; decide) (by decide) (by decide)
  intro n352 e_n352 l_n352 u_n352
  have v_n352 : n352 = 4611686018427367690 := by
    rw [e_n352, v_n348] <;> kernel_rfl
  refine ⟨trivial, ?_⟩
  intro n353 l_n353 u_n353
  intro n354 l_n354 u_n354
  intro n355 l_n355 u_n355
  intro n356 l_n356 u_n356
  intro h_wfloor23
  replace h_wfloor23 : ((n352 < 1 → n353 = 0 ∧ n354 = 0 ∧ n355 = 0 ∧ n356 = 1) ∧ (1 ≤ n352 → n356 = 0 ∧ isFloor (w128 n350 n351) n352 (w128 n353 n354) n355)) := h_wfloor23
  have k_n354 : w128 n353 n354 = 431777206544 := floor_val 1991220906496905100101028937728 4611686018427367690 431777206544 2314570953666774368 h_wfloor23 (show w128 n350 n351 = 1991220906496905100101028937728 by rw [v_n350, v_n351]; decide) v_n352 (by decide) (by decide) (by decide) (by decide)
  intro b24
  intro n357 e_n357 l_n357 u_n357
  have v_n357 : n357 = 4611686018427367690 := by
    rw [e_n357, v_n348] <;> kernel_rfl
  refine ⟨trivial, ?_⟩
  intro n358 l_n358 u_n358
  intro t23
  intro h_wint23
  replace h_wint23 : isInt (w128 n353 n354) n358 (b2i t23) := h_wint23
  have v_n358 : n358 = 431777206544 := int_val 431777206544 h_wint23 k_n354 (by decide) (by decide)
  intro n359 e_n359 l_n359 u_n359
  have v_n359 : n359 = 9223372036854755594 := by
    rw [e_n359, v_n357] <;> kernel_rfl
  refine ⟨trivial, ?_⟩
  intro n360 l_n360 u_n360
  intro n361 l_n361 u_n361
  intro h_mul6424
  replace h_mul6424 : n360 * 18446744073709551616 + n361 = n359 * (2305843009213693952 : Int) := h_mul6424
  obtain ⟨v_n360, v_n361⟩ := split64 1152921504606844449 4611686018427387904 h_mul6424 l_n361 u_n361 (by rw [v_n359]; decide) (by decide) (by decide)
  intro n362 e_n362 l_n362 u_n362
  have v_n362 : n362 = 1152921504606844449 := by
    rw [e_n362, v_n360] <;> kernel_rfl
  refine ⟨trivial, ?_⟩
  intro n363 l_n363 u_n363
  intro n364 l_n364 u_n364
  intro h_rootWide24
  replace h_rootWide24 : ((n362 < 0 → n363 = 0 ∧ n364 = 1) ∧ (0 ≤ n362 → n364 = 0 ∧ isRoot (w128 n362 n361) n363)) := h_rootWide24
  have v_n363 : n363 = 4611686018427382850 := root_val 1152921504606844449 4611686018427387904 4611686018427382850 h_rootWide24 v_n362 v_n361 (by decide) (by decide) (by decide) l_n363 (by decide)
  refine ⟨trivial, ?_⟩
  intro n365 l_n365 u_n365
  intro n366 l_n366 u_n366
  intro h_wmul24
  replace h_wmul24 : w128 n365 n366 = n358 * (2305843009213693952 : Int) := h_wmul24
  obtain ⟨v_n365, v_n366⟩ := split64 53972150818 0 h_wmul24 l_n366 u_n366 (by rw [v_n358]; decide) (by decide) (by decide)
  intro n367 e_n367 l_n367 u_n367
  have v_n367 : n367 = 4611686018427382850 := by
    rw [e_n367, v_n363] <;> kernel_rfl
  refine ⟨trivial, ?_⟩
  intro n368 l_n368 u_n368
  intro n369 l_n369 u_n369
  intro n370 l_n370 u_n370
  intro n371 l_n371 u_n371
  intro h_wfloor24
  replace h_wfloor24 : ((n367 < 1 → n368 = 0 ∧ n369 = 0 ∧ n370 = 0 ∧ n371 = 1) ∧ (1 ≤ n367 → n371 = 0 ∧ isFloor (w128 n365 n366) n367 (w128 n368 n369) n370)) := h_wfloor24
  have k_n369 : w128 n368 n369 = 215888603272 := floor_val 995610453247299628545907621888 4611686018427382850 215888603272 1091101000936688 h_wfloor24 (show w128 n365 n366 = 995610453247299628545907621888 by rw [v_n365, v_n366]; decide) v_n367 (by decide) (by decide) (by decide) (by decide)
  intro b25
  intro n372 e_n372 l_n372 u_n372
  have v_n372 : n372 = 4611686018427382850 := by
    rw [e_n372, v_n363] <;> kernel_rfl
  refine ⟨trivial, ?_⟩
  intro n373 l_n373 u_n373
  intro t24
  intro h_wint24
  replace h_wint24 : isInt (w128 n368 n369) n373 (b2i t24) := h_wint24
  have v_n373 : n373 = 215888603272 := int_val 215888603272 h_wint24 k_n369 (by decide) (by decide)
  intro n374 e_n374 l_n374 u_n374
  have v_n374 : n374 = 9223372036854770754 := by
    rw [e_n374, v_n372] <;> kernel_rfl
  refine ⟨trivial, ?_⟩
  intro n375 l_n375 u_n375
  intro n376 l_n376 u_n376
  intro h_mul6425
  replace h_mul6425 : n375 * 18446744073709551616 + n376 = n374 * (2305843009213693952 : Int) := h_mul6425
  obtain ⟨v_n375, v_n376⟩ := split64 1152921504606846344 4611686018427387904 h_mul6425 l_n376 u_n376 (by rw [v_n374]; decide) (by decide) (by decide)
  intro n377 e_n377 l_n377 u_n377
  have v_n377 : n377 = 1152921504606846344 := by
    rw [e_n377, v_n375] <;> kernel_rfl
  refine ⟨trivial, ?_⟩
  intro n378 l_n378 u_n378
  intro n379 l_n379 u_n379
  intro h_rootWide25
  replace h_rootWide25 : ((n377 < 0 → n378 = 0 ∧ n379 = 1) ∧ (0 ≤ n377 → n379 = 0 ∧ isRoot (w128 n377 n376) n378)) := h_rootWide25
  have v_n378 : n378 = 4611686018427386640 := root_val 1152921504606846344 4611686018427387904 4611686018427386640 h_rootWide25 v_n377 v_n376 (by decide) (by decide) (by decide) l_n378 (by decide)
  refine ⟨trivial, ?_⟩
  intro n380 l_n380 u_n380
  intro n381 l_n381 u_n381
  intro h_wmul25
  replace h_wmul25 : w128 n380 n381 = n373 * (2305843009213693952 : Int) := h_wmul25
  obtain ⟨v_n380, v_n381⟩ := split64 26986075409 0 h_wmul25 l_n381 u_n381 (by rw [v_n373]; decide) (by decide) (by decide)
  intro n382 e_n382 l_n382 u_n382
  have v_n382 : n382 = 4611686018427386640 := by
    rw [e_n382, v_n378] <;> kernel_rfl
  refine ⟨trivial, ?_⟩
  intro n383 l_n383 u_n383
  intro n384 l_n384 u_n384
  intro n385 l_n385 u_n385
  intro n386 l_n386 u_n386
  intro h_wfloor25
  replace h_wfloor25 : ((n382 < 1 → n383 = 0 ∧ n384 = 0 ∧ n385 = 0 ∧ n386 = 1) ∧ (1 ≤ n382 → n386 = 0 ∧ isFloor (w128 n380 n381) n382 (w128 n383 n384) n385)) := h_wfloor25
  have k_n384 : w128 n383 n384 = 107944301636 := floor_val 497805226623649814272953810944 4611686018427386640 107944301636 136441597267904 h_wfloor25 (show w128 n380 n381 = 497805226623649814272953810944 by rw [v_n380, v_n381]; decide) v_n382 (by decide) (by decide) (by decide) (by decide)
  intro b26
  intro n387 e_n387 l_n387 u_n387
  have v_n387 : n387 = 4611686018427386640 := by
    rw [e_n387, v_n378] <;> kernel_rfl
  refine ⟨trivial, ?_⟩
  intro n388 l_n388 u_n388
  intro t25
  intro h_wint25
  replace h_wint25 : isInt (w128 n383 n384) n388 (b2i t25) := h_wint25
  have v_n388 : n388 = 107944301636 := int_val 107944301636 h_wint25 k_n384 (by decide) (by decide)
  intro n389 e_n389 l_n389 u_n389
  have v_n389 : n389 = 9223372036854774544 := by
    rw [e_n389, v_n387] <;> kernel_rfl
  refine ⟨trivial, ?_⟩
  intro n390 l_n390 u_n390
  intro n391 l_n391 u_n391
  intro h_mul6426
  replace h_mul6426 : n390 * 18446744073709551616 + n391 = n389 * (2305843009213693952 : Int) := h_mul6426
  obtain ⟨v_n390, v_n391⟩ := split64 1152921504606846818 0 h_mul6426 l_n391 u_n391 (by rw [v_n389]; decide) (by decide) (by decide)
  intro n392 e_n392 l_n392 u_n392
  have v_n392 : n392 = 1152921504606846818 := by
    rw [e_n392, v_n390] <;> kernel_rfl
  refine ⟨trivial, ?_⟩
  intro n393 l_n393 u_n393
  intro n394 l_n394 u_n394
  intro h_rootWide26
  replace h_rootWide26 : ((n392 < 0 → n393 = 0 ∧ n394 = 1) ∧ (0 ≤ n392 → n394 = 0 ∧ isRoot (w128 n392 n391) n393)) := h_rootWide26
  have v_n393 : n393 = 4611686018427387587 := root_val 1152921504606846818 0 4611686018427387587 h_rootWide26 v_n392 v_n391 (by decide) (by decide) (by decide) l_n393 (by decide)
  refine ⟨trivial, ?_⟩
  intro n395 l_n395 u_n395
  intro n396 l_n396 u_n396
  intro h_wmul26
  replace h_wmul26 : w128 n395 n396 = n388 * (2305843009213693952 : Int) := h_wmul26
  obtain ⟨v_n395, v_n396⟩ := split64 13493037704 9223372036854775808 h_wmul26 l_n396 u_n396 (by rw [v_n388]; decide) (by decide) (by decide)
  intro n397 e_n397 l_n397 u_n397
  have v_n397 : n397 = 4611686018427387587 := by
    rw [e_n397, v_n393] <;> kernel_rfl
  refine ⟨trivial, ?_⟩
  intro n398 l_n398 u_n398
  intro n399 l_n399 u_n399
  intro n400 l_n400 u_n400
  intro n401 l_n401 u_n401
  intro h_wfloor26
  replace h_wfloor26 : ((n397 < 1 → n398 = 0 ∧ n399 = 0 ∧ n400 = 0 ∧ n401 = 1) ∧ (1 ≤ n397 → n401 = 0 ∧ isFloor (w128 n395 n396) n397 (w128 n398 n399) n400)) := h_wfloor26
  have k_n399 : w128 n398 n399 = 53972150818 := floor_val 248902613311824907136476905472 4611686018427387587 53972150818 17109171809306 h_wfloor26 (show w128 n395 n396 = 248902613311824907136476905472 by rw [v_n395, v_n396]; decide) v_n397 (by decide) (by decide) (by decide) (by decide)
  intro b27
  intro n402 e_n402 l_n402 u_n402
  have v_n402 : n402 = 4611686018427387587 := by
    rw [e_n402, v_n393] <;> kernel_rfl
  refine ⟨trivial, ?_⟩
  intro n403 l_n403 u_n403
  intro t26
  intro h_wint26
  replace h_wint26 : isInt (w128 n398 n399) n403 (b2i t26) := h_wint26
  have v_n403 : n403 = 53972150818 := int_val 53972150818 h_wint26 k_n399 (by decide) (by decide)
  intro n404 e_n404 l_n404 u_n404
  have v_n404 : n404 = 9223372036854775491 := by
    rw [e_n404, v_n402] <;> kernel_rfl
  refine ⟨trivial, ?_⟩
  intro n405 l_n405 u_n405
  intro n406 l_n406 u_n406
  intro h_mul6427
  replace h_mul6427 : n405 * 18446744073709551616 + n406 = n404 * (2305843009213693952 : Int) := h_mul6427
  obtain ⟨v_n405, v_n406⟩ := split64 1152921504606846936 6917529027641081856 h_mul6427 l_n406 u_n406 (by rw [v_n404]; decide) (by decide) (by decide)
  intro n407 e_n407 l_n407 u_n407
  have v_n407 : n407 = 1152921504606846936 := by
    rw [e_n407, v_n405] <;> kernel_rfl
  refine ⟨trivial, ?_⟩
  intro n408 l_n408 u_n408
  intro n409 l_n409 u_n409
  intro h_rootWide27
  replace h_rootWide27 : ((n407 < 0 → n408 = 0 ∧ n409 = 1) ∧ (0 ≤ n407 → n409 = 0 ∧ isRoot (w128 n407 n406) n408)) := h_rootWide27
  have v_n408 : n408 = 4611686018427387824 := root_val 1152921504606846936 6917529027641081856 4611686018427387824 h_rootWide27 v_n407 v_n406 (by decide) (by decide) (by decide) l_n408 (by decide)
  refine ⟨trivial, ?_⟩
  intro n410 l_n410 u_n410
  intro n411 l_n411 u_n411
  intro h_wmul27
  replace h_wmul27 : w128 n410 n411 = n403 * (2305843009213693952 : Int) := h_wmul27
  obtain ⟨v_n410, v_n411⟩ := split64 6746518852 4611686018427387904 h_wmul27 l_n411 u_n411 (by rw [v_n403]; decide) (by decide) (by decide)
  intro n412 e_n412 l_n412 u_n412
  have v_n412 : n412 = 4611686018427387824 := by
    rw [e_n412, v_n408] <;> kernel_rfl
  refine ⟨trivial, ?_⟩
  intro n413 l_n413 u_n413
  intro n414 l_n414 u_n414
  intro n415 l_n415 u_n415
  intro n416 l_n416 u_n416
  intro h_wfloor27
  replace h_wfloor27 : ((n412 < 1 → n413 = 0 ∧ n414 = 0 ∧ n415 = 0 ∧ n416 = 1) ∧ (1 ≤ n412 → n416 = 0 ∧ isFloor (w128 n410 n411) n412 (w128 n413 n414) n415)) := h_wfloor27
  have k_n414 : w128 n413 n414 = 26986075409 := floor_val 124451306655912453568238452736 4611686018427387824 26986075409 2158886032720 h_wfloor27 (show w128 n410 n411 = 124451306655912453568238452736 by rw [v_n410, v_n411]; decide) v_n412 (by decide) (by decide) (by decide) (by decide)
  intro b28
  intro n417 e_n417 l_n417 u_n417
  have v_n417 : n417 = 4611686018427387824 := by
    rw [e_n417, v_n408] <;> kernel_rfl
  refine ⟨trivial, ?_⟩
  intro n418 l_n418 u_n418
  intro t27
  intro h_wint27
  replace h_wint27 : isInt (w128 n413 n414) n418 (b2i t27) := h_wint27
  have v_n418 : n418 = 26986075409 := int_val 26986075409 h_wint27 k_n414 (by decide) (by decide)
  intro n419 e_n419 l_n419 u_n419
  have v_n419 : n419 = 9223372036854775728 := by
    rw [e_n419, v_n417] <;> kernel_rfl
  refine ⟨trivial, ?_⟩
  intro n420 l_n420 u_n420
  intro n421 l_n421 u_n421
  intro h_mul6428
  replace h_mul6428 : n420 * 18446744073709551616 + n421 = n419 * (2305843009213693952 : Int) := h_mul6428
  obtain ⟨v_n420, v_n421⟩ := split64 1152921504606846966 0 h_mul6428 l_n421 u_n421 (by rw [v_n419]; decide) (by decide) (by decide)
  intro n422 e_n422 l_n422 u_n422
  have v_n422 : n422 = 1152921504606846966 := by
    rw [e_n422, v_n420] <;> kernel_rfl
  refine ⟨trivial, ?_⟩
  intro n423 l_n423 u_n423
  intro n424 l_n424 u_n424
  intro h_rootWide28
  replace h_rootWide28 : ((n422 < 0 → n423 = 0 ∧ n424 = 1) ∧ (0 ≤ n422 → n424 = 0 ∧ isRoot (w128 n422 n421) n423)) := h_rootWide28
  have v_n423 : n423 = 4611686018427387883 := root_val 1152921504606846966 0 4611686018427387883 h_rootWide28 v_n422 v_n421 (by decide) (by decide) (by decide) l_n423 (by decide)
  refine ⟨trivial, ?_⟩
  intro n425 l_n425 u_n425
  intro n426 l_n426 u_n426
  intro h_wmul28
  replace h_wmul28 : w128 n425 n426 = n418 * (2305843009213693952 : Int) := h_wmul28
  obtain ⟨v_n425, v_n426⟩ := split64 3373259426 2305843009213693952 h_wmul28 l_n426 u_n426 (by rw [v_n418]; decide) (by decide) (by decide)
  intro n427 e_n427 l_n427 u_n427
  have v_n427 : n427 = 4611686018427387883 := by
    rw [e_n427, v_n423] <;> kernel_rfl
  refine ⟨trivial, ?_⟩
  intro n428 l_n428 u_n428
  intro n429 l_n429 u_n429
  intro n430 l_n430 u_n430
  intro n431 l_n431 u_n431
  intro h_wfloor28
  replace h_wfloor28 : ((n427 < 1 → n428 = 0 ∧ n429 = 0 ∧ n430 = 0 ∧ n431 = 1) ∧ (1 ≤ n427 → n431 = 0 ∧ isFloor (w128 n425 n426) n427 (w128 n428 n429) n430)) := h_wfloor28
  have k_n429 : w128 n428 n429 = 13493037704 := floor_val 62225653327956226784119226368 4611686018427387883 13493037704 2305843292567485736 h_wfloor28 (show w128 n425 n426 = 62225653327956226784119226368 by rw [v_n425, v_n426]; decide) v_n427 (by decide) (by decide) (by decide) (by decide)
  intro b29
  intro n432 e_n432 l_n432 u_n432
  have v_n432 : n432 = 4611686018427387883 := by
    rw [e_n432, v_n423] <;> kernel_rfl
  refine ⟨trivial, ?_⟩
  intro n433 l_n433 u_n433
  intro t28
  intro h_wint28
  replace h_wint28 : isInt (w128 n428 n429) n433 (b2i t28) := h_wint28
  have v_n433 : n433 = 13493037704 := int_val 13493037704 h_wint28 k_n429 (by decide) (by decide)
  intro n434 e_n434 l_n434 u_n434
  have v_n434 : n434 = 9223372036854775787 := by
    rw [e_n434, v_n432] <;> kernel_rfl
  refine ⟨trivial, ?_⟩
  intro n435 l_n435 u_n435
  intro n436 l_n436 u_n436
  intro h_mul6429
  replace h_mul6429 : n435 * 18446744073709551616 + n436 = n434 * (2305843009213693952 : Int) := h_mul6429
  obtain ⟨v_n435, v_n436⟩ := split64 1152921504606846973 6917529027641081856 h_mul6429 l_n436 u_n436 (by rw [v_n434]; decide) (by decide) (by decide)
  intro n437 e_n437 l_n437 u_n437
  have v_n437 : n437 = 1152921504606846973 := by
    rw [e_n437, v_n435] <;> kernel_rfl
  refine ⟨trivial, ?_⟩
  intro n438 l_n438 u_n438
  intro n439 l_n439 u_n439
  intro h_rootWide29
  replace h_rootWide29 : ((n437 < 0 → n438 = 0 ∧ n439 = 1) ∧ (0 ≤ n437 → n439 = 0 ∧ isRoot (w128 n437 n436) n438)) := h_rootWide29
  have v_n438 : n438 = 4611686018427387898 := root_val 1152921504606846973 6917529027641081856 4611686018427387898 h_rootWide29 v_n437 v_n436 (by decide) (by decide) (by decide) l_n438 (by decide)
  refine ⟨trivial, ?_⟩
  intro n440 l_n440 u_n440
  intro n441 l_n441 u_n441
  intro h_wmul29
  replace h_wmul29 : w128 n440 n441 = n433 * (2305843009213693952 : Int) := h_wmul29
  obtain ⟨v_n440, v_n441⟩ := split64 1686629713 0 h_wmul29 l_n441 u_n441 (by rw [v_n433]; decide) (by decide) (by decide)
  intro n442 e_n442 l_n442 u_n442
  have v_n442 : n442 = 4611686018427387898 := by
    rw [e_n442, v_n438] <;> kernel_rfl
  refine ⟨trivial, ?_⟩
  intro n443 l_n443 u_n443
  intro n444 l_n444 u_n444
  intro n445 l_n445 u_n445
  intro n446 l_n446 u_n446
  intro h_wfloor29
  replace h_wfloor29 : ((n442 < 1 → n443 = 0 ∧ n444 = 0 ∧ n445 = 0 ∧ n446 = 1) ∧ (1 ≤ n442 → n446 = 0 ∧ isFloor (w128 n440 n441) n442 (w128 n443 n444) n445)) := h_wfloor29
  have k_n444 : w128 n443 n444 = 6746518852 := floor_val 31112826662825191887452766208 4611686018427387898 6746518852 40479113112 h_wfloor29 (show w128 n440 n441 = 31112826662825191887452766208 by rw [v_n440, v_n441]; decide) v_n442 (by decide) (by decide) (by decide) (by decide)
  intro b30
  intro n447 e_n447 l_n447 u_n447
  have v_n447 : n447 = 4611686018427387898 := by
    rw [e_n447, v_n438] <;> kernel_rfl
  refine ⟨trivial, ?_⟩
  intro n448 l_n448 u_n448
  intro t29
  intro h_wint29
  replace h_wint29 : isInt (w128 n443 n444) n448 (b2i t29) := h_wint29
  have v_n448 : n448 = 6746518852 := int_val 6746518852 h_wint29 k_n444 (by decide) (by decide)
  intro n449 e_n449 l_n449 u_n449
  have v_n449 : n449 = 9223372036854775802 := by
    rw [e_n449, v_n447] <;> kernel_rfl
  refine ⟨trivial, ?_⟩
  intro n450 l_n450 u_n450
  intro n451 l_n451 u_n451
  intro h_mul6430
  replace h_mul6430 : n450 * 18446744073709551616 + n451 = n449 * (2305843009213693952 : Int) := h_mul6430
  obtain ⟨v_n450, v_n451⟩ := split64 1152921504606846975 4611686018427387904 h_mul6430 l_n451 u_n451 (by rw [v_n449]; decide) (by decide) (by decide)
  intro n452 e_n452 l_n452 u_n452
  have v_n452 : n452 = 1152921504606846975 := by
    rw [e_n452, v_n450] <;> kernel_rfl
  refine ⟨trivial, ?_⟩
  intro n453 l_n453 u_n453
  intro n454 l_n454 u_n454
  intro h_rootWide30
  replace h_rootWide30 : ((n452 < 0 → n453 = 0 ∧ n454 = 1) ∧ (0 ≤ n452 → n454 = 0 ∧ isRoot (w128 n452 n451) n453)) := h_rootWide30
  have v_n453 : n453 = 4611686018427387902 := root_val 1152921504606846975 4611686018427387904 4611686018427387902 h_rootWide30 v_n452 v_n451 (by decide) (by decide) (by decide) l_n453 (by decide)
  refine ⟨trivial, ?_⟩
  intro n455 l_n455 u_n455
  intro n456 l_n456 u_n456
  intro h_wmul30
  replace h_wmul30 : w128 n455 n456 = n448 * (2305843009213693952 : Int) := h_wmul30
  obtain ⟨v_n455, v_n456⟩ := split64 843314856 9223372036854775808 h_wmul30 l_n456 u_n456 (by rw [v_n448]; decide) (by decide) (by decide)
  intro n457 e_n457 l_n457 u_n457
  have v_n457 : n457 = 4611686018427387902 := by
    rw [e_n457, v_n453] <;> kernel_rfl
  refine ⟨trivial, ?_⟩
  intro n458 l_n458 u_n458
  intro n459 l_n459 u_n459
  intro n460 l_n460 u_n460
  intro n461 l_n461 u_n461
  intro h_wfloor30
  replace h_wfloor30 : ((n457 < 1 → n458 = 0 ∧ n459 = 0 ∧ n460 = 0 ∧ n461 = 1) ∧ (1 ≤ n457 → n461 = 0 ∧ isFloor (w128 n455 n456) n457 (w128 n458 n459) n460)) := h_wfloor30
  have k_n459 : w128 n458 n459 = 3373259426 := floor_val 15556413331412595943726383104 4611686018427387902 3373259426 6746518852 h_wfloor30 (show w128 n455 n456 = 15556413331412595943726383104 by rw [v_n455, v_n456]; decide) v_n457 (by decide) (by decide) (by decide) (by decide)
  intro b31
  intro n462 e_n462 l_n462 u_n462
  have v_n462 : n462 = 4611686018427387902 := by
    rw [e_n462, v_n453] <;> kernel_rfl
  refine ⟨trivial, ?_⟩
  intro n463 l_n463 u_n463
  intro t30
  intro h_wint30
  replace h_wint30 : isInt (w128 n458 n459) n463 (b2i t30) := h_wint30
  have v_n463 : n463 = 3373259426 := int_val 3373259426 h_wint30 k_n459 (by decide) (by decide)
  intro n464 e_n464 l_n464 u_n464
  have v_n464 : n464 = 9223372036854775806 := by
    rw [e_n464, v_n462] <;> kernel_rfl
  refine ⟨trivial, ?_⟩
  intro n465 l_n465 u_n465
  intro n466 l_n466 u_n466
  intro h_mul6431
  replace h_mul6431 : n465 * 18446744073709551616 + n466 = n464 * (2305843009213693952 : Int) := h_mul6431
  obtain ⟨v_n465, v_n466⟩ := split64 1152921504606846975 13835058055282163712 h_mul6431 l_n466 u_n466 (by rw [v_n464]; decide) (by decide) (by decide)
  intro n467 e_n467 l_n467 u_n467
  have v_n467 : n467 = 1152921504606846975 := by
    rw [e_n467, v_n465] <;> kernel_rfl
  refine ⟨trivial, ?_⟩
  intro n468 l_n468 u_n468
  intro n469 l_n469 u_n469
  intro h_rootWide31
  replace h_rootWide31 : ((n467 < 0 → n468 = 0 ∧ n469 = 1) ∧ (0 ≤ n467 → n469 = 0 ∧ isRoot (w128 n467 n466) n468)) := h_rootWide31
  have v_n468 : n468 = 4611686018427387903 := root_val 1152921504606846975 13835058055282163712 4611686018427387903 h_rootWide31 v_n467 v_n466 (by decide) (by decide) (by decide) l_n468 (by decide)
  refine ⟨trivial, ?_⟩
  intro n470 l_n470 u_n470
  intro n471 l_n471 u_n471
  intro h_wmul31
  replace h_wmul31 : w128 n470 n471 = n463 * (2305843009213693952 : Int) := h_wmul31
  obtain ⟨v_n470, v_n471⟩ := split64 421657428 4611686018427387904 h_wmul31 l_n471 u_n471 (by rw [v_n463]; decide) (by decide) (by decide)
  intro n472 e_n472 l_n472 u_n472
  have v_n472 : n472 = 4611686018427387903 := by
    rw [e_n472, v_n468] <;> kernel_rfl
  refine ⟨trivial, ?_⟩
  intro n473 l_n473 u_n473
  intro n474 l_n474 u_n474
  intro n475 l_n475 u_n475
  intro n476 l_n476 u_n476
  intro h_wfloor31
  replace h_wfloor31 : ((n472 < 1 → n473 = 0 ∧ n474 = 0 ∧ n475 = 0 ∧ n476 = 1) ∧ (1 ≤ n472 → n476 = 0 ∧ isFloor (w128 n470 n471) n472 (w128 n473 n474) n475)) := h_wfloor31
  have k_n474 : w128 n473 n474 = 1686629713 := floor_val 7778206665706297971863191552 4611686018427387903 1686629713 1686629713 h_wfloor31 (show w128 n470 n471 = 7778206665706297971863191552 by rw [v_n470, v_n471]; decide) v_n472 (by decide) (by decide) (by decide) (by decide)
  intro b32
  intro n477 e_n477 l_n477 u_n477
  have v_n477 : n477 = 4611686018427387903 := by
    rw [e_n477, v_n468] <;> kernel_rfl
  refine ⟨trivial, ?_⟩
  intro n478 l_n478 u_n478
  intro t31
  intro h_wint31
  replace h_wint31 : isInt (w128 n473 n474) n478 (b2i t31) := h_wint31
  have v_n478 : n478 = 1686629713 := int_val 1686629713 h_wint31 k_n474 (by decide) (by decide)
  intro n479 e_n479 l_n479 u_n479
  have v_n479 : n479 = 9223372036854775807 := by
    rw [e_n479, v_n477] <;> kernel_rfl
  refine ⟨trivial, ?_⟩
  intro n480 l_n480 u_n480
  intro n481 l_n481 u_n481
  intro h_mul6432
  replace h_mul6432 : n480 * 18446744073709551616 + n481 = n479 * (2305843009213693952 : Int) := h_mul6432
  obtain ⟨v_n480, v_n481⟩ := split64 1152921504606846975 16140901064495857664 h_mul6432 l_n481 u_n481 (by rw [v_n479]; decide) (by decide) (by decide)
  intro n482 e_n482 l_n482 u_n482
  have v_n482 : n482 = 1152921504606846975 := by
    rw [e_n482, v_n480] <;> kernel_rfl
  refine ⟨trivial, ?_⟩
  intro n483 l_n483 u_n483
  intro n484 l_n484 u_n484
  intro h_rootWide32
  replace h_rootWide32 : ((n482 < 0 → n483 = 0 ∧ n484 = 1) ∧ (0 ≤ n482 → n484 = 0 ∧ isRoot (w128 n482 n481) n483)) := h_rootWide32
  have v_n483 : n483 = 4611686018427387903 := root_val 1152921504606846975 16140901064495857664 4611686018427387903 h_rootWide32 v_n482 v_n481 (by decide) (by decide) (by decide) l_n483 (by decide)
  refine ⟨trivial, ?_⟩
  intro n485 l_n485 u_n485
  intro n486 l_n486 u_n486
  intro h_wmul32
  replace h_wmul32 : w128 n485 n486 = n478 * (2305843009213693952 : Int) := h_wmul32
  obtain ⟨v_n485, v_n486⟩ := split64 210828714 2305843009213693952 h_wmul32 l_n486 u_n486 (by rw [v_n478]; decide) (by decide) (by decide)
  intro n487 e_n487 l_n487 u_n487
  have v_n487 : n487 = 4611686018427387903 := by
    rw [e_n487, v_n483] <;> kernel_rfl
  refine ⟨trivial, ?_⟩
  intro n488 l_n488 u_n488
  intro n489 l_n489 u_n489
  intro n490 l_n490 u_n490
  intro n491 l_n491 u_n491
  intro h_wfloor32
  replace h_wfloor32 : ((n487 < 1 → n488 = 0 ∧ n489 = 0 ∧ n490 = 0 ∧ n491 = 1) ∧ (1 ≤ n487 → n491 = 0 ∧ isFloor (w128 n485 n486) n487 (w128 n488 n489) n490)) := h_wfloor32
  have k_n489 : w128 n488 n489 = 843314856 := floor_val 3889103332853148985931595776 4611686018427387903 843314856 2305843010057008808 h_wfloor32 (show w128 n485 n486 = 3889103332853148985931595776 by rw [v_n485, v_n486]; decide) v_n487 (by decide) (by decide) (by decide) (by decide)
  intro b33
  intro n492 e_n492 l_n492 u_n492
  have v_n492 : n492 = 4611686018427387903 := by
    rw [e_n492, v_n483] <;> kernel_rfl
  refine ⟨trivial, ?_⟩
  intro n493 l_n493 u_n493
  intro t32
  intro h_wint32
  replace h_wint32 : isInt (w128 n488 n489) n493 (b2i t32) := h_wint32
  have v_n493 : n493 = 843314856 := int_val 843314856 h_wint32 k_n489 (by decide) (by decide)
  intro n494 e_n494 l_n494 u_n494
  have v_n494 : n494 = 9223372036854775807 := by
    rw [e_n494, v_n492] <;> kernel_rfl
  refine ⟨trivial, ?_⟩
  intro n495 l_n495 u_n495
  intro n496 l_n496 u_n496
  intro h_mul6433
  replace h_mul6433 : n495 * 18446744073709551616 + n496 = n494 * (2305843009213693952 : Int) := h_mul6433
  obtain ⟨v_n495, v_n496⟩ := split64 1152921504606846975 16140901064495857664 h_mul6433 l_n496 u_n496 (by rw [v_n494]; decide) (by decide) (by decide)
  intro n497 e_n497 l_n497 u_n497
  have v_n497 : n497 = 1152921504606846975 := by
    rw [e_n497, v_n495] <;> kernel_rfl
  refine ⟨trivial, ?_⟩
  intro n498 l_n498 u_n498
  intro n499 l_n499 u_n499
  intro h_rootWide33
  replace h_rootWide33 : ((n497 < 0 → n498 = 0 ∧ n499 = 1) ∧ (0 ≤ n497 → n499 = 0 ∧ isRoot (w128 n497 n496) n498)) := h_rootWide33
  have v_n498 : n498 = 4611686018427387903 := root_val 1152921504606846975 16140901064495857664 4611686018427387903 h_rootWide33 v_n497 v_n496 (by decide) (by decide) (by decide) l_n498 (by decide)
  refine ⟨trivial, ?_⟩
  intro n500 l_n500 u_n500
  intro n501 l_n501 u_n501
  intro h_wmul33
  replace h_wmul33 : w128 n500 n501 = n493 * (2305843009213693952 : Int) := h_wmul33
  obtain ⟨v_n500, v_n501⟩ := split64 105414357 0 h_wmul33 l_n501 u_n501 (by rw [v_n493]; decide) (by decide) (by decide)
  intro n502 e_n502 l_n502 u_n502
  have v_n502 : n502 = 4611686018427387903 := by
    rw [e_n502, v_n498] <;> kernel_rfl
  refine ⟨trivial, ?_⟩
  intro n503 l_n503 u_n503
  intro n504 l_n504 u_n504
  intro n505 l_n505 u_n505
  intro n506 l_n506 u_n506
  intro h_wfloor33
  replace h_wfloor33 : ((n502 < 1 → n503 = 0 ∧ n504 = 0 ∧ n505 = 0 ∧ n506 = 1) ∧ (1 ≤ n502 → n506 = 0 ∧ isFloor (w128 n500 n501) n502 (w128 n503 n504) n505)) := h_wfloor33
  have k_n504 : w128 n503 n504 = 421657428 := floor_val 1944551665273652988358950912 4611686018427387903 421657428 421657428 h_wfloor33 (show w128 n500 n501 = 1944551665273652988358950912 by rw [v_n500, v_n501]; decide) v_n502 (by decide) (by decide) (by decide) (by decide)
  intro b34
  intro n507 e_n507 l_n507 u_n507
  have v_n507 : n507 = 4611686018427387903 := by
    rw [e_n507, v_n498] <;> kernel_rfl
  refine ⟨trivial, ?_⟩
  intro n508 l_n508 u_n508
  intro t33
  intro h_wint33
  replace h_wint33 : isInt (w128 n503 n504) n508 (b2i t33) := h_wint33
  have v_n508 : n508 = 421657428 := int_val 421657428 h_wint33 k_n504 (by decide) (by decide)
  intro n509 e_n509 l_n509 u_n509
  have v_n509 : n509 = 9223372036854775807 := by
    rw [e_n509, v_n507] <;> kernel_rfl
  refine ⟨trivial, ?_⟩
  intro n510 l_n510 u_n510
  intro n511 l_n511 u_n511
  intro h_mul6434
  replace h_mul6434 : n510 * 18446744073709551616 + n511 = n509 * (2305843009213693952 : Int) := h_mul6434
  obtain ⟨v_n510, v_n511⟩ := split64 1152921504606846975 16140901064495857664 h_mul6434 l_n511 u_n511 (by rw [v_n509]; decide) (by decide) (by decide)
  intro n512 e_n512 l_n512 u_n512
  have v_n512 : n512 = 1152921504606846975 := by
    rw [e_n512, v_n510] <;> kernel_rfl
  refine ⟨trivial, ?_⟩
  intro n513 l_n513 u_n513
  intro n514 l_n514 u_n514
  intro h_rootWide34
  replace h_rootWide34 : ((n512 < 0 → n513 = 0 ∧ n514 = 1) ∧ (0 ≤ n512 → n514 = 0 ∧ isRoot (w128 n512 n511) n513)) := h_rootWide34
  have v_n513 : n513 = 4611686018427387903 := root_val 1152921504606846975 16140901064495857664 4611686018427387903 h_rootWide34 v_n512 v_n511 (by decide) (by decide) (by decide) l_n513 (by decide)
  refine ⟨trivial, ?_⟩
  intro n515 l_n515 u_n515
  intro n516 l_n516 u_n516
  intro h_wmul34
  replace h_wmul34 : w128 n515 n516 = n508 * (2305843009213693952 : Int) := h_wmul34
  obtain ⟨v_n515, v_n516⟩ := split64 52707178 9223372036854775808 h_wmul34 l_n516 u_n516 (by rw [v_n508]; decide) (by decide) (by decide)
  intro n517 e_n517 l_n517 u_n517
  have v_n517 : n517 = 4611686018427387903 := by
    rw [e_n517, v_n513] <;> kernel_rfl
  refine ⟨trivial, ?_⟩
  intro n518 l_n518 u_n518
  intro n519 l_n519 u_n519
  intro n520 l_n520 u_n520
  intro n521 l_n521 u_n521
  intro h_wfloor34
  replace h_wfloor34 : ((n517 < 1 → n518 = 0 ∧ n519 = 0 ∧ n520 = 0 ∧ n521 = 1) ∧ (1 ≤ n517 → n521 = 0 ∧ isFloor (w128 n515 n516) n517 (w128 n518 n519) n520)) := h_wfloor34
  have k_n519 : w128 n518 n519 = 210828714 := floor_val 972275832636826494179475456 4611686018427387903 210828714 210828714 h_wfloor34 (show w128 n515 n516 = 972275832636826494179475456 by rw [v_n515, v_n516]; decide) v_n517 (by decide) (by decide) (by decide) (by decide)
  intro b35
  intro n522 e_n522 l_n522 u_n522
  have v_n522 : n522 = 4611686018427387903 := by
    rw [e_n522, v_n513] <;> kernel_rfl
  refine ⟨trivial, ?_⟩
  intro n523 l_n523 u_n523
  intro t34
  intro h_wint34
  replace h_wint34 : isInt (w128 n518 n519) n523 (b2i t34) := h_wint34
  have v_n523 : n523 = 210828714 := int_val 210828714 h_wint34 k_n519 (by decide) (by decide)
  intro n524 e_n524 l_n524 u_n524
  have v_n524 : n524 = 9223372036854775807 := by
    rw [e_n524, v_n522] <;> kernel_rfl
  refine ⟨trivial, ?_⟩
  intro n525 l_n525 u_n525
  intro n526 l_n526 u_n526
  intro h_mul6435
  replace h_mul6435 : n525 * 18446744073709551616 + n526 = n524 * (2305843009213693952 : Int) := h_mul6435
  obtain ⟨v_n525, v_n526⟩ := split64 1152921504606846975 16140901064495857664 h_mul6435 l_n526 u_n526 (by rw [v_n524]; decide) (by decide) (by decide)
  intro n527 e_n527 l_n527 u_n527
  have v_n527 : n527 = 1152921504606846975 := by
    rw [e_n527, v_n525] <;> kernel_rfl
  refine ⟨trivial, ?_⟩
  intro n528 l_n528 u_n528
  intro n529 l_n529 u_n529
  intro h_rootWide35
  replace h_rootWide35 : ((n527 < 0 → n528 = 0 ∧ n529 = 1) ∧ (0 ≤ n527 → n529 = 0 ∧ isRoot (w128 n527 n526) n528)) := h_rootWide35
  have v_n528 : n528 = 4611686018427387903 := root_val 1152921504606846975 16140901064495857664 4611686018427387903 h_rootWide35 v_n527 v_n526 (by decide) (by decide) (by decide) l_n528 (by decide)
  refine ⟨trivial, ?_⟩
  intro n530 l_n530 u_n530
  intro n531 l_n531 u_n531
  intro h_wmul35
  replace h_wmul35 : w128 n530 n531 = n523 * (2305843009213693952 : Int) := h_wmul35
  obtain ⟨v_n530, v_n531⟩ := split64 26353589 4611686018427387904 h_wmul35 l_n531 u_n531 (by rw [v_n523]; decide) (by decide) (by decide)
  intro n532 e_n532 l_n532 u_n532
  have v_n532 : n532 = 4611686018427387903 := by
    rw [e_n532, v_n528] <;> kernel_rfl
  refine ⟨trivial, ?_⟩
  intro n533 l_n533 u_n533
  intro n534 l_n534 u_n534
  intro n535 l_n535 u_n535
  intro n536 l_n536 u_n536
  intro h_wfloor35
  replace h_wfloor35 : ((n532 < 1 → n533 = 0 ∧ n534 = 0 ∧ n535 = 0 ∧ n536 = 1) ∧ (1 ≤ n532 → n536 = 0 ∧ isFloor (w128 n530 n531) n532 (w128 n533 n534) n535)) := h_wfloor35
  have k_n534 : w128 n533 n534 = 105414357 := floor_val 486137916318413247089737728 4611686018427387903 105414357 105414357 h_wfloor35 (show w128 n530 n531 = 486137916318413247089737728 by rw [v_n530, v_n531]; decide) v_n532 (by decide) (by decide) (by decide) (by decide)
  intro b36
  intro n537 e_n537 l_n537 u_n537
  have v_n537 : n537 = 4611686018427387903 := by
    rw [e_n537, v_n528] <;> kernel_rfl
  refine ⟨trivial, ?_⟩
  intro n538 l_n538 u_n538
  intro t35
  intro h_wint35
  replace h_wint35 : isInt (w128 n533 n534) n538 (b2i t35) := h_wint35
  have v_n538 : n538 = 105414357 := int_val 105414357 h_wint35 k_n534 (by decide) (by decide)
  intro n539 e_n539 l_n539 u_n539
  have v_n539 : n539 = 9223372036854775807 := by
    rw [e_n539, v_n537] <;> kernel_rfl
  refine ⟨trivial, ?_⟩
  intro n540 l_n540 u_n540
  intro n541 l_n541 u_n541
  intro h_mul6436
  replace h_mul6436 : n540 * 18446744073709551616 + n541 = n539 * (2305843009213693952 : Int) := h_mul6436
  obtain ⟨v_n540, v_n541⟩ := split64 1152921504606846975 16140901064495857664 h_mul6436 l_n541 u_n541 (by rw [v_n539]; decide) (by decide) (by decide)
  intro n542 e_n542 l_n542 u_n542
  have v_n542 : n542 = 1152921504606846975 := by
    rw [e_n542, v_n540] <;> kernel_rfl
  refine ⟨trivial, ?_⟩
  intro n543 l_n543 u_n543
  intro n544 l_n544 u_n544
  intro h_rootWide36
  replace h_rootWide36 : ((n542 < 0 → n543 = 0 ∧ n544 = 1) ∧ (0 ≤ n542 → n544 = 0 ∧ isRoot (w128 n542 n541) n543)) := h_rootWide36
  have v_n543 : n543 = 4611686018427387903 := root_val 1152921504606846975 16140901064495857664 4611686018427387903 h_rootWide36 v_n542 v_n541 (by decide) (by decide) (by decide) l_n543 (by decide)
  refine ⟨trivial, ?_⟩
  intro n545 l_n545 u_n545
  intro n546 l_n546 u_n546
  intro h_wmul36
  replace h_wmul36 : w128 n545 n546 = n538 * (2305843009213693952 : Int) := h_wmul36
  obtain ⟨v_n545, v_n546⟩ := split64 13176794 11529215046068469760 h_wmul36 l_n546 u_n546 (by rw [v_n538]; decide) (by decide) (by decide)
  intro n547 e_n547 l_n547 u_n547
  have v_n547 : n547 = 4611686018427387903 := by
    rw [e_n547, v_n543] <;> kernel_rfl
  refine ⟨trivial, ?_⟩
  intro n548 l_n548 u_n548
  intro n549 l_n549 u_n549
  intro n550 l_n550 u_n550
  intro n551 l_n551 u_n551
  intro h_wfloor36
  replace h_wfloor36 : ((n547 < 1 → n548 = 0 ∧ n549 = 0 ∧ n550 = 0 ∧ n551 = 1) ∧ (1 ≤ n547 → n551 = 0 ∧ isFloor (w128 n545 n546) n547 (w128 n548 n549) n550)) := h_wfloor36
  have k_n549 : w128 n548 n549 = 52707178 := floor_val 243068958159206623544868864 4611686018427387903 52707178 2305843009266401130 h_wfloor36 (show w128 n545 n546 = 243068958159206623544868864 by rw [v_n545, v_n546]; decide) v_n547 (by decide) (by decide) (by decide) (by decide)
  intro b37
  intro n552 e_n552 l_n552 u_n552
  have v_n552 : n552 = 4611686018427387903 := by
    rw [e_n552, v_n543] <;> kernel_rfl
  refine ⟨trivial, ?_⟩
  intro n553 l_n553 u_n553
  intro t36
  intro h_wint36
  replace h_wint36 : isInt (w128 n548 n549) n553 (b2i t36) := h_wint36
  have v_n553 : n553 = 52707178 := int_val 52707178 h_wint36 k_n549 (by decide) (by decide)
  intro n554 e_n554 l_n554 u_n554
  have v_n554 : n554 = 9223372036854775807 := by
    rw [e_n554, v_n552] <;> kernel_rfl
  refine ⟨trivial, ?_⟩
  intro n555 l_n555 u_n555
  intro n556 l_n556 u_n556
  intro h_mul6437
  replace h_mul6437 : n555 * 18446744073709551616 + n556 = n554 * (2305843009213693952 : Int) := h_mul6437
  obtain ⟨v_n555, v_n556⟩ := split64 1152921504606846975 16140901064495857664 h_mul6437 l_n556 u_n556 (by rw [v_n554]; decide) (by decide) (by decide)
  intro n557 e_n557 l_n557 u_n557
  have v_n557 : n557 = 1152921504606846975 := by
    rw [e_n557, v_n555] <;> kernel_rfl
  refine ⟨trivial, ?_⟩
  intro n558 l_n558 u_n558
  intro n559 l_n559 u_n559
  intro h_rootWide37
  replace h_rootWide37 : ((n557 < 0 → n558 = 0 ∧ n559 = 1) ∧ (0 ≤ n557 → n559 = 0 ∧ isRoot (w128 n557 n556) n558)) := h_rootWide37
  have v_n558 : n558 = 4611686018427387903 := root_val 1152921504606846975 16140901064495857664 4611686018427387903 h_rootWide37 v_n557 v_n556 (by decide) (by decide) (by decide) l_n558 (by decide)
  refine ⟨trivial, ?_⟩
  intro n560 l_n560 u_n560
  intro n561 l_n561 u_n561
  intro h_wmul37
  replace h_wmul37 : w128 n560 n561 = n553 * (2305843009213693952 : Int) := h_wmul37
  obtain ⟨v_n560, v_n561⟩ := split64 6588397 4611686018427387904 h_wmul37 l_n561 u_n561 (by rw [v_n553]; decide) (by decide) (by decide)
  intro n562 e_n562 l_n562 u_n562
  have v_n562 : n562 = 4611686018427387903 := by
    rw [e_n562, v_n558] <;> kernel_rfl
  refine ⟨trivial, ?_⟩
  intro n563 l_n563 u_n563
  intro n564 l_n564 u_n564
  intro n565 l_n565 u_n565
  intro n566 l_n566 u_n566
  intro h_wfloor37
  replace h_wfloor37 : ((n562 < 1 → n563 = 0 ∧ n564 = 0 ∧ n565 = 0 ∧ n566 = 1) ∧ (1 ≤ n562 → n566 = 0 ∧ isFloor (w128 n560 n561) n562 (w128 n563 n564) n565)) := h_wfloor37
  have k_n564 : w128 n563 n564 = 26353589 := floor_val 121534477926681807165587456 4611686018427387903 26353589 26353589 h_wfloor37 (show w128 n560 n561 = 121534477926681807165587456 by rw [v_n560, v_n561]; decide) v_n562 (by decide) (by decide) (by decide) (by decide)
  intro b38
  intro n567 e_n567 l_n567 u_n567
  have v_n567 : n567 = 4611686018427387903 := by
    rw [e_n567, v_n558] <;> kernel_rfl
  refine ⟨trivial, ?_⟩
  intro n568 l_n568 u_n568
  intro t37
  intro h_wint37
  replace h_wint37 : isInt (w128 n563 n564) n568 (b2i t37) := h_wint37
  have v_n568 : n568 = 26353589 := int_val 26353589 h_wint37 k_n564 (by decide) (by decide)
  intro n569 e_n569 l_n569 u_n569
  have v_n569 : n569 = 9223372036854775807 := by
    rw [e_n569, v_n567] <;> kernel_rfl
  refine ⟨trivial, ?_⟩
  intro n570 l_n570 u_n570
  intro n571 l_n571 u_n571
  intro h_mul6438
  replace h_mul6438 : n570 * 18446744073709551616 + n571 = n569 * (2305843009213693952 : Int) := h_mul6438
  obtain ⟨v_n570, v_n571⟩ := split64 1152921504606846975 16140901064495857664 h_mul6438 l_n571 u_n571 (by rw [v_n569]; decide) (by decide) (by decide)
  intro n572 e_n572 l_n572 u_n572
  have v_n572 : n572 = 1152921504606846975 := by
    rw [e_n572, v_n570] <;> kernel_rfl
  refine ⟨trivial, ?_⟩
  intro n573 l_n573 u_n573
  intro n574 l_n574 u_n574
  intro h_rootWide38
  replace h_rootWide38 : ((n572 < 0 → n573 = 0 ∧ n574 = 1) ∧ (0 ≤ n572 → n574 = 0 ∧ isRoot (w128 n572 n571) n573)) := h_rootWide38
  have v_n573 : n573 = 4611686018427387903 := root_val 1152921504606846975 16140901064495857664 4611686018427387903 h_rootWide38 v_n572 v_n571 (by decide) (by decide) (by decide) l_n573 (by decide)
  refine ⟨trivial, ?_⟩
  intro n575 l_n575 u_n575
  intro n576 l_n576 u_n576
  intro h_wmul38
  replace h_wmul38 : w128 n575 n576 = n568 * (2305843009213693952 : Int) := h_wmul38
  obtain ⟨v_n575, v_n576⟩ := split64 3294198 11529215046068469760 h_wmul38 l_n576 u_n576 (by rw [v_n568]; decide) (by decide) (by decide)
  intro n577 e_n577 l_n577 u_n577
  have v_n577 : n577 = 4611686018427387903 := by
    rw [e_n577, v_n573] <;> kernel_rfl
  refine ⟨trivial, ?_⟩
  intro n578 l_n578 u_n578
  intro n579 l_n579 u_n579
  intro n580 l_n580 u_n580
  intro n581 l_n581 u_n581
  intro h_wfloor38
  replace h_wfloor38 : ((n577 < 1 → n578 = 0 ∧ n579 = 0 ∧ n580 = 0 ∧ n581 = 1) ∧ (1 ≤ n577 → n581 = 0 ∧ isFloor (w128 n575 n576) n577 (w128 n578 n579) n580)) := h_wfloor38
  have k_n579 : w128 n578 n579 = 13176794 := floor_val 60767238963340903582793728 4611686018427387903 13176794 2305843009226870746 h_wfloor38 (show w128 n575 n576 = 60767238963340903582793728 by rw [v_n575, v_n576]; decide) v_n577 (by decide) (by decide) (by decide) (by decide)
  intro b39
  intro n582 e_n582 l_n582 u_n582
  have v_n582 : n582 = 4611686018427387903 := by
    rw [e_n582, v_n573] <;> kernel_rfl
  refine ⟨trivial, ?_⟩
  intro n583 l_n583 u_n583
  intro t38
  intro h_wint38
  replace h_wint38 : isInt (w128 n578 n579) n583 (b2i t38) := h_wint38
  have v_n583 : n583 = 13176794 := int_val 13176794 h_wint38 k_n579 (by decide) (by decide)
  intro n584 e_n584 l_n584 u_n584
  have v_n584 : n584 = 9223372036854775807 := by
    rw [e_n584, v_n582] <;> kernel_rfl
  refine ⟨trivial, ?_⟩
  intro n585 l_n585 u_n585
  intro n586 l_n586 u_n586
  intro h_mul6439
  replace h_mul6439 : n585 * 18446744073709551616 + n586 = n584 * (2305843009213693952 : Int) := h_mul6439
  obtain ⟨v_n585, v_n586⟩ := split64 1152921504606846975 16140901064495857664 h_mul6439 l_n586 u_n586 (by rw [v_n584]; decide) (by decide) (by decide)
  intro n587 e_n587 l_n587 u_n587
  have v_n587 : n587 = 1152921504606846975 := by
    rw [e_n587, v_n585] <;> kernel_rfl
  refine ⟨trivial, ?_⟩
  intro n588 l_n588 u_n588
  intro n589 l_n589 u_n589
  intro h_rootWide39
  replace h_rootWide39 : ((n587 < 0 → n588 = 0 ∧ n589 = 1) ∧ (0 ≤ n587 → n589 = 0 ∧ isRoot (w128 n587 n586) n588)) := h_rootWide39
  have v_n588 : n588 = 4611686018427387903 := root_val 1152921504606846975 16140901064495857664 4611686018427387903 h_rootWide39 v_n587 v_n586 (by decide) (by decide) (by decide) l_n588 (by decide)
  refine ⟨trivial, ?_⟩
  intro n590 l_n590 u_n590
  intro n591 l_n591 u_n591
  intro h_wmul39
  replace h_wmul39 : w128 n590 n591 = n583 * (2305843009213693952 : Int) := h_wmul39
  obtain ⟨v_n590, v_n591⟩ := split64 1647099 4611686018427387904 h_wmul39 l_n591 u_n591 (by rw [v_n583]; decide) (by decide) (by decide)
  intro n592 e_n592 l_n592 u_n592
  have v_n592 : n592 = 4611686018427387903 := by
    rw [e_n592, v_n588] <;> kernel_rfl
  refine ⟨trivial, ?_⟩
  intro n593 l_n593 u_n593
  intro n594 l_n594 u_n594
  intro n595 l_n595 u_n595
  intro n596 l_n596 u_n596
  intro h_wfloor39
  replace h_wfloor39 : ((n592 < 1 → n593 = 0 ∧ n594 = 0 ∧ n595 = 0 ∧ n596 = 1) ∧ (1 ≤ n592 → n596 = 0 ∧ isFloor (w128 n590 n591) n592 (w128 n593 n594) n595)) := h_wfloor39
  have k_n594 : w128 n593 n594 = 6588397 := floor_val 30383618328748947184549888 4611686018427387903 6588397 6588397 h_wfloor39 (show w128 n590 n591 = 30383618328748947184549888 by rw [v_n590, v_n591]; decide) v_n592 (by decide) (by decide) (by decide) (by decide)
  intro b40
  intro n597 e_n597 l_n597 u_n597
  have v_n597 : n597 = 4611686018427387903 := by
    rw [e_n597, v_n588] <;> kernel_rfl
  refine ⟨trivial, ?_⟩
  intro n598 l_n598 u_n598
  intro t39
  intro h_wint39
  replace h_wint39 : isInt (w128 n593 n594) n598 (b2i t39) := h_wint39
  have v_n598 : n598 = 6588397 := int_val 6588397 h_wint39 k_n594 (by decide) (by decide)
  refine ⟨by rw [v_n12] <;> decide, ?_⟩
  refine ⟨by rw [v_n12] <;> decide, ?_⟩
  intro n599 e_n599 l_n599 u_n599
  have v_n599 : n599 = 3260954456333195553 := by
    rw [e_n599, v_n12] <;> kernel_rfl
  refine ⟨by rw [v_n13] <;> decide, ?_⟩
  refine ⟨by rw [v_n13] <;> decide, ?_⟩
  intro n600 e_n600 l_n600 u_n600
  have v_n600 : n600 = 3260954456333195553 := by
    rw [e_n600, v_n13] <;> kernel_rfl
  refine ⟨by rw [v_n27] <;> decide, ?_⟩
  refine ⟨by rw [v_n27] <;> decide, ?_⟩
  intro n601 e_n601 l_n601 u_n601
  have v_n601 : n601 = 4260642322793532497 := by
    rw [e_n601, v_n27] <;> kernel_rfl
  refine ⟨by rw [v_n28] <;> decide, ?_⟩
  refine ⟨by rw [v_n28] <;> decide, ?_⟩
  intro n602 e_n602 l_n602 u_n602
  have v_n602 : n602 = 1764815834521887441 := by
    rw [e_n602, v_n28] <;> kernel_rfl
  refine ⟨by rw [v_n42] <;> decide, ?_⟩
  refine ⟨by rw [v_n42] <;> decide, ?_⟩
  intro n603 e_n603 l_n603 u_n603
  have v_n603 : n603 = 4523073764714963029 := by
    rw [e_n603, v_n42] <;> kernel_rfl
  refine ⟨by rw [v_n43] <;> decide, ?_⟩
  refine ⟨by rw [v_n43] <;> decide, ?_⟩
  intro n604 e_n604 l_n604 u_n604
  have v_n604 : n604 = 899695310372275546 := by
    rw [e_n604, v_n43] <;> kernel_rfl
  refine ⟨by rw [v_n57] <;> decide, ?_⟩
  refine ⟨by rw [v_n57] <;> decide, ?_⟩
  intro n605 e_n605 l_n605 u_n605
  have v_n605 : n605 = 4589479489746651963 := by
    rw [e_n605, v_n57] <;> kernel_rfl
  refine ⟨by rw [v_n58] <;> decide, ?_⟩
  refine ⟨by rw [v_n58] <;> decide, ?_⟩
  intro n606 e_n606 l_n606 u_n606
  have v_n606 : n606 = 452024275624069879 := by
    rw [e_n606, v_n58] <;> kernel_rfl
  refine ⟨by rw [v_n72] <;> decide, ?_⟩
  refine ⟨by rw [v_n72] <;> decide, ?_⟩
  intro n607 e_n607 l_n607 u_n607
  have v_n607 : n607 = 4606131040650197959 := by
    rw [e_n607, v_n72] <;> kernel_rfl
  refine ⟨by rw [v_n73] <;> decide, ?_⟩
  refine ⟨by rw [v_n73] <;> decide, ?_⟩
  intro n608 e_n608 l_n608 u_n608
  have v_n608 : n608 = 226284707652502140 := by
    rw [e_n608, v_n73] <;> kernel_rfl
  refine ⟨by rw [v_n87] <;> decide, ?_⟩
  refine ⟨by rw [v_n87] <;> decide, ?_⟩
  intro n609 e_n609 l_n609 u_n609
  have v_n609 : n609 = 4610297064819661174 := by
    rw [e_n609, v_n87] <;> kernel_rfl
  refine ⟨by rw [v_n88] <;> decide, ?_⟩
  refine ⟨by rw [v_n88] <;> decide, ?_⟩
  intro n610 e_n610 l_n610 u_n610
  have v_n610 : n610 = 113176440454146015 := by
    rw [e_n610, v_n88] <;> kernel_rfl
  refine ⟨by rw [v_n102] <;> decide, ?_⟩
  refine ⟨by rw [v_n102] <;> decide, ?_⟩
  intro n611 e_n611 l_n611 u_n611
  have v_n611 : n611 = 4611338766951757486 := by
    rw [e_n611, v_n102] <;> kernel_rfl
  refine ⟨by rw [v_n103] <;> decide, ?_⟩
  refine ⟨by rw [v_n103] <;> decide, ?_⟩
  intro n612 e_n612 l_n612 u_n612
  have v_n612 : n612 = 56592481536850978 := by
    rw [e_n612, v_n103] <;> kernel_rfl
  refine ⟨by rw [v_n117] <;> decide, ?_⟩
  refine ⟨by rw [v_n117] <;> decide, ?_⟩
  intro n613 e_n613 l_n613 u_n613
  have v_n613 : n613 = 4611599204741358746 := by
    rw [e_n613, v_n117] <;> kernel_rfl
  refine ⟨by rw [v_n118] <;> decide, ?_⟩
  refine ⟨by rw [v_n118] <;> decide, ?_⟩
  intro n614 e_n614 l_n614 u_n614
  have v_n614 : n614 = 28296773447188931 := by
    rw [e_n614, v_n118] <;> kernel_rfl
  refine ⟨by rw [v_n132] <;> decide, ?_⟩
  refine ⟨by rw [v_n132] <;> decide, ?_⟩
  intro n615 e_n615 l_n615 u_n615
  have v_n615 : n615 = 4611664314954810277 := by
    rw [e_n615, v_n132] <;> kernel_rfl
  refine ⟨by rw [v_n133] <;> decide, ?_⟩
  refine ⟨by rw [v_n133] <;> decide, ?_⟩
  intro n616 e_n616 l_n616 u_n616
  have v_n616 : n616 = 14148453308909939 := by
    rw [e_n616, v_n133] <;> kernel_rfl
  refine ⟨by rw [v_n147] <;> decide, ?_⟩
  refine ⟨by rw [v_n147] <;> decide, ?_⟩
  intro n617 e_n617 l_n617 u_n617
  have v_n617 : n617 = 4611680592556051597 := by
    rw [e_n617, v_n147] <;> kernel_rfl
  refine ⟨by rw [v_n148] <;> decide, ?_⟩
  refine ⟨by rw [v_n148] <;> decide, ?_⟩
  intro n618 e_n618 l_n618 u_n618
  have v_n618 : n618 = 7074234977634092 := by
    rw [e_n618, v_n148] <;> kernel_rfl
  refine ⟨by rw [v_n162] <;> decide, ?_⟩
  refine ⟨by rw [v_n162] <;> decide, ?_⟩
  intro n619 e_n619 l_n619 u_n619
  have v_n619 : n619 = 4611684661959354333 := by
    rw [e_n619, v_n162] <;> kernel_rfl
  refine ⟨by rw [v_n163] <;> decide, ?_⟩
  refine ⟨by rw [v_n163] <;> decide, ?_⟩
  intro n620 e_n620 l_n620 u_n620
  have v_n620 : n620 = 3537118529214895 := by
    rw [e_n620, v_n163] <;> kernel_rfl
  refine ⟨by rw [v_n177] <;> decide, ?_⟩
  refine ⟨by rw [v_n177] <;> decide, ?_⟩
  intro n621 e_n621 l_n621 u_n621
  have v_n621 : n621 = 4611685679310367042 := by
    rw [e_n621, v_n177] <;> kernel_rfl
  refine ⟨by rw [v_n178] <;> decide, ?_⟩
  refine ⟨by rw [v_n178] <;> decide, ?_⟩
  intro n622 e_n622 l_n622 u_n622
  have v_n622 : n622 = 1768559394657193 := by
    rw [e_n622, v_n178] <;> kernel_rfl
  refine ⟨by rw [v_n192] <;> decide, ?_⟩
  refine ⟨by rw [v_n192] <;> decide, ?_⟩
  intro n623 e_n623 l_n623 u_n623
  have v_n623 : n623 = 4611685933648131909 := by
    rw [e_n623, v_n192] <;> kernel_rfl
  refine ⟨by rw [v_n193] <;> decide, ?_⟩
  refine ⟨by rw [v_n193] <;> decide, ?_⟩
  intro n624 e_n624 l_n624 u_n624
  have v_n624 : n624 = 884279713584815 := by
    rw [e_n624, v_n193] <;> kernel_rfl
  refine ⟨by rw [v_n207] <;> decide, ?_⟩
  refine ⟨by rw [v_n207] <;> decide, ?_⟩
  intro n625 e_n625 l_n625 u_n625
  have v_n625 : n625 = 4611685997232573856 := by
    rw [e_n625, v_n207] <;> kernel_rfl
  refine ⟨by rw [v_n208] <;> decide, ?_⟩
  refine ⟨by rw [v_n208] <;> decide, ?_⟩
  intro n626 e_n626 l_n626 u_n626
  have v_n626 : n626 = 442139858824434 := by
    rw [e_n626, v_n208] <;> kernel_rfl
  refine ⟨by rw [v_n222] <;> decide, ?_⟩
  refine ⟨by rw [v_n222] <;> decide, ?_⟩
  intro n627 e_n627 l_n627 u_n627
  have v_n627 : n627 = 4611686013128684388 := by
    rw [e_n627, v_n222] <;> kernel_rfl
  refine ⟨by rw [v_n223] <;> decide, ?_⟩
  refine ⟨by rw [v_n223] <;> decide, ?_⟩
  intro n628 e_n628 l_n628 u_n628
  have v_n628 : n628 = 221069929666220 := by
    rw [e_n628, v_n223] <;> kernel_rfl
  refine ⟨by rw [v_n237] <;> decide, ?_⟩
  refine ⟨by rw [v_n237] <;> decide, ?_⟩
  intro n629 e_n629 l_n629 u_n629
  have v_n629 : n629 = 4611686017102712024 := by
    rw [e_n629, v_n237] <;> kernel_rfl
  refine ⟨by rw [v_n238] <;> decide, ?_⟩
  refine ⟨by rw [v_n238] <;> decide, ?_⟩
  intro n630 e_n630 l_n630 u_n630
  have v_n630 : n630 = 110534964864860 := by
    rw [e_n630, v_n238] <;> kernel_rfl
  refine ⟨by rw [v_n252] <;> decide, ?_⟩
  refine ⟨by rw [v_n252] <;> decide, ?_⟩
  intro n631 e_n631 l_n631 u_n631
  have v_n631 : n631 = 4611686018096218933 := by
    rw [e_n631, v_n252] <;> kernel_rfl
  refine ⟨by rw [v_n253] <;> decide, ?_⟩
  refine ⟨by rw [v_n253] <;> decide, ?_⟩
  intro n632 e_n632 l_n632 u_n632
  have v_n632 : n632 = 55267482436398 := by
    rw [e_n632, v_n253] <;> kernel_rfl
  refine ⟨by rw [v_n267] <;> decide, ?_⟩
  refine ⟨by rw [v_n267] <;> decide, ?_⟩
  intro n633 e_n633 l_n633 u_n633
  have v_n633 : n633 = 4611686018344595661 := by
    rw [e_n633, v_n267] <;> kernel_rfl
  refine ⟨by rw [v_n268] <;> decide, ?_⟩
  refine ⟨by rw [v_n268] <;> decide, ?_⟩
  intro n634 e_n634 l_n634 u_n634
  have v_n634 : n634 = 27633741218695 := by
    rw [e_n634, v_n268] <;> kernel_rfl
  refine ⟨by rw [v_n282] <;> decide, ?_⟩
  refine ⟨by rw [v_n282] <;> decide, ?_⟩
  intro n635 e_n635 l_n635 u_n635
  have v_n635 : n635 = 4611686018406689843 := by
    rw [e_n635, v_n282] <;> kernel_rfl
  refine ⟨by rw [v_n283] <;> decide, ?_⟩
  refine ⟨by rw [v_n283] <;> decide, ?_⟩
  intro n636 e_n636 l_n636 u_n636
  have v_n636 : n636 = 13816870609409 := by
    rw [e_n636, v_n283] <;> kernel_rfl
  refine ⟨by rw [v_n297] <;> decide, ?_⟩
  refine ⟨by rw [v_n297] <;> decide, ?_⟩
  intro n637 e_n637 l_n637 u_n637
  have v_n637 : n637 = 4611686018422213388 := by
    rw [e_n637, v_n297] <;> kernel_rfl
  refine ⟨by rw [v_n298] <;> decide, ?_⟩
  refine ⟨by rw [v_n298] <;> decide, ?_⟩
  intro n638 e_n638 l_n638 u_n638
  have v_n638 : n638 = 6908435304712 := by
    rw [e_n638, v_n298] <;> kernel_rfl
  refine ⟨by rw [v_n312] <;> decide, ?_⟩
  refine ⟨by rw [v_n312] <;> decide, ?_⟩
  intro n639 e_n639 l_n639 u_n639
  have v_n639 : n639 = 4611686018426094274 := by
    rw [e_n639, v_n312] <;> kernel_rfl
  refine ⟨by rw [v_n313] <;> decide, ?_⟩
  refine ⟨by rw [v_n313] <;> decide, ?_⟩
  intro n640 e_n640 l_n640 u_n640
  have v_n640 : n640 = 3454217652356 := by
    rw [e_n640, v_n313] <;> kernel_rfl
  refine ⟨by rw [v_n327] <;> decide, ?_⟩
  refine ⟨by rw [v_n327] <;> decide, ?_⟩
  intro n641 e_n641 l_n641 u_n641
  have v_n641 : n641 = 4611686018427064496 := by
    rw [e_n641, v_n327] <;> kernel_rfl
  refine ⟨by rw [v_n328] <;> decide, ?_⟩
  refine ⟨by rw [v_n328] <;> decide, ?_⟩
  intro n642 e_n642 l_n642 u_n642
  have v_n642 : n642 = 1727108826178 := by
    rw [e_n642, v_n328] <;> kernel_rfl
  refine ⟨by rw [v_n342] <;> decide, ?_⟩
  refine ⟨by rw [v_n342] <;> decide, ?_⟩
  intro n643 e_n643 l_n643 u_n643
  have v_n643 : n643 = 4611686018427307051 := by
    rw [e_n643, v_n342] <;> kernel_rfl
  refine ⟨by rw [v_n343] <;> decide, ?_⟩
  refine ⟨by rw [v_n343] <;> decide, ?_⟩
  intro n644 e_n644 l_n644 u_n644
  have v_n644 : n644 = 863554413089 := by
    rw [e_n644, v_n343] <;> kernel_rfl
  refine ⟨by rw [v_n357] <;> decide, ?_⟩
  refine ⟨by rw [v_n357] <;> decide, ?_⟩
  intro n645 e_n645 l_n645 u_n645
  have v_n645 : n645 = 4611686018427367690 := by
    rw [e_n645, v_n357] <;> kernel_rfl
  refine ⟨by rw [v_n358] <;> decide, ?_⟩
  refine ⟨by rw [v_n358] <;> decide, ?_⟩
  intro n646 e_n646 l_n646 u_n646
  have v_n646 : n646 = 431777206544 := by
    rw [e_n646, v_n358] <;> kernel_rfl
  refine ⟨by rw [v_n372] <;> decide, ?_⟩
  refine ⟨by rw [v_n372] <;> decide, ?_⟩
  intro n647 e_n647 l_n647 u_n647
  have v_n647 : n647 = 4611686018427382850 := by
    rw [e_n647, v_n372] <;> kernel_rfl
  refine ⟨by rw [v_n373] <;> decide, ?_⟩
  refine ⟨by rw [v_n373] <;> decide, ?_⟩
  intro n648 e_n648 l_n648 u_n648
  have v_n648 : n648 = 215888603272 := by
    rw [e_n648, v_n373] <;> kernel_rfl
  refine ⟨by rw [v_n387] <;> decide, ?_⟩
  refine ⟨by rw [v_n387] <;> decide, ?_⟩
  intro n649 e_n649 l_n649 u_n649
  have v_n649 : n649 = 4611686018427386640 := by
    rw [e_n649, v_n387] <;> kernel_rfl
  refine ⟨by rw [v_n388] <;> decide, ?_⟩
  refine ⟨by rw [v_n388] <;> decide, ?_⟩
  intro n650 e_n650 l_n650 u_n650
  have v_n650 : n650 = 107944301636 := by
    rw [e_n650, v_n388] <;> kernel_rfl
  refine ⟨by rw [v_n402] <;> decide, ?_⟩
  refine ⟨by rw [v_n402] <;> decide, ?_⟩
  intro n651 e_n651 l_n651 u_n651
  have v_n651 : n651 = 4611686018427387587 := by
    rw [e_n651, v_n402] <;> kernel_rfl
  refine ⟨by rw [v_n403] <;> decide, ?_⟩
  refine ⟨by rw [v_n403] <;> decide, ?_⟩
  intro n652 e_n652 l_n652 u_n652
  have v_n652 : n652 = 53972150818 := by
    rw [e_n652, v_n403] <;> kernel_rfl
  refine ⟨by rw [v_n417] <;> decide, ?_⟩
  refine ⟨by rw [v_n417] <;> decide, ?_⟩
  intro n653 e_n653 l_n653 u_n653
  have v_n653 : n653 = 4611686018427387824 := by
    rw [e_n653, v_n417] <;> kernel_rfl
  refine ⟨by rw [v_n418] <;> decide, ?_⟩
  refine ⟨by rw [v_n418] <;> decide, ?_⟩
  intro n654 e_n654 l_n654 u_n654
  have v_n654 : n654 = 26986075409 := by
    rw [e_n654, v_n418] <;> kernel_rfl
  refine ⟨by rw [v_n432] <;> decide, ?_⟩
  refine ⟨by rw [v_n432] <;> decide, ?_⟩
  intro n655 e_n655 l_n655 u_n655
  have v_n655 : n655 = 4611686018427387883 := by
    rw [e_n655, v_n432] <;> kernel_rfl
  refine ⟨by rw [v_n433] <;> decide, ?_⟩
  refine ⟨by rw [v_n433] <;> decide, ?_⟩
  intro n656 e_n656 l_n656 u_n656
  have v_n656 : n656 = 13493037704 := by
    rw [e_n656, v_n433] <;> kernel_rfl
  refine ⟨by rw [v_n447] <;> decide, ?_⟩
  refine ⟨by rw [v_n447] <;> decide, ?_⟩
  intro n657 e_n657 l_n657 u_n657
  have v_n657 : n657 = 4611686018427387898 := by
    rw [e_n657, v_n447] <;> kernel_rfl
  refine ⟨by rw [v_n448] <;> decide, ?_⟩
  refine ⟨by rw [v_n448] <;> decide, ?_⟩
  intro n658 e_n658 l_n658 u_n658
  have v_n658 : n658 = 6746518852 := by
    rw [e_n658, v_n448] <;> kernel_rfl
  refine ⟨by rw [v_n462] <;> decide, ?_⟩
  refine ⟨by rw [v_n462] <;> decide, ?_⟩
  intro n659 e_n659 l_n659 u_n659
  have v_n659 : n659 = 4611686018427387902 := by
    rw [e_n659, v_n462] <;> kernel_rfl
  refine ⟨by rw [v_n463] <;> decide, ?_⟩
  refine ⟨by rw [v_n463] <;> decide, ?_⟩
  intro n660 e_n660 l_n660 u_n660
  have v_n660 : n660 = 3373259426 := by
    rw [e_n660, v_n463] <;> kernel_rfl
  refine ⟨by rw [v_n477] <;> decide, ?_⟩
  refine ⟨by rw [v_n477] <;> decide, ?_⟩
  intro n661 e_n661 l_n661 u_n661
  have v_n661 : n661 = 4611686018427387903 := by
    rw [e_n661, v_n477] <;> kernel_rfl
  refine ⟨by rw [v_n478] <;> decide, ?_⟩
  refine ⟨by rw [v_n478] <;> decide, ?_⟩
  intro n662 e_n662 l_n662 u_n662
  have v_n662 : n662 = 1686629713 := by
    rw [e_n662, v_n478] <;> kernel_rfl
  refine ⟨by rw [v_n492] <;> decide, ?_⟩
  refine ⟨by rw [v_n492] <;> decide, ?_⟩
  intro n663 e_n663 l_n663 u_n663
  have v_n663 : n663 = 4611686018427387903 := by
    rw [e_n663, v_n492] <;> kernel_rfl
  refine ⟨by rw [v_n493] <;> decide, ?_⟩
  refine ⟨by rw [v_n493] <;> decide, ?_⟩
  intro n664 e_n664 l_n664 u_n664
  have v_n664 : n664 = 843314856 := by
    rw [e_n664, v_n493] <;> kernel_rfl
  refine ⟨by rw [v_n507] <;> decide, ?_⟩
  refine ⟨by rw [v_n507] <;> decide, ?_⟩
  intro n665 e_n665 l_n665 u_n665
  have v_n665 : n665 = 4611686018427387903 := by
    rw [e_n665, v_n507] <;> kernel_rfl
  refine ⟨by rw [v_n508] <;> decide, ?_⟩
  refine ⟨by rw [v_n508] <;> decide, ?_⟩
  intro n666 e_n666 l_n666 u_n666
  have v_n666 : n666 = 421657428 := by
    rw [e_n666, v_n508] <;> kernel_rfl
  refine ⟨by rw [v_n522] <;> decide, ?_⟩
  refine ⟨by rw [v_n522] <;> decide, ?_⟩
  intro n667 e_n667 l_n667 u_n667
  have v_n667 : n667 = 4611686018427387903 := by
    rw [e_n667, v_n522] <;> kernel_rfl
  refine ⟨by rw [v_n523] <;> decide, ?_⟩
  refine ⟨by rw [v_n523] <;> decide, ?_⟩
  intro n668 e_n668 l_n668 u_n668
  have v_n668 : n668 = 210828714 := by
    rw [e_n668, v_n523] <;> kernel_rfl
  refine ⟨by rw [v_n537] <;> decide, ?_⟩
  refine ⟨by rw [v_n537] <;> decide, ?_⟩
  intro n669 e_n669 l_n669 u_n669
  have v_n669 : n669 = 4611686018427387903 := by
    rw [e_n669, v_n537] <;> kernel_rfl
  refine ⟨by rw [v_n538] <;> decide, ?_⟩
  refine ⟨by rw [v_n538] <;> decide, ?_⟩
  intro n670 e_n670 l_n670 u_n670
  have v_n670 : n670 = 105414357 := by
    rw [e_n670, v_n538] <;> kernel_rfl
  refine ⟨by rw [v_n552] <;> decide, ?_⟩
  refine ⟨by rw [v_n552] <;> decide, ?_⟩
  intro n671 e_n671 l_n671 u_n671
  have v_n671 : n671 = 4611686018427387903 := by
    rw [e_n671, v_n552] <;> kernel_rfl
  refine ⟨by rw [v_n553] <;> decide, ?_⟩
  refine ⟨by rw [v_n553] <;> decide, ?_⟩
  intro n672 e_n672 l_n672 u_n672
  have v_n672 : n672 = 52707178 := by
    rw [e_n672, v_n553] <;> kernel_rfl
  refine ⟨by rw [v_n567] <;> decide, ?_⟩
  refine ⟨by rw [v_n567] <;> decide, ?_⟩
  intro n673 e_n673 l_n673 u_n673
  have v_n673 : n673 = 4611686018427387903 := by
    rw [e_n673, v_n567] <;> kernel_rfl
  refine ⟨by rw [v_n568] <;> decide, ?_⟩
  refine ⟨by rw [v_n568] <;> decide, ?_⟩
  intro n674 e_n674 l_n674 u_n674
  have v_n674 : n674 = 26353589 := by
    rw [e_n674, v_n568] <;> kernel_rfl
  refine ⟨by rw [v_n582] <;> decide, ?_⟩
  refine ⟨by rw [v_n582] <;> decide, ?_⟩
  intro n675 e_n675 l_n675 u_n675
  have v_n675 : n675 = 4611686018427387903 := by
    rw [e_n675, v_n582] <;> kernel_rfl
  refine ⟨by rw [v_n583] <;> decide, ?_⟩
  refine ⟨by rw [v_n583] <;> decide, ?_⟩
  intro n676 e_n676 l_n676 u_n676
  have v_n676 : n676 = 13176794 := by
    rw [e_n676, v_n583] <;> kernel_rfl
  refine ⟨by rw [v_n597] <;> decide, ?_⟩
  refine ⟨by rw [v_n597] <;> decide, ?_⟩
  intro n677 e_n677 l_n677 u_n677
  have v_n677 : n677 = 4611686018427387903 := by
    rw [e_n677, v_n597] <;> kernel_rfl
  refine ⟨by rw [v_n598] <;> decide, ?_⟩
  refine ⟨by rw [v_n598] <;> decide, ?_⟩
  intro n678 e_n678 l_n678 u_n678
  have v_n678 : n678 = 6588397 := by
    rw [e_n678, v_n598] <;> kernel_rfl
  show True
  trivial

end Go.Proofs.Ytihfbliipjobdaa.Sx
