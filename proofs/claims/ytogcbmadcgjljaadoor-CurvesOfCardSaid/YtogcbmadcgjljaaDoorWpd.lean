/-
  Plain laws of wides, part d: divided digit by digit.
-/
import Derived.Test.YtogcbmadcgjljaaDoorWg
import Derived.Test.YtogcbmadcgjljaaDoorWpb
set_option linter.all false
set_option maxRecDepth 100000
namespace Go.Proofs.YtogcbmadcgjljaaDoor.Sx
open Go Go.RowKit

theorem bit_at : ∀ (l : List Int), (∀ d ∈ l, 0 ≤ d ∧ d ≤ 65535) → ∀ i : Nat, vd l / 2 ^ i % 2 = (l.getD (i / 16) 0) / 2 ^ (i % 16) % 2
  | [], _, i => by simp [vd]
  | d :: r, h, i => by
    obtain ⟨h0, h1⟩ := h d (by simp)
    by_cases hi : i < 16
    · have e1 : i / 16 = 0 := by omega
      have e2 : i % 16 = i := by omega
      rw [e1, e2]
      simp only [vd, List.getD_cons_zero]
      obtain ⟨k, hk⟩ : ∃ k, 16 = i + 1 + k := ⟨15 - i, by omega⟩
      have e3 : (65536 : Int) = 2 ^ i * (2 * 2 ^ k) := by
        rw [show (65536 : Int) = 2 ^ 16 by decide, hk, Int.pow_add, Int.pow_succ]; grind
      have hp := two_pow_pos' i
      rw [e3, show d + 2 ^ i * (2 * 2 ^ k) * vd r = d + 2 ^ i * (2 * (2 ^ k * vd r)) by grind, Int.add_mul_ediv_left _ _ (Int.ne_of_gt hp)]
      omega
    · obtain ⟨j, rfl⟩ : ∃ j, i = j + 16 := ⟨i - 16, by omega⟩
      have e1 : (j + 16) / 16 = j / 16 + 1 := by omega
      have e2 : (j + 16) % 16 = j % 16 := by omega
      rw [e1, e2, List.getD_cons_succ, ← bit_at r (fun x hx => h x (by simp [hx])) j]
      have e3 : (2 : Int) ^ (j + 16) = 65536 * 2 ^ j := by rw [Int.pow_add]; omega
      rw [e3, ← Int.ediv_ediv_of_nonneg (by omega)]
      simp only [vd]
      congr 2
      omega

theorem div_step {A D Q R i c : Int} (h : divInv A D i Q R) (hi : 0 ≤ i) (hc : c = A / 2 ^ i.toNat % 2) : 2 * Q * D + (2 * R + c) = A / 2 ^ i.toNat := by
  obtain ⟨h1, _⟩ := h
  have e : (2 : Int) ^ (i + 1).toNat = 2 ^ i.toNat * 2 := by rw [show (i + 1).toNat = i.toNat + 1 by omega, Int.pow_succ]
  rw [e, ← Int.ediv_ediv_of_nonneg (Int.le_of_lt (two_pow_pos' _))] at h1
  have e2 : 2 * Q * D = 2 * (Q * D) := by grind
  rw [e2, hc]
  generalize Q * D = x at *
  generalize A / 2 ^ i.toNat = y at *
  omega

theorem div_small {A D Q R i : Int} (h : divInv A D i Q R) (hA : 0 ≤ A) (hi : 0 ≤ i) (hD : 0 < D) : 2 * Q ≤ A := by
  obtain ⟨h1, h2, h3, h4⟩ := h
  have e : (2 : Int) ^ (i + 1).toNat = 2 * 2 ^ i.toNat := by rw [show (i + 1).toNat = i.toNat + 1 by omega, Int.pow_succ]; omega
  rw [e, ← Int.ediv_ediv_of_nonneg (by omega)] at h1
  have hp := two_pow_pos' i.toNat
  have : A / 2 / 2 ^ i.toNat ≤ A / 2 := Int.ediv_le_self _ (by omega)
  have := Int.mul_le_mul_of_nonneg_left (show 1 ≤ D by omega) h4
  omega

theorem pick_getD (i : Nat) (hi : i < 12) (k : Int) (hk : k = i) (x0 x1 x2 x3 x4 x5 x6 x7 x8 x9 x10 x11 : Int) : (if k = 0 then x0 else if k = 1 then x1 else if k = 2 then x2 else if k = 3 then x3 else if k = 4 then x4 else if k = 5 then x5 else if k = 6 then x6 else if k = 7 then x7 else if k = 8 then x8 else if k = 9 then x9 else if k = 10 then x10 else x11) = [x0, x1, x2, x3, x4, x5, x6, x7, x8, x9, x10, x11].getD i 0 := by
  subst hk
  match i, hi with
  | 0, _ | 1, _ | 2, _ | 3, _ | 4, _ | 5, _ | 6, _ | 7, _ | 8, _ | 9, _ | 10, _ | 11, _ => rfl

theorem div_next {A D Q R i : Int} (h : 2 * Q * D + R = A / 2 ^ i.toNat) (hi : 0 ≤ i) (h0 : 0 ≤ R) (hQ : 0 ≤ Q) : (R < D → divInv A D (i - 1) (2 * Q) R) ∧ (D ≤ R → R < 2 * D → divInv A D (i - 1) (2 * Q + 1) (R - D)) := by
  have e : (i - 1 + 1).toNat = i.toNat := by omega
  refine ⟨fun hl => ⟨by rw [e]; exact h, h0, hl, by omega⟩, fun hl hu => ⟨?_, by omega, by omega, by omega⟩⟩
  rw [e, ← h]; grind

set_option maxHeartbeats 40000000 in
theorem p_divided : P_divided := by
  unfold P_divided
  intro n l_n u_n
  intro n1 l_n1 u_n1
  intro n2 l_n2 u_n2
  intro n3 l_n3 u_n3
  intro n4 l_n4 u_n4
  intro n5 l_n5 u_n5
  intro n6 l_n6 u_n6
  intro n7 l_n7 u_n7
  intro n8 l_n8 u_n8
  intro n9 l_n9 u_n9
  intro n10 l_n10 u_n10
  intro n11 l_n11 u_n11
  intro n12 l_n12 u_n12
  intro n13 l_n13 u_n13
  intro n14 l_n14 u_n14
  intro n15 l_n15 u_n15
  intro n16 l_n16 u_n16
  intro n17 l_n17 u_n17
  intro n18 l_n18 u_n18
  intro n19 l_n19 u_n19
  intro n20 l_n20 u_n20
  intro n21 l_n21 u_n21
  intro n22 l_n22 u_n22
  intro n23 l_n23 u_n23
  intro hpre
  replace hpre : (0 < vd [n12, n13, n14, n15, n16, n17, n18, n19, n20, n21, n22, n23] ∧ 2 * vd [n12, n13, n14, n15, n16, n17, n18, n19, n20, n21, n22, n23] ≤ top12) := hpre
  intro b
  intro b1
  intro b2
  intro b3
  intro b4
  intro b5
  refine ⟨?_, ?_⟩
  · show divInv (vd [n, n1, n2, n3, n4, n5, n6, n7, n8, n9, n10, n11]) (vd [n12, n13, n14, n15, n16, n17, n18, n19, n20, n21, n22, n23]) (191 : Int) (vd [0, 0, 0, 0, 0, 0, 0, 0, 0, 0, 0, 0]) (vd [0, 0, 0, 0, 0, 0, 0, 0, 0, 0, 0, 0])
    have hA1 : vd [n, n1, n2, n3, n4, n5, n6, n7, n8, n9, n10, n11] < top12 := by simp only [vd, top12]; omega
    have hA0 : 0 ≤ vd [n, n1, n2, n3, n4, n5, n6, n7, n8, n9, n10, n11] := vd_nonneg [n, n1, n2, n3, n4, n5, n6, n7, n8, n9, n10, n11] (by intro d hd; simp only [List.mem_cons, List.not_mem_nil, or_false] at hd; rcases hd with rfl | rfl | rfl | rfl | rfl | rfl | rfl | rfl | rfl | rfl | rfl | rfl <;> assumption)
    refine ⟨?_, ?_, ?_, ?_⟩
    · have : vd [n, n1, n2, n3, n4, n5, n6, n7, n8, n9, n10, n11] / 2 ^ ((191 : Int) + 1).toNat = 0 := Int.ediv_eq_zero_of_lt hA0 (by simpa [top12] using hA1)
      rw [this]; simp [vd]
    · simp [vd]
    · simpa [vd] using hpre.1
    · simp [vd]
  intro n24 l_n24 u_n24
  intro n25 l_n25 u_n25
  intro n26 l_n26 u_n26
  intro n27 l_n27 u_n27
  intro n28 l_n28 u_n28
  intro n29 l_n29 u_n29
  intro n30 l_n30 u_n30
  intro n31 l_n31 u_n31
  intro n32 l_n32 u_n32
  intro n33 l_n33 u_n33
  intro n34 l_n34 u_n34
  intro n35 l_n35 u_n35
  intro n36 l_n36 u_n36
  intro n37 l_n37 u_n37
  intro n38 l_n38 u_n38
  intro n39 l_n39 u_n39
  intro n40 l_n40 u_n40
  intro n41 l_n41 u_n41
  intro n42 l_n42 u_n42
  intro n43 l_n43 u_n43
  intro n44 l_n44 u_n44
  intro n45 l_n45 u_n45
  intro n46 l_n46 u_n46
  intro n47 l_n47 u_n47
  intro n48 l_n48 u_n48
  intro hi_divided
  replace hi_divided : divInv (vd [n, n1, n2, n3, n4, n5, n6, n7, n8, n9, n10, n11]) (vd [n12, n13, n14, n15, n16, n17, n18, n19, n20, n21, n22, n23]) n24 (vd [n25, n26, n27, n28, n29, n30, n31, n32, n33, n34, n35, n36]) (vd [n37, n38, n39, n40, n41, n42, n43, n44, n45, n46, n47, n48]) := hi_divided
  intro vs lv_vs
  refine ⟨fun c0 => ?_, fun c0 => ?_⟩
  · refine ⟨trivial, ?_⟩
    intro n49 l_n49 u_n49
    intro n50 l_n50 u_n50
    intro n51 l_n51 u_n51
    intro n52 l_n52 u_n52
    intro n53 l_n53 u_n53
    intro n54 l_n54 u_n54
    intro n55 l_n55 u_n55
    intro n56 l_n56 u_n56
    intro n57 l_n57 u_n57
    intro n58 l_n58 u_n58
    intro n59 l_n59 u_n59
    intro n60 l_n60 u_n60
    intro h_plus
    replace h_plus : vd [n49, n50, n51, n52, n53, n54, n55, n56, n57, n58, n59, n60] = (vd [n37, n38, n39, n40, n41, n42, n43, n44, n45, n46, n47, n48] + vd [n37, n38, n39, n40, n41, n42, n43, n44, n45, n46, n47, n48]) % top12 := h_plus
    have hR2 : vd [n49, n50, n51, n52, n53, n54, n55, n56, n57, n58, n59, n60] = 2 * vd [n37, n38, n39, n40, n41, n42, n43, n44, n45, n46, n47, n48] := by
      rw [h_plus]; obtain ⟨q1, q2, q3, q4⟩ := hi_divided; obtain ⟨q5, q6⟩ := hpre; simp only [top12] at *; omega
    have hev : n49 % 2 = 0 := by simp only [vd] at hR2; omega
    have hki : n24.tdiv 16 = n24 / 16 := Int.tdiv_eq_ediv_of_nonneg c0
    have hkm : n24.tmod 16 = n24 % 16 := Int.tmod_eq_emod_of_nonneg c0
    refine ⟨by omega, ?_⟩
    refine ⟨by omega, ?_⟩
    refine ⟨by omega, ?_⟩
    intro n61 e_n61 l_n61 u_n61
    rw [hkm] at e_n61
    intro n62 e_n62 l_n62 u_n62
    rw [pick_getD (n24.toNat / 16) (by omega) _ (by omega)] at e_n62
    have hsh : shI .shr .i64 (([n, n1, n2, n3, n4, n5, n6, n7, n8, n9, n10, n11] : List Int).getD (n24.toNat / 16) 0) n61 = ([n, n1, n2, n3, n4, n5, n6, n7, n8, n9, n10, n11] : List Int).getD (n24.toNat / 16) 0 / 2 ^ (n24.toNat % 16) := by
      simp only [shI, IntKind.bits]
      rw [show Min.min n61.toNat 64 = n24.toNat % 16 by omega, Int.fdiv_eq_ediv_of_nonneg _ (Int.le_of_lt (two_pow_pos' _))]
    have hdg : 0 ≤ ([n, n1, n2, n3, n4, n5, n6, n7, n8, n9, n10, n11] : List Int).getD (n24.toNat / 16) 0 := by
      rw [← pick_getD (n24.toNat / 16) (by omega) (n24.toNat / 16 : Nat) rfl]
      repeat' split
      all_goals assumption
    have hbt := bit_at [n, n1, n2, n3, n4, n5, n6, n7, n8, n9, n10, n11] (by intro d hd; simp only [List.mem_cons, List.not_mem_nil, or_false] at hd; rcases hd with rfl | rfl | rfl | rfl | rfl | rfl | rfl | rfl | rfl | rfl | rfl | rfl <;> exact ⟨by assumption, by assumption⟩) n24.toNat
    rw [hsh, Int.tmod_eq_emod_of_nonneg (Int.ediv_nonneg hdg (Int.le_of_lt (two_pow_pos' _))), ← hbt, wrap_i64] at e_n62
    have hdv := div_step hi_divided c0 rfl
    generalize hcc : vd [n, n1, n2, n3, n4, n5, n6, n7, n8, n9, n10, n11] / 2 ^ n24.toNat % 2 = cc at *
    have hcc2 : 0 ≤ cc ∧ cc ≤ 1 := by omega
    have e62 : n62 = n49 + cc := by omega
    refine ⟨trivial, ?_⟩
    intro n63 l_n63 u_n63
    intro n64 l_n64 u_n64
    intro n65 l_n65 u_n65
    intro n66 l_n66 u_n66
    intro n67 l_n67 u_n67
    intro n68 l_n68 u_n68
    intro n69 l_n69 u_n69
    intro n70 l_n70 u_n70
    intro n71 l_n71 u_n71
    intro n72 l_n72 u_n72
    intro n73 l_n73 u_n73
    intro n74 l_n74 u_n74
    intro h_plus1
    replace h_plus1 : vd [n63, n64, n65, n66, n67, n68, n69, n70, n71, n72, n73, n74] = (vd [n25, n26, n27, n28, n29, n30, n31, n32, n33, n34, n35, n36] + vd [n25, n26, n27, n28, n29, n30, n31, n32, n33, n34, n35, n36]) % top12 := h_plus1
    have hA0 : 0 ≤ vd [n, n1, n2, n3, n4, n5, n6, n7, n8, n9, n10, n11] := vd_nonneg [n, n1, n2, n3, n4, n5, n6, n7, n8, n9, n10, n11] (by intro d hd; simp only [List.mem_cons, List.not_mem_nil, or_false] at hd; rcases hd with rfl | rfl | rfl | rfl | rfl | rfl | rfl | rfl | rfl | rfl | rfl | rfl <;> assumption)
    have hA1 : vd [n, n1, n2, n3, n4, n5, n6, n7, n8, n9, n10, n11] < top12 := by simp only [vd, top12]; omega
    have hQ2 : vd [n63, n64, n65, n66, n67, n68, n69, n70, n71, n72, n73, n74] = 2 * vd [n25, n26, n27, n28, n29, n30, n31, n32, n33, n34, n35, n36] := by
      rw [h_plus1]; have := div_small hi_divided hA0 c0 hpre.1; obtain ⟨q1, q2, q3, q4⟩ := hi_divided; simp only [top12] at *; omega
    have hq0 : n63 % 2 = 0 := by simp only [vd] at hQ2; omega
    refine ⟨by omega, ?_⟩
    refine ⟨by omega, ?_⟩
    intro n75 e_n75 l_n75 u_n75
    refine ⟨trivial, ?_⟩
    intro n76 l_n76 u_n76
    intro h_compare
    replace h_compare : ((vd [n75, n50, n51, n52, n53, n54, n55, n56, n57, n58, n59, n60] < vd [n12, n13, n14, n15, n16, n17, n18, n19, n20, n21, n22, n23] → n76 = -1) ∧ (vd [n75, n50, n51, n52, n53, n54, n55, n56, n57, n58, n59, n60] = vd [n12, n13, n14, n15, n16, n17, n18, n19, n20, n21, n22, n23] → n76 = 0) ∧ (vd [n12, n13, n14, n15, n16, n17, n18, n19, n20, n21, n22, n23] < vd [n75, n50, n51, n52, n53, n54, n55, n56, n57, n58, n59, n60] → n76 = 1)) := h_compare
    have hvR : vd [n75, n50, n51, n52, n53, n54, n55, n56, n57, n58, n59, n60] = 2 * vd [n37, n38, n39, n40, n41, n42, n43, n44, n45, n46, n47, n48] + cc := by
      simp only [vd] at hR2 ⊢; omega
    rw [hvR] at h_compare
    rw [← hcc] at hdv
    rw [hcc] at hdv
    have hnx := div_next (Q := vd [n25, n26, n27, n28, n29, n30, n31, n32, n33, n34, n35, n36]) (R := 2 * vd [n37, n38, n39, n40, n41, n42, n43, n44, n45, n46, n47, n48] + cc) hdv c0 (by have := hi_divided.2.1; omega) hi_divided.2.2.2
    have hRD := hi_divided.2.2.1
    refine ⟨fun c1 => ?_, fun c1 => ?_⟩
    · refine ⟨by omega, ?_⟩
      refine ⟨by omega, ?_⟩
      intro n77 e_n77 l_n77 u_n77
      refine ⟨?_, ?_⟩
      · show vd [n12, n13, n14, n15, n16, n17, n18, n19, n20, n21, n22, n23] ≤ vd [n77, n50, n51, n52, n53, n54, n55, n56, n57, n58, n59, n60]
        have hv7 : vd [n77, n50, n51, n52, n53, n54, n55, n56, n57, n58, n59, n60] = 2 * vd [n37, n38, n39, n40, n41, n42, n43, n44, n45, n46, n47, n48] + cc := by
          simp only [vd] at hR2 ⊢; omega
        rw [hv7]; omega
      intro n78 l_n78 u_n78
      intro n79 l_n79 u_n79
      intro n80 l_n80 u_n80
      intro n81 l_n81 u_n81
      intro n82 l_n82 u_n82
      intro n83 l_n83 u_n83
      intro n84 l_n84 u_n84
      intro n85 l_n85 u_n85
      intro n86 l_n86 u_n86
      intro n87 l_n87 u_n87
      intro n88 l_n88 u_n88
      intro n89 l_n89 u_n89
      intro h_less
      replace h_less : vd [n78, n79, n80, n81, n82, n83, n84, n85, n86, n87, n88, n89] = vd [n77, n50, n51, n52, n53, n54, n55, n56, n57, n58, n59, n60] - vd [n12, n13, n14, n15, n16, n17, n18, n19, n20, n21, n22, n23] := h_less
      have hv7 : vd [n77, n50, n51, n52, n53, n54, n55, n56, n57, n58, n59, n60] = 2 * vd [n37, n38, n39, n40, n41, n42, n43, n44, n45, n46, n47, n48] + cc := by
        simp only [vd] at hR2 ⊢; omega
      rw [hv7] at h_less
      intro n90 e_n90 l_n90 u_n90
      intro n91 e_n91 l_n91 u_n91
      refine ⟨by omega, ?_⟩
      intro n92 e_n92 l_n92 u_n92
      refine ⟨by omega, ?_⟩
      intro n93 e_n93 l_n93 u_n93
      refine ⟨?_, ?_⟩
      · show divInv (vd [n, n1, n2, n3, n4, n5, n6, n7, n8, n9, n10, n11]) (vd [n12, n13, n14, n15, n16, n17, n18, n19, n20, n21, n22, n23]) n92 (vd [n93, n64, n65, n66, n67, n68, n69, n70, n71, n72, n73, n74]) (vd [n78, n79, n80, n81, n82, n83, n84, n85, n86, n87, n88, n89])
        have e1 : vd [n93, n64, n65, n66, n67, n68, n69, n70, n71, n72, n73, n74] = 2 * vd [n25, n26, n27, n28, n29, n30, n31, n32, n33, n34, n35, n36] + 1 := by
          simp only [vd] at hQ2 ⊢; omega
        rw [e1]
        rw [h_less, show n92 = n24 - 1 by omega]
        exact hnx.2 (by omega) (by omega)
      · show (n92 + 1).toNat < (n24 + 1).toNat
        omega
    · intro n77 e_n77 l_n77 u_n77
      refine ⟨by omega, ?_⟩
      intro n78 e_n78 l_n78 u_n78
      refine ⟨by omega, ?_⟩
      refine ⟨by omega, ?_⟩
      intro n79 e_n79 l_n79 u_n79
      refine ⟨?_, ?_⟩
      · show divInv (vd [n, n1, n2, n3, n4, n5, n6, n7, n8, n9, n10, n11]) (vd [n12, n13, n14, n15, n16, n17, n18, n19, n20, n21, n22, n23]) n78 (vd [n63, n64, n65, n66, n67, n68, n69, n70, n71, n72, n73, n74]) (vd [n79, n50, n51, n52, n53, n54, n55, n56, n57, n58, n59, n60])
        have e1 : vd [n63, n64, n65, n66, n67, n68, n69, n70, n71, n72, n73, n74] = 2 * vd [n25, n26, n27, n28, n29, n30, n31, n32, n33, n34, n35, n36] := by
          simp only [vd] at hQ2 ⊢; omega
        rw [e1]
        have e2 : vd [n79, n50, n51, n52, n53, n54, n55, n56, n57, n58, n59, n60] = 2 * vd [n37, n38, n39, n40, n41, n42, n43, n44, n45, n46, n47, n48] + cc := by
          simp only [vd] at hR2 ⊢; omega
        rw [e2, show n78 = n24 - 1 by omega]
        exact hnx.1 (by omega)
      · show (n78 + 1).toNat < (n24 + 1).toNat
        omega
  · show isFloor (vd [n, n1, n2, n3, n4, n5, n6, n7, n8, n9, n10, n11]) (vd [n12, n13, n14, n15, n16, n17, n18, n19, n20, n21, n22, n23]) (vd [n25, n26, n27, n28, n29, n30, n31, n32, n33, n34, n35, n36]) (vd [n37, n38, n39, n40, n41, n42, n43, n44, n45, n46, n47, n48])
    obtain ⟨q1, q2, q3, q4⟩ := hi_divided
    rw [show (n24 + 1).toNat = 0 by omega] at q1
    simp only [Int.pow_zero, Int.ediv_one] at q1
    exact ⟨q1.symm, q2, q3⟩

end Go.Proofs.YtogcbmadcgjljaaDoor.Sx
