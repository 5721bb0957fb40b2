/-
  Plain laws, part f: the product by digits, of the code.
-/
import Derived.Test.YthiinecohgmnmaaWe
set_option linter.all false
namespace Go.Proofs.Ythiinecohgmnmaa.Sx
open Go Go.RowKit

set_option maxHeartbeats 4000000 in
theorem p_product : P_product := by
  unfold P_product
  intro t n l0 u0 n1 l1 u1 n2 l2 u2 n3 l3 u3 n4 l4 u4 n5 l5 u5 n6 l6 u6 n7 l7 u7 n8 l8 u8 n9 l9 u9 n10 l10 u10 n11 l11 u11 t1 n12 l12 u12 n13 l13 u13 n14 l14 u14 n15 l15 u15 n16 l16 u16 n17 l17 u17 n18 l18 u18 n19 l19 u19 n20 l20 u20 n21 l21 u21 n22 l22 u22 n23 l23 u23
  intro _ _ _ _ _
  have eA : ∀ (A B : List Int), A.length = 12 → dA (b2i t :: (A ++ (b2i t1 :: B))) = A := by
    intro A B h
    simp [dA, ← h]
  have eB : ∀ (A B : List Int), A.length = 12 → dB (b2i t :: (A ++ (b2i t1 :: B))) = B := by
    intro A B h
    simp [dB, List.drop_append, h]
  have eA := eA [n, n1, n2, n3, n4, n5, n6, n7, n8, n9, n10, n11] [n12, n13, n14, n15, n16, n17, n18, n19, n20, n21, n22, n23] rfl
  have eB := eB [n, n1, n2, n3, n4, n5, n6, n7, n8, n9, n10, n11] [n12, n13, n14, n15, n16, n17, n18, n19, n20, n21, n22, n23] rfl
  simp only [List.cons_append, List.nil_append] at eA eB
  refine ⟨?_, ?_⟩
  · show top12 ∣ _ - vd ((dA _).take (0 : Int).toNat) * vd (dB _)
    simp [vd]
  intro n24 l24 u24 n25 l25 u25 n26 l26 u26 n27 l27 u27 n28 l28 u28 n29 l29 u29 n30 l30 u30 n31 l31 u31 n32 l32 u32 n33 l33 u33 n34 l34 u34 n35 l35 u35 n36 l36 u36 hI _ _
  replace hI : top12 ∣ vd [n25, n26, n27, n28, n29, n30, n31, n32, n33, n34, n35, n36] - vd ((dA _).take n24.toNat) * vd (dB _) := hI
  rw [eA, eB] at hI
  refine ⟨fun hi => ⟨?_, ?_⟩, fun hi => ?_⟩
  · show _ ∧ top12 ∣ vd [n25, n26, n27, n28, n29, n30, n31, n32, n33, n34, n35, n36] + 0 * 65536 ^ (n24.toNat + (0 : Int).toNat) - (vd ((dA _).take n24.toNat) * vd (dB _) + (dA _).getD n24.toNat 0 * vd ((dB _).take (0 : Int).toNat) * 65536 ^ n24.toNat)
    rw [eA, eB]
    refine ⟨by omega, ?_⟩
    simpa [vd] using hI
  · intro n37 l37 u37 n38 l38 u38 n39 l39 u39 n40 l40 u40 n41 l41 u41 n42 l42 u42 n43 l43 u43 n44 l44 u44 n45 l45 u45 n46 l46 u46 n47 l47 u47 n48 l48 u48 n49 l49 u49 n50 l50 u50 hJ _ _
    replace hJ : n24 + n38 ≤ 12 ∧ top12 ∣ vd [n39, n40, n41, n42, n43, n44, n45, n46, n47, n48, n49, n50] + n37 * 65536 ^ (n24.toNat + n38.toNat) - (vd ((dA _).take n24.toNat) * vd (dB _) + (dA _).getD n24.toNat 0 * vd ((dB _).take n38.toNat) * 65536 ^ n24.toNat) := hJ
    rw [eA, eB] at hJ
    obtain ⟨hik, hJ⟩ := hJ
    refine ⟨fun hl => ⟨hl, hi, by omega, ?_⟩, fun hl n51 e51 _ _ => ⟨by omega, fun n52 e52 _ _ => ⟨?_, ?_⟩⟩⟩
    · intro n51 e51 l51 u51
      rw [pick12 (n24 + n38) (by omega) hl, pick12 n24 l24 hi, pick12 n38 l38 (by omega)] at e51
      refine ⟨hl, fun n52 e52 _ _ n53 e53 _ _ n54 e54 _ _ => ⟨by omega, fun n55 e55 _ _ => ⟨?_, ?_⟩⟩⟩
      · show _ ∧ top12 ∣ vd _ + n53 * 65536 ^ (n24.toNat + n55.toNat) - (vd ((dA _).take n24.toNat) * vd (dB _) + (dA _).getD n24.toNat 0 * vd ((dB _).take n55.toNat) * 65536 ^ n24.toNat)
        rw [eA, eB, set12 (n24 + n38) (by omega) hl]
        refine ⟨by omega, ?_⟩
        have e1 : (n24 + n38).toNat = n24.toNat + n38.toNat := by omega
        have e2 : n55.toNat = n38.toNat + 1 := by omega
        rw [e1] at e51 ⊢
        rw [e2, e52, e53]
        exact prod_step [n, n1, n2, n3, n4, n5, n6, n7, n8, n9, n10, n11] [n12, n13, n14, n15, n16, n17, n18, n19, n20, n21, n22, n23] [n39, n40, n41, n42, n43, n44, n45, n46, n47, n48, n49, n50] n24.toNat n38.toNat (by simp; omega) (by simp; omega) (by simp; omega) n37 n51 e51 hJ
      · show (12 - n55).toNat < (12 - n38).toNat
        omega
    · show top12 ∣ vd [n39, n40, n41, n42, n43, n44, n45, n46, n47, n48, n49, n50] - vd ((dA _).take n52.toNat) * vd (dB _)
      rw [eA, eB, show n52.toNat = n24.toNat + 1 by omega]
      exact prod_row [n, n1, n2, n3, n4, n5, n6, n7, n8, n9, n10, n11] [n12, n13, n14, n15, n16, n17, n18, n19, n20, n21, n22, n23] [n39, n40, n41, n42, n43, n44, n45, n46, n47, n48, n49, n50] n24.toNat n38.toNat (by simp; omega) (by simp; omega) (by omega) n37 hJ
    · show (12 - n52).toNat < (12 - n24).toNat
      omega
  · have e : n24 = 12 := by omega
    subst e
    show ((b2i (!(t == t1)) = 1 ↔ b2i t ≠ b2i t1) ∧ vd [n25, n26, n27, n28, n29, n30, n31, n32, n33, n34, n35, n36] = (vd [n, n1, n2, n3, n4, n5, n6, n7, n8, n9, n10, n11] * vd [n12, n13, n14, n15, n16, n17, n18, n19, n20, n21, n22, n23]) % top12)
    refine ⟨by cases t <;> cases t1 <;> simp [b2i], prod_end hI (vd_nonneg _ ?_) (Int.lt_of_lt_of_le (vd_lt _ ?_) (by show (65536 : Int) ^ 12 ≤ top12; decide))⟩
    · intro d hd
      simp only [List.mem_cons, List.not_mem_nil, or_false] at hd
      omega
    · intro d hd
      simp only [List.mem_cons, List.not_mem_nil, or_false] at hd
      omega

end Go.Proofs.Ythiinecohgmnmaa.Sx
