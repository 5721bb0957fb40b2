/-
  Plain laws, part g: Read, Sum.
-/
import Derived.Test.YthiinecohgmnmaaWe
set_option linter.all false
namespace Go.Proofs.Ythiinecohgmnmaa.Sx
open Go Go.RowKit

theorem sv_true (l : List Int) : sv (b2i true :: l) = - vd l := by simp [sv, b2i]
theorem sv_false (l : List Int) : sv (b2i false :: l) = vd l := by simp [sv, b2i]

set_option maxHeartbeats 4000000 in
theorem p_read : P_read := by
  unfold P_read
  intro n _ _ n1 _ _ _ _ _ _ n2 e2 _ _ n3 e3 _ _ n4 e4 _ _ n5 e5 _ _ n6 e6 _ _ n7 e7 _ _ n8 e8 _ _ n9 e9 _ _
  simp only [wrap_u64] at e3 e5 e7 e9
  refine ⟨fun h => ⟨?_, ?_⟩, fun h => ?_⟩
  · show vd _ ≤ vd _
    simp only [vd]; omega
  · intro n10 _ _ n11 _ _ n12 _ _ n13 _ _ n14 _ _ n15 _ _ n16 _ _ n17 _ _ n18 _ _ n19 _ _ n20 _ _ n21 _ _ hl
    replace hl : vd [n10, n11, n12, n13, n14, n15, n16, n17, n18, n19, n20, n21] = vd _ - vd _ := hl
    show vd [n10, n11, n12, n13, n14, n15, n16, n17, n18, n19, n20, n21] ≤ _ ∧ sv (1 :: [n10, n11, n12, n13, n14, n15, n16, n17, n18, n19, n20, n21]) = _ ∧ ((1 : Int) = 1 ↔ _)
    simp only [sv, if_true, hl, w128]
    simp only [vd]
    refine ⟨by omega, by omega, by simpa using h⟩
  · show vd [n2, n4, n6, n8, n3, n5, n7, n9, 0, 0, 0, 0] ≤ _ ∧ sv (0 :: _) = _ ∧ ((0 : Int) = 1 ↔ _)
    simp only [sv, vd, w128]
    refine ⟨by omega, ?_, by simpa using h⟩
    simp
    omega

theorem p_sum : P_sum := by
  unfold P_sum
  intro t n _ _ n1 _ _ n2 _ _ n3 _ _ n4 _ _ n5 _ _ n6 _ _ n7 _ _ n8 _ _ n9 _ _ n10 _ _ n11 _ _ t1 n12 _ _ n13 _ _ n14 _ _ n15 _ _ n16 _ _ n17 _ _ n18 _ _ n19 _ _ n20 _ _ n21 _ _ n22 _ _ n23 _ _ hp _ _ _
  replace hp : vd [n, n1, n2, n3, n4, n5, n6, n7, n8, n9, n10, n11] + vd [n12, n13, n14, n15, n16, n17, n18, n19, n20, n21, n22, n23] < top12 := hp
  have h0 : 0 ≤ vd [n, n1, n2, n3, n4, n5, n6, n7, n8, n9, n10, n11] := vd_nonneg _ (by intro d hd; simp only [List.mem_cons, List.not_mem_nil, or_false] at hd; omega)
  have h1 : 0 ≤ vd [n12, n13, n14, n15, n16, n17, n18, n19, n20, n21, n22, n23] := vd_nonneg _ (by intro d hd; simp only [List.mem_cons, List.not_mem_nil, or_false] at hd; omega)
  refine ⟨fun h => ⟨trivial, ?_⟩, fun h => ⟨trivial, ?_⟩⟩
  · intro n24 _ _ n25 _ _ n26 _ _ n27 _ _ n28 _ _ n29 _ _ n30 _ _ n31 _ _ n32 _ _ n33 _ _ n34 _ _ n35 _ _ hl
    replace hl : vd [n24, n25, n26, n27, n28, n29, n30, n31, n32, n33, n34, n35] = (vd [n, n1, n2, n3, n4, n5, n6, n7, n8, n9, n10, n11] + vd [n12, n13, n14, n15, n16, n17, n18, n19, n20, n21, n22, n23]) % top12 := hl
    rw [Int.emod_eq_of_lt (by omega) hp] at hl
    show sv (b2i t :: [n24, n25, n26, n27, n28, n29, n30, n31, n32, n33, n34, n35]) = sv (b2i t :: [n, n1, n2, n3, n4, n5, n6, n7, n8, n9, n10, n11]) + sv (b2i t1 :: [n12, n13, n14, n15, n16, n17, n18, n19, n20, n21, n22, n23]) ∧ vd [n24, n25, n26, n27, n28, n29, n30, n31, n32, n33, n34, n35] ≤ _ + _
    simp only [sv, hl]
    cases t <;> cases t1 <;> simp [b2i] at h ⊢ <;> omega
  · intro n24 _ _ hc
    replace hc : (vd [n, n1, n2, n3, n4, n5, n6, n7, n8, n9, n10, n11] < vd [n12, n13, n14, n15, n16, n17, n18, n19, n20, n21, n22, n23] → n24 = -1) ∧ (vd [n, n1, n2, n3, n4, n5, n6, n7, n8, n9, n10, n11] = vd [n12, n13, n14, n15, n16, n17, n18, n19, n20, n21, n22, n23] → n24 = 0) ∧ (vd [n12, n13, n14, n15, n16, n17, n18, n19, n20, n21, n22, n23] < vd [n, n1, n2, n3, n4, n5, n6, n7, n8, n9, n10, n11] → n24 = 1) := hc
    refine ⟨fun hn => ⟨?_, ?_⟩, fun hn => ⟨?_, ?_⟩⟩
    · show vd [n, n1, n2, n3, n4, n5, n6, n7, n8, n9, n10, n11] ≤ vd [n12, n13, n14, n15, n16, n17, n18, n19, n20, n21, n22, n23]
      omega
    · intro n25 _ _ n26 _ _ n27 _ _ n28 _ _ n29 _ _ n30 _ _ n31 _ _ n32 _ _ n33 _ _ n34 _ _ n35 _ _ n36 _ _ hl
      replace hl : vd [n25, n26, n27, n28, n29, n30, n31, n32, n33, n34, n35, n36] = vd [n12, n13, n14, n15, n16, n17, n18, n19, n20, n21, n22, n23] - vd [n, n1, n2, n3, n4, n5, n6, n7, n8, n9, n10, n11] := hl
      show sv (b2i t1 :: [n25, n26, n27, n28, n29, n30, n31, n32, n33, n34, n35, n36]) = sv (b2i t :: [n, n1, n2, n3, n4, n5, n6, n7, n8, n9, n10, n11]) + sv (b2i t1 :: [n12, n13, n14, n15, n16, n17, n18, n19, n20, n21, n22, n23]) ∧ vd [n25, n26, n27, n28, n29, n30, n31, n32, n33, n34, n35, n36] ≤ vd [n, n1, n2, n3, n4, n5, n6, n7, n8, n9, n10, n11] + vd [n12, n13, n14, n15, n16, n17, n18, n19, n20, n21, n22, n23]
      simp only [sv, hl]
      cases t <;> cases t1 <;> simp [b2i] at h ⊢ <;> omega
    · show vd [n12, n13, n14, n15, n16, n17, n18, n19, n20, n21, n22, n23] ≤ vd [n, n1, n2, n3, n4, n5, n6, n7, n8, n9, n10, n11]
      omega
    · intro n25 _ _ n26 _ _ n27 _ _ n28 _ _ n29 _ _ n30 _ _ n31 _ _ n32 _ _ n33 _ _ n34 _ _ n35 _ _ n36 _ _ hl
      replace hl : vd [n25, n26, n27, n28, n29, n30, n31, n32, n33, n34, n35, n36] = vd [n, n1, n2, n3, n4, n5, n6, n7, n8, n9, n10, n11] - vd [n12, n13, n14, n15, n16, n17, n18, n19, n20, n21, n22, n23] := hl
      show sv (b2i t :: [n25, n26, n27, n28, n29, n30, n31, n32, n33, n34, n35, n36]) = sv (b2i t :: [n, n1, n2, n3, n4, n5, n6, n7, n8, n9, n10, n11]) + sv (b2i t1 :: [n12, n13, n14, n15, n16, n17, n18, n19, n20, n21, n22, n23]) ∧ vd [n25, n26, n27, n28, n29, n30, n31, n32, n33, n34, n35, n36] ≤ vd [n, n1, n2, n3, n4, n5, n6, n7, n8, n9, n10, n11] + vd [n12, n13, n14, n15, n16, n17, n18, n19, n20, n21, n22, n23]
      simp only [sv, hl]
      cases t <;> cases t1 <;> simp [b2i] at h ⊢ <;> omega

end Go.Proofs.Ythiinecohgmnmaa.Sx
