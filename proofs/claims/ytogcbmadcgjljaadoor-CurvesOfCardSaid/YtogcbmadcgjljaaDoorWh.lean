/-
  Plain laws, part h: Above.
-/
import Derived.Test.YtogcbmadcgjljaaDoorWg
set_option linter.all false
namespace Go.Proofs.YtogcbmadcgjljaaDoor.Sx
open Go Go.RowKit
theorem p_above : P_above := by
  unfold P_above
  intro t n _ _ n1 _ _ n2 _ _ n3 _ _ n4 _ _ n5 _ _ n6 _ _ n7 _ _ n8 _ _ n9 _ _ n10 _ _ n11 _ _ t1 n12 _ _ n13 _ _ n14 _ _ n15 _ _ n16 _ _ n17 _ _ n18 _ _ n19 _ _ n20 _ _ n21 _ _ n22 _ _ n23 _ _ hp _ _
  replace hp : vd [n, n1, n2, n3, n4, n5, n6, n7, n8, n9, n10, n11] + vd [n12, n13, n14, n15, n16, n17, n18, n19, n20, n21, n22, n23] < top12 := hp
  refine ⟨trivial, ?_⟩
  intro t2 n24 _ _ n25 _ _ n26 _ _ n27 _ _ n28 _ _ n29 _ _ n30 _ _ n31 _ _ n32 _ _ n33 _ _ n34 _ _ n35 _ _ hm
  replace hm : (b2i t2 = 1 ↔ b2i t1 ≠ 1) ∧ [n24, n25, n26, n27, n28, n29, n30, n31, n32, n33, n34, n35] = [n12, n13, n14, n15, n16, n17, n18, n19, n20, n21, n22, n23] := hm
  obtain ⟨hm, hB⟩ := hm
  refine ⟨?_, ?_⟩
  · show vd [n, n1, n2, n3, n4, n5, n6, n7, n8, n9, n10, n11] + vd [n24, n25, n26, n27, n28, n29, n30, n31, n32, n33, n34, n35] < top12
    rw [hB]; exact hp
  intro t3 n36 _ _ n37 _ _ n38 _ _ n39 _ _ n40 _ _ n41 _ _ n42 _ _ n43 _ _ n44 _ _ n45 _ _ n46 _ _ n47 _ _ hs _
  replace hs : sv (b2i t3 :: [n36, n37, n38, n39, n40, n41, n42, n43, n44, n45, n46, n47]) = sv (b2i t :: [n, n1, n2, n3, n4, n5, n6, n7, n8, n9, n10, n11]) + sv (b2i t2 :: [n24, n25, n26, n27, n28, n29, n30, n31, n32, n33, n34, n35]) ∧ _ := hs
  rw [hB] at hs
  obtain ⟨hs, _⟩ := hs
  have e : sv (b2i t2 :: [n12, n13, n14, n15, n16, n17, n18, n19, n20, n21, n22, n23]) = - sv (b2i t1 :: [n12, n13, n14, n15, n16, n17, n18, n19, n20, n21, n22, n23]) := by
    simp only [sv]
    cases t1 <;> cases t2 <;> simp [b2i] at hm ⊢
  rw [e] at hs
  have h0 : 0 ≤ vd [n36, n37, n38, n39, n40, n41, n42, n43, n44, n45, n46, n47] := vd_nonneg _ (by intro d hd; simp only [List.mem_cons, List.not_mem_nil, or_false] at hd; omega)
  refine ⟨fun h _ => ?_, fun h => ?_⟩
  · show b2i (!_) = b2i (decide (sv (b2i t1 :: [n12, n13, n14, n15, n16, n17, n18, n19, n20, n21, n22, n23]) < sv (b2i t :: [n, n1, n2, n3, n4, n5, n6, n7, n8, n9, n10, n11])))
    rw [b2i_dec]
    have ht : t3 = false := by simpa using h
    subst ht
    simp only [Bool.not_eq_true', Bool.and_eq_false_imp, beq_iff_eq, beq_eq_false_iff_ne]
    generalize sv (b2i t1 :: [n12, n13, n14, n15, n16, n17, n18, n19, n20, n21, n22, n23]) = x at *
    generalize sv (b2i t :: [n, n1, n2, n3, n4, n5, n6, n7, n8, n9, n10, n11]) = y at *
    rw [sv_false] at hs
    simp only [vd] at hs h0
    omega
  · show b2i false = b2i (decide (sv (b2i t1 :: [n12, n13, n14, n15, n16, n17, n18, n19, n20, n21, n22, n23]) < sv (b2i t :: [n, n1, n2, n3, n4, n5, n6, n7, n8, n9, n10, n11])))
    rw [b2i_dec]
    have ht : t3 = true := by simpa using h
    subst ht
    generalize sv (b2i t1 :: [n12, n13, n14, n15, n16, n17, n18, n19, n20, n21, n22, n23]) = x at *
    generalize sv (b2i t :: [n, n1, n2, n3, n4, n5, n6, n7, n8, n9, n10, n11]) = y at *
    rw [sv_true] at hs
    simp
    omega

end Go.Proofs.YtogcbmadcgjljaaDoor.Sx
