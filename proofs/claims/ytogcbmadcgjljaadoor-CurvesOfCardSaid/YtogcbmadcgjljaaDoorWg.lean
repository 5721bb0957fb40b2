/-
  Plain laws, part e: products by digits.
-/
import Derived.Test.YtogcbmadcgjljaaDoorWb
set_option linter.all false
namespace Go.Proofs.YtogcbmadcgjljaaDoor.Sx
open Go Go.RowKit

theorem vd_set : ∀ (l : List Int) (j : Nat) (v : Int), j < l.length → vd (l.set j v) = vd l + (v - l.getD j 0) * 65536 ^ j
  | [], j, v, h => absurd h (by simp)
  | d :: r, 0, v, _ => by simp [vd]; omega
  | d :: r, j + 1, v, h => by
    have := vd_set r j v (by simpa using h)
    simp only [List.set_cons_succ, vd, this, List.getD_cons_succ]
    grind

theorem vd_take_succ : ∀ (l : List Int) (j : Nat), j < l.length → vd (l.take (j + 1)) = vd (l.take j) + l.getD j 0 * 65536 ^ j
  | [], j, h => absurd h (by simp)
  | d :: r, 0, _ => by simp [vd]
  | d :: r, j + 1, h => by
    have := vd_take_succ r j (by simpa using h)
    rw [List.take_succ_cons, List.take_succ_cons]
    simp only [vd, this, List.getD_cons_succ]
    grind

theorem vd_take_drop : ∀ (l : List Int) (j : Nat), j ≤ l.length → vd l = vd (l.take j) + 65536 ^ j * vd (l.drop j)
  | l, 0, _ => by simp [vd]
  | [], j + 1, h => absurd h (by simp)
  | d :: r, j + 1, h => by
    have := vd_take_drop r j (by simpa using h)
    rw [List.take_succ_cons, List.drop_succ_cons]
    simp only [vd]
    grind

theorem vd_lt : ∀ (l : List Int), (∀ d ∈ l, d ≤ 65535) → vd l < 65536 ^ l.length
  | [], _ => by simp [vd]
  | d :: r, h => by
    have h1 := h d (by simp)
    have h2 := vd_lt r fun e he => h e (by simp [he])
    simp only [vd, List.length_cons, Int.pow_succ]
    omega

theorem prod_step (A B O : List Int) (i k : Nat) (hA : i < A.length) (hB : k < B.length) (hO : i + k < O.length) (q s : Int) (hs : s = q + O.getD (i + k) 0 + A.getD i 0 * B.getD k 0)
    (h : top12 ∣ vd O + q * 65536 ^ (i + k) - (vd (A.take i) * vd B + A.getD i 0 * vd (B.take k) * 65536 ^ i)) :
    top12 ∣ vd (O.set (i + k) (s % 65536)) + s / 65536 * 65536 ^ (i + (k + 1)) - (vd (A.take i) * vd B + A.getD i 0 * vd (B.take (k + 1)) * 65536 ^ i) := by
  rw [vd_set _ _ _ hO, vd_take_succ _ _ hB]
  have e : s % 65536 = s - 65536 * (s / 65536) := by omega
  rw [e]
  have e2 : (65536 : Int) ^ (i + (k + 1)) = 65536 ^ i * 65536 ^ k * 65536 := by rw [← Nat.add_assoc, Int.pow_succ, Int.pow_add]
  rw [e2, Int.pow_add]
  rw [Int.pow_add] at h
  generalize s / 65536 = z
  generalize (65536 : Int) ^ i = bi at *
  generalize (65536 : Int) ^ k = bk at *
  generalize O.getD (i + k) 0 = o at *
  generalize A.getD i 0 = a at *
  generalize B.getD k 0 = b at *
  subst hs
  obtain ⟨c, hc⟩ := h
  refine ⟨c, ?_⟩
  rw [← hc]
  grind

theorem prod_row (A B O : List Int) (i k : Nat) (hA : i < A.length) (hB : k ≤ B.length) (hik : i + k = 12) (q : Int)
    (h : top12 ∣ vd O + q * 65536 ^ (i + k) - (vd (A.take i) * vd B + A.getD i 0 * vd (B.take k) * 65536 ^ i)) :
    top12 ∣ vd O - vd (A.take (i + 1)) * vd B := by
  have e : (65536 : Int) ^ i * 65536 ^ k = top12 := by rw [← Int.pow_add, hik]; rfl
  rw [hik, show (65536 : Int) ^ 12 = top12 from rfl] at h
  rw [vd_take_succ _ _ hA]
  have eB := vd_take_drop B k hB
  generalize A.getD i 0 = a at *
  generalize vd (A.take i) = x at *
  generalize (65536 : Int) ^ i = bi at *
  generalize (65536 : Int) ^ k = bk at *
  generalize vd (B.take k) = u at *
  generalize vd (B.drop k) = w at *
  generalize vd B = vb' at *
  generalize vd O = vo at *
  obtain ⟨c, hc⟩ := h
  refine ⟨c - q - a * w, ?_⟩
  generalize top12 = m at *
  subst e eB
  grind

theorem prod_end {x y : Int} (h : top12 ∣ x - y) (h0 : 0 ≤ x) (h1 : x < top12) : x = y % top12 := by
  have := Int.emod_eq_emod_iff_emod_sub_eq_zero.2 (Int.emod_eq_zero_of_dvd h)
  rw [← this, Int.emod_eq_of_lt h0 h1]

theorem pick12 (i : Int) (h0 : 0 ≤ i) (h1 : i < 12) (x0 x1 x2 x3 x4 x5 x6 x7 x8 x9 x10 x11 : Int) : (if i = 0 then x0 else if i = 1 then x1 else if i = 2 then x2 else if i = 3 then x3 else if i = 4 then x4 else if i = 5 then x5 else if i = 6 then x6 else if i = 7 then x7 else if i = 8 then x8 else if i = 9 then x9 else if i = 10 then x10 else  x11) = ([x0, x1, x2, x3, x4, x5, x6, x7, x8, x9, x10, x11] : List Int).getD i.toNat 0 := by
  have h : i = 0 ∨ i = 1 ∨ i = 2 ∨ i = 3 ∨ i = 4 ∨ i = 5 ∨ i = 6 ∨ i = 7 ∨ i = 8 ∨ i = 9 ∨ i = 10 ∨ i = 11 := by omega
  rcases h with rfl | rfl | rfl | rfl | rfl | rfl | rfl | rfl | rfl | rfl | rfl | rfl <;> rfl

theorem set12 (i : Int) (h0 : 0 ≤ i) (h1 : i < 12) (v x0 x1 x2 x3 x4 x5 x6 x7 x8 x9 x10 x11 : Int) : [(if i = 0 then v else x0), (if i = 1 then v else x1), (if i = 2 then v else x2), (if i = 3 then v else x3), (if i = 4 then v else x4), (if i = 5 then v else x5), (if i = 6 then v else x6), (if i = 7 then v else x7), (if i = 8 then v else x8), (if i = 9 then v else x9), (if i = 10 then v else x10), (if i = 11 then v else x11)] = ([x0, x1, x2, x3, x4, x5, x6, x7, x8, x9, x10, x11] : List Int).set i.toNat v := by
  have h : i = 0 ∨ i = 1 ∨ i = 2 ∨ i = 3 ∨ i = 4 ∨ i = 5 ∨ i = 6 ∨ i = 7 ∨ i = 8 ∨ i = 9 ∨ i = 10 ∨ i = 11 := by omega
  rcases h with rfl | rfl | rfl | rfl | rfl | rfl | rfl | rfl | rfl | rfl | rfl | rfl <;> rfl

end Go.Proofs.YtogcbmadcgjljaaDoor.Sx

/-
  Plain laws, part f: the product by digits, of the code.
-/
set_option linter.all false
namespace Go.Proofs.YtogcbmadcgjljaaDoor.Sx
open Go Go.RowKit

set_option maxHeartbeats 4000000 in
theorem p_product : P_product := by
  unfold P_product
  intro t n l0 u0 n1 l1 u1 n2 l2 u2 n3 l3 u3 n4 l4 u4 n5 l5 u5 n6 l6 u6 n7 l7 u7 n8 l8 u8 n9 l9 u9 n10 l10 u10 n11 l11 u11 t1 n12 l12 u12 n13 l13 u13 n14 l14 u14 n15 l15 u15 n16 l16 u16 n17 l17 u17 n18 l18 u18 n19 l19 u19 n20 l20 u20 n21 l21 u21 n22 l22 u22 n23 l23 u23
  intro _ _ _ _ _
  have eA : ∀ (A B : List Int), A.length = 12 → dA (b2i t :: (A ++ (b2i t1 :: B))) = A := by
    intro A B h
    simp [dA, ← h]
  have eB : ∀ (A B : List Int), A.length = 12 → dB (b2i t :: (A ++ (b2i t1 :: B))) = B := by
    intro A B h
    simp [dB, List.drop_append, h]
  have eA := eA [n, n1, n2, n3, n4, n5, n6, n7, n8, n9, n10, n11] [n12, n13, n14, n15, n16, n17, n18, n19, n20, n21, n22, n23] rfl
  have eB := eB [n, n1, n2, n3, n4, n5, n6, n7, n8, n9, n10, n11] [n12, n13, n14, n15, n16, n17, n18, n19, n20, n21, n22, n23] rfl
  simp only [List.cons_append, List.nil_append] at eA eB
  refine ⟨?_, ?_⟩
  · show top12 ∣ _ - vd ((dA _).take (0 : Int).toNat) * vd (dB _)
    simp [vd]
  intro n24 l24 u24 n25 l25 u25 n26 l26 u26 n27 l27 u27 n28 l28 u28 n29 l29 u29 n30 l30 u30 n31 l31 u31 n32 l32 u32 n33 l33 u33 n34 l34 u34 n35 l35 u35 n36 l36 u36 hI _ _
  replace hI : top12 ∣ vd [n25, n26, n27, n28, n29, n30, n31, n32, n33, n34, n35, n36] - vd ((dA _).take n24.toNat) * vd (dB _) := hI
  rw [eA, eB] at hI
  refine ⟨fun hi => ⟨?_, ?_⟩, fun hi => ?_⟩
  · show _ ∧ top12 ∣ vd [n25, n26, n27, n28, n29, n30, n31, n32, n33, n34, n35, n36] + 0 * 65536 ^ (n24.toNat + (0 : Int).toNat) - (vd ((dA _).take n24.toNat) * vd (dB _) + (dA _).getD n24.toNat 0 * vd ((dB _).take (0 : Int).toNat) * 65536 ^ n24.toNat)
    rw [eA, eB]
    refine ⟨by omega, ?_⟩
    simpa [vd] using hI
  · intro n37 l37 u37 n38 l38 u38 n39 l39 u39 n40 l40 u40 n41 l41 u41 n42 l42 u42 n43 l43 u43 n44 l44 u44 n45 l45 u45 n46 l46 u46 n47 l47 u47 n48 l48 u48 n49 l49 u49 n50 l50 u50 hJ _ _
    replace hJ : n24 + n38 ≤ 12 ∧ top12 ∣ vd [n39, n40, n41, n42, n43, n44, n45, n46, n47, n48, n49, n50] + n37 * 65536 ^ (n24.toNat + n38.toNat) - (vd ((dA _).take n24.toNat) * vd (dB _) + (dA _).getD n24.toNat 0 * vd ((dB _).take n38.toNat) * 65536 ^ n24.toNat) := hJ
    rw [eA, eB] at hJ
    obtain ⟨hik, hJ⟩ := hJ
    refine ⟨fun hl => ⟨hl, hi, by omega, ?_⟩, fun hl n51 e51 _ _ => ⟨by omega, fun n52 e52 _ _ => ⟨?_, ?_⟩⟩⟩
    · intro n51 e51 l51 u51
      rw [pick12 (n24 + n38) (by omega) hl, pick12 n24 l24 hi, pick12 n38 l38 (by omega)] at e51
      refine ⟨hl, fun n52 e52 _ _ n53 e53 _ _ n54 e54 _ _ => ⟨by omega, fun n55 e55 _ _ => ⟨?_, ?_⟩⟩⟩
      · show _ ∧ top12 ∣ vd _ + n53 * 65536 ^ (n24.toNat + n55.toNat) - (vd ((dA _).take n24.toNat) * vd (dB _) + (dA _).getD n24.toNat 0 * vd ((dB _).take n55.toNat) * 65536 ^ n24.toNat)
        rw [eA, eB, set12 (n24 + n38) (by omega) hl]
        refine ⟨by omega, ?_⟩
        have e1 : (n24 + n38).toNat = n24.toNat + n38.toNat := by omega
        have e2 : n55.toNat = n38.toNat + 1 := by omega
        rw [e1] at e51 ⊢
        rw [e2, e52, e53]
        exact prod_step [n, n1, n2, n3, n4, n5, n6, n7, n8, n9, n10, n11] [n12, n13, n14, n15, n16, n17, n18, n19, n20, n21, n22, n23] [n39, n40, n41, n42, n43, n44, n45, n46, n47, n48, n49, n50] n24.toNat n38.toNat (by simp; omega) (by simp; omega) (by simp; omega) n37 n51 e51 hJ
      · show (12 - n55).toNat < (12 - n38).toNat
        omega
    · show top12 ∣ vd [n39, n40, n41, n42, n43, n44, n45, n46, n47, n48, n49, n50] - vd ((dA _).take n52.toNat) * vd (dB _)
      rw [eA, eB, show n52.toNat = n24.toNat + 1 by omega]
      exact prod_row [n, n1, n2, n3, n4, n5, n6, n7, n8, n9, n10, n11] [n12, n13, n14, n15, n16, n17, n18, n19, n20, n21, n22, n23] [n39, n40, n41, n42, n43, n44, n45, n46, n47, n48, n49, n50] n24.toNat n38.toNat (by simp; omega) (by simp; omega) (by omega) n37 hJ
    · show (12 - n52).toNat < (12 - n24).toNat
      omega
  · have e : n24 = 12 := by omega
    subst e
    show ((b2i (!(t == t1)) = 1 ↔ b2i t ≠ b2i t1) ∧ vd [n25, n26, n27, n28, n29, n30, n31, n32, n33, n34, n35, n36] = (vd [n, n1, n2, n3, n4, n5, n6, n7, n8, n9, n10, n11] * vd [n12, n13, n14, n15, n16, n17, n18, n19, n20, n21, n22, n23]) % top12)
    refine ⟨by cases t <;> cases t1 <;> simp [b2i], prod_end hI (vd_nonneg _ ?_) (Int.lt_of_lt_of_le (vd_lt _ ?_) (by show (65536 : Int) ^ 12 ≤ top12; decide))⟩
    · intro d hd
      simp only [List.mem_cons, List.not_mem_nil, or_false] at hd
      omega
    · intro d hd
      simp only [List.mem_cons, List.not_mem_nil, or_false] at hd
      omega

end Go.Proofs.YtogcbmadcgjljaaDoor.Sx

/-
  Plain laws, part g: Read, Sum.
-/
set_option linter.all false
namespace Go.Proofs.YtogcbmadcgjljaaDoor.Sx
open Go Go.RowKit

theorem sv_true (l : List Int) : sv (b2i true :: l) = - vd l := by simp [sv, b2i]
theorem sv_false (l : List Int) : sv (b2i false :: l) = vd l := by simp [sv, b2i]

set_option maxHeartbeats 4000000 in
theorem p_read : P_read := by
  unfold P_read
  intro n _ _ n1 _ _ _ _ _ _ n2 e2 _ _ n3 e3 _ _ n4 e4 _ _ n5 e5 _ _ n6 e6 _ _ n7 e7 _ _ n8 e8 _ _ n9 e9 _ _
  simp only [wrap_u64] at e3 e5 e7 e9
  refine ⟨fun h => ⟨?_, ?_⟩, fun h => ?_⟩
  · show vd _ ≤ vd _
    simp only [vd]; omega
  · intro n10 _ _ n11 _ _ n12 _ _ n13 _ _ n14 _ _ n15 _ _ n16 _ _ n17 _ _ n18 _ _ n19 _ _ n20 _ _ n21 _ _ hl
    replace hl : vd [n10, n11, n12, n13, n14, n15, n16, n17, n18, n19, n20, n21] = vd _ - vd _ := hl
    show vd [n10, n11, n12, n13, n14, n15, n16, n17, n18, n19, n20, n21] ≤ _ ∧ sv (1 :: [n10, n11, n12, n13, n14, n15, n16, n17, n18, n19, n20, n21]) = _ ∧ ((1 : Int) = 1 ↔ _)
    simp only [sv, if_true, hl, w128]
    simp only [vd]
    refine ⟨by omega, by omega, by simpa using h⟩
  · show vd [n2, n4, n6, n8, n3, n5, n7, n9, 0, 0, 0, 0] ≤ _ ∧ sv (0 :: _) = _ ∧ ((0 : Int) = 1 ↔ _)
    simp only [sv, vd, w128]
    refine ⟨by omega, ?_, by simpa using h⟩
    simp
    omega

theorem p_sum : P_sum := by
  unfold P_sum
  intro t n _ _ n1 _ _ n2 _ _ n3 _ _ n4 _ _ n5 _ _ n6 _ _ n7 _ _ n8 _ _ n9 _ _ n10 _ _ n11 _ _ t1 n12 _ _ n13 _ _ n14 _ _ n15 _ _ n16 _ _ n17 _ _ n18 _ _ n19 _ _ n20 _ _ n21 _ _ n22 _ _ n23 _ _ hp _ _ _
  replace hp : vd [n, n1, n2, n3, n4, n5, n6, n7, n8, n9, n10, n11] + vd [n12, n13, n14, n15, n16, n17, n18, n19, n20, n21, n22, n23] < top12 := hp
  have h0 : 0 ≤ vd [n, n1, n2, n3, n4, n5, n6, n7, n8, n9, n10, n11] := vd_nonneg _ (by intro d hd; simp only [List.mem_cons, List.not_mem_nil, or_false] at hd; omega)
  have h1 : 0 ≤ vd [n12, n13, n14, n15, n16, n17, n18, n19, n20, n21, n22, n23] := vd_nonneg _ (by intro d hd; simp only [List.mem_cons, List.not_mem_nil, or_false] at hd; omega)
  refine ⟨fun h => ⟨trivial, ?_⟩, fun h => ⟨trivial, ?_⟩⟩
  · intro n24 _ _ n25 _ _ n26 _ _ n27 _ _ n28 _ _ n29 _ _ n30 _ _ n31 _ _ n32 _ _ n33 _ _ n34 _ _ n35 _ _ hl
    replace hl : vd [n24, n25, n26, n27, n28, n29, n30, n31, n32, n33, n34, n35] = (vd [n, n1, n2, n3, n4, n5, n6, n7, n8, n9, n10, n11] + vd [n12, n13, n14, n15, n16, n17, n18, n19, n20, n21, n22, n23]) % top12 := hl
    rw [Int.emod_eq_of_lt (by omega) hp] at hl
    show sv (b2i t :: [n24, n25, n26, n27, n28, n29, n30, n31, n32, n33, n34, n35]) = sv (b2i t :: [n, n1, n2, n3, n4, n5, n6, n7, n8, n9, n10, n11]) + sv (b2i t1 :: [n12, n13, n14, n15, n16, n17, n18, n19, n20, n21, n22, n23]) ∧ vd [n24, n25, n26, n27, n28, n29, n30, n31, n32, n33, n34, n35] ≤ _ + _
    simp only [sv, hl]
    cases t <;> cases t1 <;> simp [b2i] at h ⊢ <;> omega
  · intro n24 _ _ hc
    replace hc : (vd [n, n1, n2, n3, n4, n5, n6, n7, n8, n9, n10, n11] < vd [n12, n13, n14, n15, n16, n17, n18, n19, n20, n21, n22, n23] → n24 = -1) ∧ (vd [n, n1, n2, n3, n4, n5, n6, n7, n8, n9, n10, n11] = vd [n12, n13, n14, n15, n16, n17, n18, n19, n20, n21, n22, n23] → n24 = 0) ∧ (vd [n12, n13, n14, n15, n16, n17, n18, n19, n20, n21, n22, n23] < vd [n, n1, n2, n3, n4, n5, n6, n7, n8, n9, n10, n11] → n24 = 1) := hc
    refine ⟨fun hn => ⟨?_, ?_⟩, fun hn => ⟨?_, ?_⟩⟩
    · show vd [n, n1, n2, n3, n4, n5, n6, n7, n8, n9, n10, n11] ≤ vd [n12, n13, n14, n15, n16, n17, n18, n19, n20, n21, n22, n23]
      omega
    · intro n25 _ _ n26 _ _ n27 _ _ n28 _ _ n29 _ _ n30 _ _ n31 _ _ n32 _ _ n33 _ _ n34 _ _ n35 _ _ n36 _ _ hl
      replace hl : vd [n25, n26, n27, n28, n29, n30, n31, n32, n33, n34, n35, n36] = vd [n12, n13, n14, n15, n16, n17, n18, n19, n20, n21, n22, n23] - vd [n, n1, n2, n3, n4, n5, n6, n7, n8, n9, n10, n11] := hl
      show sv (b2i t1 :: [n25, n26, n27, n28, n29, n30, n31, n32, n33, n34, n35, n36]) = sv (b2i t :: [n, n1, n2, n3, n4, n5, n6, n7, n8, n9, n10, n11]) + sv (b2i t1 :: [n12, n13, n14, n15, n16, n17, n18, n19, n20, n21, n22, n23]) ∧ vd [n25, n26, n27, n28, n29, n30, n31, n32, n33, n34, n35, n36] ≤ vd [n, n1, n2, n3, n4, n5, n6, n7, n8, n9, n10, n11] + vd [n12, n13, n14, n15, n16, n17, n18, n19, n20, n21, n22, n23]
      simp only [sv, hl]
      cases t <;> cases t1 <;> simp [b2i] at h ⊢ <;> omega
    · show vd [n12, n13, n14, n15, n16, n17, n18, n19, n20, n21, n22, n23] ≤ vd [n, n1, n2, n3, n4, n5, n6, n7, n8, n9, n10, n11]
      omega
    · intro n25 _ _ n26 _ _ n27 _ _ n28 _ _ n29 _ _ n30 _ _ n31 _ _ n32 _ _ n33 _ _ n34 _ _ n35 _ _ n36 _ _ hl
      replace hl : vd [n25, n26, n27, n28, n29, n30, n31, n32, n33, n34, n35, n36] = vd [n, n1, n2, n3, n4, n5, n6, n7, n8, n9, n10, n11] - vd [n12, n13, n14, n15, n16, n17, n18, n19, n20, n21, n22, n23] := hl
      show sv (b2i t :: [n25, n26, n27, n28, n29, n30, n31, n32, n33, n34, n35, n36]) = sv (b2i t :: [n, n1, n2, n3, n4, n5, n6, n7, n8, n9, n10, n11]) + sv (b2i t1 :: [n12, n13, n14, n15, n16, n17, n18, n19, n20, n21, n22, n23]) ∧ vd [n25, n26, n27, n28, n29, n30, n31, n32, n33, n34, n35, n36] ≤ vd [n, n1, n2, n3, n4, n5, n6, n7, n8, n9, n10, n11] + vd [n12, n13, n14, n15, n16, n17, n18, n19, n20, n21, n22, n23]
      simp only [sv, hl]
      cases t <;> cases t1 <;> simp [b2i] at h ⊢ <;> omega

end Go.Proofs.YtogcbmadcgjljaaDoor.Sx
