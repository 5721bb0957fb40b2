/-
  Plain laws, part h: roots by halving.
-/
import Derived.Test.YtakpbbponhamaaaRpg
import Derived.Test.YtakpbbponhamaaaRpc
set_option linter.all false
namespace Go.Proofs.Ytakpbbponhamaaa.Sx
open Go Go.RowKit

theorem b2i_cases (t : Bool) : b2i t = 0 ∨ b2i t = 1 := by cases t <;> simp [b2i]

theorem p_rnum : P_rnum := by
  unfold P_rnum
  intro n _ _ _ _
  refine ⟨trivial, ?_⟩
  intro t n1 _ _ n2 _ _ n3 _ _ n4 _ _ n5 _ _ n6 _ _ n7 _ _ n8 _ _ n9 _ _ n10 _ _ n11 _ _ n12 _ _ hr
  replace hr : vd [n1, n2, n3, n4, n5, n6, n7, n8, n9, n10, n11, n12] ≤ _ ∧ sv (b2i t :: [n1, n2, n3, n4, n5, n6, n7, n8, n9, n10, n11, n12]) = w128 0 n ∧ (b2i t = 1 ↔ (0 : Int) < 0) := hr
  obtain ⟨_, h1, h2⟩ := hr
  show b2i t = 0 ∧ vd [n1, n2, n3, n4, n5, n6, n7, n8, n9, n10, n11, n12] = n
  cases t with
  | true => simp [b2i] at h2
  | false =>
    rw [sv_false] at h1
    refine ⟨rfl, ?_⟩
    rw [h1]; simp [w128]

theorem p_rroot : P_rroot := by
  unfold P_rroot
  intro t n _ _ n1 _ _ n2 _ _ n3 _ _ n4 _ _ n5 _ _ n6 _ _ n7 _ _ n8 _ _ n9 _ _ n10 _ _ n11 _ _ hp _
  replace hp : b2i t = 0 ∧ vd [n, n1, n2, n3, n4, n5, n6, n7, n8, n9, n10, n11] < top8 := hp
  obtain ⟨ht, hp⟩ := hp
  have ht : t = false := by cases t <;> simp [b2i] at ht ⊢
  subst ht
  have h0 : 0 ≤ vd [n, n1, n2, n3, n4, n5, n6, n7, n8, n9, n10, n11] := vd_nonneg _ (by intro d hd; simp only [List.mem_cons, List.not_mem_nil, or_false] at hd; omega)
  generalize hN : vd [n, n1, n2, n3, n4, n5, n6, n7, n8, n9, n10, n11] = N at hp h0
  refine ⟨?_, ?_⟩
  · show (0 : Int) ≤ 18446744073709551615 ∧ 0 * 0 ≤ vd [n, n1, n2, n3, n4, n5, n6, n7, n8, n9, n10, n11] ∧ vd [n, n1, n2, n3, n4, n5, n6, n7, n8, n9, n10, n11] < (18446744073709551615 + 1) * (18446744073709551615 + 1)
    rw [hN]; simp only [top8] at hp; omega
  intro a _ _ b _ _ hI _ _
  replace hI : a ≤ b ∧ a * a ≤ vd [n, n1, n2, n3, n4, n5, n6, n7, n8, n9, n10, n11] ∧ vd [n, n1, n2, n3, n4, n5, n6, n7, n8, n9, n10, n11] < (b + 1) * (b + 1) := hI
  rw [hN] at hI
  obtain ⟨i1, i2, i3⟩ := hI
  refine ⟨fun hl => ?_, fun hl => ?_⟩
  · intro m em _ _
    simp only [wrap_u64] at em
    have f1 : (b - a) % 18446744073709551616 = b - a := by omega
    rw [f1] at em
    have f2 : (a + (b - a) / 2) % 18446744073709551616 = a + (b - a) / 2 := Int.emod_eq_of_lt (by omega) (by omega)
    rw [f2] at em
    have f3 : (a + (b - a) / 2 + (b - a) % 2) % 18446744073709551616 = a + (b - a) / 2 + (b - a) % 2 := Int.emod_eq_of_lt (by omega) (by omega)
    rw [f3] at em
    have em1 : a < m := by omega
    have em2 : m ≤ b := by omega
    refine ⟨trivial, ?_⟩
    intro t1 n15 _ _ n16 _ _ n17 _ _ n18 _ _ n19 _ _ n20 _ _ n21 _ _ n22 _ _ n23 _ _ n24 _ _ n25 _ _ n26 _ _ hq
    replace hq : b2i t1 = 0 ∧ vd [n15, n16, n17, n18, n19, n20, n21, n22, n23, n24, n25, n26] = m := hq
    refine ⟨trivial, ?_⟩
    intro t2 n27 _ _ n28 _ _ n29 _ _ n30 _ _ n31 _ _ n32 _ _ n33 _ _ n34 _ _ n35 _ _ n36 _ _ n37 _ _ n38 _ _ hr
    replace hr : b2i t2 = 0 ∧ vd [n27, n28, n29, n30, n31, n32, n33, n34, n35, n36, n37, n38] = m := hr
    refine ⟨trivial, ?_⟩
    intro t3 n39 _ _ n40 _ _ n41 _ _ n42 _ _ n43 _ _ n44 _ _ n45 _ _ n46 _ _ n47 _ _ n48 _ _ n49 _ _ n50 _ _ hs
    replace hs : (b2i t3 = 1 ↔ b2i t1 ≠ b2i t2) ∧ vd [n39, n40, n41, n42, n43, n44, n45, n46, n47, n48, n49, n50] = (vd [n15, n16, n17, n18, n19, n20, n21, n22, n23, n24, n25, n26] * vd [n27, n28, n29, n30, n31, n32, n33, n34, n35, n36, n37, n38]) % top12 := hs
    obtain ⟨hs1, hs⟩ := hs
    rw [hq.2, hr.2] at hs
    have hmm : m * m ≤ 18446744073709551615 * 18446744073709551615 := Int.mul_le_mul (by omega) (by omega) (by omega) (by omega)
    have hm0 : 0 ≤ m * m := Int.mul_nonneg (by omega) (by omega)
    rw [Int.emod_eq_of_lt hm0 (by simp only [top12]; omega)] at hs
    have h3 : t3 = false := by
      rw [hq.1, hr.1] at hs1
      cases t3 <;> simp [b2i] at hs1 ⊢
    subst h3
    refine ⟨?_, ?_⟩
    · show vd [n39, n40, n41, n42, n43, n44, n45, n46, n47, n48, n49, n50] + vd [n, n1, n2, n3, n4, n5, n6, n7, n8, n9, n10, n11] < top12
      rw [hs, hN]; simp only [top12, top8] at *; omega
    intro t4 ha
    replace ha : b2i t4 = b2i (decide (sv (b2i false :: [n, n1, n2, n3, n4, n5, n6, n7, n8, n9, n10, n11]) < sv (b2i false :: [n39, n40, n41, n42, n43, n44, n45, n46, n47, n48, n49, n50]))) := ha
    rw [b2i_dec, sv_false, sv_false, hs, hN] at ha
    refine ⟨fun h => ?_, fun h => ⟨?_, ?_⟩⟩
    · rw [h] at ha
      intro k ek _ _
      simp only [wrap_u64] at ek
      have ek : k = m - 1 := by omega
      have := ha.1 rfl
      refine ⟨?_, ?_⟩
      · show a ≤ k ∧ a * a ≤ vd [n, n1, n2, n3, n4, n5, n6, n7, n8, n9, n10, n11] ∧ vd [n, n1, n2, n3, n4, n5, n6, n7, n8, n9, n10, n11] < (k + 1) * (k + 1)
        rw [hN, show k + 1 = m by omega]
        exact ⟨by omega, i2, this⟩
      · show (k - a).toNat < (b - a).toNat
        omega
    · show m ≤ b ∧ m * m ≤ vd [n, n1, n2, n3, n4, n5, n6, n7, n8, n9, n10, n11] ∧ vd [n, n1, n2, n3, n4, n5, n6, n7, n8, n9, n10, n11] < (b + 1) * (b + 1)
      rw [hN]
      exact ⟨em2, Int.not_lt.1 fun h' => h (ha.2 h'), i3⟩
    · show (b - m).toNat < (b - a).toNat
      omega
  · show isRoot (vd [n, n1, n2, n3, n4, n5, n6, n7, n8, n9, n10, n11]) a
    rw [hN]
    have : a = b := by omega
    subst this
    exact ⟨i2, i3⟩

theorem p_rRoot : P_rRoot := by
  unfold P_rRoot
  intro n _ _ _
  refine ⟨trivial, ?_⟩
  intro t n1 _ _ n2 _ _ n3 _ _ n4 _ _ n5 _ _ n6 _ _ n7 _ _ n8 _ _ n9 _ _ n10 _ _ n11 _ _ n12 _ _ hr
  replace hr : b2i t = 0 ∧ vd [n1, n2, n3, n4, n5, n6, n7, n8, n9, n10, n11, n12] = n := hr
  refine ⟨?_, ?_⟩
  · show b2i t = 0 ∧ vd [n1, n2, n3, n4, n5, n6, n7, n8, n9, n10, n11, n12] < top8
    rw [hr.2]; exact ⟨hr.1, by simp only [top8]; omega⟩
  intro x _ _ hx
  replace hx : isRoot (vd [n1, n2, n3, n4, n5, n6, n7, n8, n9, n10, n11, n12]) x := hx
  rw [hr.2] at hx
  exact hx

theorem p_rRootWide : P_rRootWide := by
  unfold P_rRootWide
  intro n _ _ n1 _ _ _ _
  refine ⟨fun h => ?_, fun h => ⟨trivial, ?_⟩⟩
  · show (_ → _ ∧ _) ∧ (_ → _ ∧ _)
    exact ⟨fun _ => ⟨rfl, rfl⟩, fun h' => absurd h (by omega)⟩
  intro t n2 _ _ n3 _ _ n4 _ _ n5 _ _ n6 _ _ n7 _ _ n8 _ _ n9 _ _ n10 _ _ n11 _ _ n12 _ _ n13 _ _ hr
  replace hr : vd [n2, n3, n4, n5, n6, n7, n8, n9, n10, n11, n12, n13] ≤ 170141183460469231731687303715884105728 ∧ sv (b2i t :: [n2, n3, n4, n5, n6, n7, n8, n9, n10, n11, n12, n13]) = w128 n n1 ∧ (b2i t = 1 ↔ n < 0) := hr
  obtain ⟨h1, h2, h3⟩ := hr
  have ht : t = false := by
    cases t with
    | false => rfl
    | true => exact absurd (h3.1 rfl) h
  subst ht
  rw [sv_false] at h2
  refine ⟨?_, ?_⟩
  · show b2i false = 0 ∧ vd [n2, n3, n4, n5, n6, n7, n8, n9, n10, n11, n12, n13] < top8
    exact ⟨rfl, by simp only [top8]; omega⟩
  intro x _ _ hx
  replace hx : isRoot (vd [n2, n3, n4, n5, n6, n7, n8, n9, n10, n11, n12, n13]) x := hx
  rw [h2] at hx
  show (_ → _ ∧ _) ∧ (_ → _ ∧ _)
  exact ⟨fun h' => absurd h' h, fun _ => ⟨rfl, hx⟩⟩

theorem p_rLog : P_rLog := by
  unfold P_rLog
  intro n _ _ _
  refine ⟨?_, ?_⟩
  · show n * 2 ^ ((-1 : Int) + 1).toNat ≤ n ∧ n < (n + 1) * 2 ^ ((-1 : Int) + 1).toNat ∧ ((-1 : Int) = -1 ∨ _)
    simp; omega
  intro n1 _ _ k _ _ hI _ _
  replace hI : n1 * 2 ^ (k + 1).toNat ≤ n ∧ n < (n1 + 1) * 2 ^ (k + 1).toNat ∧ (k = -1 ∨ 2 ^ k.toNat ≤ n) := hI
  obtain ⟨hI1, hI2, hI3⟩ := hI
  refine ⟨fun h => ?_, fun h => ?_⟩
  · intro n3 e3 _ _ n4 e4 _ _
    have hk : k + 1 ≤ 63 := by
      rcases Int.lt_or_le 63 (k + 1) with hk | hk
      · have e : (k + 1).toNat = 64 := by omega
        rw [e] at hI1
        omega
      · exact hk
    refine ⟨by omega, fun n5 e5 _ _ => ⟨?_, ?_⟩⟩
    · show n3 * 2 ^ (n5 + 1).toNat ≤ n ∧ n < (n3 + 1) * 2 ^ (n5 + 1).toNat ∧ (n5 = -1 ∨ 2 ^ n5.toNat ≤ n)
      rw [show n5.toNat = (k + 1).toNat by omega]
      have e : (n5 + 1).toNat = (k + 1).toNat + 1 := by omega
      rw [e, Int.pow_succ]
      generalize (2 : Int) ^ (k + 1).toNat = p at hI1 hI2 ⊢
      have hp : 0 ≤ p := by
        rcases Int.lt_or_le p 0 with hp | hp
        · have : (n1 + 1) * p ≤ 0 := by
            have := Int.mul_le_mul_of_nonneg_left (Int.le_of_lt hp) (by omega : 0 ≤ n1 + 1)
            simpa using this
          omega
        · exact hp
      have h1 : n3 * (p * 2) ≤ n1 * p := by
        rw [show n3 * (p * 2) = (2 * n3) * p by grind]
        exact Int.mul_le_mul_of_nonneg_right (by omega) hp
      have h2 : (n1 + 1) * p ≤ (n3 + 1) * (p * 2) := by
        rw [show (n3 + 1) * (p * 2) = (2 * n3 + 2) * p by grind]
        exact Int.mul_le_mul_of_nonneg_right (by omega) hp
      have h3 : 1 * p ≤ n1 * p := Int.mul_le_mul_of_nonneg_right (by omega) hp
      omega
    · show n3.toNat < n1.toNat
      omega
  · have e : n1 = 0 := by omega
    subst e
    show (_ → _) ∧ (_ → _ ∧ _ ∧ _ ∧ _)
    rw [Int.zero_add, Int.one_mul] at hI2
    refine ⟨fun h0 => ?_, fun h0 => ?_⟩
    · rcases hI3 with h3 | h3
      · exact h3
      · have : (0 : Int) < 2 ^ k.toNat := Int.pow_pos (by omega)
        omega
    · have hk : k ≠ -1 := by
        rintro rfl
        simp at hI2
        omega
      have e : (k + 1).toNat = k.toNat + 1 := by omega
      rw [e, Int.pow_succ] at hI2
      rcases hI3 with h3 | h3
      · exact absurd h3 hk
      · exact ⟨by omega, by omega, h3, by omega⟩

end Go.Proofs.Ytakpbbponhamaaa.Sx
