/-
  The document's powers: roots, logs, what is held.
-/
import Derived.Test.YthiinecohgmnmaaPwe
set_option linter.all false
set_option maxRecDepth 100000
namespace Go.Proofs.Ythiinecohgmnmaa.Sx
open Go Go.RowKit

theorem sv_nn {t : Bool} {l : List Int} {n : Int} (h1 : sv (b2i t :: l) = n) (h2 : b2i t = 1 ↔ n < 0) (h : 0 ≤ n) : t = false ∧ vd l = n := by
  cases t with
  | false => rw [sv_false] at h1; exact ⟨rfl, h1⟩
  | true =>
    have : n < 0 := h2.1 rfl
    omega
theorem sv_zero {t : Bool} {l : List Int} (h : b2i t = 0) : t = false ∧ sv (b2i t :: l) = vd l := by
  cases t with
  | false => exact ⟨rfl, sv_false l⟩
  | true => simp [b2i] at h
theorem sv_pos {t : Bool} {l : List Int} {n : Int} (h : sv (b2i t :: l) = n) (h0 : 0 < n) (hl : 0 ≤ vd l) : vd l = n := by
  rcases sv_of t l with ⟨_, e⟩ | ⟨_, e⟩ <;> omega
theorem prod_pos {p t u : Bool} {r a b : List Int} {x y : Int} (h : (b2i p = 1 ↔ b2i t ≠ b2i u) ∧ vd r = (vd a * vd b) % top12) (h1 : b2i t = 0 ∧ vd a = x) (h2 : b2i u = 0 ∧ vd b = y) (h0 : 0 ≤ x * y) (hh : x * y < top12) : p = false ∧ vd r = x * y := by
  obtain ⟨k1, k2⟩ := h
  rw [h1.2, h2.2, Int.emod_eq_of_lt h0 hh] at k2
  refine ⟨?_, k2⟩
  cases p with
  | false => rfl
  | true =>
    have := k1.1 rfl
    rw [h1.1, h2.1] at this
    exact absurd rfl this

theorem p_rn4 : P_rn4 := by
  unfold P_rn4
  intro n l_n u_n
  intro hpre
  replace hpre : True := hpre
  intro b
  refine ⟨trivial, ?_⟩
  intro t
  intro n1 l_n1 u_n1
  intro n2 l_n2 u_n2
  intro n3 l_n3 u_n3
  intro n4 l_n4 u_n4
  intro n5 l_n5 u_n5
  intro n6 l_n6 u_n6
  intro n7 l_n7 u_n7
  intro n8 l_n8 u_n8
  intro n9 l_n9 u_n9
  intro n10 l_n10 u_n10
  intro n11 l_n11 u_n11
  intro n12 l_n12 u_n12
  intro h_read
  replace h_read : (vd [n1, n2, n3, n4, n5, n6, n7, n8, n9, n10, n11, n12] ≤ 170141183460469231731687303715884105728 ∧ sv [b2i t, n1, n2, n3, n4, n5, n6, n7, n8, n9, n10, n11, n12] = w128 (0 : Int) n ∧ ((b2i t) = 1 ↔ (0 : Int) < 0)) := h_read
  obtain ⟨_, hr1, hr2⟩ := h_read
  have hz := sv_nn hr1 (by rw [hr2]; simp only [w128]; omega) (by simp only [w128]; omega)
  show ((b2i t) = 0 ∧ vd [n1, n2, n3, n4, n5, n6, n7, n8, n9, n10, n11, n12] = n)
  rw [hz.1]
  exact ⟨rfl, by rw [hz.2]; simp only [w128]; omega⟩

theorem p_rprod4 : P_rprod4 := by
  unfold P_rprod4
  intro n l_n u_n
  intro n1 l_n1 u_n1
  intro hpre
  replace hpre : n * n1 < 85070591730234615865843651857942052864 := hpre
  refine ⟨trivial, ?_⟩
  intro t
  intro n2 l_n2 u_n2
  intro n3 l_n3 u_n3
  intro n4 l_n4 u_n4
  intro n5 l_n5 u_n5
  intro n6 l_n6 u_n6
  intro n7 l_n7 u_n7
  intro n8 l_n8 u_n8
  intro n9 l_n9 u_n9
  intro n10 l_n10 u_n10
  intro n11 l_n11 u_n11
  intro n12 l_n12 u_n12
  intro n13 l_n13 u_n13
  intro h_rn4
  replace h_rn4 : ((b2i t) = 0 ∧ vd [n2, n3, n4, n5, n6, n7, n8, n9, n10, n11, n12, n13] = n) := h_rn4
  refine ⟨trivial, ?_⟩
  intro t1
  intro n14 l_n14 u_n14
  intro n15 l_n15 u_n15
  intro n16 l_n16 u_n16
  intro n17 l_n17 u_n17
  intro n18 l_n18 u_n18
  intro n19 l_n19 u_n19
  intro n20 l_n20 u_n20
  intro n21 l_n21 u_n21
  intro n22 l_n22 u_n22
  intro n23 l_n23 u_n23
  intro n24 l_n24 u_n24
  intro n25 l_n25 u_n25
  intro h_rn41
  replace h_rn41 : ((b2i t1) = 0 ∧ vd [n14, n15, n16, n17, n18, n19, n20, n21, n22, n23, n24, n25] = n1) := h_rn41
  refine ⟨trivial, ?_⟩
  intro t2
  intro n26 l_n26 u_n26
  intro n27 l_n27 u_n27
  intro n28 l_n28 u_n28
  intro n29 l_n29 u_n29
  intro n30 l_n30 u_n30
  intro n31 l_n31 u_n31
  intro n32 l_n32 u_n32
  intro n33 l_n33 u_n33
  intro n34 l_n34 u_n34
  intro n35 l_n35 u_n35
  intro n36 l_n36 u_n36
  intro n37 l_n37 u_n37
  intro h_product
  replace h_product : (((b2i t2) = 1 ↔ (b2i t) ≠ (b2i t1)) ∧ vd [n26, n27, n28, n29, n30, n31, n32, n33, n34, n35, n36, n37] = (vd [n2, n3, n4, n5, n6, n7, n8, n9, n10, n11, n12, n13] * vd [n14, n15, n16, n17, n18, n19, n20, n21, n22, n23, n24, n25]) % top12) := h_product
  have hm0 := Int.mul_nonneg l_n l_n1
  have hp := prod_pos h_product h_rn4 h_rn41 hm0 (by simp only [top12]; omega)
  obtain ⟨hp1, hp2⟩ := hp
  intro b
  refine ⟨trivial, ?_⟩
  intro n38 l_n38 u_n38
  intro n39 l_n39 u_n39
  intro n40 l_n40 u_n40
  intro h_tell
  replace h_tell : tellW (sv [b2i t2, n26, n27, n28, n29, n30, n31, n32, n33, n34, n35, n36, n37]) n38 n39 n40 := h_tell
  rw [hp1, sv_false, hp2] at h_tell
  have hw := (h_tell.1 (by simp only [inW, half128]; omega)).2
  intro b1
  refine ⟨trivial, ?_⟩
  intro n41 l_n41 u_n41
  intro n42 l_n42 u_n42
  intro n43 l_n43 u_n43
  intro n44 l_n44 u_n44
  intro h_rfloor
  replace h_rfloor : (((4611686018427387904 : Int) < 1 → n41 = 0 ∧ n42 = 0 ∧ n43 = 0 ∧ n44 = 1) ∧ (1 ≤ (4611686018427387904 : Int) → n44 = 0 ∧ isFloor (w128 n38 n39) (4611686018427387904 : Int) (w128 n41 n42) n43)) := h_rfloor
  have hf := (h_rfloor.2 (by omega)).2
  rw [hw] at hf
  obtain ⟨f1, f2, f3⟩ := hf
  simp only [w128] at f1
  intro b2
  show n42 = n * n1 / 4611686018427387904
  omega

theorem p_tround : P_tround := by
  unfold P_tround
  intro n l_n u_n
  intro hpre
  replace hpre : True := hpre
  refine ⟨trivial, ?_⟩
  intro t
  intro n1 l_n1 u_n1
  intro n2 l_n2 u_n2
  intro n3 l_n3 u_n3
  intro n4 l_n4 u_n4
  intro n5 l_n5 u_n5
  intro n6 l_n6 u_n6
  intro n7 l_n7 u_n7
  intro n8 l_n8 u_n8
  intro n9 l_n9 u_n9
  intro n10 l_n10 u_n10
  intro n11 l_n11 u_n11
  intro n12 l_n12 u_n12
  intro h_rn4
  replace h_rn4 : ((b2i t) = 0 ∧ vd [n1, n2, n3, n4, n5, n6, n7, n8, n9, n10, n11, n12] = n) := h_rn4
  refine ⟨trivial, ?_⟩
  intro t1
  intro n13 l_n13 u_n13
  intro n14 l_n14 u_n14
  intro n15 l_n15 u_n15
  intro n16 l_n16 u_n16
  intro n17 l_n17 u_n17
  intro n18 l_n18 u_n18
  intro n19 l_n19 u_n19
  intro n20 l_n20 u_n20
  intro n21 l_n21 u_n21
  intro n22 l_n22 u_n22
  intro n23 l_n23 u_n23
  intro n24 l_n24 u_n24
  intro h_rn41
  replace h_rn41 : ((b2i t1) = 0 ∧ vd [n13, n14, n15, n16, n17, n18, n19, n20, n21, n22, n23, n24] = (4611686018427387904 : Int)) := h_rn41
  refine ⟨trivial, ?_⟩
  intro t2
  intro n25 l_n25 u_n25
  intro n26 l_n26 u_n26
  intro n27 l_n27 u_n27
  intro n28 l_n28 u_n28
  intro n29 l_n29 u_n29
  intro n30 l_n30 u_n30
  intro n31 l_n31 u_n31
  intro n32 l_n32 u_n32
  intro n33 l_n33 u_n33
  intro n34 l_n34 u_n34
  intro n35 l_n35 u_n35
  intro n36 l_n36 u_n36
  intro h_product
  replace h_product : (((b2i t2) = 1 ↔ (b2i t) ≠ (b2i t1)) ∧ vd [n25, n26, n27, n28, n29, n30, n31, n32, n33, n34, n35, n36] = (vd [n1, n2, n3, n4, n5, n6, n7, n8, n9, n10, n11, n12] * vd [n13, n14, n15, n16, n17, n18, n19, n20, n21, n22, n23, n24]) % top12) := h_product
  have hp := prod_pos h_product h_rn4 h_rn41 (by omega) (by simp only [top12]; omega)
  obtain ⟨hp1, hp2⟩ := hp
  refine ⟨trivial, ?_⟩
  intro n37 l_n37 u_n37
  intro n38 l_n38 u_n38
  intro n39 l_n39 u_n39
  intro h_tell
  replace h_tell : tellW (sv [b2i t2, n25, n26, n27, n28, n29, n30, n31, n32, n33, n34, n35, n36]) n37 n38 n39 := h_tell
  rw [hp1, sv_false, hp2] at h_tell
  have hw := (h_tell.1 (by simp only [inW, half128]; omega)).2
  intro b
  refine ⟨trivial, ?_⟩
  intro n40 l_n40 u_n40
  intro n41 l_n41 u_n41
  intro h_rRootWide
  replace h_rRootWide : ((n37 < 0 → n40 = 0 ∧ n41 = 1) ∧ (0 ≤ n37 → n41 = 0 ∧ isRoot (w128 n37 n38) n40)) := h_rRootWide
  have hr := (h_rRootWide.2 (by simp only [w128] at hw; omega)).2
  rw [hw] at hr
  intro b1
  refine ⟨?_, ?_⟩
  · show isRoot (n * 4611686018427387904) n40
    exact hr
  · show isRoot (n * 4611686018427387904) n40
    exact hr

theorem p_tnext : P_tnext := by
  unfold P_tnext
  intro n l_n u_n
  intro hpre
  replace hpre : True := hpre
  intro n1 e_n1 l_n1 u_n1
  show n1 = n + 1
  exact e_n1

theorem rl0_in {n k i y : Int} (hk : 0 ≤ k) (h1 : 2 ^ k.toNat ≤ n) (h2 : n < 2 * 2 ^ k.toNat) (hy : y = n * 2 ^ (i - k).toNat) (hi : k ≤ i) : 2 ^ i.toNat ≤ y ∧ y < 2 * 2 ^ i.toNat := by
  have e : i.toNat = k.toNat + (i - k).toNat := by omega
  have hp : (0 : Int) < 2 ^ (i - k).toNat := Int.pow_pos (by decide)
  rw [e, Int.pow_add, hy]
  have a1 := Int.mul_le_mul_of_nonneg_right h1 (Int.le_of_lt hp)
  have a2 := Int.mul_lt_mul_of_pos_right h2 hp
  constructor
  · exact a1
  · have e2 : (2 : Int) * 2 ^ k.toNat * 2 ^ (i - k).toNat = 2 * (2 ^ k.toNat * 2 ^ (i - k).toNat) := by grind
    rw [e2] at a2
    exact a2
theorem rl0_step {n k i : Int} (hi : k ≤ i) : n * 2 ^ (i + 1 - k).toNat = 2 * (n * 2 ^ (i - k).toNat) := by
  rw [show (i + 1 - k).toNat = (i - k).toNat + 1 by omega, Int.pow_succ]
  grind
theorem pow_lt62 {i : Int} (h : i < 62) (h0 : 0 ≤ i) : (2 : Int) ^ i.toNat ≤ 2305843009213693952 := by
  have := pow_two_le (show i.toNat ≤ 61 by omega)
  have e : (2 : Int) ^ 61 = 2305843009213693952 := rfl
  omega
theorem rl1_step {y0 o0 i y o z : Int} (i0 : 0 ≤ i) (i1 : i < 40) (hy : y = (ll y0 i.toNat).1) (ho : o = o0 * 2 ^ i.toNat + (ll y0 i.toNat).2) (a0 : 4611686018427387904 ≤ y0) (a1 : y0 ≤ 9223372036854775807) (k0 : -16 ≤ o0) (k1 : o0 ≤ 15) (hz : z = y * y / 4611686018427387904) (z1 : z ≤ 18446744073709551615) :
    (9223372036854775808 ≤ z → z / 2 = (ll y0 (i.toNat + 1)).1 ∧ 2 * o + 1 = o0 * 2 ^ (i.toNat + 1) + (ll y0 (i.toNat + 1)).2) ∧ (¬ 9223372036854775808 ≤ z → z = (ll y0 (i.toNat + 1)).1 ∧ 2 * o = o0 * 2 ^ (i.toNat + 1) + (ll y0 (i.toNat + 1)).2) ∧
    4611686018427387904 ≤ (ll y0 (i.toNat + 1)).1 ∧ (ll y0 (i.toNat + 1)).1 ≤ 9223372036854775807 ∧ -17592186044416 ≤ o0 * 2 ^ (i.toNat + 1) + (ll y0 (i.toNat + 1)).2 ∧ o0 * 2 ^ (i.toNat + 1) + (ll y0 (i.toNat + 1)).2 ≤ 17592186044416 := by
  obtain ⟨_, b2, b3, b4, b5, b6, b7⟩ := lng_step i0 i1 hy ho a0 a1 k0 k1 hz rfl rfl rfl
  have l0 : 0 ≤ z / 9223372036854775808 := by
    have : 0 ≤ z := by
      rw [hz]
      obtain ⟨⟨c0, c1⟩, _⟩ := ll_in a0 (show y0 < 9223372036854775808 by omega) i.toNat
      rw [← hy] at c0 c1
      have := sq_in c0 c1
      omega
    omega
  rw [shr_k rfl l0 (by omega)] at b2 b4 b5
  rw [b2] at b4 b5
  rw [b3] at b6 b7
  refine ⟨fun h => ?_, fun h => ?_, b4, b5, b6, b7⟩
  · have e : z / 9223372036854775808 = 1 := by omega
    rw [e] at b2 b3
    exact ⟨b2, b3⟩
  · have e : z / 9223372036854775808 = 0 := by omega
    rw [e] at b2 b3
    refine ⟨?_, by omega⟩
    rw [← b2]
    show z = z / 2 ^ (0 : Int).toNat
    simp
theorem rl1_sq {y0 i y : Int} (hy : y = (ll y0 i.toNat).1) (a0 : 4611686018427387904 ≤ y0) (a1 : y0 ≤ 9223372036854775807) : y * y < 85070591730234615865843651857942052864 := by
  obtain ⟨⟨c0, c1⟩, _⟩ := ll_in a0 (show y0 < 9223372036854775808 by omega) i.toNat
  rw [← hy] at c0 c1
  have h := Int.mul_le_mul (show y ≤ 9223372036854775807 by omega) (show y ≤ 9223372036854775807 by omega) (by omega) (by omega)
  omega

set_option maxHeartbeats 2000000 in
theorem p_rlong : P_rlong := by
  unfold P_rlong
  intro n l_n u_n
  intro hpre
  replace hpre : True := hpre
  refine ⟨trivial, ?_⟩
  intro n1 l_n1 u_n1
  intro h_rLog
  replace h_rLog : ((n = 0 → n1 = -1) ∧ (0 < n → 0 ≤ n1 ∧ n1 ≤ 63 ∧ 2 ^ n1.toNat ≤ n ∧ n < 2 * 2 ^ n1.toNat)) := h_rLog
  have hlg := lg_is h_rLog l_n
  have hl2 := lg_in l_n u_n
  have hlo := h_rLog.2 (by omega)
  refine ⟨by omega, ?_⟩
  refine ⟨by omega, ?_⟩
  intro n2 e_n2 l_n2 u_n2
  refine ⟨?_, ?_⟩
  · show (n = n * 2 ^ (n2 - n1).toNat ∧ n1 ≤ n2)
    have z : (n2 - n1).toNat = 0 := by omega
    rw [z, Int.pow_zero]
    exact ⟨by omega, by omega⟩
  intro n3 l_n3 u_n3
  intro n4 l_n4 u_n4
  intro hi_rl0
  replace hi_rl0 : (n4 = n * 2 ^ (n3 - n1).toNat ∧ n1 ≤ n3) := hi_rl0
  have hin := rl0_in (by omega) hlo.2.2.1 hlo.2.2.2 hi_rl0.1 hi_rl0.2
  intro vs lv_vs
  refine ⟨fun c0 => ?_, fun c0 => ?_⟩
  · have hp := pow_lt62 c0 l_n3
    intro n5 e_n5 l_n5 u_n5
    simp only [wrap_u64, wrap_i64, wrap_i32, wrap_u32, wrap_u8] at e_n5
    intro n6 e_n6 l_n6 u_n6
    refine ⟨by omega, ?_⟩
    intro n7 e_n7 l_n7 u_n7
    refine ⟨?_, ?_⟩
    · show (n5 = n * 2 ^ (n7 - n1).toNat ∧ n1 ≤ n7)
      have hs := rl0_step (n := n) hi_rl0.2
      rw [show n7 = n3 + 1 by omega, hs, ← hi_rl0.1]
      exact ⟨by omega, by omega⟩
    · show (62 - n7).toNat < (62 - n3).toNat
      omega
  · have h62 : n3 = 62 := by omega
    rw [h62] at hin
    replace hin : 4611686018427387904 ≤ n4 ∧ n4 < 2 * 4611686018427387904 := hin
    intro n5 e_n5 l_n5 u_n5
    simp only [wrap_u64, wrap_i64, wrap_i32, wrap_u32, wrap_u8] at e_n5
    refine ⟨by omega, ?_⟩
    refine ⟨by omega, ?_⟩
    intro n6 e_n6 l_n6 u_n6
    refine ⟨by omega, ?_⟩
    refine ⟨by omega, ?_⟩
    intro n7 e_n7 l_n7 u_n7
    refine ⟨?_, ?_⟩
    · show (n6 = (ll n6 (0 : Int).toNat).1 ∧ n7 = n7 * 2 ^ (0 : Int).toNat + (ll n6 (0 : Int).toNat).2)
      exact ⟨rfl, by show n7 = n7 * 2 ^ 0 + 0; omega⟩
    intro n8 l_n8 u_n8
    intro n9 l_n9 u_n9
    intro n10 l_n10 u_n10
    intro hi_rl1
    replace hi_rl1 : (n9 = (ll n6 n8.toNat).1 ∧ n10 = n7 * 2 ^ n8.toNat + (ll n6 n8.toNat).2) := hi_rl1
    intro vs1 lv_vs1
    refine ⟨fun c1 => ?_, fun c1 => ?_⟩
    · refine ⟨?_, ?_⟩
      · show n9 * n9 < 85070591730234615865843651857942052864
        exact rl1_sq hi_rl1.1 l_n6 u_n6
      intro n11 l_n11 u_n11
      intro h_rprod4
      replace h_rprod4 : n11 = n9 * n9 / 4611686018427387904 := h_rprod4
      intro n12 e_n12 l_n12 u_n12
      have hst := rl1_step (z := n11) l_n8 (by omega) hi_rl1.1 hi_rl1.2 l_n6 u_n6 (by omega) (by omega) h_rprod4 u_n11
      refine ⟨fun c2 => ?_, fun c2 => ?_⟩
      · have h3 := hst.1 c2
        have h4 := hst.2.2
        intro n13 e_n13 l_n13 u_n13
        intro n14 e_n14 l_n14 u_n14
        intro n15 e_n15 l_n15 u_n15
        refine ⟨by omega, ?_⟩
        intro n16 e_n16 l_n16 u_n16
        refine ⟨by omega, ?_⟩
        intro n17 e_n17 l_n17 u_n17
        refine ⟨by omega, ?_⟩
        refine ⟨by omega, ?_⟩
        intro n18 e_n18 l_n18 u_n18
        refine ⟨?_, ?_⟩
        · show (n17 = (ll n6 n16.toNat).1 ∧ n18 = n7 * 2 ^ n16.toNat + (ll n6 n16.toNat).2)
          rw [show n16.toNat = n8.toNat + 1 by omega, ← h3.1, ← h3.2]
          exact ⟨by omega, by omega⟩
        · show (40 - n16).toNat < (40 - n8).toNat
          omega
      · have h3 := hst.2.1 c2
        have h4 := hst.2.2
        intro n13 e_n13 l_n13 u_n13
        refine ⟨by omega, ?_⟩
        intro n14 e_n14 l_n14 u_n14
        refine ⟨by omega, ?_⟩
        refine ⟨by omega, ?_⟩
        intro n15 e_n15 l_n15 u_n15
        refine ⟨by omega, ?_⟩
        refine ⟨by omega, ?_⟩
        intro n16 e_n16 l_n16 u_n16
        refine ⟨?_, ?_⟩
        · show (n15 = (ll n6 n14.toNat).1 ∧ n16 = n7 * 2 ^ n14.toNat + (ll n6 n14.toNat).2)
          rw [show n14.toNat = n8.toNat + 1 by omega, ← h3.1, ← h3.2]
          exact ⟨by omega, by omega⟩
        · show (40 - n14).toNat < (40 - n8).toNat
          omega
    · show n10 = longF n
      have h40 : n8 = 40 := by omega
      rw [h40] at hi_rl1
      replace hi_rl1 : n9 = (ll n6 40).1 ∧ n10 = n7 * 1099511627776 + (ll n6 40).2 := hi_rl1
      have e6 : n6 = y0F n := by
        unfold y0F
        rw [e_n6, hi_rl0.1, h62, show (62 - n1).toNat = 62 - Nat.log2 n.toNat by omega]
      rw [hi_rl1.2, e6]
      unfold longF
      rw [show n7 = (Nat.log2 n.toNat : Int) - 16 by omega]

theorem hold_is {A D x v : Int} (h : isNear A D x) (hv : v = clamp32 x) : ∃ x, isNear A D x ∧ v = clamp32 x := ⟨x, h, hv⟩
theorem near_one {A x : Int} (h : isNear A 1 x) : x = A := by
  obtain ⟨h1, h2⟩ := h
  omega
theorem near_24 {A x : Int} (h : isNear A 16777216 x) : x = near24 A := by
  obtain ⟨h1, h2⟩ := h
  unfold near24
  omega
theorem near_big {A D x : Int} (h : isNear A D x) (hD : 1 ≤ D) (h0 : -1267650600228229401496703205376 ≤ A) (h1 : A ≤ 1267650600228229401496703205376) : -1267650600228229401496703205377 ≤ x ∧ x ≤ 1267650600228229401496703205377 := by
  obtain ⟨h2, h3⟩ := h
  constructor
  · rcases Int.lt_or_le x (-1267650600228229401496703205377) with z | z
    · have := Int.mul_le_mul_of_nonneg_left (show x + 1 ≤ -1267650600228229401496703205377 by omega) (show 0 ≤ 2 * D by omega)
      omega
    · exact z
  · rcases Int.lt_or_le 1267650600228229401496703205377 x with z | z
    · have := Int.mul_le_mul_of_nonneg_left (show 1267650600228229401496703205378 ≤ x by omega) (show 0 ≤ 2 * D by omega)
      omega
    · exact z

set_option maxHeartbeats 2000000 in
theorem p_rhold : P_rhold := by
  unfold P_rhold
  intro t
  intro n l_n u_n
  intro n1 l_n1 u_n1
  intro n2 l_n2 u_n2
  intro n3 l_n3 u_n3
  intro n4 l_n4 u_n4
  intro n5 l_n5 u_n5
  intro n6 l_n6 u_n6
  intro n7 l_n7 u_n7
  intro n8 l_n8 u_n8
  intro n9 l_n9 u_n9
  intro n10 l_n10 u_n10
  intro n11 l_n11 u_n11
  intro t1
  intro n12 l_n12 u_n12
  intro n13 l_n13 u_n13
  intro n14 l_n14 u_n14
  intro n15 l_n15 u_n15
  intro n16 l_n16 u_n16
  intro n17 l_n17 u_n17
  intro n18 l_n18 u_n18
  intro n19 l_n19 u_n19
  intro n20 l_n20 u_n20
  intro n21 l_n21 u_n21
  intro n22 l_n22 u_n22
  intro n23 l_n23 u_n23
  intro hpre
  replace hpre : (1 ≤ sv [b2i t1, n12, n13, n14, n15, n16, n17, n18, n19, n20, n21, n22, n23] ∧ vd [n12, n13, n14, n15, n16, n17, n18, n19, n20, n21, n22, n23] ≤ 4611686018427387904 ∧ vd [n12, n13, n14, n15, n16, n17, n18, n19, n20, n21, n22, n23] = sv [b2i t1, n12, n13, n14, n15, n16, n17, n18, n19, n20, n21, n22, n23] ∧ vd [n, n1, n2, n3, n4, n5, n6, n7, n8, n9, n10, n11] ≤ 1267650600228229401496703205376) := hpre
  intro b
  intro b1
  refine ⟨?_, ?_⟩
  · show (0 < vd [n12, n13, n14, n15, n16, n17, n18, n19, n20, n21, n22, n23] ∧ 2 * vd [n, n1, n2, n3, n4, n5, n6, n7, n8, n9, n10, n11] + vd [n12, n13, n14, n15, n16, n17, n18, n19, n20, n21, n22, n23] < top12 ∧ 4 * vd [n12, n13, n14, n15, n16, n17, n18, n19, n20, n21, n22, n23] ≤ top12)
    simp only [top12]; omega
  intro t2
  intro n24 l_n24 u_n24
  intro n25 l_n25 u_n25
  intro n26 l_n26 u_n26
  intro n27 l_n27 u_n27
  intro n28 l_n28 u_n28
  intro n29 l_n29 u_n29
  intro n30 l_n30 u_n30
  intro n31 l_n31 u_n31
  intro n32 l_n32 u_n32
  intro n33 l_n33 u_n33
  intro n34 l_n34 u_n34
  intro n35 l_n35 u_n35
  intro h_nearest
  replace h_nearest : (nearest (sv [b2i t, n, n1, n2, n3, n4, n5, n6, n7, n8, n9, n10, n11]) (sv [b2i t1, n12, n13, n14, n15, n16, n17, n18, n19, n20, n21, n22, n23]) (sv [b2i t2, n24, n25, n26, n27, n28, n29, n30, n31, n32, n33, n34, n35]) ∧ vd [n24, n25, n26, n27, n28, n29, n30, n31, n32, n33, n34, n35] ≤ 2 * vd [n, n1, n2, n3, n4, n5, n6, n7, n8, n9, n10, n11] + 2) := h_nearest
  have hn := h_nearest.1.1 (by omega)
  have ra := vd12 n n1 n2 n3 n4 n5 n6 n7 n8 n9 n10 n11 ⟨l_n, u_n⟩ ⟨l_n1, u_n1⟩ ⟨l_n2, u_n2⟩ ⟨l_n3, u_n3⟩ ⟨l_n4, u_n4⟩ ⟨l_n5, u_n5⟩ ⟨l_n6, u_n6⟩ ⟨l_n7, u_n7⟩ ⟨l_n8, u_n8⟩ ⟨l_n9, u_n9⟩ ⟨l_n10, u_n10⟩ ⟨l_n11, u_n11⟩
  have sa := sv_of t [n, n1, n2, n3, n4, n5, n6, n7, n8, n9, n10, n11]
  have hbig := near_big hn (by omega) (by omega) (by omega)
  have hvd := h_nearest.2
  intro b2
  refine ⟨trivial, ?_⟩
  intro t3
  intro n36 l_n36 u_n36
  intro n37 l_n37 u_n37
  intro n38 l_n38 u_n38
  intro n39 l_n39 u_n39
  intro n40 l_n40 u_n40
  intro n41 l_n41 u_n41
  intro n42 l_n42 u_n42
  intro n43 l_n43 u_n43
  intro n44 l_n44 u_n44
  intro n45 l_n45 u_n45
  intro n46 l_n46 u_n46
  intro n47 l_n47 u_n47
  intro h_small
  replace h_small : (vd [n36, n37, n38, n39, n40, n41, n42, n43, n44, n45, n46, n47] ≤ 9223372036854775808 ∧ sv [b2i t3, n36, n37, n38, n39, n40, n41, n42, n43, n44, n45, n46, n47] = (2147483647 : Int) ∧ ((b2i t3) = 1 ↔ (2147483647 : Int) < 0)) := h_small
  refine ⟨?_, ?_⟩
  · show vd [n24, n25, n26, n27, n28, n29, n30, n31, n32, n33, n34, n35] + vd [n36, n37, n38, n39, n40, n41, n42, n43, n44, n45, n46, n47] < top12
    simp only [top12]; omega
  intro t4
  intro h_above
  replace h_above : (b2i t4) = b2i (decide (sv [b2i t3, n36, n37, n38, n39, n40, n41, n42, n43, n44, n45, n46, n47] < sv [b2i t2, n24, n25, n26, n27, n28, n29, n30, n31, n32, n33, n34, n35])) := h_above
  rw [b2i_dec] at h_above
  refine ⟨fun c0 => ?_, fun c0 => ?_⟩
  · have q0 := (b2i_one t4).2 c0
    have k0 := h_above.1 c0
    show (∃ x, isNear (sv [b2i t, n, n1, n2, n3, n4, n5, n6, n7, n8, n9, n10, n11]) (sv [b2i t1, n12, n13, n14, n15, n16, n17, n18, n19, n20, n21, n22, n23]) x ∧ (2147483647 : Int) = clamp32 x)
    refine hold_is hn ?_
    simp only [clamp32]
    omega
  · have q0 := (b2i_zero t4).2 c0
    have k0 := mt h_above.2 c0
    refine ⟨trivial, ?_⟩
    intro t5
    intro n48 l_n48 u_n48
    intro n49 l_n49 u_n49
    intro n50 l_n50 u_n50
    intro n51 l_n51 u_n51
    intro n52 l_n52 u_n52
    intro n53 l_n53 u_n53
    intro n54 l_n54 u_n54
    intro n55 l_n55 u_n55
    intro n56 l_n56 u_n56
    intro n57 l_n57 u_n57
    intro n58 l_n58 u_n58
    intro n59 l_n59 u_n59
    intro h_small1
    replace h_small1 : (vd [n48, n49, n50, n51, n52, n53, n54, n55, n56, n57, n58, n59] ≤ 9223372036854775808 ∧ sv [b2i t5, n48, n49, n50, n51, n52, n53, n54, n55, n56, n57, n58, n59] = (-2147483648 : Int) ∧ ((b2i t5) = 1 ↔ (-2147483648 : Int) < 0)) := h_small1
    refine ⟨?_, ?_⟩
    · show vd [n48, n49, n50, n51, n52, n53, n54, n55, n56, n57, n58, n59] + vd [n24, n25, n26, n27, n28, n29, n30, n31, n32, n33, n34, n35] < top12
      simp only [top12]; omega
    intro t6
    intro h_above1
    replace h_above1 : (b2i t6) = b2i (decide (sv [b2i t2, n24, n25, n26, n27, n28, n29, n30, n31, n32, n33, n34, n35] < sv [b2i t5, n48, n49, n50, n51, n52, n53, n54, n55, n56, n57, n58, n59])) := h_above1
    rw [b2i_dec] at h_above1
    refine ⟨fun c1 => ?_, fun c1 => ?_⟩
    · have q1 := (b2i_one t6).2 c1
      have k1 := h_above1.1 c1
      show (∃ x, isNear (sv [b2i t, n, n1, n2, n3, n4, n5, n6, n7, n8, n9, n10, n11]) (sv [b2i t1, n12, n13, n14, n15, n16, n17, n18, n19, n20, n21, n22, n23]) x ∧ (-2147483648 : Int) = clamp32 x)
      refine hold_is hn ?_
      simp only [clamp32]
      omega
    · have q1 := (b2i_zero t6).2 c1
      have k1 := mt h_above1.2 c1
      refine ⟨trivial, ?_⟩
      intro n60 l_n60 u_n60
      intro n61 l_n61 u_n61
      intro n62 l_n62 u_n62
      intro h_tell
      replace h_tell : tellW (sv [b2i t2, n24, n25, n26, n27, n28, n29, n30, n31, n32, n33, n34, n35]) n60 n61 n62 := h_tell
      have hw := (h_tell.1 (by simp only [inW, half128]; omega)).2
      intro b3
      refine ⟨trivial, ?_⟩
      intro n63 l_n63 u_n63
      intro t7
      intro h_rint
      replace h_rint : isInt (w128 n60 n61) n63 (b2i t7) := h_rint
      rw [hw] at h_rint
      have hi := (h_rint.1 (by simp only [isI64]; omega)).2
      intro n64 e_n64 l_n64 u_n64
      simp only [wrap_u64, wrap_i64, wrap_i32, wrap_u32, wrap_u8] at e_n64
      show (∃ x, isNear (sv [b2i t, n, n1, n2, n3, n4, n5, n6, n7, n8, n9, n10, n11]) (sv [b2i t1, n12, n13, n14, n15, n16, n17, n18, n19, n20, n21, n22, n23]) x ∧ n64 = clamp32 x)
      refine hold_is hn ?_
      simp only [clamp32]
      omega

theorem p_rhold1 : P_rhold1 := by
  unfold P_rhold1
  intro t
  intro n l_n u_n
  intro n1 l_n1 u_n1
  intro n2 l_n2 u_n2
  intro n3 l_n3 u_n3
  intro n4 l_n4 u_n4
  intro n5 l_n5 u_n5
  intro n6 l_n6 u_n6
  intro n7 l_n7 u_n7
  intro n8 l_n8 u_n8
  intro n9 l_n9 u_n9
  intro n10 l_n10 u_n10
  intro n11 l_n11 u_n11
  intro hpre
  replace hpre : vd [n, n1, n2, n3, n4, n5, n6, n7, n8, n9, n10, n11] ≤ 1267650600228229401496703205376 := hpre
  intro b
  refine ⟨trivial, ?_⟩
  intro t1
  intro n12 l_n12 u_n12
  intro n13 l_n13 u_n13
  intro n14 l_n14 u_n14
  intro n15 l_n15 u_n15
  intro n16 l_n16 u_n16
  intro n17 l_n17 u_n17
  intro n18 l_n18 u_n18
  intro n19 l_n19 u_n19
  intro n20 l_n20 u_n20
  intro n21 l_n21 u_n21
  intro n22 l_n22 u_n22
  intro n23 l_n23 u_n23
  intro h_small
  replace h_small : (vd [n12, n13, n14, n15, n16, n17, n18, n19, n20, n21, n22, n23] ≤ 9223372036854775808 ∧ sv [b2i t1, n12, n13, n14, n15, n16, n17, n18, n19, n20, n21, n22, n23] = (1 : Int) ∧ ((b2i t1) = 1 ↔ (1 : Int) < 0)) := h_small
  refine ⟨?_, ?_⟩
  · show (1 ≤ sv [b2i t1, n12, n13, n14, n15, n16, n17, n18, n19, n20, n21, n22, n23] ∧ vd [n12, n13, n14, n15, n16, n17, n18, n19, n20, n21, n22, n23] ≤ 4611686018427387904 ∧ vd [n12, n13, n14, n15, n16, n17, n18, n19, n20, n21, n22, n23] = sv [b2i t1, n12, n13, n14, n15, n16, n17, n18, n19, n20, n21, n22, n23] ∧ vd [n, n1, n2, n3, n4, n5, n6, n7, n8, n9, n10, n11] ≤ 1267650600228229401496703205376)
    have z := sv_nn h_small.2.1 h_small.2.2 (by omega)
    refine ⟨?_, ?_, ?_, ?_⟩ <;> first | assumption | omega
  intro n24 l_n24 u_n24
  intro h_rhold
  replace h_rhold : (∃ x, isNear (sv [b2i t, n, n1, n2, n3, n4, n5, n6, n7, n8, n9, n10, n11]) (sv [b2i t1, n12, n13, n14, n15, n16, n17, n18, n19, n20, n21, n22, n23]) x ∧ n24 = clamp32 x) := h_rhold
  obtain ⟨x, hx, hv⟩ := h_rhold
  rw [h_small.2.1] at hx
  have hx2 := near_one hx
  show n24 = clamp32 (sv [b2i t, n, n1, n2, n3, n4, n5, n6, n7, n8, n9, n10, n11])
  rw [hv, hx2]

theorem p_rlog2 : P_rlog2 := by
  unfold P_rlog2
  intro n l_n u_n
  intro hpre
  replace hpre : True := hpre
  refine ⟨fun c0 => ?_, fun c0 => ?_⟩
  · show ((n ≤ 0 → (0 : Int) = 0 ∧ (1 : Int) = 1) ∧ (0 < n → (1 : Int) = 0 ∧ (0 : Int) = near24 (longF n)))
    refine ⟨fun h => ?_, fun h => ?_⟩
    · first | omega | exact ⟨rfl, rfl⟩
    · first
        | omega
        | (refine ⟨rfl, ?_⟩
           rw [← h_rlong, ← hx2, hv]
           have : -1048576 ≤ x ∧ x ≤ 1048577 := by rw [hx2]; unfold near24; omega
           simp only [clamp32]
           omega)
  · intro n1 e_n1 l_n1 u_n1
    simp only [wrap_u64, wrap_i64, wrap_i32, wrap_u32, wrap_u8] at e_n1
    refine ⟨by omega, ?_⟩
    refine ⟨by omega, ?_⟩
    intro n2 e_n2 l_n2 u_n2
    refine ⟨trivial, ?_⟩
    intro n3 l_n3 u_n3
    intro h_rlong
    replace h_rlong : n3 = longF n2 := h_rlong
    refine ⟨trivial, ?_⟩
    intro t
    intro n4 l_n4 u_n4
    intro n5 l_n5 u_n5
    intro n6 l_n6 u_n6
    intro n7 l_n7 u_n7
    intro n8 l_n8 u_n8
    intro n9 l_n9 u_n9
    intro n10 l_n10 u_n10
    intro n11 l_n11 u_n11
    intro n12 l_n12 u_n12
    intro n13 l_n13 u_n13
    intro n14 l_n14 u_n14
    intro n15 l_n15 u_n15
    intro h_small
    replace h_small : (vd [n4, n5, n6, n7, n8, n9, n10, n11, n12, n13, n14, n15] ≤ 9223372036854775808 ∧ sv [b2i t, n4, n5, n6, n7, n8, n9, n10, n11, n12, n13, n14, n15] = n3 ∧ ((b2i t) = 1 ↔ n3 < 0)) := h_small
    refine ⟨trivial, ?_⟩
    intro t1
    intro n16 l_n16 u_n16
    intro n17 l_n17 u_n17
    intro n18 l_n18 u_n18
    intro n19 l_n19 u_n19
    intro n20 l_n20 u_n20
    intro n21 l_n21 u_n21
    intro n22 l_n22 u_n22
    intro n23 l_n23 u_n23
    intro n24 l_n24 u_n24
    intro n25 l_n25 u_n25
    intro n26 l_n26 u_n26
    intro n27 l_n27 u_n27
    intro h_small1
    replace h_small1 : (vd [n16, n17, n18, n19, n20, n21, n22, n23, n24, n25, n26, n27] ≤ 9223372036854775808 ∧ sv [b2i t1, n16, n17, n18, n19, n20, n21, n22, n23, n24, n25, n26, n27] = (16777216 : Int) ∧ ((b2i t1) = 1 ↔ (16777216 : Int) < 0)) := h_small1
    refine ⟨?_, ?_⟩
    · show (1 ≤ sv [b2i t1, n16, n17, n18, n19, n20, n21, n22, n23, n24, n25, n26, n27] ∧ vd [n16, n17, n18, n19, n20, n21, n22, n23, n24, n25, n26, n27] ≤ 4611686018427387904 ∧ vd [n16, n17, n18, n19, n20, n21, n22, n23, n24, n25, n26, n27] = sv [b2i t1, n16, n17, n18, n19, n20, n21, n22, n23, n24, n25, n26, n27] ∧ vd [n4, n5, n6, n7, n8, n9, n10, n11, n12, n13, n14, n15] ≤ 1267650600228229401496703205376)
      have z := sv_nn h_small1.2.1 h_small1.2.2 (by omega)
      refine ⟨?_, ?_, ?_, ?_⟩ <;> omega
    intro n28 l_n28 u_n28
    intro h_rhold
    replace h_rhold : (∃ x, isNear (sv [b2i t, n4, n5, n6, n7, n8, n9, n10, n11, n12, n13, n14, n15]) (sv [b2i t1, n16, n17, n18, n19, n20, n21, n22, n23, n24, n25, n26, n27]) x ∧ n28 = clamp32 x) := h_rhold
    obtain ⟨x, hx, hv⟩ := h_rhold
    rw [h_small.2.1, h_small1.2.1] at hx
    have hx2 := near_24 hx
    have e2 : n2 = n := by omega
    rw [e2] at h_rlong
    show ((n ≤ 0 → n28 = 0 ∧ (0 : Int) = 1) ∧ (0 < n → (0 : Int) = 0 ∧ n28 = near24 (longF n)))
    refine ⟨fun h => ?_, fun h => ?_⟩
    · first | omega | exact ⟨rfl, rfl⟩
    · first
        | omega
        | (refine ⟨rfl, ?_⟩
           rw [← h_rlong, ← hx2, hv]
           have : -1048576 ≤ x ∧ x ≤ 1048577 := by rw [hx2]; unfold near24; omega
           simp only [clamp32]
           omega)

end Go.Proofs.Ythiinecohgmnmaa.Sx
