/-
  The document's powers: roots, logs, what is held.
-/
import Derived.Test.YtogcbmadcgjljaaDoorPwe
set_option linter.all false
set_option maxRecDepth 100000
namespace Go.Proofs.YtogcbmadcgjljaaDoor.Sx
open Go Go.RowKit

theorem sv_nn {t : Bool} {l : List Int} {n : Int} (h1 : sv (b2i t :: l) = n) (h2 : b2i t = 1 ↔ n < 0) (h : 0 ≤ n) : t = false ∧ vd l = n := by
  cases t with
  | false => rw [sv_false] at h1; exact ⟨rfl, h1⟩
  | true =>
    have : n < 0 := h2.1 rfl
    omega
theorem sv_zero {t : Bool} {l : List Int} (h : b2i t = 0) : t = false ∧ sv (b2i t :: l) = vd l := by
  cases t with
  | false => exact ⟨rfl, sv_false l⟩
  | true => simp [b2i] at h
theorem sv_pos {t : Bool} {l : List Int} {n : Int} (h : sv (b2i t :: l) = n) (h0 : 0 < n) (hl : 0 ≤ vd l) : vd l = n := by
  rcases sv_of t l with ⟨_, e⟩ | ⟨_, e⟩ <;> omega
theorem prod_pos {p t u : Bool} {r a b : List Int} {x y : Int} (h : (b2i p = 1 ↔ b2i t ≠ b2i u) ∧ vd r = (vd a * vd b) % top12) (h1 : b2i t = 0 ∧ vd a = x) (h2 : b2i u = 0 ∧ vd b = y) (h0 : 0 ≤ x * y) (hh : x * y < top12) : p = false ∧ vd r = x * y := by
  obtain ⟨k1, k2⟩ := h
  rw [h1.2, h2.2, Int.emod_eq_of_lt h0 hh] at k2
  refine ⟨?_, k2⟩
  cases p with
  | false => rfl
  | true =>
    have := k1.1 rfl
    rw [h1.1, h2.1] at this
    exact absurd rfl this

theorem p_rn4 : P_rn4 := by
  unfold P_rn4
  intro n l_n u_n
  intro hpre
  replace hpre : True := hpre
  intro b
  refine ⟨trivial, ?_⟩
  intro t
  intro n1 l_n1 u_n1
  intro n2 l_n2 u_n2
  intro n3 l_n3 u_n3
  intro n4 l_n4 u_n4
  intro n5 l_n5 u_n5
  intro n6 l_n6 u_n6
  intro n7 l_n7 u_n7
  intro n8 l_n8 u_n8
  intro n9 l_n9 u_n9
  intro n10 l_n10 u_n10
  intro n11 l_n11 u_n11
  intro n12 l_n12 u_n12
  intro h_read
  replace h_read : (vd [n1, n2, n3, n4, n5, n6, n7, n8, n9, n10, n11, n12] ≤ 170141183460469231731687303715884105728 ∧ sv [b2i t, n1, n2, n3, n4, n5, n6, n7, n8, n9, n10, n11, n12] = w128 (0 : Int) n ∧ ((b2i t) = 1 ↔ (0 : Int) < 0)) := h_read
  obtain ⟨_, hr1, hr2⟩ := h_read
  have hz := sv_nn hr1 (by rw [hr2]; simp only [w128]; omega) (by simp only [w128]; omega)
  show ((b2i t) = 0 ∧ vd [n1, n2, n3, n4, n5, n6, n7, n8, n9, n10, n11, n12] = n)
  rw [hz.1]
  exact ⟨rfl, by rw [hz.2]; simp only [w128]; omega⟩

theorem p_rprod4 : P_rprod4 := by
  unfold P_rprod4
  intro n l_n u_n
  intro n1 l_n1 u_n1
  intro hpre
  replace hpre : n * n1 < 85070591730234615865843651857942052864 := hpre
  refine ⟨trivial, ?_⟩
  intro t
  intro n2 l_n2 u_n2
  intro n3 l_n3 u_n3
  intro n4 l_n4 u_n4
  intro n5 l_n5 u_n5
  intro n6 l_n6 u_n6
  intro n7 l_n7 u_n7
  intro n8 l_n8 u_n8
  intro n9 l_n9 u_n9
  intro n10 l_n10 u_n10
  intro n11 l_n11 u_n11
  intro n12 l_n12 u_n12
  intro n13 l_n13 u_n13
  intro h_rn4
  replace h_rn4 : ((b2i t) = 0 ∧ vd [n2, n3, n4, n5, n6, n7, n8, n9, n10, n11, n12, n13] = n) := h_rn4
  refine ⟨trivial, ?_⟩
  intro t1
  intro n14 l_n14 u_n14
  intro n15 l_n15 u_n15
  intro n16 l_n16 u_n16
  intro n17 l_n17 u_n17
  intro n18 l_n18 u_n18
  intro n19 l_n19 u_n19
  intro n20 l_n20 u_n20
  intro n21 l_n21 u_n21
  intro n22 l_n22 u_n22
  intro n23 l_n23 u_n23
  intro n24 l_n24 u_n24
  intro n25 l_n25 u_n25
  intro h_rn41
  replace h_rn41 : ((b2i t1) = 0 ∧ vd [n14, n15, n16, n17, n18, n19, n20, n21, n22, n23, n24, n25] = n1) := h_rn41
  refine ⟨trivial, ?_⟩
  intro t2
  intro n26 l_n26 u_n26
  intro n27 l_n27 u_n27
  intro n28 l_n28 u_n28
  intro n29 l_n29 u_n29
  intro n30 l_n30 u_n30
  intro n31 l_n31 u_n31
  intro n32 l_n32 u_n32
  intro n33 l_n33 u_n33
  intro n34 l_n34 u_n34
  intro n35 l_n35 u_n35
  intro n36 l_n36 u_n36
  intro n37 l_n37 u_n37
  intro h_product
  replace h_product : (((b2i t2) = 1 ↔ (b2i t) ≠ (b2i t1)) ∧ vd [n26, n27, n28, n29, n30, n31, n32, n33, n34, n35, n36, n37] = (vd [n2, n3, n4, n5, n6, n7, n8, n9, n10, n11, n12, n13] * vd [n14, n15, n16, n17, n18, n19, n20, n21, n22, n23, n24, n25]) % top12) := h_product
  have hm0 := Int.mul_nonneg l_n l_n1
  have hp := prod_pos h_product h_rn4 h_rn41 hm0 (by simp only [top12]; omega)
  obtain ⟨hp1, hp2⟩ := hp
  intro b
  refine ⟨trivial, ?_⟩
  intro n38 l_n38 u_n38
  intro n39 l_n39 u_n39
  intro n40 l_n40 u_n40
  intro h_tell
  replace h_tell : tellW (sv [b2i t2, n26, n27, n28, n29, n30, n31, n32, n33, n34, n35, n36, n37]) n38 n39 n40 := h_tell
  rw [hp1, sv_false, hp2] at h_tell
  have hw := (h_tell.1 (by simp only [inW, half128]; omega)).2
  intro b1
  refine ⟨trivial, ?_⟩
  intro n41 l_n41 u_n41
  intro n42 l_n42 u_n42
  intro n43 l_n43 u_n43
  intro n44 l_n44 u_n44
  intro h_rfloor
  replace h_rfloor : (((4611686018427387904 : Int) < 1 → n41 = 0 ∧ n42 = 0 ∧ n43 = 0 ∧ n44 = 1) ∧ (1 ≤ (4611686018427387904 : Int) → n44 = 0 ∧ isFloor (w128 n38 n39) (4611686018427387904 : Int) (w128 n41 n42) n43)) := h_rfloor
  have hf := (h_rfloor.2 (by omega)).2
  rw [hw] at hf
  obtain ⟨f1, f2, f3⟩ := hf
  simp only [w128] at f1
  intro b2
  show n42 = n * n1 / 4611686018427387904
  omega

theorem p_tround : P_tround := by
  unfold P_tround
  intro n l_n u_n
  intro hpre
  replace hpre : True := hpre
  refine ⟨trivial, ?_⟩
  intro t
  intro n1 l_n1 u_n1
  intro n2 l_n2 u_n2
  intro n3 l_n3 u_n3
  intro n4 l_n4 u_n4
  intro n5 l_n5 u_n5
  intro n6 l_n6 u_n6
  intro n7 l_n7 u_n7
  intro n8 l_n8 u_n8
  intro n9 l_n9 u_n9
  intro n10 l_n10 u_n10
  intro n11 l_n11 u_n11
  intro n12 l_n12 u_n12
  intro h_rn4
  replace h_rn4 : ((b2i t) = 0 ∧ vd [n1, n2, n3, n4, n5, n6, n7, n8, n9, n10, n11, n12] = n) := h_rn4
  refine ⟨trivial, ?_⟩
  intro t1
  intro n13 l_n13 u_n13
  intro n14 l_n14 u_n14
  intro n15 l_n15 u_n15
  intro n16 l_n16 u_n16
  intro n17 l_n17 u_n17
  intro n18 l_n18 u_n18
  intro n19 l_n19 u_n19
  intro n20 l_n20 u_n20
  intro n21 l_n21 u_n21
  intro n22 l_n22 u_n22
  intro n23 l_n23 u_n23
  intro n24 l_n24 u_n24
  intro h_rn41
  replace h_rn41 : ((b2i t1) = 0 ∧ vd [n13, n14, n15, n16, n17, n18, n19, n20, n21, n22, n23, n24] = (4611686018427387904 : Int)) := h_rn41
  refine ⟨trivial, ?_⟩
  intro t2
  intro n25 l_n25 u_n25
  intro n26 l_n26 u_n26
  intro n27 l_n27 u_n27
  intro n28 l_n28 u_n28
  intro n29 l_n29 u_n29
  intro n30 l_n30 u_n30
  intro n31 l_n31 u_n31
  intro n32 l_n32 u_n32
  intro n33 l_n33 u_n33
  intro n34 l_n34 u_n34
  intro n35 l_n35 u_n35
  intro n36 l_n36 u_n36
  intro h_product
  replace h_product : (((b2i t2) = 1 ↔ (b2i t) ≠ (b2i t1)) ∧ vd [n25, n26, n27, n28, n29, n30, n31, n32, n33, n34, n35, n36] = (vd [n1, n2, n3, n4, n5, n6, n7, n8, n9, n10, n11, n12] * vd [n13, n14, n15, n16, n17, n18, n19, n20, n21, n22, n23, n24]) % top12) := h_product
  have hp := prod_pos h_product h_rn4 h_rn41 (by omega) (by simp only [top12]; omega)
  obtain ⟨hp1, hp2⟩ := hp
  refine ⟨trivial, ?_⟩
  intro n37 l_n37 u_n37
  intro n38 l_n38 u_n38
  intro n39 l_n39 u_n39
  intro h_tell
  replace h_tell : tellW (sv [b2i t2, n25, n26, n27, n28, n29, n30, n31, n32, n33, n34, n35, n36]) n37 n38 n39 := h_tell
  rw [hp1, sv_false, hp2] at h_tell
  have hw := (h_tell.1 (by simp only [inW, half128]; omega)).2
  intro b
  refine ⟨trivial, ?_⟩
  intro n40 l_n40 u_n40
  intro n41 l_n41 u_n41
  intro h_rRootWide
  replace h_rRootWide : ((n37 < 0 → n40 = 0 ∧ n41 = 1) ∧ (0 ≤ n37 → n41 = 0 ∧ isRoot (w128 n37 n38) n40)) := h_rRootWide
  have hr := (h_rRootWide.2 (by simp only [w128] at hw; omega)).2
  rw [hw] at hr
  intro b1
  refine ⟨?_, ?_⟩
  · show isRoot (n * 4611686018427387904) n40
    exact hr
  · show isRoot (n * 4611686018427387904) n40
    exact hr

theorem p_tnext : P_tnext := by
  unfold P_tnext
  intro n l_n u_n
  intro hpre
  replace hpre : True := hpre
  intro n1 e_n1 l_n1 u_n1
  show n1 = n + 1
  exact e_n1

theorem rl0_in {n k i y : Int} (hk : 0 ≤ k) (h1 : 2 ^ k.toNat ≤ n) (h2 : n < 2 * 2 ^ k.toNat) (hy : y = n * 2 ^ (i - k).toNat) (hi : k ≤ i) : 2 ^ i.toNat ≤ y ∧ y < 2 * 2 ^ i.toNat := by
  have e : i.toNat = k.toNat + (i - k).toNat := by omega
  have hp : (0 : Int) < 2 ^ (i - k).toNat := Int.pow_pos (by decide)
  rw [e, Int.pow_add, hy]
  have a1 := Int.mul_le_mul_of_nonneg_right h1 (Int.le_of_lt hp)
  have a2 := Int.mul_lt_mul_of_pos_right h2 hp
  constructor
  · exact a1
  · have e2 : (2 : Int) * 2 ^ k.toNat * 2 ^ (i - k).toNat = 2 * (2 ^ k.toNat * 2 ^ (i - k).toNat) := by grind
    rw [e2] at a2
    exact a2
theorem rl0_step {n k i : Int} (hi : k ≤ i) : n * 2 ^ (i + 1 - k).toNat = 2 * (n * 2 ^ (i - k).toNat) := by
  rw [show (i + 1 - k).toNat = (i - k).toNat + 1 by omega, Int.pow_succ]
  grind
theorem pow_lt62 {i : Int} (h : i < 62) (h0 : 0 ≤ i) : (2 : Int) ^ i.toNat ≤ 2305843009213693952 := by
  have := pow_two_le (show i.toNat ≤ 61 by omega)
  have e : (2 : Int) ^ 61 = 2305843009213693952 := rfl
  omega
theorem rl1_step {y0 o0 i y o z : Int} (i0 : 0 ≤ i) (i1 : i < 40) (hy : y = (ll y0 i.toNat).1) (ho : o = o0 * 2 ^ i.toNat + (ll y0 i.toNat).2) (a0 : 4611686018427387904 ≤ y0) (a1 : y0 ≤ 9223372036854775807) (k0 : -16 ≤ o0) (k1 : o0 ≤ 15) (hz : z = y * y / 4611686018427387904) (z1 : z ≤ 18446744073709551615) :
    (9223372036854775808 ≤ z → z / 2 = (ll y0 (i.toNat + 1)).1 ∧ 2 * o + 1 = o0 * 2 ^ (i.toNat + 1) + (ll y0 (i.toNat + 1)).2) ∧ (¬ 9223372036854775808 ≤ z → z = (ll y0 (i.toNat + 1)).1 ∧ 2 * o = o0 * 2 ^ (i.toNat + 1) + (ll y0 (i.toNat + 1)).2) ∧
    4611686018427387904 ≤ (ll y0 (i.toNat + 1)).1 ∧ (ll y0 (i.toNat + 1)).1 ≤ 9223372036854775807 ∧ -17592186044416 ≤ o0 * 2 ^ (i.toNat + 1) + (ll y0 (i.toNat + 1)).2 ∧ o0 * 2 ^ (i.toNat + 1) + (ll y0 (i.toNat + 1)).2 ≤ 17592186044416 := by
  obtain ⟨_, b2, b3, b4, b5, b6, b7⟩ := lng_step i0 i1 hy ho a0 a1 k0 k1 hz rfl rfl rfl
  have l0 : 0 ≤ z / 9223372036854775808 := by
    have : 0 ≤ z := by
      rw [hz]
      obtain ⟨⟨c0, c1⟩, _⟩ := ll_in a0 (show y0 < 9223372036854775808 by omega) i.toNat
      rw [← hy] at c0 c1
      have := sq_in c0 c1
      omega
    omega
  rw [shr_k rfl l0 (by omega)] at b2 b4 b5
  rw [b2] at b4 b5
  rw [b3] at b6 b7
  refine ⟨fun h => ?_, fun h => ?_, b4, b5, b6, b7⟩
  · have e : z / 9223372036854775808 = 1 := by omega
    rw [e] at b2 b3
    exact ⟨b2, b3⟩
  · have e : z / 9223372036854775808 = 0 := by omega
    rw [e] at b2 b3
    refine ⟨?_, by omega⟩
    rw [← b2]
    show z = z / 2 ^ (0 : Int).toNat
    simp
theorem rl1_sq {y0 i y : Int} (hy : y = (ll y0 i.toNat).1) (a0 : 4611686018427387904 ≤ y0) (a1 : y0 ≤ 9223372036854775807) : y * y < 85070591730234615865843651857942052864 := by
  obtain ⟨⟨c0, c1⟩, _⟩ := ll_in a0 (show y0 < 9223372036854775808 by omega) i.toNat
  rw [← hy] at c0 c1
  have h := Int.mul_le_mul (show y ≤ 9223372036854775807 by omega) (show y ≤ 9223372036854775807 by omega) (by omega) (by omega)
  omega

set_option maxHeartbeats 2000000 in
theorem p_rlong : P_rlong := by
  unfold P_rlong
  intro n l_n u_n
  intro hpre
  replace hpre : True := hpre
  refine ⟨trivial, ?_⟩
  intro n1 l_n1 u_n1
  intro h_rLog
  replace h_rLog : ((n = 0 → n1 = -1) ∧ (0 < n → 0 ≤ n1 ∧ n1 ≤ 63 ∧ 2 ^ n1.toNat ≤ n ∧ n < 2 * 2 ^ n1.toNat)) := h_rLog
  have hlg := lg_is h_rLog l_n
  have hl2 := lg_in l_n u_n
  have hlo := h_rLog.2 (by omega)
  refine ⟨by omega, ?_⟩
  refine ⟨by omega, ?_⟩
  intro n2 e_n2 l_n2 u_n2
  refine ⟨?_, ?_⟩
  · show (n = n * 2 ^ (n2 - n1).toNat ∧ n1 ≤ n2)
    have z : (n2 - n1).toNat = 0 := by omega
    rw [z, Int.pow_zero]
    exact ⟨by omega, by omega⟩
  intro n3 l_n3 u_n3
  intro n4 l_n4 u_n4
  intro hi_rl0
  replace hi_rl0 : (n4 = n * 2 ^ (n3 - n1).toNat ∧ n1 ≤ n3) := hi_rl0
  have hin := rl0_in (by omega) hlo.2.2.1 hlo.2.2.2 hi_rl0.1 hi_rl0.2
  intro vs lv_vs
  refine ⟨fun c0 => ?_, fun c0 => ?_⟩
  · have hp := pow_lt62 c0 l_n3
    intro n5 e_n5 l_n5 u_n5
    simp only [wrap_u64, wrap_i64, wrap_i32, wrap_u32, wrap_u8] at e_n5
    intro n6 e_n6 l_n6 u_n6
    refine ⟨by omega, ?_⟩
    intro n7 e_n7 l_n7 u_n7
    refine ⟨?_, ?_⟩
    · show (n5 = n * 2 ^ (n7 - n1).toNat ∧ n1 ≤ n7)
      have hs := rl0_step (n := n) hi_rl0.2
      rw [show n7 = n3 + 1 by omega, hs, ← hi_rl0.1]
      exact ⟨by omega, by omega⟩
    · show (62 - n7).toNat < (62 - n3).toNat
      omega
  · have h62 : n3 = 62 := by omega
    rw [h62] at hin
    replace hin : 4611686018427387904 ≤ n4 ∧ n4 < 2 * 4611686018427387904 := hin
    intro n5 e_n5 l_n5 u_n5
    simp only [wrap_u64, wrap_i64, wrap_i32, wrap_u32, wrap_u8] at e_n5
    refine ⟨by omega, ?_⟩
    refine ⟨by omega, ?_⟩
    intro n6 e_n6 l_n6 u_n6
    refine ⟨by omega, ?_⟩
    refine ⟨by omega, ?_⟩
    intro n7 e_n7 l_n7 u_n7
    refine ⟨?_, ?_⟩
    · show (n6 = (ll n6 (0 : Int).toNat).1 ∧ n7 = n7 * 2 ^ (0 : Int).toNat + (ll n6 (0 : Int).toNat).2)
      exact ⟨rfl, by show n7 = n7 * 2 ^ 0 + 0; omega⟩
    intro n8 l_n8 u_n8
    intro n9 l_n9 u_n9
    intro n10 l_n10 u_n10
    intro hi_rl1
    replace hi_rl1 : (n9 = (ll n6 n8.toNat).1 ∧ n10 = n7 * 2 ^ n8.toNat + (ll n6 n8.toNat).2) := hi_rl1
    intro vs1 lv_vs1
    refine ⟨fun c1 => ?_, fun c1 => ?_⟩
    · refine ⟨?_, ?_⟩
      · show n9 * n9 < 85070591730234615865843651857942052864
        exact rl1_sq hi_rl1.1 l_n6 u_n6
      intro n11 l_n11 u_n11
      intro h_rprod4
      replace h_rprod4 : n11 = n9 * n9 / 4611686018427387904 := h_rprod4
      intro n12 e_n12 l_n12 u_n12
      have hst := rl1_step (z := n11) l_n8 (by omega) hi_rl1.1 hi_rl1.2 l_n6 u_n6 (by omega) (by omega) h_rprod4 u_n11
      refine ⟨fun c2 => ?_, fun c2 => ?_⟩
      · have h3 := hst.1 c2
        have h4 := hst.2.2
        intro n13 e_n13 l_n13 u_n13
        intro n14 e_n14 l_n14 u_n14
        intro n15 e_n15 l_n15 u_n15
        refine ⟨by omega, ?_⟩
        intro n16 e_n16 l_n16 u_n16
        refine ⟨by omega, ?_⟩
        intro n17 e_n17 l_n17 u_n17
        refine ⟨by omega, ?_⟩
        refine ⟨by omega, ?_⟩
        intro n18 e_n18 l_n18 u_n18
        refine ⟨?_, ?_⟩
        · show (n17 = (ll n6 n16.toNat).1 ∧ n18 = n7 * 2 ^ n16.toNat + (ll n6 n16.toNat).2)
          rw [show n16.toNat = n8.toNat + 1 by omega, ← h3.1, ← h3.2]
          exact ⟨by omega, by omega⟩
        · show (40 - n16).toNat < (40 - n8).toNat
          omega
      · have h3 := hst.2.1 c2
        have h4 := hst.2.2
        intro n13 e_n13 l_n13 u_n13
        refine ⟨by omega, ?_⟩
        intro n14 e_n14 l_n14 u_n14
        refine ⟨by omega, ?_⟩
        refine ⟨by omega, ?_⟩
        intro n15 e_n15 l_n15 u_n15
        refine ⟨by omega, ?_⟩
        refine ⟨by omega, ?_⟩
        intro n16 e_n16 l_n16 u_n16
        refine ⟨?_, ?_⟩
        · show (n15 = (ll n6 n14.toNat).1 ∧ n16 = n7 * 2 ^ n14.toNat + (ll n6 n14.toNat).2)
          rw [show n14.toNat = n8.toNat + 1 by omega, ← h3.1, ← h3.2]
          exact ⟨by omega, by omega⟩
        · show (40 - n14).toNat < (40 - n8).toNat
          omega
    · show n10 = longF n
      have h40 : n8 = 40 := by omega
      rw [h40] at hi_rl1
      replace hi_rl1 : n9 = (ll n6 40).1 ∧ n10 = n7 * 1099511627776 + (ll n6 40).2 := hi_rl1
      have e6 : n6 = y0F n := by
        unfold y0F
        rw [e_n6, hi_rl0.1, h62, show (62 - n1).toNat = 62 - Nat.log2 n.toNat by omega]
      rw [hi_rl1.2, e6]
      unfold longF
      rw [show n7 = (Nat.log2 n.toNat : Int) - 16 by omega]

theorem hold_is {A D x v : Int} (h : isNear A D x) (hv : v = clamp32 x) : ∃ x, isNear A D x ∧ v = clamp32 x := ⟨x, h, hv⟩
theorem near_one {A x : Int} (h : isNear A 1 x) : x = A := by
  obtain ⟨h1, h2⟩ := h
  omega
theorem near_24 {A x : Int} (h : isNear A 16777216 x) : x = near24 A := by
  obtain ⟨h1, h2⟩ := h
  unfold near24
  omega
theorem near_big {A D x : Int} (h : isNear A D x) (hD : 1 ≤ D) (h0 : -1267650600228229401496703205376 ≤ A) (h1 : A ≤ 1267650600228229401496703205376) : -1267650600228229401496703205377 ≤ x ∧ x ≤ 1267650600228229401496703205377 := by
  obtain ⟨h2, h3⟩ := h
  constructor
  · rcases Int.lt_or_le x (-1267650600228229401496703205377) with z | z
    · have := Int.mul_le_mul_of_nonneg_left (show x + 1 ≤ -1267650600228229401496703205377 by omega) (show 0 ≤ 2 * D by omega)
      omega
    · exact z
  · rcases Int.lt_or_le 1267650600228229401496703205377 x with z | z
    · have := Int.mul_le_mul_of_nonneg_left (show 1267650600228229401496703205378 ≤ x by omega) (show 0 ≤ 2 * D by omega)
      omega
    · exact z

set_option maxHeartbeats 2000000 in
theorem p_rhold : P_rhold := by
  unfold P_rhold
  intro t
  intro n l_n u_n
  intro n1 l_n1 u_n1
  intro n2 l_n2 u_n2
  intro n3 l_n3 u_n3
  intro n4 l_n4 u_n4
  intro n5 l_n5 u_n5
  intro n6 l_n6 u_n6
  intro n7 l_n7 u_n7
  intro n8 l_n8 u_n8
  intro n9 l_n9 u_n9
  intro n10 l_n10 u_n10
  intro n11 l_n11 u_n11
  intro t1
  intro n12 l_n12 u_n12
  intro n13 l_n13 u_n13
  intro n14 l_n14 u_n14
  intro n15 l_n15 u_n15
  intro n16 l_n16 u_n16
  intro n17 l_n17 u_n17
  intro n18 l_n18 u_n18
  intro n19 l_n19 u_n19
  intro n20 l_n20 u_n20
  intro n21 l_n21 u_n21
  intro n22 l_n22 u_n22
  intro n23 l_n23 u_n23
  intro hpre
  replace hpre : (1 ≤ sv [b2i t1, n12, n13, n14, n15, n16, n17, n18, n19, n20, n21, n22, n23] ∧ vd [n12, n13, n14, n15, n16, n17, n18, n19, n20, n21, n22, n23] ≤ 4611686018427387904 ∧ vd [n12, n13, n14, n15, n16, n17, n18, n19, n20, n21, n22, n23] = sv [b2i t1, n12, n13, n14, n15, n16, n17, n18, n19, n20, n21, n22, n23] ∧ vd [n, n1, n2, n3, n4, n5, n6, n7, n8, n9, n10, n11] ≤ 1267650600228229401496703205376) := hpre
  intro b
  intro b1
  refine ⟨?_, ?_⟩
  · show (0 < vd [n12, n13, n14, n15, n16, n17, n18, n19, n20, n21, n22, n23] ∧ 2 * vd [n, n1, n2, n3, n4, n5, n6, n7, n8, n9, n10, n11] + vd [n12, n13, n14, n15, n16, n17, n18, n19, n20, n21, n22, n23] < top12 ∧ 4 * vd [n12, n13, n14, n15, n16, n17, n18, n19, n20, n21, n22, n23] ≤ top12)
    simp only [top12]; omega
  intro t2
  intro n24 l_n24 u_n24
  intro n25 l_n25 u_n25
  intro n26 l_n26 u_n26
  intro n27 l_n27 u_n27
  intro n28 l_n28 u_n28
  intro n29 l_n29 u_n29
  intro n30 l_n30 u_n30
  intro n31 l_n31 u_n31
  intro n32 l_n32 u_n32
  intro n33 l_n33 u_n33
  intro n34 l_n34 u_n34
  intro n35 l_n35 u_n35
  intro h_nearest
  replace h_nearest : (nearest (sv [b2i t, n, n1, n2, n3, n4, n5, n6, n7, n8, n9, n10, n11]) (sv [b2i t1, n12, n13, n14, n15, n16, n17, n18, n19, n20, n21, n22, n23]) (sv [b2i t2, n24, n25, n26, n27, n28, n29, n30, n31, n32, n33, n34, n35]) ∧ vd [n24, n25, n26, n27, n28, n29, n30, n31, n32, n33, n34, n35] ≤ 2 * vd [n, n1, n2, n3, n4, n5, n6, n7, n8, n9, n10, n11] + 2) := h_nearest
  have hn := h_nearest.1.1 (by omega)
  have ra := vd12 n n1 n2 n3 n4 n5 n6 n7 n8 n9 n10 n11 ⟨l_n, u_n⟩ ⟨l_n1, u_n1⟩ ⟨l_n2, u_n2⟩ ⟨l_n3, u_n3⟩ ⟨l_n4, u_n4⟩ ⟨l_n5, u_n5⟩ ⟨l_n6, u_n6⟩ ⟨l_n7, u_n7⟩ ⟨l_n8, u_n8⟩ ⟨l_n9, u_n9⟩ ⟨l_n10, u_n10⟩ ⟨l_n11, u_n11⟩
  have sa := sv_of t [n, n1, n2, n3, n4, n5, n6, n7, n8, n9, n10, n11]
  have hbig := near_big hn (by omega) (by omega) (by omega)
  have hvd := h_nearest.2
  intro b2
  refine ⟨trivial, ?_⟩
  intro t3
  intro n36 l_n36 u_n36
  intro n37 l_n37 u_n37
  intro n38 l_n38 u_n38
  intro n39 l_n39 u_n39
  intro n40 l_n40 u_n40
  intro n41 l_n41 u_n41
  intro n42 l_n42 u_n42
  intro n43 l_n43 u_n43
  intro n44 l_n44 u_n44
  intro n45 l_n45 u_n45
  intro n46 l_n46 u_n46
  intro n47 l_n47 u_n47
  intro h_small
  replace h_small : (vd [n36, n37, n38, n39, n40, n41, n42, n43, n44, n45, n46, n47] ≤ 9223372036854775808 ∧ sv [b2i t3, n36, n37, n38, n39, n40, n41, n42, n43, n44, n45, n46, n47] = (2147483647 : Int) ∧ ((b2i t3) = 1 ↔ (2147483647 : Int) < 0)) := h_small
  refine ⟨?_, ?_⟩
  · show vd [n24, n25, n26, n27, n28, n29, n30, n31, n32, n33, n34, n35] + vd [n36, n37, n38, n39, n40, n41, n42, n43, n44, n45, n46, n47] < top12
    simp only [top12]; omega
  intro t4
  intro h_above
  replace h_above : (b2i t4) = b2i (decide (sv [b2i t3, n36, n37, n38, n39, n40, n41, n42, n43, n44, n45, n46, n47] < sv [b2i t2, n24, n25, n26, n27, n28, n29, n30, n31, n32, n33, n34, n35])) := h_above
  rw [b2i_dec] at h_above
  refine ⟨fun c0 => ?_, fun c0 => ?_⟩
  · have q0 := (b2i_one t4).2 c0
    have k0 := h_above.1 c0
    show (∃ x, isNear (sv [b2i t, n, n1, n2, n3, n4, n5, n6, n7, n8, n9, n10, n11]) (sv [b2i t1, n12, n13, n14, n15, n16, n17, n18, n19, n20, n21, n22, n23]) x ∧ (2147483647 : Int) = clamp32 x)
    refine hold_is hn ?_
    simp only [clamp32]
    omega
  · have q0 := (b2i_zero t4).2 c0
    have k0 := mt h_above.2 c0
    refine ⟨trivial, ?_⟩
    intro t5
    intro n48 l_n48 u_n48
    intro n49 l_n49 u_n49
    intro n50 l_n50 u_n50
    intro n51 l_n51 u_n51
    intro n52 l_n52 u_n52
    intro n53 l_n53 u_n53
    intro n54 l_n54 u_n54
    intro n55 l_n55 u_n55
    intro n56 l_n56 u_n56
    intro n57 l_n57 u_n57
    intro n58 l_n58 u_n58
    intro n59 l_n59 u_n59
    intro h_small1
    replace h_small1 : (vd [n48, n49, n50, n51, n52, n53, n54, n55, n56, n57, n58, n59] ≤ 9223372036854775808 ∧ sv [b2i t5, n48, n49, n50, n51, n52, n53, n54, n55, n56, n57, n58, n59] = (-2147483648 : Int) ∧ ((b2i t5) = 1 ↔ (-2147483648 : Int) < 0)) := h_small1
    refine ⟨?_, ?_⟩
    · show vd [n48, n49, n50, n51, n52, n53, n54, n55, n56, n57, n58, n59] + vd [n24, n25, n26, n27, n28, n29, n30, n31, n32, n33, n34, n35] < top12
      simp only [top12]; omega
    intro t6
    intro h_above1
    replace h_above1 : (b2i t6) = b2i (decide (sv [b2i t2, n24, n25, n26, n27, n28, n29, n30, n31, n32, n33, n34, n35] < sv [b2i t5, n48, n49, n50, n51, n52, n53, n54, n55, n56, n57, n58, n59])) := h_above1
    rw [b2i_dec] at h_above1
    refine ⟨fun c1 => ?_, fun c1 => ?_⟩
    · have q1 := (b2i_one t6).2 c1
      have k1 := h_above1.1 c1
      show (∃ x, isNear (sv [b2i t, n, n1, n2, n3, n4, n5, n6, n7, n8, n9, n10, n11]) (sv [b2i t1, n12, n13, n14, n15, n16, n17, n18, n19, n20, n21, n22, n23]) x ∧ (-2147483648 : Int) = clamp32 x)
      refine hold_is hn ?_
      simp only [clamp32]
      omega
    · have q1 := (b2i_zero t6).2 c1
      have k1 := mt h_above1.2 c1
      refine ⟨trivial, ?_⟩
      intro n60 l_n60 u_n60
      intro n61 l_n61 u_n61
      intro n62 l_n62 u_n62
      intro h_tell
      replace h_tell : tellW (sv [b2i t2, n24, n25, n26, n27, n28, n29, n30, n31, n32, n33, n34, n35]) n60 n61 n62 := h_tell
      have hw := (h_tell.1 (by simp only [inW, half128]; omega)).2
      intro b3
      refine ⟨trivial, ?_⟩
      intro n63 l_n63 u_n63
      intro t7
      intro h_rint
      replace h_rint : isInt (w128 n60 n61) n63 (b2i t7) := h_rint
      rw [hw] at h_rint
      have hi := (h_rint.1 (by simp only [isI64]; omega)).2
      intro n64 e_n64 l_n64 u_n64
      simp only [wrap_u64, wrap_i64, wrap_i32, wrap_u32, wrap_u8] at e_n64
      show (∃ x, isNear (sv [b2i t, n, n1, n2, n3, n4, n5, n6, n7, n8, n9, n10, n11]) (sv [b2i t1, n12, n13, n14, n15, n16, n17, n18, n19, n20, n21, n22, n23]) x ∧ n64 = clamp32 x)
      refine hold_is hn ?_
      simp only [clamp32]
      omega

theorem p_rhold1 : P_rhold1 := by
  unfold P_rhold1
  intro t
  intro n l_n u_n
  intro n1 l_n1 u_n1
  intro n2 l_n2 u_n2
  intro n3 l_n3 u_n3
  intro n4 l_n4 u_n4
  intro n5 l_n5 u_n5
  intro n6 l_n6 u_n6
  intro n7 l_n7 u_n7
  intro n8 l_n8 u_n8
  intro n9 l_n9 u_n9
  intro n10 l_n10 u_n10
  intro n11 l_n11 u_n11
  intro hpre
  replace hpre : vd [n, n1, n2, n3, n4, n5, n6, n7, n8, n9, n10, n11] ≤ 1267650600228229401496703205376 := hpre
  intro b
  refine ⟨trivial, ?_⟩
  intro t1
  intro n12 l_n12 u_n12
  intro n13 l_n13 u_n13
  intro n14 l_n14 u_n14
  intro n15 l_n15 u_n15
  intro n16 l_n16 u_n16
  intro n17 l_n17 u_n17
  intro n18 l_n18 u_n18
  intro n19 l_n19 u_n19
  intro n20 l_n20 u_n20
  intro n21 l_n21 u_n21
  intro n22 l_n22 u_n22
  intro n23 l_n23 u_n23
  intro h_small
  replace h_small : (vd [n12, n13, n14, n15, n16, n17, n18, n19, n20, n21, n22, n23] ≤ 9223372036854775808 ∧ sv [b2i t1, n12, n13, n14, n15, n16, n17, n18, n19, n20, n21, n22, n23] = (1 : Int) ∧ ((b2i t1) = 1 ↔ (1 : Int) < 0)) := h_small
  refine ⟨?_, ?_⟩
  · show (1 ≤ sv [b2i t1, n12, n13, n14, n15, n16, n17, n18, n19, n20, n21, n22, n23] ∧ vd [n12, n13, n14, n15, n16, n17, n18, n19, n20, n21, n22, n23] ≤ 4611686018427387904 ∧ vd [n12, n13, n14, n15, n16, n17, n18, n19, n20, n21, n22, n23] = sv [b2i t1, n12, n13, n14, n15, n16, n17, n18, n19, n20, n21, n22, n23] ∧ vd [n, n1, n2, n3, n4, n5, n6, n7, n8, n9, n10, n11] ≤ 1267650600228229401496703205376)
    have z := sv_nn h_small.2.1 h_small.2.2 (by omega)
    refine ⟨?_, ?_, ?_, ?_⟩ <;> first | assumption | omega
  intro n24 l_n24 u_n24
  intro h_rhold
  replace h_rhold : (∃ x, isNear (sv [b2i t, n, n1, n2, n3, n4, n5, n6, n7, n8, n9, n10, n11]) (sv [b2i t1, n12, n13, n14, n15, n16, n17, n18, n19, n20, n21, n22, n23]) x ∧ n24 = clamp32 x) := h_rhold
  obtain ⟨x, hx, hv⟩ := h_rhold
  rw [h_small.2.1] at hx
  have hx2 := near_one hx
  show n24 = clamp32 (sv [b2i t, n, n1, n2, n3, n4, n5, n6, n7, n8, n9, n10, n11])
  rw [hv, hx2]

end Go.Proofs.YtogcbmadcgjljaaDoor.Sx

/-
  The document's powers: 2 to the power of a number.
-/
set_option linter.all false
set_option maxRecDepth 100000
namespace Go.Proofs.YtogcbmadcgjljaaDoor.Sx
open Go Go.RowKit

theorem rt_tab : ∀ k : Fin 33, 1 ≤ k.val → tP.getD k.val 0 = rT.getD (k.val - 1) 0 := by decide +kernel
theorem tmod2 (x : Int) : x.tmod 2 = 0 ↔ x % 2 = 0 := by
  rcases Int.le_total 0 x with z | z
  · rw [Int.tmod_eq_emod_of_nonneg z]
  · obtain ⟨m, rfl⟩ : ∃ m, x = -m := ⟨-x, by omega⟩
    rw [Int.neg_tmod, Int.tmod_eq_emod_of_nonneg (show 0 ≤ m by omega)]
    omega
theorem tw_step {e i j p t : Int} (h1 : 1 ≤ i) (h2 : i < 33) (hp : p = qn (i - 1).toNat (e % 4294967296 / 2 ^ (33 - i).toNat)) (hj : j = 32 - i) (ht : t = rT.getD (i - 1).toNat 0) :
    (p * t < 85070591730234615865843651857942052864) ∧ (¬ (shI .shr .i64 e j).tmod 2 = 0 → p * t / 4611686018427387904 = qn i.toNat (e % 4294967296 / 2 ^ (32 - i).toNat)) ∧ (¬ ¬ (shI .shr .i64 e j).tmod 2 = 0 → p = qn i.toNat (e % 4294967296 / 2 ^ (32 - i).toNat)) ∧ 4611686018427387904 ≤ qn i.toNat (e % 4294967296 / 2 ^ (32 - i).toNat) ∧ qn i.toNat (e % 4294967296 / 2 ^ (32 - i).toNat) ≤ 9223372036854775808 := by
  subst hj
  have ht' : t = tP.getD i.toNat 0 := by
    have := rt_tab ⟨i.toNat, by omega⟩ (by show 1 ≤ i.toNat; omega)
    simp only at this
    rw [this, ht, show (i - 1).toNat = i.toNat - 1 by omega]
  have h := pw_step h1 h2 hp ht'
  rw [and1_i64] at h
  have k := tmod2 (shI .shr .i64 e (32 - i))
  exact ⟨h.1, fun z => h.2.1 (by omega), fun z => h.2.2.1 (by omega), h.2.2.2⟩
theorem qn_last : qx 32 4294967295 < 9223372036854775808 := by decide +kernel
theorem qn_top {f : Int} (h0 : 0 ≤ f) (h1 : f < 4294967296) : qn 32 f < 9223372036854775808 := by
  have := qx_mono (n := 32) (by omega) h0 (show f ≤ 4294967295 by omega)
  rw [qx32_lt h0 h1] at this
  have := qn_last
  omega
theorem powF_hi {e : Int} (h : 15 ≤ e / 4294967296) : powF e = 2147483648 := by unfold powF; rw [if_pos h]
theorem powF_lo {e : Int} (h : e / 4294967296 < -17) : powF e = 0 := by unfold powF; rw [if_neg (by omega), if_pos h]
theorem two_hi {e x : Int} (h : 15 ≤ e / 4294967296) (hx : 2147483648 ≤ x) : clamp32 x = clamp32 (powF e) ∧ clamp32 (-x) = clamp32 (-powF e) := by
  rw [powF_hi h]
  simp only [clamp32]
  omega
/-- nearest to a fraction whose numbers bear one factor. -/
theorem near_cut {q G A x U D : Int} (hA : 0 < A) (hG : 0 < G) (hU : U = q * A) (hD : D = 2 * G * A) (h : isNear U D x) : 2 * G * x ≤ q + G ∧ q + G < 2 * G * (x + 1) := by
  subst hU hD
  obtain ⟨h1, h2⟩ := h
  constructor
  · refine Int.not_lt.1 ?_
    intro z
    have := Int.mul_lt_mul_of_pos_right z hA
    have e1 : (q + G) * A = q * A + G * A := by grind
    have e2 : 2 * G * x * A = 2 * G * A * x := by grind
    have e3 : 2 * (2 * G * A) * x = 2 * (2 * G * A * x) := by grind
    have e4 : 2 * G * A = 2 * (G * A) := by grind
    rw [e1, e2] at this
    rw [e3] at h1
    omega
  · refine Int.not_le.1 ?_
    intro z
    have := Int.mul_le_mul_of_nonneg_right z (Int.le_of_lt hA)
    have e1 : (q + G) * A = q * A + G * A := by grind
    have e2 : 2 * G * (x + 1) * A = 2 * G * A * (x + 1) := by grind
    have e3 : 2 * (2 * G * A) * (x + 1) = 2 * (2 * G * A * (x + 1)) := by grind
    have e4 : 2 * G * A = 2 * (G * A) := by grind
    rw [e1, e2] at this
    rw [e3] at h2
    omega
theorem half_is {q G x : Int} (hG : 0 < G) (h1 : 2 * G * x ≤ q + G) (h2 : q + G < 2 * G * (x + 1)) : (q / G + 1) / 2 = x := by
  have a1 := Int.mul_ediv_add_emod q G
  have a2 := Int.emod_nonneg q (show G ≠ 0 by omega)
  have a3 := Int.emod_lt_of_pos q hG
  generalize q / G = d at *
  generalize q % G = r at *
  subst a1
  have b1 : 2 * x < d + 2 := by
    refine Int.not_le.1 ?_
    intro z
    have := Int.mul_le_mul_of_nonneg_left z (Int.le_of_lt hG)
    have e1 : G * (d + 2) = G * d + 2 * G := by grind
    have e2 : G * (2 * x) = 2 * G * x := by grind
    omega
  have b2 : d + 1 < 2 * x + 2 := by
    refine Int.not_le.1 ?_
    intro z
    have := Int.mul_le_mul_of_nonneg_left z (Int.le_of_lt hG)
    have e1 : G * (d + 1) = G * d + G := by grind
    have e2 : G * (2 * x + 2) = 2 * G * (x + 1) := by grind
    omega
  omega
theorem two_is {e w x U D : Int} (hw : w = e / 4294967296) (w0 : -40 ≤ w) (w1 : w ≤ 20) (hU : U = qn 32 (e % 4294967296) * 65536 * 2 ^ (max w 0).toNat) (hD : D = 4611686018427387904 * 2 ^ (max (-w) 0).toNat) (hx : isNear U D x) :
    0 ≤ x ∧ x ≤ 1099511627776 ∧ clamp32 x = clamp32 (powF e) ∧ clamp32 (-x) = clamp32 (-powF e) := by
  have hf : 0 ≤ e % 4294967296 ∧ e % 4294967296 < 4294967296 := by omega
  have q0 := (qn32_in e).1
  have q1 := qn_top hf.1 hf.2
  have hG : (0 : Int) < 2 ^ (45 - w).toNat := Int.pow_pos (by decide)
  have hP : (0 : Int) < 2 ^ (max w 0).toNat := Int.pow_pos (by decide)
  have eD : D = 2 * 2 ^ (45 - w).toNat * (65536 * 2 ^ (max w 0).toNat) := by
    rw [hD]
    have h1 : (2 : Int) ^ (45 - w).toNat * 2 ^ (max w 0).toNat = 35184372088832 * 2 ^ (max (-w) 0).toNat := by
      have e1 : (2 : Int) ^ 45 = 35184372088832 := rfl
      rw [← e1, ← Int.pow_add, ← Int.pow_add]
      congr 1
      omega
    have e2 : (2 : Int) * 2 ^ (45 - w).toNat * (65536 * 2 ^ (max w 0).toNat) = 131072 * (2 ^ (45 - w).toNat * 2 ^ (max w 0).toNat) := by grind
    rw [e2, h1]
    omega
  obtain ⟨k1, k2⟩ := near_cut (q := qn 32 (e % 4294967296)) (G := 2 ^ (45 - w).toNat) (A := 65536 * 2 ^ (max w 0).toNat) (by omega) hG (by rw [hU]; grind) eD hx
  have G25 : (33554432 : Int) ≤ 2 ^ (45 - w).toNat := by
    have := pow_two_le (show 25 ≤ (45 - w).toNat by omega)
    exact this
  have hx0 : 0 ≤ x := by
    refine Int.not_lt.1 ?_
    intro z
    have := Int.mul_le_mul_of_nonneg_left (show x + 1 ≤ 0 by omega) (show 0 ≤ 2 * (2 : Int) ^ (45 - w).toNat by omega)
    omega
  have hx1 : x ≤ 1099511627776 := by
    refine Int.not_lt.1 ?_
    intro z
    have a := Int.mul_le_mul_of_nonneg_left (show 1099511627777 ≤ x by omega) (show 0 ≤ 2 * (2 : Int) ^ (45 - w).toNat by omega)
    omega
  refine ⟨hx0, hx1, ?_⟩
  rcases Int.lt_or_le w 15 with c | c
  · rcases Int.lt_or_le w (-17) with d | d
    · rw [powF_lo (by omega)]
      have G63 : (9223372036854775808 : Int) ≤ 2 ^ (45 - w).toNat := by
        have := pow_two_le (show 63 ≤ (45 - w).toNat by omega)
        exact this
      have : x = 0 := by
        have : x < 1 := by
          refine Int.not_le.1 ?_
          intro z
          have := Int.mul_le_mul_of_nonneg_left z (show 0 ≤ 2 * (2 : Int) ^ (45 - w).toNat by omega)
          omega
        omega
      rw [this]
      exact ⟨rfl, rfl⟩
    · have hr := (powF_raw (e := e) (by omega) (by omega)).1
      rw [← hw, half_is hG k1 k2] at hr
      rw [hr]
      exact ⟨rfl, rfl⟩
  · have G30 : (2 : Int) ^ (45 - w).toNat ≤ 1073741824 := by
      have := pow_two_le (show (45 - w).toNat ≤ 30 by omega)
      exact this
    refine two_hi (by omega) ?_
    refine Int.not_lt.1 ?_
    intro z
    have := Int.mul_le_mul_of_nonneg_left (show x + 1 ≤ 2147483648 by omega) (show 0 ≤ 2 * (2 : Int) ^ (45 - w).toNat by omega)
    omega
theorem two_start {x e : Int} (h : x = 0 ∨ x = 1099511627776) (h1 : x = 0 → e / 4294967296 < -17) (h2 : x = 1099511627776 → 15 ≤ e / 4294967296) : 0 ≤ x ∧ x ≤ 1099511627776 ∧ clamp32 x = clamp32 (powF e) ∧ clamp32 (-x) = clamp32 (-powF e) := by
  rcases h with rfl | rfl
  · rw [powF_lo (h1 rfl)]; exact ⟨by omega, by omega, rfl, rfl⟩
  · exact ⟨by omega, by omega, two_hi (h2 rfl) (by omega)⟩
theorem pow_next {a b : Int} (h : b = a + 1) (h0 : 0 ≤ a) : (2 : Int) ^ b.toNat = 2 * 2 ^ a.toNat := by
  rw [show b.toNat = a.toNat + 1 by omega, Int.pow_succ]
  omega
theorem pow_small {a : Int} (h : a ≤ 40) : (1 : Int) ≤ 2 ^ a.toNat ∧ (2 : Int) ^ a.toNat ≤ 1099511627776 := by
  refine ⟨Int.pow_pos (by decide), ?_⟩
  have := pow_two_le (show a.toNat ≤ 40 by omega)
  exact this
theorem pow_small20 {a : Int} (h : a ≤ 20) : (2 : Int) ^ a.toNat ≤ 1048576 := by
  have := pow_two_le (show a.toNat ≤ 20 by omega)
  exact this

set_option maxHeartbeats 4000000 in
theorem p_rtwo : P_rtwo := by
  unfold P_rtwo
  intro n l_n u_n
  intro hpre
  replace hpre : True := hpre
  intro b
  intro n1 e_n1 l_n1 u_n1
  refine ⟨fun c0 => ?_, fun c0 => ?_⟩
  · refine ⟨trivial, ?_⟩
    intro t
    intro n2 l_n2 u_n2
    intro n3 l_n3 u_n3
    intro n4 l_n4 u_n4
    intro n5 l_n5 u_n5
    intro n6 l_n6 u_n6
    intro n7 l_n7 u_n7
    intro n8 l_n8 u_n8
    intro n9 l_n9 u_n9
    intro n10 l_n10 u_n10
    intro n11 l_n11 u_n11
    intro n12 l_n12 u_n12
    intro n13 l_n13 u_n13
    intro h_small
    replace h_small : (vd [n2, n3, n4, n5, n6, n7, n8, n9, n10, n11, n12, n13] ≤ 9223372036854775808 ∧ sv [b2i t, n2, n3, n4, n5, n6, n7, n8, n9, n10, n11, n12, n13] = (1099511627776 : Int) ∧ ((b2i t) = 1 ↔ (1099511627776 : Int) < 0)) := h_small
    show (0 ≤ sv [b2i t, n2, n3, n4, n5, n6, n7, n8, n9, n10, n11, n12, n13] ∧ sv [b2i t, n2, n3, n4, n5, n6, n7, n8, n9, n10, n11, n12, n13] ≤ 1099511627776 ∧ vd [n2, n3, n4, n5, n6, n7, n8, n9, n10, n11, n12, n13] ≤ 1267650600228229401496703205376 ∧ clamp32 (sv [b2i t, n2, n3, n4, n5, n6, n7, n8, n9, n10, n11, n12, n13]) = clamp32 (powF n) ∧ clamp32 (-(sv [b2i t, n2, n3, n4, n5, n6, n7, n8, n9, n10, n11, n12, n13])) = clamp32 (-(powF n)))
    have tw := two_start (x := sv [b2i t, n2, n3, n4, n5, n6, n7, n8, n9, n10, n11, n12, n13]) (e := n) (by omega) (by omega) (by omega)
    exact ⟨tw.1, tw.2.1, by omega, tw.2.2.1, tw.2.2.2⟩
  · refine ⟨fun c1 => ?_, fun c1 => ?_⟩
    · refine ⟨trivial, ?_⟩
      intro t
      intro n2 l_n2 u_n2
      intro n3 l_n3 u_n3
      intro n4 l_n4 u_n4
      intro n5 l_n5 u_n5
      intro n6 l_n6 u_n6
      intro n7 l_n7 u_n7
      intro n8 l_n8 u_n8
      intro n9 l_n9 u_n9
      intro n10 l_n10 u_n10
      intro n11 l_n11 u_n11
      intro n12 l_n12 u_n12
      intro n13 l_n13 u_n13
      intro h_small
      replace h_small : (vd [n2, n3, n4, n5, n6, n7, n8, n9, n10, n11, n12, n13] ≤ 9223372036854775808 ∧ sv [b2i t, n2, n3, n4, n5, n6, n7, n8, n9, n10, n11, n12, n13] = (0 : Int) ∧ ((b2i t) = 1 ↔ (0 : Int) < 0)) := h_small
      show (0 ≤ sv [b2i t, n2, n3, n4, n5, n6, n7, n8, n9, n10, n11, n12, n13] ∧ sv [b2i t, n2, n3, n4, n5, n6, n7, n8, n9, n10, n11, n12, n13] ≤ 1099511627776 ∧ vd [n2, n3, n4, n5, n6, n7, n8, n9, n10, n11, n12, n13] ≤ 1267650600228229401496703205376 ∧ clamp32 (sv [b2i t, n2, n3, n4, n5, n6, n7, n8, n9, n10, n11, n12, n13]) = clamp32 (powF n) ∧ clamp32 (-(sv [b2i t, n2, n3, n4, n5, n6, n7, n8, n9, n10, n11, n12, n13])) = clamp32 (-(powF n)))
      have tw := two_start (x := sv [b2i t, n2, n3, n4, n5, n6, n7, n8, n9, n10, n11, n12, n13]) (e := n) (by omega) (by omega) (by omega)
      exact ⟨tw.1, tw.2.1, by omega, tw.2.2.1, tw.2.2.2⟩
    · intro b1
      intro b2
      refine ⟨?_, ?_⟩
      · show (4611686018427387904 : Int) = qn ((1 : Int) - 1).toNat (n % 4294967296 / 2 ^ (33 - (1 : Int)).toNat)
        rw [show ((1 : Int) - 1).toNat = 0 from rfl]
        rfl
      intro n2 l_n2 u_n2
      intro n3 l_n3 u_n3
      intro hi_tw0
      replace hi_tw0 : n3 = qn (n2 - 1).toNat (n % 4294967296 / 2 ^ (33 - n2).toNat) := hi_tw0
      intro vs lv_vs
      refine ⟨fun c2 => ?_, fun c2 => ?_⟩
      · refine ⟨by omega, ?_⟩
        intro n4 e_n4 l_n4 u_n4
        refine ⟨fun c3 => ?_, fun c3 => ?_⟩
        · refine ⟨by omega, ?_⟩
          intro n5 e_n5 l_n5 u_n5
          have hst := tw_step (p := n3) l_n2 (by omega) hi_tw0 e_n4 e_n5
          refine ⟨?_, ?_⟩
          · show n3 * n5 < 85070591730234615865843651857942052864
            exact hst.1
          intro n6 l_n6 u_n6
          intro h_rprod4
          replace h_rprod4 : n6 = n3 * n5 / 4611686018427387904 := h_rprod4
          have h3 := hst.2.2.2
          rw [← hst.2.1 (by assumption), ← h_rprod4] at h3
          intro n7 e_n7 l_n7 u_n7
          refine ⟨by omega, ?_⟩
          intro n8 e_n8 l_n8 u_n8
          refine ⟨by omega, ?_⟩
          refine ⟨by omega, ?_⟩
          intro n9 e_n9 l_n9 u_n9
          refine ⟨?_, ?_⟩
          · show n9 = qn (n8 - 1).toNat (n % 4294967296 / 2 ^ (33 - n8).toNat)
            rw [show (n8 - 1).toNat = n2.toNat by omega, show (33 - n8).toNat = (32 - n2).toNat by omega]
            rw [← hst.2.1 (by assumption), ← h_rprod4, e_n9]
          · show (33 - n8).toNat < (33 - n2).toNat
            omega
        · intro n5 e_n5 l_n5 u_n5
          refine ⟨by omega, ?_⟩
          intro n6 e_n6 l_n6 u_n6
          refine ⟨?_, ?_⟩
          · show n3 = qn (n6 - 1).toNat (n % 4294967296 / 2 ^ (33 - n6).toNat)
            rw [show (n6 - 1).toNat = n2.toNat by omega, show (33 - n6).toNat = (32 - n2).toNat by omega]
            have hst := tw_step (t := rT.getD (n2 - 1).toNat 0) (p := n3) l_n2 (by omega) hi_tw0 e_n4 rfl
            exact hst.2.2.1 (by assumption)
          · show (33 - n6).toNat < (33 - n2).toNat
            omega
      · refine ⟨trivial, ?_⟩
        intro t
        intro n4 l_n4 u_n4
        intro n5 l_n5 u_n5
        intro n6 l_n6 u_n6
        intro n7 l_n7 u_n7
        intro n8 l_n8 u_n8
        intro n9 l_n9 u_n9
        intro n10 l_n10 u_n10
        intro n11 l_n11 u_n11
        intro n12 l_n12 u_n12
        intro n13 l_n13 u_n13
        intro n14 l_n14 u_n14
        intro n15 l_n15 u_n15
        intro h_rn4
        replace h_rn4 : ((b2i t) = 0 ∧ vd [n4, n5, n6, n7, n8, n9, n10, n11, n12, n13, n14, n15] = n3) := h_rn4
        have h33 : n2 = 33 := by omega
        rw [h33] at hi_tw0
        replace hi_tw0 : n3 = qn 32 (n % 4294967296 / 1) := hi_tw0
        rw [show n % 4294967296 / 1 = n % 4294967296 by omega] at hi_tw0
        refine ⟨trivial, ?_⟩
        intro t1
        intro n16 l_n16 u_n16
        intro n17 l_n17 u_n17
        intro n18 l_n18 u_n18
        intro n19 l_n19 u_n19
        intro n20 l_n20 u_n20
        intro n21 l_n21 u_n21
        intro n22 l_n22 u_n22
        intro n23 l_n23 u_n23
        intro n24 l_n24 u_n24
        intro n25 l_n25 u_n25
        intro n26 l_n26 u_n26
        intro n27 l_n27 u_n27
        intro h_small
        replace h_small : (vd [n16, n17, n18, n19, n20, n21, n22, n23, n24, n25, n26, n27] ≤ 9223372036854775808 ∧ sv [b2i t1, n16, n17, n18, n19, n20, n21, n22, n23, n24, n25, n26, n27] = (65536 : Int) ∧ ((b2i t1) = 1 ↔ (65536 : Int) < 0)) := h_small
        refine ⟨trivial, ?_⟩
        intro t2
        intro n28 l_n28 u_n28
        intro n29 l_n29 u_n29
        intro n30 l_n30 u_n30
        intro n31 l_n31 u_n31
        intro n32 l_n32 u_n32
        intro n33 l_n33 u_n33
        intro n34 l_n34 u_n34
        intro n35 l_n35 u_n35
        intro n36 l_n36 u_n36
        intro n37 l_n37 u_n37
        intro n38 l_n38 u_n38
        intro n39 l_n39 u_n39
        intro h_product
        replace h_product : (((b2i t2) = 1 ↔ (b2i t) ≠ (b2i t1)) ∧ vd [n28, n29, n30, n31, n32, n33, n34, n35, n36, n37, n38, n39] = (vd [n4, n5, n6, n7, n8, n9, n10, n11, n12, n13, n14, n15] * vd [n16, n17, n18, n19, n20, n21, n22, n23, n24, n25, n26, n27]) % top12) := h_product
        have hp := prod_pos h_product h_rn4 (show b2i t1 = 0 ∧ _ from ⟨by have := sv_nn h_small.2.1 h_small.2.2 (by omega); rw [this.1]; rfl, (sv_nn h_small.2.1 h_small.2.2 (by omega)).2⟩) (by omega) (by simp only [top12]; omega)
        obtain ⟨hp1, hp2⟩ := hp
        intro b3
        refine ⟨trivial, ?_⟩
        intro t3
        intro n40 l_n40 u_n40
        intro n41 l_n41 u_n41
        intro n42 l_n42 u_n42
        intro n43 l_n43 u_n43
        intro n44 l_n44 u_n44
        intro n45 l_n45 u_n45
        intro n46 l_n46 u_n46
        intro n47 l_n47 u_n47
        intro n48 l_n48 u_n48
        intro n49 l_n49 u_n49
        intro n50 l_n50 u_n50
        intro n51 l_n51 u_n51
        intro h_rn41
        replace h_rn41 : ((b2i t3) = 0 ∧ vd [n40, n41, n42, n43, n44, n45, n46, n47, n48, n49, n50, n51] = (4611686018427387904 : Int)) := h_rn41
        intro b4
        refine ⟨by omega, ?_⟩
        refine ⟨by omega, ?_⟩
        intro n52 e_n52 l_n52 u_n52
        refine ⟨?_, ?_⟩
        · show (sv [b2i t2, n28, n29, n30, n31, n32, n33, n34, n35, n36, n37, n38, n39] = n3 * 65536 * 2 ^ (n52 - n52).toNat ∧ vd [n28, n29, n30, n31, n32, n33, n34, n35, n36, n37, n38, n39] ≤ 604462909807314587353088 * 2 ^ (n52 - n52).toNat ∧ n52 ≤ n52 ∧ (0 < n52 → 0 ≤ n52) ∧ (n52 ≤ 0 → n52 = n52))
          have z : (n52 - n52).toNat = 0 := by omega
          rw [z, Int.pow_zero, hp1, sv_false, hp2]
          refine ⟨by omega, by omega, by omega, by omega, by omega⟩
        intro n53 l_n53 u_n53
        intro t4
        intro n54 l_n54 u_n54
        intro n55 l_n55 u_n55
        intro n56 l_n56 u_n56
        intro n57 l_n57 u_n57
        intro n58 l_n58 u_n58
        intro n59 l_n59 u_n59
        intro n60 l_n60 u_n60
        intro n61 l_n61 u_n61
        intro n62 l_n62 u_n62
        intro n63 l_n63 u_n63
        intro n64 l_n64 u_n64
        intro n65 l_n65 u_n65
        intro hi_tw1
        replace hi_tw1 : (sv [b2i t4, n54, n55, n56, n57, n58, n59, n60, n61, n62, n63, n64, n65] = n3 * 65536 * 2 ^ (n52 - n53).toNat ∧ vd [n54, n55, n56, n57, n58, n59, n60, n61, n62, n63, n64, n65] ≤ 604462909807314587353088 * 2 ^ (n52 - n53).toNat ∧ n53 ≤ n52 ∧ (0 < n52 → 0 ≤ n53) ∧ (n52 ≤ 0 → n53 = n52)) := hi_tw1
        have ru := vd12 n54 n55 n56 n57 n58 n59 n60 n61 n62 n63 n64 n65 ⟨l_n54, u_n54⟩ ⟨l_n55, u_n55⟩ ⟨l_n56, u_n56⟩ ⟨l_n57, u_n57⟩ ⟨l_n58, u_n58⟩ ⟨l_n59, u_n59⟩ ⟨l_n60, u_n60⟩ ⟨l_n61, u_n61⟩ ⟨l_n62, u_n62⟩ ⟨l_n63, u_n63⟩ ⟨l_n64, u_n64⟩ ⟨l_n65, u_n65⟩
        have ps := pow_small20 (a := n52 - n53) (by omega)
        intro vs1 lv_vs1
        refine ⟨fun c3 => ?_, fun c3 => ?_⟩
        · refine ⟨?_, ?_⟩
          · show vd [n54, n55, n56, n57, n58, n59, n60, n61, n62, n63, n64, n65] + vd [n54, n55, n56, n57, n58, n59, n60, n61, n62, n63, n64, n65] < top12
            simp only [top12]; omega
          intro t5
          intro n66 l_n66 u_n66
          intro n67 l_n67 u_n67
          intro n68 l_n68 u_n68
          intro n69 l_n69 u_n69
          intro n70 l_n70 u_n70
          intro n71 l_n71 u_n71
          intro n72 l_n72 u_n72
          intro n73 l_n73 u_n73
          intro n74 l_n74 u_n74
          intro n75 l_n75 u_n75
          intro n76 l_n76 u_n76
          intro n77 l_n77 u_n77
          intro h_sum
          replace h_sum : (sv [b2i t5, n66, n67, n68, n69, n70, n71, n72, n73, n74, n75, n76, n77] = sv [b2i t4, n54, n55, n56, n57, n58, n59, n60, n61, n62, n63, n64, n65] + sv [b2i t4, n54, n55, n56, n57, n58, n59, n60, n61, n62, n63, n64, n65] ∧ vd [n66, n67, n68, n69, n70, n71, n72, n73, n74, n75, n76, n77] ≤ vd [n54, n55, n56, n57, n58, n59, n60, n61, n62, n63, n64, n65] + vd [n54, n55, n56, n57, n58, n59, n60, n61, n62, n63, n64, n65]) := h_sum
          intro n78 e_n78 l_n78 u_n78
          refine ⟨by omega, ?_⟩
          intro n79 e_n79 l_n79 u_n79
          refine ⟨?_, ?_⟩
          · show (sv [b2i t5, n66, n67, n68, n69, n70, n71, n72, n73, n74, n75, n76, n77] = n3 * 65536 * 2 ^ (n52 - n79).toNat ∧ vd [n66, n67, n68, n69, n70, n71, n72, n73, n74, n75, n76, n77] ≤ 604462909807314587353088 * 2 ^ (n52 - n79).toNat ∧ n79 ≤ n52 ∧ (0 < n52 → 0 ≤ n79) ∧ (n52 ≤ 0 → n79 = n52))
            have hn := pow_next (a := n52 - n53) (b := n52 - n79) (by omega) (by omega)
            have e1 : n3 * 65536 * (2 * 2 ^ (n52 - n53).toNat) = 2 * (n3 * 65536 * 2 ^ (n52 - n53).toNat) := by grind
            rw [hn, e1]
            refine ⟨by omega, by omega, by omega, by omega, by omega⟩
          · show n79.toNat < n53.toNat
            omega
        · refine ⟨?_, ?_⟩
          · show (sv [b2i t3, n40, n41, n42, n43, n44, n45, n46, n47, n48, n49, n50, n51] = 4611686018427387904 * 2 ^ (n53 - n53).toNat ∧ vd [n40, n41, n42, n43, n44, n45, n46, n47, n48, n49, n50, n51] = 4611686018427387904 * 2 ^ (n53 - n53).toNat ∧ n53 ≤ n53 ∧ (n53 < 0 → n53 ≤ 0) ∧ (0 ≤ n53 → n53 = n53))
            have z : (n53 - n53).toNat = 0 := by omega
            have hz := sv_zero (l := [n40, n41, n42, n43, n44, n45, n46, n47, n48, n49, n50, n51]) h_rn41.1
            rw [z, Int.pow_zero, hz.2]
            refine ⟨by omega, by omega, by omega, by omega, by omega⟩
          intro n66 l_n66 u_n66
          intro t5
          intro n67 l_n67 u_n67
          intro n68 l_n68 u_n68
          intro n69 l_n69 u_n69
          intro n70 l_n70 u_n70
          intro n71 l_n71 u_n71
          intro n72 l_n72 u_n72
          intro n73 l_n73 u_n73
          intro n74 l_n74 u_n74
          intro n75 l_n75 u_n75
          intro n76 l_n76 u_n76
          intro n77 l_n77 u_n77
          intro n78 l_n78 u_n78
          intro hi_tw2
          replace hi_tw2 : (sv [b2i t5, n67, n68, n69, n70, n71, n72, n73, n74, n75, n76, n77, n78] = 4611686018427387904 * 2 ^ (n66 - n53).toNat ∧ vd [n67, n68, n69, n70, n71, n72, n73, n74, n75, n76, n77, n78] = 4611686018427387904 * 2 ^ (n66 - n53).toNat ∧ n53 ≤ n66 ∧ (n53 < 0 → n66 ≤ 0) ∧ (0 ≤ n53 → n66 = n53)) := hi_tw2
          have rd := vd12 n67 n68 n69 n70 n71 n72 n73 n74 n75 n76 n77 n78 ⟨l_n67, u_n67⟩ ⟨l_n68, u_n68⟩ ⟨l_n69, u_n69⟩ ⟨l_n70, u_n70⟩ ⟨l_n71, u_n71⟩ ⟨l_n72, u_n72⟩ ⟨l_n73, u_n73⟩ ⟨l_n74, u_n74⟩ ⟨l_n75, u_n75⟩ ⟨l_n76, u_n76⟩ ⟨l_n77, u_n77⟩ ⟨l_n78, u_n78⟩
          have pd := pow_small (a := n66 - n53) (by omega)
          have eu : (n52 - n53).toNat = (max n1 0).toNat := by omega
          intro vs2 lv_vs2
          refine ⟨fun c4 => ?_, fun c4 => ?_⟩
          · refine ⟨?_, ?_⟩
            · show vd [n67, n68, n69, n70, n71, n72, n73, n74, n75, n76, n77, n78] + vd [n67, n68, n69, n70, n71, n72, n73, n74, n75, n76, n77, n78] < top12
              simp only [top12]; omega
            intro t6
            intro n79 l_n79 u_n79
            intro n80 l_n80 u_n80
            intro n81 l_n81 u_n81
            intro n82 l_n82 u_n82
            intro n83 l_n83 u_n83
            intro n84 l_n84 u_n84
            intro n85 l_n85 u_n85
            intro n86 l_n86 u_n86
            intro n87 l_n87 u_n87
            intro n88 l_n88 u_n88
            intro n89 l_n89 u_n89
            intro n90 l_n90 u_n90
            intro h_sum
            replace h_sum : (sv [b2i t6, n79, n80, n81, n82, n83, n84, n85, n86, n87, n88, n89, n90] = sv [b2i t5, n67, n68, n69, n70, n71, n72, n73, n74, n75, n76, n77, n78] + sv [b2i t5, n67, n68, n69, n70, n71, n72, n73, n74, n75, n76, n77, n78] ∧ vd [n79, n80, n81, n82, n83, n84, n85, n86, n87, n88, n89, n90] ≤ vd [n67, n68, n69, n70, n71, n72, n73, n74, n75, n76, n77, n78] + vd [n67, n68, n69, n70, n71, n72, n73, n74, n75, n76, n77, n78]) := h_sum
            intro n91 e_n91 l_n91 u_n91
            refine ⟨by omega, ?_⟩
            intro n92 e_n92 l_n92 u_n92
            refine ⟨?_, ?_⟩
            · show (sv [b2i t6, n79, n80, n81, n82, n83, n84, n85, n86, n87, n88, n89, n90] = 4611686018427387904 * 2 ^ (n92 - n53).toNat ∧ vd [n79, n80, n81, n82, n83, n84, n85, n86, n87, n88, n89, n90] = 4611686018427387904 * 2 ^ (n92 - n53).toNat ∧ n53 ≤ n92 ∧ (n53 < 0 → n92 ≤ 0) ∧ (0 ≤ n53 → n92 = n53))
              have hn := pow_next (a := n66 - n53) (b := n92 - n53) (by omega) (by omega)
              rw [hn]
              have rr := vd12 n79 n80 n81 n82 n83 n84 n85 n86 n87 n88 n89 n90 ⟨l_n79, u_n79⟩ ⟨l_n80, u_n80⟩ ⟨l_n81, u_n81⟩ ⟨l_n82, u_n82⟩ ⟨l_n83, u_n83⟩ ⟨l_n84, u_n84⟩ ⟨l_n85, u_n85⟩ ⟨l_n86, u_n86⟩ ⟨l_n87, u_n87⟩ ⟨l_n88, u_n88⟩ ⟨l_n89, u_n89⟩ ⟨l_n90, u_n90⟩
              have hs : sv [b2i t6, n79, n80, n81, n82, n83, n84, n85, n86, n87, n88, n89, n90] = 4611686018427387904 * (2 * 2 ^ (n66 - n53).toNat) := by omega
              have hv := sv_pos hs (by omega) rr.1
              refine ⟨hs, hv, by omega, by omega, by omega⟩
            · show (-n92).toNat < (-n66).toNat
              omega
          · refine ⟨?_, ?_⟩
            · show (0 < vd [n67, n68, n69, n70, n71, n72, n73, n74, n75, n76, n77, n78] ∧ 2 * vd [n54, n55, n56, n57, n58, n59, n60, n61, n62, n63, n64, n65] + vd [n67, n68, n69, n70, n71, n72, n73, n74, n75, n76, n77, n78] < top12 ∧ 4 * vd [n67, n68, n69, n70, n71, n72, n73, n74, n75, n76, n77, n78] ≤ top12)
              simp only [top12]; omega
            intro t6
            intro n79 l_n79 u_n79
            intro n80 l_n80 u_n80
            intro n81 l_n81 u_n81
            intro n82 l_n82 u_n82
            intro n83 l_n83 u_n83
            intro n84 l_n84 u_n84
            intro n85 l_n85 u_n85
            intro n86 l_n86 u_n86
            intro n87 l_n87 u_n87
            intro n88 l_n88 u_n88
            intro n89 l_n89 u_n89
            intro n90 l_n90 u_n90
            intro h_nearest
            replace h_nearest : (nearest (sv [b2i t4, n54, n55, n56, n57, n58, n59, n60, n61, n62, n63, n64, n65]) (sv [b2i t5, n67, n68, n69, n70, n71, n72, n73, n74, n75, n76, n77, n78]) (sv [b2i t6, n79, n80, n81, n82, n83, n84, n85, n86, n87, n88, n89, n90]) ∧ vd [n79, n80, n81, n82, n83, n84, n85, n86, n87, n88, n89, n90] ≤ 2 * vd [n54, n55, n56, n57, n58, n59, n60, n61, n62, n63, n64, n65] + 2) := h_nearest
            have ed : (n66 - n53).toNat = (max (-n1) 0).toNat := by omega
            have hn := h_nearest.1.1 (by omega)
            have tw := two_is (e := n) e_n1 (by omega) (by omega) (by rw [hi_tw1.1, eu, hi_tw0]) (by rw [hi_tw2.1, ed]) hn
            have rr := vd12 n79 n80 n81 n82 n83 n84 n85 n86 n87 n88 n89 n90 ⟨l_n79, u_n79⟩ ⟨l_n80, u_n80⟩ ⟨l_n81, u_n81⟩ ⟨l_n82, u_n82⟩ ⟨l_n83, u_n83⟩ ⟨l_n84, u_n84⟩ ⟨l_n85, u_n85⟩ ⟨l_n86, u_n86⟩ ⟨l_n87, u_n87⟩ ⟨l_n88, u_n88⟩ ⟨l_n89, u_n89⟩ ⟨l_n90, u_n90⟩
            have sr := sv_of t6 [n79, n80, n81, n82, n83, n84, n85, n86, n87, n88, n89, n90]
            show (0 ≤ sv [b2i t6, n79, n80, n81, n82, n83, n84, n85, n86, n87, n88, n89, n90] ∧ sv [b2i t6, n79, n80, n81, n82, n83, n84, n85, n86, n87, n88, n89, n90] ≤ 1099511627776 ∧ vd [n79, n80, n81, n82, n83, n84, n85, n86, n87, n88, n89, n90] ≤ 1267650600228229401496703205376 ∧ clamp32 (sv [b2i t6, n79, n80, n81, n82, n83, n84, n85, n86, n87, n88, n89, n90]) = clamp32 (powF n) ∧ clamp32 (-(sv [b2i t6, n79, n80, n81, n82, n83, n84, n85, n86, n87, n88, n89, n90])) = clamp32 (-(powF n)))
            exact ⟨tw.1, tw.2.1, by omega, tw.2.2.1, tw.2.2.2⟩

end Go.Proofs.YtogcbmadcgjljaaDoor.Sx
