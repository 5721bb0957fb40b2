/-
  The laws of places.
-/
import Derived.Test.YtigkdggmojannaaPa
set_option linter.all false
set_option maxRecDepth 100000
namespace Go.Proofs.Ytigkdggmojannaa.Sx
open Go Go.RowKit

theorem sml_num {v : Int} (h : -73786976294838206464 ≤ v) (h' : v ≤ 73786976294838206464) : sml v := ⟨h, h'⟩
theorem unit_lin (n m : Int) : linN 65536 0 0 (n * 65536) (m * 65536) 1 = n * 4294967296 ∧ linN 0 65536 0 (n * 65536) (m * 65536) 1 = m * 4294967296 := by
  simp only [linN]; omega
theorem near_unit {n p : Int} (k : Int) (h : isNear (n * 4294967296) (1 * k) p) (hk : k = 16777216 ∨ k = 65536) : (k = 16777216 → p = 256 * n) ∧ (k = 65536 → p = 65536 * n) := by
  rcases hk with rfl | rfl
  · exact ⟨fun _ => by obtain ⟨h1, h2⟩ := h; omega, fun z => by omega⟩
  · exact ⟨fun z => by omega, fun _ => by obtain ⟨h1, h2⟩ := h; omega⟩
/-- by a matrix that changes nothing. -/
theorem unit_snap {n m X xd Y yd px py er : Int} (t : placed 16777216 256 65536 0 0 65536 0 0 X xd Y yd px py er) (hX : X = n * 65536) (hY : Y = m * 65536) (hx : xd = 1) (hy : yd = 1) (h1 : -2147483648 ≤ n) (h2 : n ≤ 2147483648) (h3 : -2147483648 ≤ m) (h4 : m ≤ 2147483648) :
    ((-1048576 ≤ n ∧ n ≤ 1048576 ∧ -1048576 ≤ m ∧ m ≤ 1048576) → er = 0 ∧ px = 256 * n ∧ py = 256 * m) ∧ (¬ (-1048576 ≤ n ∧ n ≤ 1048576 ∧ -1048576 ≤ m ∧ m ≤ 1048576) → er = 8) := by
  subst hX hY hx hy
  rcases placed_or t with ⟨a1, _⟩ | ⟨a1, p, q, a2, a3, a4⟩
  · exact absurd ⟨rfl, by omega, by omega, ⟨by omega, by omega⟩, ⟨by omega, by omega⟩⟩ a1
  · rw [(unit_lin n m).1] at a2
    rw [(unit_lin n m).2] at a3
    have e1 := (near_unit _ a2 (Or.inl rfl)).1 rfl
    have e2 := (near_unit _ a3 (Or.inl rfl)).1 rfl
    simp only [inFar] at a4
    constructor <;> intro hh <;> omega
theorem unit_place {n m X xd Y yd px py er : Int} (t : placed 65536 65536 65536 0 0 65536 0 0 X xd Y yd px py er) (hX : X = n * 65536) (hY : Y = m * 65536) (hx : xd = 1) (hy : yd = 1) (h1 : -2147483648 ≤ n) (h2 : n ≤ 2147483648) (h3 : -2147483648 ≤ m) (h4 : m ≤ 2147483648) :
    ((-1048576 ≤ n ∧ n ≤ 1048576 ∧ -1048576 ≤ m ∧ m ≤ 1048576) → er = 0 ∧ px = 65536 * n ∧ py = 65536 * m) ∧ (¬ (-1048576 ≤ n ∧ n ≤ 1048576 ∧ -1048576 ≤ m ∧ m ≤ 1048576) → er = 8) := by
  subst hX hY hx hy
  rcases placed_or t with ⟨a1, _⟩ | ⟨a1, p, q, a2, a3, a4⟩
  · exact absurd ⟨rfl, by omega, by omega, ⟨by omega, by omega⟩, ⟨by omega, by omega⟩⟩ a1
  · rw [(unit_lin n m).1] at a2
    rw [(unit_lin n m).2] at a3
    have e1 := (near_unit _ a2 (Or.inr rfl)).2 rfl
    have e2 := (near_unit _ a3 (Or.inr rfl)).2 rfl
    simp only [inFar] at a4
    constructor <;> intro hh <;> omega

theorem p_lives : P_lives := by
  unfold P_lives
  intro hpre
  replace hpre : True := hpre
  intro b
  refine ⟨trivial, ?_⟩
  intro n l_n u_n
  intro n1 l_n1 u_n1
  intro n2 l_n2 u_n2
  intro h_lwholeN
  replace h_lwholeN : (w128 n n1 = (65536 : Int) ∧ n2 = 1) := h_lwholeN
  refine ⟨trivial, ?_⟩
  intro n3 l_n3 u_n3
  intro n4 l_n4 u_n4
  intro n5 l_n5 u_n5
  intro h_lwholeN1
  replace h_lwholeN1 : (w128 n3 n4 = (131072 : Int) ∧ n5 = 1) := h_lwholeN1
  refine ⟨trivial, ?_⟩
  intro n6 l_n6 u_n6
  intro n7 l_n7 u_n7
  intro n8 l_n8 u_n8
  intro h_psnap
  replace h_psnap : placed 16777216 256 (65536 : Int) (0 : Int) (0 : Int) (65536 : Int) (0 : Int) (0 : Int) (w128 n n1) n2 (w128 n3 n4) n5 n6 n7 n8 := h_psnap
  have u0 := (unit_snap (n := 1) (m := 2) h_psnap h_lwholeN.1 h_lwholeN1.1 h_lwholeN.2 h_lwholeN1.2 (by omega) (by omega) (by omega) (by omega)).1 (by omega)
  clear h_psnap
  intro b1
  refine ⟨trivial, ?_⟩
  intro n9 l_n9 u_n9
  intro n10 l_n10 u_n10
  intro n11 l_n11 u_n11
  intro h_lwholeN2
  replace h_lwholeN2 : (w128 n9 n10 = (65536 : Int) ∧ n11 = 1) := h_lwholeN2
  refine ⟨trivial, ?_⟩
  intro n12 l_n12 u_n12
  intro n13 l_n13 u_n13
  intro n14 l_n14 u_n14
  intro h_lwholeN3
  replace h_lwholeN3 : (w128 n12 n13 = (131072 : Int) ∧ n14 = 1) := h_lwholeN3
  refine ⟨trivial, ?_⟩
  intro n15 l_n15 u_n15
  intro n16 l_n16 u_n16
  intro n17 l_n17 u_n17
  intro h_pplace
  replace h_pplace : placed 65536 65536 (65536 : Int) (0 : Int) (0 : Int) (65536 : Int) (0 : Int) (0 : Int) (w128 n9 n10) n11 (w128 n12 n13) n14 n15 n16 n17 := h_pplace
  have u1 := (unit_place (n := 1) (m := 2) h_pplace h_lwholeN2.1 h_lwholeN3.1 h_lwholeN2.2 h_lwholeN3.2 (by omega) (by omega) (by omega) (by omega)).1 (by omega)
  clear h_pplace
  intro b2
  refine ⟨trivial, ?_⟩
  intro n18 l_n18 u_n18
  intro n19 l_n19 u_n19
  intro n20 l_n20 u_n20
  intro h_lwholeN4
  replace h_lwholeN4 : (w128 n18 n19 = (137438953472 : Int) ∧ n20 = 1) := h_lwholeN4
  refine ⟨trivial, ?_⟩
  intro n21 l_n21 u_n21
  intro n22 l_n22 u_n22
  intro n23 l_n23 u_n23
  intro h_lwholeN5
  replace h_lwholeN5 : (w128 n21 n22 = (0 : Int) ∧ n23 = 1) := h_lwholeN5
  refine ⟨trivial, ?_⟩
  intro n24 l_n24 u_n24
  intro n25 l_n25 u_n25
  intro n26 l_n26 u_n26
  intro h_psnap1
  replace h_psnap1 : placed 16777216 256 (65536 : Int) (0 : Int) (0 : Int) (65536 : Int) (0 : Int) (0 : Int) (w128 n18 n19) n20 (w128 n21 n22) n23 n24 n25 n26 := h_psnap1
  have u2 := (unit_snap (n := 2097152) (m := 0) h_psnap1 h_lwholeN4.1 h_lwholeN5.1 h_lwholeN4.2 h_lwholeN5.2 (by omega) (by omega) (by omega) (by omega)).2 (by omega)
  clear h_psnap1
  intro b3
  refine ⟨trivial, ?_⟩
  intro n27 l_n27 u_n27
  intro n28 l_n28 u_n28
  intro n29 l_n29 u_n29
  intro h_lwholeN6
  replace h_lwholeN6 : (w128 n27 n28 = (0 : Int) ∧ n29 = 1) := h_lwholeN6
  refine ⟨trivial, ?_⟩
  intro n30 l_n30 u_n30
  intro n31 l_n31 u_n31
  intro n32 l_n32 u_n32
  intro h_psnap2
  replace h_psnap2 : placed 16777216 256 (65536 : Int) (0 : Int) (0 : Int) (65536 : Int) (0 : Int) (0 : Int) (w128 (0 : Int) (0 : Int)) (0 : Int) (w128 n27 n28) n29 n30 n31 n32 := h_psnap2
  have u3 := h_psnap2.1 (fun z => by have := z.2.1; omega)
  clear h_psnap2
  intro b4
  refine ⟨fun c0 => ?_, fun c0 => ?_⟩
  · refine ⟨fun c1 => ?_, fun c1 => ?_⟩
    · refine ⟨fun c2 => ?_, fun c2 => ?_⟩
      · refine ⟨fun c3 => ?_, fun c3 => ?_⟩
        · refine ⟨fun c4 => ?_, fun c4 => ?_⟩
          · show (b2i (n32 == 1)) = 1
            rw [u3.1]; rfl
          · show (b2i false) = 1
            exfalso; omega
        · show (b2i false) = 1
          exfalso; omega
      · show (b2i false) = 1
        exfalso; omega
    · show (b2i false) = 1
      exfalso; omega
  · show (b2i false) = 1
    exfalso; omega

theorem p_lof : P_lof := by
  unfold P_lof
  intro n l_n u_n
  intro n1 l_n1 u_n1
  intro n2 l_n2 u_n2
  intro n3 l_n3 u_n3
  intro n4 l_n4 u_n4
  intro n5 l_n5 u_n5
  intro n6 l_n6 u_n6
  intro n7 l_n7 u_n7
  intro n8 l_n8 u_n8
  intro n9 l_n9 u_n9
  intro n10 l_n10 u_n10
  intro n11 l_n11 u_n11
  intro hpre
  replace hpre : True := hpre
  intro b
  refine ⟨trivial, ?_⟩
  intro n12 l_n12 u_n12
  intro n13 l_n13 u_n13
  intro n14 l_n14 u_n14
  intro h_psnap
  replace h_psnap : placed 16777216 256 n n1 n2 n3 n4 n5 (w128 n6 n7) n8 (w128 n9 n10) n11 n12 n13 n14 := h_psnap
  intro b1
  refine ⟨trivial, ?_⟩
  intro n15 l_n15 u_n15
  intro n16 l_n16 u_n16
  intro n17 l_n17 u_n17
  intro h_rsnap
  replace h_rsnap : placed 16777216 256 n n1 n2 n3 n4 n5 (w128 n6 n7) n8 (w128 n9 n10) n11 n15 n16 n17 := h_rsnap
  have z1 := placed_uniq (by omega) h_psnap h_rsnap
  intro b2
  refine ⟨trivial, ?_⟩
  intro n18 l_n18 u_n18
  intro n19 l_n19 u_n19
  intro n20 l_n20 u_n20
  intro h_pplace
  replace h_pplace : placed 65536 65536 n n1 n2 n3 n4 n5 (w128 n6 n7) n8 (w128 n9 n10) n11 n18 n19 n20 := h_pplace
  intro b3
  refine ⟨trivial, ?_⟩
  intro n21 l_n21 u_n21
  intro n22 l_n22 u_n22
  intro n23 l_n23 u_n23
  intro h_rplace
  replace h_rplace : placed 65536 65536 n n1 n2 n3 n4 n5 (w128 n6 n7) n8 (w128 n9 n10) n11 n21 n22 n23 := h_rplace
  have z2 := placed_uniq (by omega) h_pplace h_rplace
  intro b4
  refine ⟨fun c0 => ?_, fun c0 => ?_⟩
  · refine ⟨fun c1 => ?_, fun c1 => ?_⟩
    · refine ⟨fun c2 => ?_, fun c2 => ?_⟩
      · refine ⟨fun c3 => ?_, fun c3 => ?_⟩
        · refine ⟨trivial, ?_⟩
          intro t
          intro h_lives
          replace h_lives : (b2i t) = 1 := h_lives
          show (b2i t) = 1
          assumption
        · show (b2i false) = 1
          exfalso; omega
      · show (b2i false) = 1
        exfalso; omega
    · show (b2i false) = 1
      exfalso; omega
  · show (b2i false) = 1
    exfalso; omega

theorem near_shift {a d q x : Int} (h : isNear a d q) : isNear (a + d * x) d (q + x) := by
  obtain ⟨h1, h2⟩ := h
  have e1 : 2 * d * (q + x) = 2 * d * q + 2 * (d * x) := by grind
  have e2 : 2 * d * (q + x + 1) = 2 * d * (q + 1) + 2 * (d * x) := by grind
  exact ⟨by omega, by omega⟩
theorem moved {a b c d e f e' f' x y X xd Y yd px py er qx qy es : Int} (he : e' = e + 256 * x) (hf : f' = f + 256 * y)
    (t : placed 16777216 256 a b c d e f X xd Y yd px py er) (u : placed 16777216 256 a b c d e' f' X xd Y yd qx qy es) :
    (er = 1 ↔ es = 1) ∧ (er = 0 → es = 0 → qx = px + x ∧ qy = py + y ∧ -268435456 ≤ px ∧ px ≤ 268435456 ∧ -268435456 ≤ py ∧ py ≤ 268435456) := by
  subst he hf
  rcases placed_or t with ⟨a1, a2, a3, a4⟩ | ⟨a1, p, q, a2, a3, a4⟩ <;> rcases placed_or u with ⟨b1, b2, b3, b4⟩ | ⟨b1, p', q', b2, b3, b4⟩
  · omega
  · exact absurd b1 a1
  · exact absurd a1 b1
  · have hk := xk_pos (k := 16777216) a1 (by omega)
    have s1 : linN a c (e + 256 * x) X Y xd = linN a c e X Y xd + xd * 16777216 * x := by simp only [linN]; grind
    have s2 : linN b d (f + 256 * y) X Y xd = linN b d f X Y xd + xd * 16777216 * y := by simp only [linN]; grind
    rw [s1] at b2
    rw [s2] at b3
    have e1 := near_uniq hk (near_shift a2) b2
    have e2 := near_uniq hk (near_shift a3) b3
    clear a2 a3 b2 b3 s1 s2 t u a1 b1
    simp only [inFar] at a4 b4
    omega
/-- the nearest 256th, and the nearest 65536th. -/
theorem near_both {L m p q : Int} (hm : 1 ≤ m) (h : isNear L (m * 256) p) (k : isNear L m q) : 256 * p - q ≤ 128 ∧ -128 ≤ 256 * p - q := by
  obtain ⟨h1, h2⟩ := h
  obtain ⟨k1, k2⟩ := k
  have e1 : 2 * (m * 256) * p = 512 * (m * p) := by grind
  have e2 : 2 * (m * 256) * (p + 1) = 512 * (m * p) + 512 * m := by grind
  have e3 : 2 * m * q = 2 * (m * q) := by grind
  have e4 : 2 * m * (q + 1) = 2 * (m * q) + 2 * m := by grind
  have e5 : m * (512 * p - 2 * q) = 512 * (m * p) - 2 * (m * q) := by grind
  have e6 : m * (2 * q - 512 * p) = 2 * (m * q) - 512 * (m * p) := by grind
  have f1 : m * (512 * p - 2 * q) < m * 257 := by omega
  have f2 : m * (2 * q - 512 * p) < m * 257 := by omega
  have g1 := Int.lt_of_mul_lt_mul_left f1 (by omega)
  have g2 := Int.lt_of_mul_lt_mul_left f2 (by omega)
  omega
theorem nears {a b c d e f X xd Y yd px py er qx qy es : Int} (t : placed 16777216 256 a b c d e f X xd Y yd px py er) (u : placed 65536 65536 a b c d e f X xd Y yd qx qy es) :
    (er = 1 ↔ es = 1) ∧ (er = 0 → es = 0 → 256 * px - qx ≤ 128 ∧ -128 ≤ 256 * px - qx ∧ 256 * py - qy ≤ 128 ∧ -128 ≤ 256 * py - qy ∧ -268435456 ≤ px ∧ px ≤ 268435456 ∧ -268435456 ≤ py ∧ py ≤ 268435456) := by
  rcases placed_or t with ⟨a1, a2, a3, a4⟩ | ⟨a1, p, q, a2, a3, a4⟩ <;> rcases placed_or u with ⟨b1, b2, b3, b4⟩ | ⟨b1, p', q', b2, b3, b4⟩
  · omega
  · exact absurd b1 a1
  · exact absurd a1 b1
  · have hk := xk_pos (k := 65536) a1 (by omega)
    rw [show xd * 16777216 = xd * 65536 * 256 by omega] at a2 a3
    have e1 := near_both hk a2 b2
    have e2 := near_both hk a3 b3
    clear a2 a3 b2 b3 t u a1 b1
    simp only [inFar] at a4 b4
    omega
theorem rows {a b c d e f X xd Y yd px py er qx qy es : Int} (t : placed 16777216 256 a b c d e f X xd Y yd px py er) (u : placed 16777216 256 b a d c f e X xd Y yd qx qy es) : qx = py ∧ qy = px ∧ er = es := by
  rcases placed_or t with ⟨a1, a2, a3, a4⟩ | ⟨a1, p, q, a2, a3, a4⟩ <;> rcases placed_or u with ⟨b1, b2, b3, b4⟩ | ⟨b1, p', q', b2, b3, b4⟩
  · omega
  · exact absurd b1 a1
  · exact absurd a1 b1
  · have hk := xk_pos (k := 16777216) a1 (by omega)
    have e1 := near_uniq hk a2 b3
    have e2 := near_uniq hk a3 b2
    subst e1 e2
    clear a2 a3 b2 b3 t u a1 b1
    simp only [inFar] at a4 b4
    omega
theorem columns {a b c d e f X xd Y yd px py er qx qy es : Int} (t : placed 16777216 256 a b c d e f X xd Y yd px py er) (u : placed 16777216 256 c d a b e f Y yd X xd qx qy es) : qx = px ∧ qy = py ∧ er = es := by
  have sw : may20 X xd Y yd ↔ may20 Y yd X xd := by simp only [may20]; constructor <;> (rintro ⟨h1, h2, h3, h4, h5⟩; exact ⟨h1.symm, by omega, by omega, h5, h4⟩)
  rcases placed_or t with ⟨a1, a2, a3, a4⟩ | ⟨a1, p, q, a2, a3, a4⟩ <;> rcases placed_or u with ⟨b1, b2, b3, b4⟩ | ⟨b1, p', q', b2, b3, b4⟩
  · omega
  · exact absurd (sw.2 b1) a1
  · exact absurd (sw.1 a1) b1
  · have hk := xk_pos (k := 16777216) a1 (by omega)
    have hd := a1.1
    subst hd
    have s1 : linN c a e Y X xd = linN a c e X Y xd := by simp only [linN]; omega
    have s2 : linN d b f Y X xd = linN b d f X Y xd := by simp only [linN]; omega
    rw [s1] at b2
    rw [s2] at b3
    have e1 := near_uniq hk a2 b2
    have e2 := near_uniq hk a3 b3
    subst e1 e2
    clear a2 a3 b2 b3 t u a1 b1
    simp only [inFar] at a4 b4
    omega

theorem p_lmoved : P_lmoved := by
  unfold P_lmoved
  intro n l_n u_n
  intro n1 l_n1 u_n1
  intro n2 l_n2 u_n2
  intro n3 l_n3 u_n3
  intro n4 l_n4 u_n4
  intro n5 l_n5 u_n5
  intro n6 l_n6 u_n6
  intro n7 l_n7 u_n7
  intro n8 l_n8 u_n8
  intro n9 l_n9 u_n9
  intro n10 l_n10 u_n10
  intro n11 l_n11 u_n11
  intro n12 l_n12 u_n12
  intro n13 l_n13 u_n13
  intro hpre
  replace hpre : True := hpre
  intro b
  intro b1
  intro n14 e_n14 l_n14 u_n14
  intro n15 e_n15 l_n15 u_n15
  refine ⟨fun c0 => ?_, fun c0 => ?_⟩
  · simp only [wrap_i64, wrap_i32] at c0
    refine ⟨trivial, ?_⟩
    intro t
    intro h_lives
    replace h_lives : (b2i t) = 1 := h_lives
    show (b2i t) = 1
    assumption
  · simp only [wrap_i64, wrap_i32] at c0
    refine ⟨fun c1 => ?_, fun c1 => ?_⟩
    · simp only [wrap_i64, wrap_i32] at c1
      refine ⟨trivial, ?_⟩
      intro t
      intro h_lives
      replace h_lives : (b2i t) = 1 := h_lives
      show (b2i t) = 1
      assumption
    · simp only [wrap_i64, wrap_i32] at c1
      intro n16 e_n16 l_n16 u_n16
      simp only [wrap_i64, wrap_i32] at e_n16
      intro n17 e_n17 l_n17 u_n17
      simp only [wrap_i64, wrap_i32] at e_n17
      refine ⟨trivial, ?_⟩
      intro n18 l_n18 u_n18
      intro n19 l_n19 u_n19
      intro n20 l_n20 u_n20
      intro h_psnap
      replace h_psnap : placed 16777216 256 n n1 n2 n3 n4 n5 (w128 n6 n7) n8 (w128 n9 n10) n11 n18 n19 n20 := h_psnap
      intro b2
      refine ⟨trivial, ?_⟩
      intro n21 l_n21 u_n21
      intro n22 l_n22 u_n22
      intro n23 l_n23 u_n23
      intro h_psnap1
      replace h_psnap1 : placed 16777216 256 n n1 n2 n3 n16 n17 (w128 n6 n7) n8 (w128 n9 n10) n11 n21 n22 n23 := h_psnap1
      have z0 := moved (x := n12) (y := n13) (by omega) (by omega) h_psnap h_psnap1
      clear h_psnap h_psnap1
      intro b3
      refine ⟨fun c2 => ?_, fun c2 => ?_⟩
      · refine ⟨fun c3 => ?_, fun c3 => ?_⟩
        · refine ⟨trivial, ?_⟩
          intro t
          intro h_lives
          replace h_lives : (b2i t) = 1 := h_lives
          show (b2i t) = 1
          assumption
        · show (b2i false) = 1
          exfalso; first | omega | (simp only [Classical.not_iff] at *; omega)
      · refine ⟨fun c3 => ?_, fun c3 => ?_⟩
        · refine ⟨fun c4 => ?_, fun c4 => ?_⟩
          · refine ⟨trivial, ?_⟩
            intro t
            intro h_lives
            replace h_lives : (b2i t) = 1 := h_lives
            show (b2i t) = 1
            assumption
          · show (b2i false) = 1
            exfalso; first | omega | (simp only [Classical.not_iff] at *; omega)
        · refine ⟨fun c4 => ?_, fun c4 => ?_⟩
          · simp only [wrap_i64, wrap_i32] at c4
            refine ⟨fun c5 => ?_, fun c5 => ?_⟩
            · simp only [wrap_i64, wrap_i32] at c5
              refine ⟨trivial, ?_⟩
              intro t
              intro h_lives
              replace h_lives : (b2i t) = 1 := h_lives
              show (b2i t) = 1
              assumption
            · simp only [wrap_i64, wrap_i32] at c5
              show (b2i false) = 1
              exfalso; first | omega | (simp only [Classical.not_iff] at *; omega)
          · simp only [wrap_i64, wrap_i32] at c4
            show (b2i false) = 1
            exfalso; first | omega | (simp only [Classical.not_iff] at *; omega)

theorem p_lnear : P_lnear := by
  unfold P_lnear
  intro n l_n u_n
  intro n1 l_n1 u_n1
  intro n2 l_n2 u_n2
  intro n3 l_n3 u_n3
  intro n4 l_n4 u_n4
  intro n5 l_n5 u_n5
  intro n6 l_n6 u_n6
  intro n7 l_n7 u_n7
  intro n8 l_n8 u_n8
  intro n9 l_n9 u_n9
  intro n10 l_n10 u_n10
  intro n11 l_n11 u_n11
  intro hpre
  replace hpre : True := hpre
  intro b
  refine ⟨trivial, ?_⟩
  intro n12 l_n12 u_n12
  intro n13 l_n13 u_n13
  intro n14 l_n14 u_n14
  intro h_psnap
  replace h_psnap : placed 16777216 256 n n1 n2 n3 n4 n5 (w128 n6 n7) n8 (w128 n9 n10) n11 n12 n13 n14 := h_psnap
  intro b1
  refine ⟨trivial, ?_⟩
  intro n15 l_n15 u_n15
  intro n16 l_n16 u_n16
  intro n17 l_n17 u_n17
  intro h_pplace
  replace h_pplace : placed 65536 65536 n n1 n2 n3 n4 n5 (w128 n6 n7) n8 (w128 n9 n10) n11 n15 n16 n17 := h_pplace
  have z0 := nears h_psnap h_pplace
  clear h_psnap h_pplace
  intro b2
  refine ⟨fun c0 => ?_, fun c0 => ?_⟩
  · refine ⟨fun c1 => ?_, fun c1 => ?_⟩
    · refine ⟨trivial, ?_⟩
      intro t
      intro h_lives
      replace h_lives : (b2i t) = 1 := h_lives
      show (b2i t) = 1
      assumption
    · show (b2i false) = 1
      exfalso; first | omega | (simp only [Classical.not_iff] at *; omega)
  · refine ⟨fun c1 => ?_, fun c1 => ?_⟩
    · refine ⟨fun c2 => ?_, fun c2 => ?_⟩
      · refine ⟨trivial, ?_⟩
        intro t
        intro h_lives
        replace h_lives : (b2i t) = 1 := h_lives
        show (b2i t) = 1
        assumption
      · show (b2i false) = 1
        exfalso; first | omega | (simp only [Classical.not_iff] at *; omega)
    · intro n18 e_n18 l_n18 u_n18
      simp only [wrap_i64, wrap_i32] at e_n18
      intro n19 e_n19 l_n19 u_n19
      simp only [wrap_i64, wrap_i32] at e_n19
      refine ⟨fun c2 => ?_, fun c2 => ?_⟩
      · refine ⟨fun c3 => ?_, fun c3 => ?_⟩
        · refine ⟨fun c4 => ?_, fun c4 => ?_⟩
          · refine ⟨fun c5 => ?_, fun c5 => ?_⟩
            · refine ⟨trivial, ?_⟩
              intro t
              intro h_lives
              replace h_lives : (b2i t) = 1 := h_lives
              show (b2i t) = 1
              assumption
            · show (b2i false) = 1
              exfalso; first | omega | (simp only [Classical.not_iff] at *; omega)
          · show (b2i false) = 1
            exfalso; first | omega | (simp only [Classical.not_iff] at *; omega)
        · show (b2i false) = 1
          exfalso; first | omega | (simp only [Classical.not_iff] at *; omega)
      · show (b2i false) = 1
        exfalso; first | omega | (simp only [Classical.not_iff] at *; omega)

theorem p_lturned : P_lturned := by
  unfold P_lturned
  intro n l_n u_n
  intro n1 l_n1 u_n1
  intro n2 l_n2 u_n2
  intro n3 l_n3 u_n3
  intro n4 l_n4 u_n4
  intro n5 l_n5 u_n5
  intro n6 l_n6 u_n6
  intro n7 l_n7 u_n7
  intro n8 l_n8 u_n8
  intro n9 l_n9 u_n9
  intro n10 l_n10 u_n10
  intro n11 l_n11 u_n11
  intro hpre
  replace hpre : True := hpre
  intro b
  intro b1
  refine ⟨trivial, ?_⟩
  intro n12 l_n12 u_n12
  intro n13 l_n13 u_n13
  intro n14 l_n14 u_n14
  intro h_psnap
  replace h_psnap : placed 16777216 256 n n1 n2 n3 n4 n5 (w128 n6 n7) n8 (w128 n9 n10) n11 n12 n13 n14 := h_psnap
  intro b2
  refine ⟨trivial, ?_⟩
  intro n15 l_n15 u_n15
  intro n16 l_n16 u_n16
  intro n17 l_n17 u_n17
  intro h_psnap1
  replace h_psnap1 : placed 16777216 256 n1 n n3 n2 n5 n4 (w128 n6 n7) n8 (w128 n9 n10) n11 n15 n16 n17 := h_psnap1
  have z0 := rows h_psnap h_psnap1
  clear h_psnap1
  intro b3
  refine ⟨trivial, ?_⟩
  intro n18 l_n18 u_n18
  intro n19 l_n19 u_n19
  intro n20 l_n20 u_n20
  intro h_psnap2
  replace h_psnap2 : placed 16777216 256 n2 n3 n n1 n4 n5 (w128 n9 n10) n11 (w128 n6 n7) n8 n18 n19 n20 := h_psnap2
  have z1 := columns h_psnap h_psnap2
  clear h_psnap2
  intro b4
  refine ⟨fun c0 => ?_, fun c0 => ?_⟩
  · refine ⟨fun c1 => ?_, fun c1 => ?_⟩
    · refine ⟨fun c2 => ?_, fun c2 => ?_⟩
      · refine ⟨fun c3 => ?_, fun c3 => ?_⟩
        · refine ⟨trivial, ?_⟩
          intro t
          intro h_lives
          replace h_lives : (b2i t) = 1 := h_lives
          show (b2i t) = 1
          assumption
        · show (b2i false) = 1
          exfalso; omega
      · show (b2i false) = 1
        exfalso; omega
    · show (b2i false) = 1
      exfalso; omega
  · show (b2i false) = 1
    exfalso; omega

theorem p_lwhole : P_lwhole := by
  unfold P_lwhole
  intro n l_n u_n
  intro n1 l_n1 u_n1
  intro hpre
  replace hpre : True := hpre
  intro b
  intro n2 e_n2 l_n2 u_n2
  refine ⟨trivial, ?_⟩
  intro n3 l_n3 u_n3
  intro n4 l_n4 u_n4
  intro n5 l_n5 u_n5
  intro h_lwholeN
  replace h_lwholeN : (w128 n3 n4 = n2 ∧ n5 = 1) := h_lwholeN
  intro n6 e_n6 l_n6 u_n6
  refine ⟨trivial, ?_⟩
  intro n7 l_n7 u_n7
  intro n8 l_n8 u_n8
  intro n9 l_n9 u_n9
  intro h_lwholeN1
  replace h_lwholeN1 : (w128 n7 n8 = n6 ∧ n9 = 1) := h_lwholeN1
  refine ⟨trivial, ?_⟩
  intro n10 l_n10 u_n10
  intro n11 l_n11 u_n11
  intro n12 l_n12 u_n12
  intro h_psnap
  replace h_psnap : placed 16777216 256 (65536 : Int) (0 : Int) (0 : Int) (65536 : Int) (0 : Int) (0 : Int) (w128 n3 n4) n5 (w128 n7 n8) n9 n10 n11 n12 := h_psnap
  have z0 := unit_snap (n := n) (m := n1) h_psnap (h_lwholeN.1.trans e_n2) (h_lwholeN1.1.trans e_n6) h_lwholeN.2 h_lwholeN1.2 (by omega) (by omega) (by omega) (by omega)
  clear h_psnap
  intro b1
  intro n13 e_n13 l_n13 u_n13
  refine ⟨trivial, ?_⟩
  intro n14 l_n14 u_n14
  intro n15 l_n15 u_n15
  intro n16 l_n16 u_n16
  intro h_lwholeN2
  replace h_lwholeN2 : (w128 n14 n15 = n13 ∧ n16 = 1) := h_lwholeN2
  intro n17 e_n17 l_n17 u_n17
  refine ⟨trivial, ?_⟩
  intro n18 l_n18 u_n18
  intro n19 l_n19 u_n19
  intro n20 l_n20 u_n20
  intro h_lwholeN3
  replace h_lwholeN3 : (w128 n18 n19 = n17 ∧ n20 = 1) := h_lwholeN3
  refine ⟨trivial, ?_⟩
  intro n21 l_n21 u_n21
  intro n22 l_n22 u_n22
  intro n23 l_n23 u_n23
  intro h_pplace
  replace h_pplace : placed 65536 65536 (65536 : Int) (0 : Int) (0 : Int) (65536 : Int) (0 : Int) (0 : Int) (w128 n14 n15) n16 (w128 n18 n19) n20 n21 n22 n23 := h_pplace
  have z1 := unit_place (n := n) (m := n1) h_pplace (h_lwholeN2.1.trans e_n13) (h_lwholeN3.1.trans e_n17) h_lwholeN2.2 h_lwholeN3.2 (by omega) (by omega) (by omega) (by omega)
  clear h_pplace
  intro b2
  refine ⟨fun c0 => ?_, fun c0 => ?_⟩
  · refine ⟨fun c1 => ?_, fun c1 => ?_⟩
    · refine ⟨fun c2 => ?_, fun c2 => ?_⟩
      · refine ⟨trivial, ?_⟩
        intro t
        intro h_lives
        replace h_lives : (b2i t) = 1 := h_lives
        show (b2i t) = 1
        assumption
      · show (b2i false) = 1
        exfalso; omega
    · show (b2i false) = 1
      exfalso; omega
  · refine ⟨fun c1 => ?_, fun c1 => ?_⟩
    · refine ⟨fun c2 => ?_, fun c2 => ?_⟩
      · refine ⟨fun c3 => ?_, fun c3 => ?_⟩
        · refine ⟨fun c4 => ?_, fun c4 => ?_⟩
          · refine ⟨trivial, ?_⟩
            intro t
            intro h_lives
            replace h_lives : (b2i t) = 1 := h_lives
            show (b2i t) = 1
            assumption
          · show (b2i false) = 1
            exfalso; omega
        · show (b2i false) = 1
          exfalso; omega
      · show (b2i false) = 1
        exfalso; omega
    · show (b2i false) = 1
      exfalso; omega

end Go.Proofs.Ytigkdggmojannaa.Sx
