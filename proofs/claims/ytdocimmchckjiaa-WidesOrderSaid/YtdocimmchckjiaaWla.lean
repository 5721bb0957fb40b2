/-
  The laws of wides, part a.
-/
import Derived.Test.YtdocimmchckjiaaWpf
import Derived.Test.YtdocimmchckjiaaWpg
set_option linter.all false
set_option maxRecDepth 100000
namespace Go.Proofs.Ytdocimmchckjiaa.Sx
open Go Go.RowKit

theorem p_over : P_over := by
  unfold P_over
  intro n l_n u_n
  intro n1 l_n1 u_n1
  intro n2 l_n2 u_n2
  intro hpre
  replace hpre : True := hpre
  intro b
  refine ⟨fun c0 => ?_, fun c0 => ?_⟩
  · show (b2i ((n == 0) && (n1 == 0))) = b2i (decide (n2 = 11 ∧ n = 0 ∧ n1 = 0))
    first | (rw [b2i_dec]; simp only [Bool.and_eq_true, beq_iff_eq]; omega) | (rw [b2i_dec]; simp; omega)
  · show (b2i false) = b2i (decide (n2 = 11 ∧ n = 0 ∧ n1 = 0))
    first | (rw [b2i_dec]; simp only [Bool.and_eq_true, beq_iff_eq]; omega) | (rw [b2i_dec]; simp; omega)

theorem p_lives : P_lives := by
  unfold P_lives
  intro hpre
  replace hpre : True := hpre
  intro b
  refine ⟨trivial, ?_⟩
  intro n l_n u_n
  intro t
  intro h_wint
  replace h_wint : isInt (w128 (0 : Int) (9223372036854775808 : Int)) n (b2i t) := h_wint
  simp only [tellW, inW, half128, w128, isFloor, isNear, isInt, isI64] at h_wint
  refine ⟨trivial, ?_⟩
  intro n1 l_n1 u_n1
  intro n2 l_n2 u_n2
  intro h_wof
  replace h_wof : w128 n1 n2 = (-7 : Int) := h_wof
  simp only [tellW, inW, half128, w128, isFloor, isNear, isInt, isI64] at h_wof
  refine ⟨trivial, ?_⟩
  intro n3 l_n3 u_n3
  intro n4 l_n4 u_n4
  intro n5 l_n5 u_n5
  intro n6 l_n6 u_n6
  intro h_wfloor
  replace h_wfloor : (((2 : Int) < 1 → n3 = 0 ∧ n4 = 0 ∧ n5 = 0 ∧ n6 = 1) ∧ (1 ≤ (2 : Int) → n6 = 0 ∧ isFloor (w128 n1 n2) (2 : Int) (w128 n3 n4) n5)) := h_wfloor
  simp only [tellW, inW, half128, w128, isFloor, isNear, isInt, isI64] at h_wfloor
  intro b1
  refine ⟨trivial, ?_⟩
  intro n7 l_n7 u_n7
  intro n8 l_n8 u_n8
  intro h_wof1
  replace h_wof1 : w128 n7 n8 = (-7 : Int) := h_wof1
  simp only [tellW, inW, half128, w128, isFloor, isNear, isInt, isI64] at h_wof1
  refine ⟨trivial, ?_⟩
  intro n9 l_n9 u_n9
  intro n10 l_n10 u_n10
  intro n11 l_n11 u_n11
  intro h_wnear
  replace h_wnear : (((2 : Int) < 1 → n9 = 0 ∧ n10 = 0 ∧ n11 = 1) ∧ (1 ≤ (2 : Int) → n11 = 0 ∧ isNear (w128 n7 n8) (2 : Int) (w128 n9 n10))) := h_wnear
  simp only [tellW, inW, half128, w128, isFloor, isNear, isInt, isI64] at h_wnear
  intro b2
  refine ⟨trivial, ?_⟩
  intro n12 l_n12 u_n12
  intro n13 l_n13 u_n13
  intro h_wof2
  replace h_wof2 : w128 n12 n13 = (7 : Int) := h_wof2
  simp only [tellW, inW, half128, w128, isFloor, isNear, isInt, isI64] at h_wof2
  refine ⟨trivial, ?_⟩
  intro n14 l_n14 u_n14
  intro n15 l_n15 u_n15
  intro n16 l_n16 u_n16
  intro h_wnear1
  replace h_wnear1 : (((2 : Int) < 1 → n14 = 0 ∧ n15 = 0 ∧ n16 = 1) ∧ (1 ≤ (2 : Int) → n16 = 0 ∧ isNear (w128 n12 n13) (2 : Int) (w128 n14 n15))) := h_wnear1
  simp only [tellW, inW, half128, w128, isFloor, isNear, isInt, isI64] at h_wnear1
  intro b3
  refine ⟨trivial, ?_⟩
  intro n17 l_n17 u_n17
  intro n18 l_n18 u_n18
  intro n19 l_n19 u_n19
  intro h_wtms
  replace h_wtms : tellW (w128 (-68719476736 : Int) (0 : Int) * (134217728 : Int)) n17 n18 n19 := h_wtms
  simp only [tellW, inW, half128, w128, isFloor, isNear, isInt, isI64] at h_wtms
  intro b4
  refine ⟨trivial, ?_⟩
  intro n20 l_n20 u_n20
  intro n21 l_n21 u_n21
  intro h_wmul
  replace h_wmul : w128 n20 n21 = (-9223372036854775808 : Int) * (-9223372036854775808 : Int) := h_wmul
  simp only [tellW, inW, half128, w128, isFloor, isNear, isInt, isI64] at h_wmul
  refine ⟨fun c0 => ?_, fun c0 => ?_⟩
  · refine ⟨trivial, ?_⟩
    intro n22 l_n22 u_n22
    intro n23 l_n23 u_n23
    intro h_wmul1
    replace h_wmul1 : w128 n22 n23 = (-3 : Int) * (5 : Int) := h_wmul1
    simp only [tellW, inW, half128, w128, isFloor, isNear, isInt, isI64] at h_wmul1
    refine ⟨trivial, ?_⟩
    intro n24 l_n24 u_n24
    intro n25 l_n25 u_n25
    intro h_wof3
    replace h_wof3 : w128 n24 n25 = (-15 : Int) := h_wof3
    simp only [tellW, inW, half128, w128, isFloor, isNear, isInt, isI64] at h_wof3
    refine ⟨fun c1 => ?_, fun c1 => ?_⟩
    · refine ⟨trivial, ?_⟩
      intro n26 l_n26 u_n26
      intro n27 l_n27 u_n27
      intro h_wof4
      replace h_wof4 : w128 n26 n27 = (1 : Int) := h_wof4
      simp only [tellW, inW, half128, w128, isFloor, isNear, isInt, isI64] at h_wof4
      refine ⟨trivial, ?_⟩
      intro n28 l_n28 u_n28
      intro n29 l_n29 u_n29
      intro n30 l_n30 u_n30
      intro h_wadd
      replace h_wadd : tellW (w128 (9223372036854775807 : Int) (18446744073709551615 : Int) + w128 n26 n27) n28 n29 n30 := h_wadd
      simp only [tellW, inW, half128, w128, isFloor, isNear, isInt, isI64] at h_wadd
      refine ⟨trivial, ?_⟩
      intro t1
      intro h_over
      replace h_over : (b2i t1) = b2i (decide (n30 = 11 ∧ n28 = 0 ∧ n29 = 0)) := h_over
      have : w128 n28 n29 = n28 * 18446744073709551616 + n29 := rfl
      rw [b2i_dec, ← b2i_one] at h_over
      refine ⟨fun c2 => ?_, fun c2 => ?_⟩
      · have q2 := (b2i_one t1).2 c2
        refine ⟨trivial, ?_⟩
        intro n31 l_n31 u_n31
        intro n32 l_n32 u_n32
        intro h_wof5
        replace h_wof5 : w128 n31 n32 = (1 : Int) := h_wof5
        simp only [tellW, inW, half128, w128, isFloor, isNear, isInt, isI64] at h_wof5
        refine ⟨trivial, ?_⟩
        intro n33 l_n33 u_n33
        intro n34 l_n34 u_n34
        intro n35 l_n35 u_n35
        intro h_wsub
        replace h_wsub : tellW (w128 (-9223372036854775808 : Int) (0 : Int) - w128 n31 n32) n33 n34 n35 := h_wsub
        simp only [tellW, inW, half128, w128, isFloor, isNear, isInt, isI64] at h_wsub
        refine ⟨trivial, ?_⟩
        intro t2
        intro h_over1
        replace h_over1 : (b2i t2) = b2i (decide (n35 = 11 ∧ n33 = 0 ∧ n34 = 0)) := h_over1
        have : w128 n33 n34 = n33 * 18446744073709551616 + n34 := rfl
        rw [b2i_dec, ← b2i_one] at h_over1
        refine ⟨fun c3 => ?_, fun c3 => ?_⟩
        · have q3 := (b2i_one t2).2 c3
          refine ⟨trivial, ?_⟩
          intro n36 l_n36 u_n36
          intro n37 l_n37 u_n37
          intro n38 l_n38 u_n38
          intro h_wtms1
          replace h_wtms1 : tellW (w128 (68719476736 : Int) (0 : Int) * (134217728 : Int)) n36 n37 n38 := h_wtms1
          simp only [tellW, inW, half128, w128, isFloor, isNear, isInt, isI64] at h_wtms1
          refine ⟨trivial, ?_⟩
          intro t3
          intro h_over2
          replace h_over2 : (b2i t3) = b2i (decide (n38 = 11 ∧ n36 = 0 ∧ n37 = 0)) := h_over2
          have : w128 n36 n37 = n36 * 18446744073709551616 + n37 := rfl
          rw [b2i_dec, ← b2i_one] at h_over2
          refine ⟨fun c4 => ?_, fun c4 => ?_⟩
          · have q4 := (b2i_one t3).2 c4
            refine ⟨fun c5 => ?_, fun c5 => ?_⟩
            · refine ⟨fun c6 => ?_, fun c6 => ?_⟩
              · refine ⟨trivial, ?_⟩
                intro n39 l_n39 u_n39
                intro n40 l_n40 u_n40
                intro h_wof6
                replace h_wof6 : w128 n39 n40 = (-4 : Int) := h_wof6
                simp only [tellW, inW, half128, w128, isFloor, isNear, isInt, isI64] at h_wof6
                refine ⟨fun c7 => ?_, fun c7 => ?_⟩
                · refine ⟨fun c8 => ?_, fun c8 => ?_⟩
                  · refine ⟨fun c9 => ?_, fun c9 => ?_⟩
                    · refine ⟨trivial, ?_⟩
                      intro n41 l_n41 u_n41
                      intro n42 l_n42 u_n42
                      intro h_wof7
                      replace h_wof7 : w128 n41 n42 = (-3 : Int) := h_wof7
                      simp only [tellW, inW, half128, w128, isFloor, isNear, isInt, isI64] at h_wof7
                      refine ⟨fun c10 => ?_, fun c10 => ?_⟩
                      · refine ⟨fun c11 => ?_, fun c11 => ?_⟩
                        · refine ⟨trivial, ?_⟩
                          intro n43 l_n43 u_n43
                          intro n44 l_n44 u_n44
                          intro h_wof8
                          replace h_wof8 : w128 n43 n44 = (4 : Int) := h_wof8
                          simp only [tellW, inW, half128, w128, isFloor, isNear, isInt, isI64] at h_wof8
                          refine ⟨fun c12 => ?_, fun c12 => ?_⟩
                          · refine ⟨fun c13 => ?_, fun c13 => ?_⟩
                            · show (b2i (!t)) = 1
                              have hf : t = false := by have := (b2i_zero t).1 (by omega); simpa using this
                              rw [hf]; rfl
                            · show (b2i false) = 1
                              exfalso; omega
                          · show (b2i false) = 1
                            exfalso; omega
                        · show (b2i false) = 1
                          exfalso; omega
                      · show (b2i false) = 1
                        exfalso; omega
                    · show (b2i false) = 1
                      exfalso; omega
                  · show (b2i false) = 1
                    exfalso; omega
                · show (b2i false) = 1
                  exfalso; omega
              · show (b2i false) = 1
                exfalso; omega
            · show (b2i false) = 1
              exfalso; omega
          · have q4 := (b2i_zero t3).2 c4
            show (b2i false) = 1
            exfalso; omega
        · have q3 := (b2i_zero t2).2 c3
          show (b2i false) = 1
          exfalso; omega
      · have q2 := (b2i_zero t1).2 c2
        show (b2i false) = 1
        exfalso; omega
    · show (b2i false) = 1
      exfalso; omega
  · show (b2i false) = 1
    exfalso; omega

theorem near_uniq {A d x y : Int} (hd : 1 ≤ d) (hx : isNear A d x) (hy : isNear A d y) : x = y := by
  obtain ⟨a1, a2⟩ := hx
  obtain ⟨b1, b2⟩ := hy
  have f : ∀ p q : Int, 2 * d * p ≤ 2 * A + d → 2 * A + d < 2 * d * (q + 1) → p ≤ q := by
    intro p q h1 h2
    have h3 : 2 * d * p < 2 * d * (q + 1) := Int.lt_of_le_of_lt h1 h2
    have := Int.lt_of_mul_lt_mul_left h3 (by omega)
    omega
  have := f x y a1 b2
  have := f y x b1 a2
  omega
theorem floor_uniq {A d x y r s : Int} (hx : isFloor A d x r) (hy : isFloor A d y s) : x = y ∧ r = s := by
  obtain ⟨a1, a2, a3⟩ := hx
  obtain ⟨b1, b2, b3⟩ := hy
  have f : ∀ p q u v : Int, A = p * d + u → A = q * d + v → 0 ≤ u → v < d → p ≤ q := by
    intro p q u v h1 h2 h3 h4
    have h5 : p * d < (q + 1) * d := by
      have : (q + 1) * d = q * d + d := by grind
      omega
    have := Int.lt_of_mul_lt_mul_right h5 (by omega)
    omega
  have e : x = y := by
    have := f x y r s a1 b1 a2 b3
    have := f y x s r b1 a1 b2 a3
    omega
  subst e
  exact ⟨rfl, by omega⟩
theorem tell_or {v h l e : Int} (t : tellW v h l e) : (e = 0 ∧ w128 h l = v ∧ -170141183460469231731687303715884105728 ≤ v ∧ v < 170141183460469231731687303715884105728) ∨ (e = 11 ∧ h = 0 ∧ l = 0 ∧ (v < -170141183460469231731687303715884105728 ∨ 170141183460469231731687303715884105728 ≤ v)) := by
  simp only [tellW, inW, half128] at t
  omega
theorem tell_ok {v h l e : Int} (t : tellW v h l e) (he : e = 0) : w128 h l = v ∧ -170141183460469231731687303715884105728 ≤ v ∧ v < 170141183460469231731687303715884105728 := by
  simp only [tellW, inW, half128] at t
  omega
theorem tell_no {v h l e : Int} (t : tellW v h l e) (he : ¬ e = 0) : e = 11 ∧ h = 0 ∧ l = 0 ∧ (v < -170141183460469231731687303715884105728 ∨ 170141183460469231731687303715884105728 ≤ v) := by
  simp only [tellW, inW, half128] at t
  omega
theorem mul_s64 {a b : Int} (h1 : -9223372036854775808 ≤ a) (h2 : a ≤ 9223372036854775807) (h3 : -9223372036854775808 ≤ b) (h4 : b ≤ 9223372036854775807) : -85070591730234615865843651857942052864 ≤ a * b ∧ a * b ≤ 85070591730234615865843651857942052864 := by
  have := mul_in (a := a) (b := b) ⟨h1, h2⟩ ⟨h3, h4⟩
  simp only [mn, mx] at this
  simp at this
  omega

end Go.Proofs.Ytdocimmchckjiaa.Sx
