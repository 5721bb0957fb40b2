/-
  The laws of decodes, part e.
-/
import Derived.Test.YtopeebkkfomdaaaDb
set_option linter.all false
set_option maxRecDepth 100000
namespace Go.Proofs.Ytopeebkkfomdaaa.Sx
open Go Go.RowKit

theorem led_between {lo hi g n : Int} (h0 : 0 ≤ n) (h1 : n ≤ g) : min lo hi * g ≤ lo * g + n * (hi - lo) ∧ lo * g + n * (hi - lo) ≤ max lo hi * g := by
  have e : hi * g = lo * g + g * (hi - lo) := by grind
  rcases Int.le_total lo hi with z | z
  · rw [Int.min_eq_left z, Int.max_eq_right z, e]
    have a1 := Int.mul_nonneg h0 (show 0 ≤ hi - lo by omega)
    have a2 := Int.mul_le_mul_of_nonneg_right h1 (show 0 ≤ hi - lo by omega)
    omega
  · rw [Int.min_eq_right z, Int.max_eq_left z, e]
    have a1 := Int.mul_nonneg h0 (show 0 ≤ lo - hi by omega)
    have a2 := Int.mul_le_mul_of_nonneg_right h1 (show 0 ≤ lo - hi by omega)
    have e1 : n * (lo - hi) = -(n * (hi - lo)) := by grind
    have e2 : g * (lo - hi) = -(g * (hi - lo)) := by grind
    omega
theorem near_ge {C g x m : Int} (hg : 1 ≤ g) (h : isNear C g x) (hm : m * g ≤ C) : m ≤ x := by
  rcases Int.lt_or_le x m with z | z
  · have := Int.mul_le_mul_of_nonneg_left (show x + 1 ≤ m by omega) (show 0 ≤ 2 * g by omega)
    have e : 2 * g * m = 2 * (m * g) := by grind
    have := h.2
    omega
  · exact z
theorem near_le {C g x m : Int} (hg : 1 ≤ g) (h : isNear C g x) (hm : C ≤ m * g) : x ≤ m := by
  rcases Int.lt_or_le m x with z | z
  · have := Int.mul_le_mul_of_nonneg_left (show m + 1 ≤ x by omega) (show 0 ≤ 2 * g by omega)
    have e : 2 * g * (m + 1) = 2 * (m * g) + 2 * g := by grind
    have := h.1
    omega
  · exact z
/-- what is nearest to a number that is led lies between the ends. -/
theorem near_led {h l g lo hi n v : Int} (t : nearTo h l g v) (hg : 1 ≤ g) (e : w128 h l = lo * g + n * (hi - lo)) (h0 : 0 ≤ n) (h1 : n ≤ g) (a1 : -2147483648 ≤ lo) (a2 : lo ≤ 2147483647) (b1 : -2147483648 ≤ hi) (b2 : hi ≤ 2147483647) :
    isNear (lo * g + n * (hi - lo)) g v ∧ min lo hi ≤ v ∧ v ≤ max lo hi := by
  obtain ⟨x, hx, hv⟩ := near_ok t hg
  rw [e] at hx
  obtain ⟨c1, c2⟩ := led_between (lo := lo) (hi := hi) h0 h1
  have d1 := near_ge hg hx c1
  have d2 := near_le hg hx c2
  have : v = x := by rw [hv]; simp only [clamp32]; omega
  rw [this]; exact ⟨hx, d1, d2⟩
theorem near_end0 {h l g lo v : Int} (t : nearTo h l g v) (hg : 1 ≤ g) (e : w128 h l = lo * g) (a1 : -2147483648 ≤ lo) (a2 : lo ≤ 2147483647) : v = lo := by
  obtain ⟨x, hx, hv⟩ := near_ok t hg
  rw [e] at hx
  have d1 := near_ge hg hx (Int.le_refl _)
  have d2 := near_le hg hx (Int.le_refl _)
  rw [hv]; simp only [clamp32]; omega
theorem near_off {C g x : Int} (h : isNear C g x) : 2 * (x * g - C) ≤ g ∧ -2 * (x * g - C) < g := by
  obtain ⟨h1, h2⟩ := h
  have e1 : 2 * g * x = 2 * (x * g) := by grind
  have e2 : 2 * g * (x + 1) = 2 * (x * g) + 2 * g := by grind
  omega

theorem p_lends : P_lends := by
  unfold P_lends
  intro n l_n u_n
  intro n1 l_n1 u_n1
  intro n2 l_n2 u_n2
  intro n3 l_n3 u_n3
  intro n4 l_n4 u_n4
  intro hpre
  replace hpre : True := hpre
  intro b
  refine ⟨trivial, ?_⟩
  intro n5 l_n5 u_n5
  intro t
  intro h_lgreatest
  replace h_lgreatest : ((gr n1 ≠ 0 → (b2i t) = 1 ∧ n5 = gr n1) ∧ (gr n1 = 0 → (b2i t) = 0 ∧ n5 = 0)) := h_lgreatest
  refine ⟨fun c0 => ?_, fun c0 => ?_⟩
  · have q0 := (b2i_zero t).2 c0
    refine ⟨trivial, ?_⟩
    intro n6 l_n6 u_n6
    intro n7 l_n7 u_n7
    intro n8 l_n8 u_n8
    intro n9 l_n9 u_n9
    intro h_value
    replace h_value : ledTo n n1 n2 n3 n6 n7 n8 n9 := h_value
    have v := led_no h_value (by have := gr_or n1; omega)
    intro b1
    refine ⟨fun c1 => ?_, fun c1 => ?_⟩
    · refine ⟨trivial, ?_⟩
      intro t1
      intro h_lives
      replace h_lives : (b2i t1) = 1 := h_lives
      show (b2i t1) = 1
      assumption
    · show (b2i false) = 1
      exfalso; omega
  · have q0 := (b2i_one t).2 (Classical.not_not.1 c0)
    refine ⟨fun c1 => ?_, fun c1 => ?_⟩
    · refine ⟨trivial, ?_⟩
      intro n6 l_n6 u_n6
      intro n7 l_n7 u_n7
      intro n8 l_n8 u_n8
      intro n9 l_n9 u_n9
      intro h_value
      replace h_value : ledTo n n1 n2 n3 n6 n7 n8 n9 := h_value
      have v := led_no h_value (by have := gr_or n1; omega)
      intro b1
      refine ⟨fun c2 => ?_, fun c2 => ?_⟩
      · refine ⟨trivial, ?_⟩
        intro t1
        intro h_lives
        replace h_lives : (b2i t1) = 1 := h_lives
        show (b2i t1) = 1
        assumption
      · show (b2i false) = 1
        exfalso; omega
    · refine ⟨trivial, ?_⟩
      intro n6 l_n6 u_n6
      intro n7 l_n7 u_n7
      intro n8 l_n8 u_n8
      intro n9 l_n9 u_n9
      intro h_value
      replace h_value : ledTo (0 : Int) n1 n2 n3 n6 n7 n8 n9 := h_value
      have g0 := gr_or n1
      have g1 : gr n1 ≠ 0 := by omega
      have g2 : n5 = gr n1 := by omega
      have v0 := led_ok h_value g1 (by omega)
      rw [← g2, show n2 * n5 + 0 * (n3 - n2) = n2 * n5 by simp] at v0
      have g3 : 1 ≤ n5 := by omega
      have v01 := v0.1
      have v02 := v0.2.1
      intro b1
      refine ⟨trivial, ?_⟩
      intro n10 l_n10 u_n10
      intro n11 l_n11 u_n11
      intro n12 l_n12 u_n12
      intro n13 l_n13 u_n13
      intro h_value1
      replace h_value1 : ledTo n5 n1 n2 n3 n10 n11 n12 n13 := h_value1
      have v1 := led_ok h_value1 g1 (by omega)
      rw [← g2, show n2 * n5 + n5 * (n3 - n2) = n3 * n5 by grind] at v1
      have v11 := v1.1
      have v12 := v1.2.1
      intro b2
      refine ⟨trivial, ?_⟩
      intro n14 l_n14 u_n14
      intro n15 l_n15 u_n15
      intro n16 l_n16 u_n16
      intro n17 l_n17 u_n17
      intro h_value2
      replace h_value2 : ledTo n n1 n2 n3 n14 n15 n16 n17 := h_value2
      have v2 := led_ok h_value2 g1 (by omega)
      rw [← g2] at v2
      have v21 := v2.1
      have v22 := v2.2.1
      intro b3
      refine ⟨trivial, ?_⟩
      intro n18 l_n18 u_n18
      intro h_dnear
      replace h_dnear : nearTo n14 n15 n16 n18 := h_dnear
      rw [v22] at h_dnear
      have w0 := near_led h_dnear g3 v2.2.2 l_n (by omega) l_n2 u_n2 l_n3 u_n3
      have w1 := near_off w0.1
      have w2 := w0.2
      refine ⟨fun c2 => ?_, fun c2 => ?_⟩
      · show (b2i false) = 1
        exfalso; omega
      · refine ⟨fun c3 => ?_, fun c3 => ?_⟩
        · show (b2i false) = 1
          exfalso; omega
        · refine ⟨fun c4 => ?_, fun c4 => ?_⟩
          · show (b2i false) = 1
            exfalso; omega
          · refine ⟨fun c5 => ?_, fun c5 => ?_⟩
            · show (b2i false) = 1
              exfalso; omega
            · refine ⟨trivial, ?_⟩
              intro n19 l_n19 u_n19
              intro h_dnear1
              replace h_dnear1 : nearTo n6 n7 n8 n19 := h_dnear1
              rw [v02] at h_dnear1
              have y0 := near_end0 h_dnear1 g3 v0.2.2 l_n2 u_n2
              refine ⟨fun c6 => ?_, fun c6 => ?_⟩
              · show (b2i false) = 1
                exfalso; omega
              · refine ⟨trivial, ?_⟩
                intro n20 l_n20 u_n20
                intro h_dnear2
                replace h_dnear2 : nearTo n10 n11 n12 n20 := h_dnear2
                rw [v12] at h_dnear2
                have y1 := near_end0 h_dnear2 g3 v1.2.2 l_n3 u_n3
                refine ⟨fun c7 => ?_, fun c7 => ?_⟩
                · show (b2i false) = 1
                  exfalso; omega
                · refine ⟨fun c8 => ?_, fun c8 => ?_⟩
                  · show (b2i false) = 1
                    exfalso; omega
                  · refine ⟨fun c9 => ?_, fun c9 => ?_⟩
                    · show (b2i false) = 1
                      exfalso; omega
                    · refine ⟨trivial, ?_⟩
                      intro n21 l_n21 u_n21
                      intro n22 l_n22 u_n22
                      intro h_wmul
                      replace h_wmul : w128 n21 n22 = n18 * n16 := h_wmul
                      rw [v22] at h_wmul
                      refine ⟨trivial, ?_⟩
                      intro n23 l_n23 u_n23
                      intro n24 l_n24 u_n24
                      intro n25 l_n25 u_n25
                      intro h_wsub
                      replace h_wsub : tellW (w128 n21 n22 - w128 n14 n15) n23 n24 n25 := h_wsub
                      rw [h_wmul, v2.2.2] at h_wsub
                      generalize hK : n18 * n5 - (n2 * n5 + n * (n3 - n2)) = K at *
                      have ha := tell_or h_wsub
                      have ha1 : n25 = 0 := by omega
                      have ha2 : w128 n23 n24 = K := by omega
                      intro b4
                      refine ⟨trivial, ?_⟩
                      intro n26 l_n26 u_n26
                      intro t1
                      intro h_wint
                      replace h_wint : isInt (w128 n23 n24) n26 (b2i t1) := h_wint
                      rw [ha2] at h_wint
                      have hi1 := h_wint.1 (by simp only [isI64]; omega)
                      have hi2 := hi1.1
                      have hi3 := hi1.2
                      refine ⟨trivial, ?_⟩
                      intro n27 l_n27 u_n27
                      intro n28 l_n28 u_n28
                      intro h_wmul1
                      replace h_wmul1 : w128 n27 n28 = n2 * n8 := h_wmul1
                      rw [v02] at h_wmul1
                      have i0 := w_inj (v0.2.2.trans h_wmul1.symm) (by omega) (by omega) (by omega) (by omega)
                      refine ⟨fun c10 => ?_, fun c10 => ?_⟩
                      · refine ⟨trivial, ?_⟩
                        intro n29 l_n29 u_n29
                        intro n30 l_n30 u_n30
                        intro h_wmul2
                        replace h_wmul2 : w128 n29 n30 = n3 * n12 := h_wmul2
                        rw [v12] at h_wmul2
                        have i1 := w_inj (v1.2.2.trans h_wmul2.symm) (by omega) (by omega) (by omega) (by omega)
                        refine ⟨fun c11 => ?_, fun c11 => ?_⟩
                        · refine ⟨fun c12 => ?_, fun c12 => ?_⟩
                          · refine ⟨fun c13 => ?_, fun c13 => ?_⟩
                            · have q13 := (b2i_one t1).2 c13
                              refine ⟨fun c14 => ?_, fun c14 => ?_⟩
                              · simp only [wrap_i64] at c14
                                refine ⟨fun c15 => ?_, fun c15 => ?_⟩
                                · simp only [wrap_i64] at c15
                                  refine ⟨trivial, ?_⟩
                                  intro t2
                                  intro h_lives
                                  replace h_lives : (b2i t2) = 1 := h_lives
                                  show (b2i t2) = 1
                                  assumption
                                · simp only [wrap_i64] at c15
                                  show (b2i false) = 1
                                  exfalso; omega
                              · simp only [wrap_i64] at c14
                                show (b2i false) = 1
                                exfalso; omega
                            · have q13 := (b2i_zero t1).2 c13
                              show (b2i false) = 1
                              exfalso; omega
                          · show (b2i false) = 1
                            exfalso; omega
                        · show (b2i false) = 1
                          exfalso; omega
                      · show (b2i false) = 1
                        exfalso; omega

end Go.Proofs.Ytopeebkkfomdaaa.Sx
