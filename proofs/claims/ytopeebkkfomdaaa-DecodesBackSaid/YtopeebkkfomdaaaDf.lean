/-
  The laws of decodes, part f.
-/
import Derived.Test.YtopeebkkfomdaaaDe
set_option linter.all false
set_option maxRecDepth 100000
namespace Go.Proofs.Ytopeebkkfomdaaa.Sx
open Go Go.RowKit

theorem near_mono {C D g x y : Int} (hg : 1 ≤ g) (h : isNear C g x) (k : isNear D g y) (hm : C ≤ D) : x ≤ y := by
  have h3 : 2 * g * x < 2 * g * (y + 1) := by have := h.1; have := k.2; omega
  have := Int.lt_of_mul_lt_mul_left h3 (by omega)
  omega
theorem raw_mono {v v' bits lo hi n e n' e' : Int} (t : rawOf v bits lo hi n e) (u : rawOf v' bits lo hi n' e') (hg : gr bits ≠ 0) (hl : lo ≠ hi) (hv : v ≤ v') : e = 0 ∧ e' = 0 ∧ (lo < hi → n ≤ n') ∧ (hi < lo → n' ≤ n) := by
  obtain ⟨x, a1, a2, a3⟩ := raw_ok t hg hl
  obtain ⟨y, b1, b2, b3⟩ := raw_ok u hg hl
  have hgb := gr_or bits
  have hm := Int.mul_le_mul_of_nonneg_right (show v - lo ≤ v' - lo by omega) (show 0 ≤ gr bits by omega)
  refine ⟨a1, b1, fun h => ?_, fun h => ?_⟩
  · have := near_mono (by omega) (a2.1 (by omega)) (b2.1 (by omega)) hm
    omega
  · have := near_mono (by omega) (b2.2 (by omega)) (a2.2 (by omega)) (by omega)
    omega
theorem cmp_rise {A B lo hi g n m c : Int} (h : (A < B → c = -1) ∧ (A = B → c = 0) ∧ (B < A → c = 1)) (ha : A = lo * g + n * (hi - lo)) (hb : B = lo * g + m * (hi - lo)) : (n = m → c = 0) ∧ (n < m → lo < hi → c = -1) ∧ (n < m → hi < lo → c = 1) := by
  refine ⟨fun z => ?_, fun z y => ?_, fun z y => ?_⟩
  · subst z; exact h.2.1 (ha.trans hb.symm)
  · have := Int.mul_lt_mul_of_pos_right z (show 0 < hi - lo by omega)
    exact h.1 (by omega)
  · have := Int.mul_lt_mul_of_pos_right z (show 0 < lo - hi by omega)
    have e1 : n * (lo - hi) = -(n * (hi - lo)) := by grind
    have e2 : m * (lo - hi) = -(m * (hi - lo)) := by grind
    exact h.2.2 (by omega)

set_option maxHeartbeats 8000000 in
theorem p_lrise : P_lrise := by
  unfold P_lrise
  intro n l_n u_n
  intro n1 l_n1 u_n1
  intro n2 l_n2 u_n2
  intro n3 l_n3 u_n3
  intro n4 l_n4 u_n4
  intro n5 l_n5 u_n5
  intro n6 l_n6 u_n6
  intro hpre
  replace hpre : True := hpre
  intro b
  refine ⟨trivial, ?_⟩
  intro n7 l_n7 u_n7
  intro t
  intro h_lgreatest
  replace h_lgreatest : ((gr n1 ≠ 0 → (b2i t) = 1 ∧ n7 = gr n1) ∧ (gr n1 = 0 → (b2i t) = 0 ∧ n7 = 0)) := h_lgreatest
  refine ⟨fun c0 => ?_, fun c0 => ?_⟩
  · have q0 := (b2i_zero t).2 c0
    refine ⟨trivial, ?_⟩
    intro t1
    intro h_lives
    replace h_lives : (b2i t1) = 1 := h_lives
    show (b2i t1) = 1
    assumption
  · have q0 := (b2i_one t).2 (Classical.not_not.1 c0)
    refine ⟨fun c1 => ?_, fun c1 => ?_⟩
    · refine ⟨trivial, ?_⟩
      intro t1
      intro h_lives
      replace h_lives : (b2i t1) = 1 := h_lives
      show (b2i t1) = 1
      assumption
    · refine ⟨fun c2 => ?_, fun c2 => ?_⟩
      · refine ⟨trivial, ?_⟩
        intro t1
        intro h_lives
        replace h_lives : (b2i t1) = 1 := h_lives
        show (b2i t1) = 1
        assumption
      · refine ⟨fun c3 => ?_, fun c3 => ?_⟩
        · refine ⟨trivial, ?_⟩
          intro t1
          intro h_lives
          replace h_lives : (b2i t1) = 1 := h_lives
          show (b2i t1) = 1
          assumption
        · intro n8 e_n8 l_n8 u_n8
          refine ⟨trivial, ?_⟩
          intro n9 l_n9 u_n9
          intro n10 l_n10 u_n10
          intro n11 l_n11 u_n11
          intro n12 l_n12 u_n12
          intro h_value
          replace h_value : ledTo n8 n1 n2 n3 n9 n10 n11 n12 := h_value
          have g0 := gr_or n1
          have g1 : gr n1 ≠ 0 := by omega
          have g2 : n7 = gr n1 := by omega
          have v0 := led_ok h_value g1 (by omega)
          have v01 := v0.1
          intro b1
          intro n13 e_n13 l_n13 u_n13
          refine ⟨trivial, ?_⟩
          intro n14 l_n14 u_n14
          intro n15 l_n15 u_n15
          intro n16 l_n16 u_n16
          intro n17 l_n17 u_n17
          intro h_value1
          replace h_value1 : ledTo n13 n1 n2 n3 n14 n15 n16 n17 := h_value1
          have v1 := led_ok h_value1 g1 (by omega)
          have v11 := v1.1
          intro b2
          refine ⟨fun c4 => ?_, fun c4 => ?_⟩
          · show (b2i false) = 1
            exfalso; first | omega | (simp only [Classical.not_iff] at *; omega)
          · refine ⟨fun c5 => ?_, fun c5 => ?_⟩
            · show (b2i false) = 1
              exfalso; first | omega | (simp only [Classical.not_iff] at *; omega)
            · refine ⟨fun c6 => ?_, fun c6 => ?_⟩
              · refine ⟨fun c7 => ?_, fun c7 => ?_⟩
                · intro n18 e_n18 l_n18 u_n18
                  refine ⟨trivial, ?_⟩
                  intro n19 l_n19 u_n19
                  intro n20 l_n20 u_n20
                  intro h_raw
                  replace h_raw : rawOf n18 n1 n2 n3 n19 n20 := h_raw
                  intro n21 e_n21 l_n21 u_n21
                  refine ⟨trivial, ?_⟩
                  intro n22 l_n22 u_n22
                  intro n23 l_n23 u_n23
                  intro h_raw1
                  replace h_raw1 : rawOf n21 n1 n2 n3 n22 n23 := h_raw1
                  have m0 := raw_mono h_raw h_raw1 g1 (by omega) (by omega)
                  have m1 := m0.1
                  have m2 := m0.2.1
                  have m3 := m0.2.2
                  refine ⟨trivial, ?_⟩
                  intro n24 l_n24 u_n24
                  intro h_wcmp
                  replace h_wcmp : ((w128 n9 n10 < w128 n14 n15 → n24 = -1) ∧ (w128 n9 n10 = w128 n14 n15 → n24 = 0) ∧ (w128 n14 n15 < w128 n9 n10 → n24 = 1)) := h_wcmp
                  have k0 := cmp_rise h_wcmp v0.2.2 v1.2.2
                  clear h_wcmp
                  refine ⟨fun c8 => ?_, fun c8 => ?_⟩
                  · refine ⟨fun c9 => ?_, fun c9 => ?_⟩
                    · refine ⟨fun c10 => ?_, fun c10 => ?_⟩
                      · refine ⟨fun c11 => ?_, fun c11 => ?_⟩
                        · refine ⟨trivial, ?_⟩
                          intro t1
                          intro h_lives
                          replace h_lives : (b2i t1) = 1 := h_lives
                          show (b2i t1) = 1
                          assumption
                        · refine ⟨fun c12 => ?_, fun c12 => ?_⟩
                          · refine ⟨trivial, ?_⟩
                            intro t1
                            intro h_lives
                            replace h_lives : (b2i t1) = 1 := h_lives
                            show (b2i t1) = 1
                            assumption
                          · show (b2i false) = 1
                            exfalso; first | omega | (simp only [Classical.not_iff] at *; omega)
                      · show (b2i false) = 1
                        exfalso; first | omega | (simp only [Classical.not_iff] at *; omega)
                    · show (b2i false) = 1
                      exfalso; first | omega | (simp only [Classical.not_iff] at *; omega)
                  · show (b2i false) = 1
                    exfalso; first | omega | (simp only [Classical.not_iff] at *; omega)
                · intro n18 e_n18 l_n18 u_n18
                  refine ⟨trivial, ?_⟩
                  intro n19 l_n19 u_n19
                  intro n20 l_n20 u_n20
                  intro h_raw
                  replace h_raw : rawOf n18 n1 n2 n3 n19 n20 := h_raw
                  intro n21 e_n21 l_n21 u_n21
                  refine ⟨trivial, ?_⟩
                  intro n22 l_n22 u_n22
                  intro n23 l_n23 u_n23
                  intro h_raw1
                  replace h_raw1 : rawOf n21 n1 n2 n3 n22 n23 := h_raw1
                  have m0 := raw_mono h_raw h_raw1 g1 (by omega) (by omega)
                  have m1 := m0.1
                  have m2 := m0.2.1
                  have m3 := m0.2.2
                  refine ⟨trivial, ?_⟩
                  intro n24 l_n24 u_n24
                  intro h_wcmp
                  replace h_wcmp : ((w128 n9 n10 < w128 n14 n15 → n24 = -1) ∧ (w128 n9 n10 = w128 n14 n15 → n24 = 0) ∧ (w128 n14 n15 < w128 n9 n10 → n24 = 1)) := h_wcmp
                  have k0 := cmp_rise h_wcmp v0.2.2 v1.2.2
                  clear h_wcmp
                  refine ⟨fun c8 => ?_, fun c8 => ?_⟩
                  · refine ⟨fun c9 => ?_, fun c9 => ?_⟩
                    · refine ⟨fun c10 => ?_, fun c10 => ?_⟩
                      · refine ⟨fun c11 => ?_, fun c11 => ?_⟩
                        · refine ⟨trivial, ?_⟩
                          intro t1
                          intro h_lives
                          replace h_lives : (b2i t1) = 1 := h_lives
                          show (b2i t1) = 1
                          assumption
                        · refine ⟨fun c12 => ?_, fun c12 => ?_⟩
                          · refine ⟨trivial, ?_⟩
                            intro t1
                            intro h_lives
                            replace h_lives : (b2i t1) = 1 := h_lives
                            show (b2i t1) = 1
                            assumption
                          · show (b2i false) = 1
                            exfalso; first | omega | (simp only [Classical.not_iff] at *; omega)
                      · show (b2i false) = 1
                        exfalso; first | omega | (simp only [Classical.not_iff] at *; omega)
                    · show (b2i false) = 1
                      exfalso; first | omega | (simp only [Classical.not_iff] at *; omega)
                  · show (b2i false) = 1
                    exfalso; first | omega | (simp only [Classical.not_iff] at *; omega)
              · refine ⟨fun c7 => ?_, fun c7 => ?_⟩
                · intro n18 e_n18 l_n18 u_n18
                  refine ⟨trivial, ?_⟩
                  intro n19 l_n19 u_n19
                  intro n20 l_n20 u_n20
                  intro h_raw
                  replace h_raw : rawOf n18 n1 n2 n3 n19 n20 := h_raw
                  intro n21 e_n21 l_n21 u_n21
                  refine ⟨trivial, ?_⟩
                  intro n22 l_n22 u_n22
                  intro n23 l_n23 u_n23
                  intro h_raw1
                  replace h_raw1 : rawOf n21 n1 n2 n3 n22 n23 := h_raw1
                  have m0 := raw_mono h_raw h_raw1 g1 (by omega) (by omega)
                  have m1 := m0.1
                  have m2 := m0.2.1
                  have m3 := m0.2.2
                  refine ⟨trivial, ?_⟩
                  intro n24 l_n24 u_n24
                  intro h_wcmp
                  replace h_wcmp : ((w128 n9 n10 < w128 n14 n15 → n24 = -1) ∧ (w128 n9 n10 = w128 n14 n15 → n24 = 0) ∧ (w128 n14 n15 < w128 n9 n10 → n24 = 1)) := h_wcmp
                  have k0 := cmp_rise h_wcmp v0.2.2 v1.2.2
                  clear h_wcmp
                  refine ⟨fun c8 => ?_, fun c8 => ?_⟩
                  · refine ⟨fun c9 => ?_, fun c9 => ?_⟩
                    · refine ⟨fun c10 => ?_, fun c10 => ?_⟩
                      · refine ⟨fun c11 => ?_, fun c11 => ?_⟩
                        · refine ⟨trivial, ?_⟩
                          intro t1
                          intro h_lives
                          replace h_lives : (b2i t1) = 1 := h_lives
                          show (b2i t1) = 1
                          assumption
                        · refine ⟨fun c12 => ?_, fun c12 => ?_⟩
                          · refine ⟨trivial, ?_⟩
                            intro t1
                            intro h_lives
                            replace h_lives : (b2i t1) = 1 := h_lives
                            show (b2i t1) = 1
                            assumption
                          · show (b2i false) = 1
                            exfalso; first | omega | (simp only [Classical.not_iff] at *; omega)
                      · show (b2i false) = 1
                        exfalso; first | omega | (simp only [Classical.not_iff] at *; omega)
                    · show (b2i false) = 1
                      exfalso; first | omega | (simp only [Classical.not_iff] at *; omega)
                  · show (b2i false) = 1
                    exfalso; first | omega | (simp only [Classical.not_iff] at *; omega)
                · intro n18 e_n18 l_n18 u_n18
                  refine ⟨trivial, ?_⟩
                  intro n19 l_n19 u_n19
                  intro n20 l_n20 u_n20
                  intro h_raw
                  replace h_raw : rawOf n18 n1 n2 n3 n19 n20 := h_raw
                  intro n21 e_n21 l_n21 u_n21
                  refine ⟨trivial, ?_⟩
                  intro n22 l_n22 u_n22
                  intro n23 l_n23 u_n23
                  intro h_raw1
                  replace h_raw1 : rawOf n21 n1 n2 n3 n22 n23 := h_raw1
                  have m0 := raw_mono h_raw h_raw1 g1 (by omega) (by omega)
                  have m1 := m0.1
                  have m2 := m0.2.1
                  have m3 := m0.2.2
                  refine ⟨trivial, ?_⟩
                  intro n24 l_n24 u_n24
                  intro h_wcmp
                  replace h_wcmp : ((w128 n9 n10 < w128 n14 n15 → n24 = -1) ∧ (w128 n9 n10 = w128 n14 n15 → n24 = 0) ∧ (w128 n14 n15 < w128 n9 n10 → n24 = 1)) := h_wcmp
                  have k0 := cmp_rise h_wcmp v0.2.2 v1.2.2
                  clear h_wcmp
                  refine ⟨fun c8 => ?_, fun c8 => ?_⟩
                  · refine ⟨fun c9 => ?_, fun c9 => ?_⟩
                    · refine ⟨fun c10 => ?_, fun c10 => ?_⟩
                      · refine ⟨fun c11 => ?_, fun c11 => ?_⟩
                        · refine ⟨trivial, ?_⟩
                          intro t1
                          intro h_lives
                          replace h_lives : (b2i t1) = 1 := h_lives
                          show (b2i t1) = 1
                          assumption
                        · refine ⟨fun c12 => ?_, fun c12 => ?_⟩
                          · refine ⟨trivial, ?_⟩
                            intro t1
                            intro h_lives
                            replace h_lives : (b2i t1) = 1 := h_lives
                            show (b2i t1) = 1
                            assumption
                          · show (b2i false) = 1
                            exfalso; first | omega | (simp only [Classical.not_iff] at *; omega)
                      · show (b2i false) = 1
                        exfalso; first | omega | (simp only [Classical.not_iff] at *; omega)
                    · show (b2i false) = 1
                      exfalso; first | omega | (simp only [Classical.not_iff] at *; omega)
                  · show (b2i false) = 1
                    exfalso; first | omega | (simp only [Classical.not_iff] at *; omega)

end Go.Proofs.Ytopeebkkfomdaaa.Sx
