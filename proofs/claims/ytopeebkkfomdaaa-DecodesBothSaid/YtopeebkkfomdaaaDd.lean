/-
  The laws of decodes, part d.
-/
import Derived.Test.YtopeebkkfomdaaaDb
set_option linter.all false
set_option maxRecDepth 100000
namespace Go.Proofs.Ytopeebkkfomdaaa.Sx
open Go Go.RowKit

theorem p_lboth : P_lboth := by
  unfold P_lboth
  intro n l_n u_n
  intro n1 l_n1 u_n1
  intro n2 l_n2 u_n2
  intro n3 l_n3 u_n3
  intro n4 l_n4 u_n4
  intro hpre
  replace hpre : True := hpre
  intro b
  refine ⟨trivial, ?_⟩
  intro n5 l_n5 u_n5
  intro t
  intro h_lgreatest
  replace h_lgreatest : ((gr n1 ≠ 0 → (b2i t) = 1 ∧ n5 = gr n1) ∧ (gr n1 = 0 → (b2i t) = 0 ∧ n5 = 0)) := h_lgreatest
  refine ⟨fun c0 => ?_, fun c0 => ?_⟩
  · have q0 := (b2i_zero t).2 c0
    refine ⟨trivial, ?_⟩
    intro t1
    intro h_lives
    replace h_lives : (b2i t1) = 1 := h_lives
    show (b2i t1) = 1
    assumption
  · have q0 := (b2i_one t).2 (Classical.not_not.1 c0)
    refine ⟨fun c1 => ?_, fun c1 => ?_⟩
    · refine ⟨trivial, ?_⟩
      intro t1
      intro h_lives
      replace h_lives : (b2i t1) = 1 := h_lives
      show (b2i t1) = 1
      assumption
    · refine ⟨trivial, ?_⟩
      intro n6 l_n6 u_n6
      intro n7 l_n7 u_n7
      intro n8 l_n8 u_n8
      intro n9 l_n9 u_n9
      intro h_value
      replace h_value : ledTo n n1 n2 n3 n6 n7 n8 n9 := h_value
      have g0 := gr_or n1
      have g1 : gr n1 ≠ 0 := by omega
      have g2 : n5 = gr n1 := by omega
      have v0 := led_ok h_value g1 (by omega)
      rw [← g2] at v0
      intro b1
      intro n10 e_n10 l_n10 u_n10
      refine ⟨trivial, ?_⟩
      intro n11 l_n11 u_n11
      intro n12 l_n12 u_n12
      intro n13 l_n13 u_n13
      intro n14 l_n14 u_n14
      intro h_value1
      replace h_value1 : ledTo n10 n1 n2 n3 n11 n12 n13 n14 := h_value1
      simp only [wrap_u32] at e_n10
      have d10 : n10 = n5 - n := by omega
      have v1 := led_ok h_value1 g1 (by omega)
      rw [← g2, d10] at v1
      intro b2
      intro n15 e_n15 l_n15 u_n15
      refine ⟨trivial, ?_⟩
      intro n16 l_n16 u_n16
      intro n17 l_n17 u_n17
      intro n18 l_n18 u_n18
      intro n19 l_n19 u_n19
      intro h_value2
      replace h_value2 : ledTo n15 n1 n3 n2 n16 n17 n18 n19 := h_value2
      simp only [wrap_u32] at e_n15
      have d15 : n15 = n5 - n := by omega
      have v2 := led_ok h_value2 g1 (by omega)
      rw [← g2, d15] at v2
      have s1 : w128 n6 n7 + w128 n11 n12 = (n2 + n3) * n5 := by rw [v0.2.2, v1.2.2]; grind
      have s2 : w128 n6 n7 = w128 n16 n17 := by rw [v0.2.2, v2.2.2]; grind
      have s3 := w_inj s2 (by omega) (by omega) (by omega) (by omega)
      have s4 := mul_b (a := n2 + n3) (b := n5) (A := 4294967296) (B := 4294967295) (by omega) (by omega) (by omega) (by omega) (by omega) (by omega)
      have v00 := v0.1
      have v10 := v1.1
      have v20 := v2.1
      have v01 := v0.2.1
      have v21 := v2.2.1
      clear v0 v1 v2 s2
      intro b3
      refine ⟨trivial, ?_⟩
      intro n20 l_n20 u_n20
      intro n21 l_n21 u_n21
      intro n22 l_n22 u_n22
      intro h_wadd
      replace h_wadd : tellW (w128 n6 n7 + w128 n11 n12) n20 n21 n22 := h_wadd
      rw [s1] at h_wadd
      have ha := tell_or h_wadd
      intro b4
      refine ⟨fun c2 => ?_, fun c2 => ?_⟩
      · refine ⟨fun c3 => ?_, fun c3 => ?_⟩
        · refine ⟨fun c4 => ?_, fun c4 => ?_⟩
          · refine ⟨fun c5 => ?_, fun c5 => ?_⟩
            · intro n23 e_n23 l_n23 u_n23
              refine ⟨trivial, ?_⟩
              intro n24 l_n24 u_n24
              intro n25 l_n25 u_n25
              intro h_wmul
              replace h_wmul : w128 n24 n25 = n23 * n5 := h_wmul
              rw [e_n23] at h_wmul
              have s5 := fun z => w_inj (a := n20) (b := n21) (c := n24) (d := n25) z (by omega) (by omega) (by omega) (by omega)
              have s6 : w128 n20 n21 = w128 n24 n25 := by omega
              have s7 := s5 s6
              refine ⟨fun c6 => ?_, fun c6 => ?_⟩
              · refine ⟨fun c7 => ?_, fun c7 => ?_⟩
                · refine ⟨trivial, ?_⟩
                  intro t1
                  intro h_lives
                  replace h_lives : (b2i t1) = 1 := h_lives
                  show (b2i t1) = 1
                  assumption
                · show (b2i false) = 1
                  exfalso; omega
              · show (b2i false) = 1
                exfalso; omega
            · show (b2i false) = 1
              exfalso; omega
          · show (b2i false) = 1
            exfalso; omega
        · show (b2i false) = 1
          exfalso; omega
      · show (b2i false) = 1
        exfalso; omega

end Go.Proofs.Ytopeebkkfomdaaa.Sx
