/-
  The laws of decodes, part g.
-/
import Derived.Test.YtopeebkkfomdaaaDf
set_option linter.all false
set_option maxRecDepth 100000
namespace Go.Proofs.Ytopeebkkfomdaaa.Sx
open Go Go.RowKit

theorem raw_ends {v bits lo hi n e : Int} (t : rawOf v bits lo hi n e) (hg : gr bits ≠ 0) (hl : lo ≠ hi) : e = 0 ∧ 0 ≤ n ∧ n ≤ gr bits ∧ (lo < hi → v ≤ lo → n = 0) ∧ (lo < hi → hi ≤ v → n = gr bits) ∧ (hi < lo → lo ≤ v → n = 0) ∧ (hi < lo → v ≤ hi → n = gr bits) := by
  obtain ⟨x, a1, a2, a3⟩ := raw_ok t hg hl
  have hgb := gr_or bits
  refine ⟨a1, by omega, by omega, fun h k => ?_, fun h k => ?_, fun h k => ?_, fun h k => ?_⟩
  · have m := Int.mul_le_mul_of_nonneg_right (show v - lo ≤ 0 by omega) (show 0 ≤ gr bits by omega)
    have := near_le (m := 0) (by omega) (a2.1 (by omega)) (by omega)
    omega
  · have m := Int.mul_le_mul_of_nonneg_right (show hi - lo ≤ v - lo by omega) (show 0 ≤ gr bits by omega)
    rw [Int.mul_comm (hi - lo)] at m
    have := near_ge (m := gr bits) (by omega) (a2.1 (by omega)) m
    omega
  · have m := Int.mul_le_mul_of_nonneg_right (show -(v - lo) ≤ 0 by omega) (show 0 ≤ gr bits by omega)
    rw [Int.neg_mul] at m
    have := near_le (m := 0) (by omega) (a2.2 (by omega)) (by omega)
    omega
  · have m := Int.mul_le_mul_of_nonneg_right (show -(hi - lo) ≤ -(v - lo) by omega) (show 0 ≤ gr bits by omega)
    rw [Int.neg_mul (v - lo), Int.mul_comm (-(hi - lo))] at m
    have := near_ge (m := gr bits) (by omega) (a2.2 (by omega)) m
    omega
theorem near_of {C w x : Int} (h0 : -w < 2 * (x * w - C)) (h1 : 2 * (x * w - C) ≤ w) (hs : 2 * (x * w - C) ≠ w ∨ True) : isNear C w x := by
  have e1 : 2 * w * x = 2 * (x * w) := by grind
  have e2 : 2 * w * (x + 1) = 2 * (x * w) + 2 * w := by grind
  unfold isNear
  omega
theorem raw_back {C v m bits lo hi n e : Int} (t : rawOf v bits lo hi n e) (hg : gr bits ≠ 0) (hl : lo ≠ hi) (hw : gr bits < max (hi - lo) (lo - hi)) (hn : isNear C (gr bits) v) (hC : C = lo * gr bits + m * (hi - lo)) (h0 : 0 ≤ m) (h1 : m ≤ gr bits) : n = m ∧ e = 0 := by
  obtain ⟨x, a1, a2, a3⟩ := raw_ok t hg hl
  have o := near_off hn
  have e1 : (v - lo) * gr bits = v * gr bits - lo * gr bits := by grind
  have e2 : m * -(hi - lo) = -(m * (hi - lo)) := by grind
  have k : nearest ((v - lo) * gr bits) (hi - lo) m := by
    refine ⟨fun z => near_of ?_ ?_ (Or.inr trivial), fun z => near_of ?_ ?_ (Or.inr trivial)⟩
    all_goals omega
  have := nearest_uniq (by omega) a2 k
  omega

def REnds (v bits lo hi n : Int) : Prop := (lo < hi → v ≤ lo → n = 0) ∧ (lo < hi → hi ≤ v → n = gr bits) ∧ (hi < lo → lo ≤ v → n = 0) ∧ (hi < lo → v ≤ hi → n = gr bits)
theorem raw_in {v bits lo hi n e : Int} (t : rawOf v bits lo hi n e) (hg : gr bits ≠ 0) (hl : lo ≠ hi) : e = 0 ∧ n ≤ gr bits ∧ REnds v bits lo hi n := by
  obtain ⟨a, _, b, c⟩ := raw_ends t hg hl
  exact ⟨a, b, c⟩
theorem raw_lo {bits lo hi n e : Int} (t : rawOf lo bits lo hi n e) (hg : gr bits ≠ 0) (hl : lo ≠ hi) : n = 0 ∧ e = 0 := by
  obtain ⟨a, _, _, c, _, d, _⟩ := raw_ends t hg hl
  refine ⟨?_, a⟩
  rcases Int.lt_or_gt_of_ne hl with z | z
  · exact c z (Int.le_refl _)
  · exact d z (Int.le_refl _)
theorem raw_hi {bits lo hi n e : Int} (t : rawOf hi bits lo hi n e) (hg : gr bits ≠ 0) (hl : lo ≠ hi) : n = gr bits ∧ e = 0 := by
  obtain ⟨a, _, _, _, c, _, d⟩ := raw_ends t hg hl
  refine ⟨?_, a⟩
  rcases Int.lt_or_gt_of_ne hl with z | z
  · exact c z (Int.le_refl _)
  · exact d z (Int.le_refl _)

set_option maxHeartbeats 8000000 in
theorem p_lback : P_lback := by
  unfold P_lback
  intro n l_n u_n
  intro n1 l_n1 u_n1
  intro n2 l_n2 u_n2
  intro n3 l_n3 u_n3
  intro n4 l_n4 u_n4
  intro hpre
  replace hpre : True := hpre
  intro b
  refine ⟨trivial, ?_⟩
  intro n5 l_n5 u_n5
  intro t
  intro h_lgreatest
  replace h_lgreatest : ((gr n1 ≠ 0 → (b2i t) = 1 ∧ n5 = gr n1) ∧ (gr n1 = 0 → (b2i t) = 0 ∧ n5 = 0)) := h_lgreatest
  refine ⟨fun c0 => ?_, fun c0 => ?_⟩
  · have q0 := (b2i_zero t).2 c0
    refine ⟨trivial, ?_⟩
    intro t1
    intro h_lives
    replace h_lives : (b2i t1) = 1 := h_lives
    show (b2i t1) = 1
    assumption
  · have q0 := (b2i_one t).2 (Classical.not_not.1 c0)
    refine ⟨fun c1 => ?_, fun c1 => ?_⟩
    · refine ⟨trivial, ?_⟩
      intro t1
      intro h_lives
      replace h_lives : (b2i t1) = 1 := h_lives
      show (b2i t1) = 1
      assumption
    · refine ⟨fun c2 => ?_, fun c2 => ?_⟩
      · refine ⟨trivial, ?_⟩
        intro t1
        intro h_lives
        replace h_lives : (b2i t1) = 1 := h_lives
        show (b2i t1) = 1
        assumption
      · refine ⟨trivial, ?_⟩
        intro n6 l_n6 u_n6
        intro n7 l_n7 u_n7
        intro h_raw
        replace h_raw : rawOf n2 n1 n2 n3 n6 n7 := h_raw
        have g0 := gr_or n1
        have g1 : gr n1 ≠ 0 := by omega
        have g2 : n5 = gr n1 := by omega
        have r0 := raw_lo h_raw g1 (by omega)
        clear h_raw
        refine ⟨trivial, ?_⟩
        intro n8 l_n8 u_n8
        intro n9 l_n9 u_n9
        intro h_raw1
        replace h_raw1 : rawOf n3 n1 n2 n3 n8 n9 := h_raw1
        have r1 := raw_hi h_raw1 g1 (by omega)
        clear h_raw1
        refine ⟨fun c3 => ?_, fun c3 => ?_⟩
        · show (b2i false) = 1
          exfalso; first | omega | (have r2 := r2.1 (by assumption) (by assumption); omega) | (have r2 := r2.2.1 (by assumption) (by assumption); omega) | (have r2 := r2.2.2.1 (by omega) (by omega); omega) | (have r2 := r2.2.2.2 (by omega) (by omega); omega)
        · refine ⟨fun c4 => ?_, fun c4 => ?_⟩
          · show (b2i false) = 1
            exfalso; first | omega | (have r2 := r2.1 (by assumption) (by assumption); omega) | (have r2 := r2.2.1 (by assumption) (by assumption); omega) | (have r2 := r2.2.2.1 (by omega) (by omega); omega) | (have r2 := r2.2.2.2 (by omega) (by omega); omega)
          · refine ⟨fun c5 => ?_, fun c5 => ?_⟩
            · show (b2i false) = 1
              exfalso; first | omega | (have r2 := r2.1 (by assumption) (by assumption); omega) | (have r2 := r2.2.1 (by assumption) (by assumption); omega) | (have r2 := r2.2.2.1 (by omega) (by omega); omega) | (have r2 := r2.2.2.2 (by omega) (by omega); omega)
            · refine ⟨fun c6 => ?_, fun c6 => ?_⟩
              · show (b2i false) = 1
                exfalso; first | omega | (have r2 := r2.1 (by assumption) (by assumption); omega) | (have r2 := r2.2.1 (by assumption) (by assumption); omega) | (have r2 := r2.2.2.1 (by omega) (by omega); omega) | (have r2 := r2.2.2.2 (by omega) (by omega); omega)
              · refine ⟨trivial, ?_⟩
                intro n10 l_n10 u_n10
                intro n11 l_n11 u_n11
                intro h_raw2
                replace h_raw2 : rawOf n4 n1 n2 n3 n10 n11 := h_raw2
                have r2 := raw_in h_raw2 g1 (by omega)
                clear h_raw2
                obtain ⟨r20, r21, r2⟩ := r2
                refine ⟨fun c7 => ?_, fun c7 => ?_⟩
                · refine ⟨fun c8 => ?_, fun c8 => ?_⟩
                  · refine ⟨fun c9 => ?_, fun c9 => ?_⟩
                    · refine ⟨fun c10 => ?_, fun c10 => ?_⟩
                      · show (b2i false) = 1
                        exfalso; first | omega | (have r2 := r2.1 (by assumption) (by assumption); omega) | (have r2 := r2.2.1 (by assumption) (by assumption); omega) | (have r2 := r2.2.2.1 (by omega) (by omega); omega) | (have r2 := r2.2.2.2 (by omega) (by omega); omega)
                      · refine ⟨fun c11 => ?_, fun c11 => ?_⟩
                        · show (b2i false) = 1
                          exfalso; first | omega | (have r2 := r2.1 (by assumption) (by assumption); omega) | (have r2 := r2.2.1 (by assumption) (by assumption); omega) | (have r2 := r2.2.2.1 (by omega) (by omega); omega) | (have r2 := r2.2.2.2 (by omega) (by omega); omega)
                        · refine ⟨fun c12 => ?_, fun c12 => ?_⟩
                          · show (b2i false) = 1
                            exfalso; first | omega | (have r2 := r2.1 (by assumption) (by assumption); omega) | (have r2 := r2.2.1 (by assumption) (by assumption); omega) | (have r2 := r2.2.2.1 (by omega) (by omega); omega) | (have r2 := r2.2.2.2 (by omega) (by omega); omega)
                          · refine ⟨fun c13 => ?_, fun c13 => ?_⟩
                            · show (b2i false) = 1
                              exfalso; first | omega | (have r2 := r2.1 (by assumption) (by assumption); omega) | (have r2 := r2.2.1 (by assumption) (by assumption); omega) | (have r2 := r2.2.2.1 (by omega) (by omega); omega) | (have r2 := r2.2.2.2 (by omega) (by omega); omega)
                            · intro n12 e_n12 l_n12 u_n12
                              refine ⟨fun c14 => ?_, fun c14 => ?_⟩
                              · refine ⟨trivial, ?_⟩
                                intro t1
                                intro h_lives
                                replace h_lives : (b2i t1) = 1 := h_lives
                                show (b2i t1) = 1
                                assumption
                              · refine ⟨trivial, ?_⟩
                                intro n13 l_n13 u_n13
                                intro n14 l_n14 u_n14
                                intro n15 l_n15 u_n15
                                intro n16 l_n16 u_n16
                                intro h_value
                                replace h_value : ledTo n n1 n2 n3 n13 n14 n15 n16 := h_value
                                have v0 := led_ok h_value g1 (by omega)
                                have v01 := v0.1
                                have v02 := v0.2.1
                                intro b1
                                refine ⟨trivial, ?_⟩
                                intro n17 l_n17 u_n17
                                intro h_dnear
                                replace h_dnear : nearTo n13 n14 n15 n17 := h_dnear
                                rw [v02] at h_dnear
                                have v1 := near_led h_dnear (by omega) v0.2.2 (by omega) (by omega) (by omega) (by omega) (by omega) (by omega)
                                clear h_dnear
                                refine ⟨trivial, ?_⟩
                                intro n18 l_n18 u_n18
                                intro n19 l_n19 u_n19
                                intro h_raw3
                                replace h_raw3 : rawOf n17 n1 n2 n3 n18 n19 := h_raw3
                                have r3 := raw_back h_raw3 g1 (by omega) (by omega) v1.1 rfl (by omega) (by omega)
                                clear h_raw3 v1 v0
                                refine ⟨fun c15 => ?_, fun c15 => ?_⟩
                                · refine ⟨fun c16 => ?_, fun c16 => ?_⟩
                                  · refine ⟨fun c17 => ?_, fun c17 => ?_⟩
                                    · refine ⟨trivial, ?_⟩
                                      intro t1
                                      intro h_lives
                                      replace h_lives : (b2i t1) = 1 := h_lives
                                      show (b2i t1) = 1
                                      assumption
                                    · show (b2i false) = 1
                                      exfalso; first | omega | (have r2 := r2.1 (by assumption) (by assumption); omega) | (have r2 := r2.2.1 (by assumption) (by assumption); omega) | (have r2 := r2.2.2.1 (by omega) (by omega); omega) | (have r2 := r2.2.2.2 (by omega) (by omega); omega)
                                  · show (b2i false) = 1
                                    exfalso; first | omega | (have r2 := r2.1 (by assumption) (by assumption); omega) | (have r2 := r2.2.1 (by assumption) (by assumption); omega) | (have r2 := r2.2.2.1 (by omega) (by omega); omega) | (have r2 := r2.2.2.2 (by omega) (by omega); omega)
                                · show (b2i false) = 1
                                  exfalso; first | omega | (have r2 := r2.1 (by assumption) (by assumption); omega) | (have r2 := r2.2.1 (by assumption) (by assumption); omega) | (have r2 := r2.2.2.1 (by omega) (by omega); omega) | (have r2 := r2.2.2.2 (by omega) (by omega); omega)
                    · refine ⟨fun c10 => ?_, fun c10 => ?_⟩
                      · show (b2i false) = 1
                        exfalso; first | omega | (have r2 := r2.1 (by assumption) (by assumption); omega) | (have r2 := r2.2.1 (by assumption) (by assumption); omega) | (have r2 := r2.2.2.1 (by omega) (by omega); omega) | (have r2 := r2.2.2.2 (by omega) (by omega); omega)
                      · refine ⟨fun c11 => ?_, fun c11 => ?_⟩
                        · show (b2i false) = 1
                          exfalso; first | omega | (have r2 := r2.1 (by assumption) (by assumption); omega) | (have r2 := r2.2.1 (by assumption) (by assumption); omega) | (have r2 := r2.2.2.1 (by omega) (by omega); omega) | (have r2 := r2.2.2.2 (by omega) (by omega); omega)
                        · refine ⟨fun c12 => ?_, fun c12 => ?_⟩
                          · show (b2i false) = 1
                            exfalso; first | omega | (have r2 := r2.1 (by assumption) (by assumption); omega) | (have r2 := r2.2.1 (by assumption) (by assumption); omega) | (have r2 := r2.2.2.1 (by omega) (by omega); omega) | (have r2 := r2.2.2.2 (by omega) (by omega); omega)
                          · intro n12 e_n12 l_n12 u_n12
                            refine ⟨fun c13 => ?_, fun c13 => ?_⟩
                            · refine ⟨trivial, ?_⟩
                              intro t1
                              intro h_lives
                              replace h_lives : (b2i t1) = 1 := h_lives
                              show (b2i t1) = 1
                              assumption
                            · refine ⟨trivial, ?_⟩
                              intro n13 l_n13 u_n13
                              intro n14 l_n14 u_n14
                              intro n15 l_n15 u_n15
                              intro n16 l_n16 u_n16
                              intro h_value
                              replace h_value : ledTo n n1 n2 n3 n13 n14 n15 n16 := h_value
                              have v0 := led_ok h_value g1 (by omega)
                              have v01 := v0.1
                              have v02 := v0.2.1
                              intro b1
                              refine ⟨trivial, ?_⟩
                              intro n17 l_n17 u_n17
                              intro h_dnear
                              replace h_dnear : nearTo n13 n14 n15 n17 := h_dnear
                              rw [v02] at h_dnear
                              have v1 := near_led h_dnear (by omega) v0.2.2 (by omega) (by omega) (by omega) (by omega) (by omega) (by omega)
                              clear h_dnear
                              refine ⟨trivial, ?_⟩
                              intro n18 l_n18 u_n18
                              intro n19 l_n19 u_n19
                              intro h_raw3
                              replace h_raw3 : rawOf n17 n1 n2 n3 n18 n19 := h_raw3
                              have r3 := raw_back h_raw3 g1 (by omega) (by omega) v1.1 rfl (by omega) (by omega)
                              clear h_raw3 v1 v0
                              refine ⟨fun c14 => ?_, fun c14 => ?_⟩
                              · refine ⟨fun c15 => ?_, fun c15 => ?_⟩
                                · refine ⟨fun c16 => ?_, fun c16 => ?_⟩
                                  · refine ⟨trivial, ?_⟩
                                    intro t1
                                    intro h_lives
                                    replace h_lives : (b2i t1) = 1 := h_lives
                                    show (b2i t1) = 1
                                    assumption
                                  · show (b2i false) = 1
                                    exfalso; first | omega | (have r2 := r2.1 (by assumption) (by assumption); omega) | (have r2 := r2.2.1 (by assumption) (by assumption); omega) | (have r2 := r2.2.2.1 (by omega) (by omega); omega) | (have r2 := r2.2.2.2 (by omega) (by omega); omega)
                                · show (b2i false) = 1
                                  exfalso; first | omega | (have r2 := r2.1 (by assumption) (by assumption); omega) | (have r2 := r2.2.1 (by assumption) (by assumption); omega) | (have r2 := r2.2.2.1 (by omega) (by omega); omega) | (have r2 := r2.2.2.2 (by omega) (by omega); omega)
                              · show (b2i false) = 1
                                exfalso; first | omega | (have r2 := r2.1 (by assumption) (by assumption); omega) | (have r2 := r2.2.1 (by assumption) (by assumption); omega) | (have r2 := r2.2.2.1 (by omega) (by omega); omega) | (have r2 := r2.2.2.2 (by omega) (by omega); omega)
                  · refine ⟨fun c9 => ?_, fun c9 => ?_⟩
                    · refine ⟨fun c10 => ?_, fun c10 => ?_⟩
                      · show (b2i false) = 1
                        exfalso; first | omega | (have r2 := r2.1 (by assumption) (by assumption); omega) | (have r2 := r2.2.1 (by assumption) (by assumption); omega) | (have r2 := r2.2.2.1 (by omega) (by omega); omega) | (have r2 := r2.2.2.2 (by omega) (by omega); omega)
                      · refine ⟨fun c11 => ?_, fun c11 => ?_⟩
                        · show (b2i false) = 1
                          exfalso; first | omega | (have r2 := r2.1 (by assumption) (by assumption); omega) | (have r2 := r2.2.1 (by assumption) (by assumption); omega) | (have r2 := r2.2.2.1 (by omega) (by omega); omega) | (have r2 := r2.2.2.2 (by omega) (by omega); omega)
                        · refine ⟨fun c12 => ?_, fun c12 => ?_⟩
                          · show (b2i false) = 1
                            exfalso; first | omega | (have r2 := r2.1 (by assumption) (by assumption); omega) | (have r2 := r2.2.1 (by assumption) (by assumption); omega) | (have r2 := r2.2.2.1 (by omega) (by omega); omega) | (have r2 := r2.2.2.2 (by omega) (by omega); omega)
                          · intro n12 e_n12 l_n12 u_n12
                            refine ⟨fun c13 => ?_, fun c13 => ?_⟩
                            · refine ⟨trivial, ?_⟩
                              intro t1
                              intro h_lives
                              replace h_lives : (b2i t1) = 1 := h_lives
                              show (b2i t1) = 1
                              assumption
                            · refine ⟨trivial, ?_⟩
                              intro n13 l_n13 u_n13
                              intro n14 l_n14 u_n14
                              intro n15 l_n15 u_n15
                              intro n16 l_n16 u_n16
                              intro h_value
                              replace h_value : ledTo n n1 n2 n3 n13 n14 n15 n16 := h_value
                              have v0 := led_ok h_value g1 (by omega)
                              have v01 := v0.1
                              have v02 := v0.2.1
                              intro b1
                              refine ⟨trivial, ?_⟩
                              intro n17 l_n17 u_n17
                              intro h_dnear
                              replace h_dnear : nearTo n13 n14 n15 n17 := h_dnear
                              rw [v02] at h_dnear
                              have v1 := near_led h_dnear (by omega) v0.2.2 (by omega) (by omega) (by omega) (by omega) (by omega) (by omega)
                              clear h_dnear
                              refine ⟨trivial, ?_⟩
                              intro n18 l_n18 u_n18
                              intro n19 l_n19 u_n19
                              intro h_raw3
                              replace h_raw3 : rawOf n17 n1 n2 n3 n18 n19 := h_raw3
                              have r3 := raw_back h_raw3 g1 (by omega) (by omega) v1.1 rfl (by omega) (by omega)
                              clear h_raw3 v1 v0
                              refine ⟨fun c14 => ?_, fun c14 => ?_⟩
                              · refine ⟨fun c15 => ?_, fun c15 => ?_⟩
                                · refine ⟨fun c16 => ?_, fun c16 => ?_⟩
                                  · refine ⟨trivial, ?_⟩
                                    intro t1
                                    intro h_lives
                                    replace h_lives : (b2i t1) = 1 := h_lives
                                    show (b2i t1) = 1
                                    assumption
                                  · show (b2i false) = 1
                                    exfalso; first | omega | (have r2 := r2.1 (by assumption) (by assumption); omega) | (have r2 := r2.2.1 (by assumption) (by assumption); omega) | (have r2 := r2.2.2.1 (by omega) (by omega); omega) | (have r2 := r2.2.2.2 (by omega) (by omega); omega)
                                · show (b2i false) = 1
                                  exfalso; first | omega | (have r2 := r2.1 (by assumption) (by assumption); omega) | (have r2 := r2.2.1 (by assumption) (by assumption); omega) | (have r2 := r2.2.2.1 (by omega) (by omega); omega) | (have r2 := r2.2.2.2 (by omega) (by omega); omega)
                              · show (b2i false) = 1
                                exfalso; first | omega | (have r2 := r2.1 (by assumption) (by assumption); omega) | (have r2 := r2.2.1 (by assumption) (by assumption); omega) | (have r2 := r2.2.2.1 (by omega) (by omega); omega) | (have r2 := r2.2.2.2 (by omega) (by omega); omega)
                    · refine ⟨fun c10 => ?_, fun c10 => ?_⟩
                      · show (b2i false) = 1
                        exfalso; first | omega | (have r2 := r2.1 (by assumption) (by assumption); omega) | (have r2 := r2.2.1 (by assumption) (by assumption); omega) | (have r2 := r2.2.2.1 (by omega) (by omega); omega) | (have r2 := r2.2.2.2 (by omega) (by omega); omega)
                      · refine ⟨fun c11 => ?_, fun c11 => ?_⟩
                        · show (b2i false) = 1
                          exfalso; first | omega | (have r2 := r2.1 (by assumption) (by assumption); omega) | (have r2 := r2.2.1 (by assumption) (by assumption); omega) | (have r2 := r2.2.2.1 (by omega) (by omega); omega) | (have r2 := r2.2.2.2 (by omega) (by omega); omega)
                        · intro n12 e_n12 l_n12 u_n12
                          refine ⟨fun c12 => ?_, fun c12 => ?_⟩
                          · refine ⟨trivial, ?_⟩
                            intro t1
                            intro h_lives
                            replace h_lives : (b2i t1) = 1 := h_lives
                            show (b2i t1) = 1
                            assumption
                          · refine ⟨trivial, ?_⟩
                            intro n13 l_n13 u_n13
                            intro n14 l_n14 u_n14
                            intro n15 l_n15 u_n15
                            intro n16 l_n16 u_n16
                            intro h_value
                            replace h_value : ledTo n n1 n2 n3 n13 n14 n15 n16 := h_value
                            have v0 := led_ok h_value g1 (by omega)
                            have v01 := v0.1
                            have v02 := v0.2.1
                            intro b1
                            refine ⟨trivial, ?_⟩
                            intro n17 l_n17 u_n17
                            intro h_dnear
                            replace h_dnear : nearTo n13 n14 n15 n17 := h_dnear
                            rw [v02] at h_dnear
                            have v1 := near_led h_dnear (by omega) v0.2.2 (by omega) (by omega) (by omega) (by omega) (by omega) (by omega)
                            clear h_dnear
                            refine ⟨trivial, ?_⟩
                            intro n18 l_n18 u_n18
                            intro n19 l_n19 u_n19
                            intro h_raw3
                            replace h_raw3 : rawOf n17 n1 n2 n3 n18 n19 := h_raw3
                            have r3 := raw_back h_raw3 g1 (by omega) (by omega) v1.1 rfl (by omega) (by omega)
                            clear h_raw3 v1 v0
                            refine ⟨fun c13 => ?_, fun c13 => ?_⟩
                            · refine ⟨fun c14 => ?_, fun c14 => ?_⟩
                              · refine ⟨fun c15 => ?_, fun c15 => ?_⟩
                                · refine ⟨trivial, ?_⟩
                                  intro t1
                                  intro h_lives
                                  replace h_lives : (b2i t1) = 1 := h_lives
                                  show (b2i t1) = 1
                                  assumption
                                · show (b2i false) = 1
                                  exfalso; first | omega | (have r2 := r2.1 (by assumption) (by assumption); omega) | (have r2 := r2.2.1 (by assumption) (by assumption); omega) | (have r2 := r2.2.2.1 (by omega) (by omega); omega) | (have r2 := r2.2.2.2 (by omega) (by omega); omega)
                              · show (b2i false) = 1
                                exfalso; first | omega | (have r2 := r2.1 (by assumption) (by assumption); omega) | (have r2 := r2.2.1 (by assumption) (by assumption); omega) | (have r2 := r2.2.2.1 (by omega) (by omega); omega) | (have r2 := r2.2.2.2 (by omega) (by omega); omega)
                            · show (b2i false) = 1
                              exfalso; first | omega | (have r2 := r2.1 (by assumption) (by assumption); omega) | (have r2 := r2.2.1 (by assumption) (by assumption); omega) | (have r2 := r2.2.2.1 (by omega) (by omega); omega) | (have r2 := r2.2.2.2 (by omega) (by omega); omega)
                · refine ⟨fun c8 => ?_, fun c8 => ?_⟩
                  · refine ⟨fun c9 => ?_, fun c9 => ?_⟩
                    · refine ⟨fun c10 => ?_, fun c10 => ?_⟩
                      · show (b2i false) = 1
                        exfalso; first | omega | (have r2 := r2.1 (by assumption) (by assumption); omega) | (have r2 := r2.2.1 (by assumption) (by assumption); omega) | (have r2 := r2.2.2.1 (by omega) (by omega); omega) | (have r2 := r2.2.2.2 (by omega) (by omega); omega)
                      · refine ⟨fun c11 => ?_, fun c11 => ?_⟩
                        · show (b2i false) = 1
                          exfalso; first | omega | (have r2 := r2.1 (by assumption) (by assumption); omega) | (have r2 := r2.2.1 (by assumption) (by assumption); omega) | (have r2 := r2.2.2.1 (by omega) (by omega); omega) | (have r2 := r2.2.2.2 (by omega) (by omega); omega)
                        · refine ⟨fun c12 => ?_, fun c12 => ?_⟩
                          · show (b2i false) = 1
                            exfalso; first | omega | (have r2 := r2.1 (by assumption) (by assumption); omega) | (have r2 := r2.2.1 (by assumption) (by assumption); omega) | (have r2 := r2.2.2.1 (by omega) (by omega); omega) | (have r2 := r2.2.2.2 (by omega) (by omega); omega)
                          · refine ⟨fun c13 => ?_, fun c13 => ?_⟩
                            · show (b2i false) = 1
                              exfalso; first | omega | (have r2 := r2.1 (by assumption) (by assumption); omega) | (have r2 := r2.2.1 (by assumption) (by assumption); omega) | (have r2 := r2.2.2.1 (by omega) (by omega); omega) | (have r2 := r2.2.2.2 (by omega) (by omega); omega)
                            · intro n12 e_n12 l_n12 u_n12
                              refine ⟨fun c14 => ?_, fun c14 => ?_⟩
                              · refine ⟨trivial, ?_⟩
                                intro t1
                                intro h_lives
                                replace h_lives : (b2i t1) = 1 := h_lives
                                show (b2i t1) = 1
                                assumption
                              · refine ⟨trivial, ?_⟩
                                intro n13 l_n13 u_n13
                                intro n14 l_n14 u_n14
                                intro n15 l_n15 u_n15
                                intro n16 l_n16 u_n16
                                intro h_value
                                replace h_value : ledTo n n1 n2 n3 n13 n14 n15 n16 := h_value
                                have v0 := led_ok h_value g1 (by omega)
                                have v01 := v0.1
                                have v02 := v0.2.1
                                intro b1
                                refine ⟨trivial, ?_⟩
                                intro n17 l_n17 u_n17
                                intro h_dnear
                                replace h_dnear : nearTo n13 n14 n15 n17 := h_dnear
                                rw [v02] at h_dnear
                                have v1 := near_led h_dnear (by omega) v0.2.2 (by omega) (by omega) (by omega) (by omega) (by omega) (by omega)
                                clear h_dnear
                                refine ⟨trivial, ?_⟩
                                intro n18 l_n18 u_n18
                                intro n19 l_n19 u_n19
                                intro h_raw3
                                replace h_raw3 : rawOf n17 n1 n2 n3 n18 n19 := h_raw3
                                have r3 := raw_back h_raw3 g1 (by omega) (by omega) v1.1 rfl (by omega) (by omega)
                                clear h_raw3 v1 v0
                                refine ⟨fun c15 => ?_, fun c15 => ?_⟩
                                · refine ⟨fun c16 => ?_, fun c16 => ?_⟩
                                  · refine ⟨fun c17 => ?_, fun c17 => ?_⟩
                                    · refine ⟨trivial, ?_⟩
                                      intro t1
                                      intro h_lives
                                      replace h_lives : (b2i t1) = 1 := h_lives
                                      show (b2i t1) = 1
                                      assumption
                                    · show (b2i false) = 1
                                      exfalso; first | omega | (have r2 := r2.1 (by assumption) (by assumption); omega) | (have r2 := r2.2.1 (by assumption) (by assumption); omega) | (have r2 := r2.2.2.1 (by omega) (by omega); omega) | (have r2 := r2.2.2.2 (by omega) (by omega); omega)
                                  · show (b2i false) = 1
                                    exfalso; first | omega | (have r2 := r2.1 (by assumption) (by assumption); omega) | (have r2 := r2.2.1 (by assumption) (by assumption); omega) | (have r2 := r2.2.2.1 (by omega) (by omega); omega) | (have r2 := r2.2.2.2 (by omega) (by omega); omega)
                                · show (b2i false) = 1
                                  exfalso; first | omega | (have r2 := r2.1 (by assumption) (by assumption); omega) | (have r2 := r2.2.1 (by assumption) (by assumption); omega) | (have r2 := r2.2.2.1 (by omega) (by omega); omega) | (have r2 := r2.2.2.2 (by omega) (by omega); omega)
                    · refine ⟨fun c10 => ?_, fun c10 => ?_⟩
                      · show (b2i false) = 1
                        exfalso; first | omega | (have r2 := r2.1 (by assumption) (by assumption); omega) | (have r2 := r2.2.1 (by assumption) (by assumption); omega) | (have r2 := r2.2.2.1 (by omega) (by omega); omega) | (have r2 := r2.2.2.2 (by omega) (by omega); omega)
                      · refine ⟨fun c11 => ?_, fun c11 => ?_⟩
                        · show (b2i false) = 1
                          exfalso; first | omega | (have r2 := r2.1 (by assumption) (by assumption); omega) | (have r2 := r2.2.1 (by assumption) (by assumption); omega) | (have r2 := r2.2.2.1 (by omega) (by omega); omega) | (have r2 := r2.2.2.2 (by omega) (by omega); omega)
                        · refine ⟨fun c12 => ?_, fun c12 => ?_⟩
                          · show (b2i false) = 1
                            exfalso; first | omega | (have r2 := r2.1 (by assumption) (by assumption); omega) | (have r2 := r2.2.1 (by assumption) (by assumption); omega) | (have r2 := r2.2.2.1 (by omega) (by omega); omega) | (have r2 := r2.2.2.2 (by omega) (by omega); omega)
                          · intro n12 e_n12 l_n12 u_n12
                            refine ⟨fun c13 => ?_, fun c13 => ?_⟩
                            · refine ⟨trivial, ?_⟩
                              intro t1
                              intro h_lives
                              replace h_lives : (b2i t1) = 1 := h_lives
                              show (b2i t1) = 1
                              assumption
                            · refine ⟨trivial, ?_⟩
                              intro n13 l_n13 u_n13
                              intro n14 l_n14 u_n14
                              intro n15 l_n15 u_n15
                              intro n16 l_n16 u_n16
                              intro h_value
                              replace h_value : ledTo n n1 n2 n3 n13 n14 n15 n16 := h_value
                              have v0 := led_ok h_value g1 (by omega)
                              have v01 := v0.1
                              have v02 := v0.2.1
                              intro b1
                              refine ⟨trivial, ?_⟩
                              intro n17 l_n17 u_n17
                              intro h_dnear
                              replace h_dnear : nearTo n13 n14 n15 n17 := h_dnear
                              rw [v02] at h_dnear
                              have v1 := near_led h_dnear (by omega) v0.2.2 (by omega) (by omega) (by omega) (by omega) (by omega) (by omega)
                              clear h_dnear
                              refine ⟨trivial, ?_⟩
                              intro n18 l_n18 u_n18
                              intro n19 l_n19 u_n19
                              intro h_raw3
                              replace h_raw3 : rawOf n17 n1 n2 n3 n18 n19 := h_raw3
                              have r3 := raw_back h_raw3 g1 (by omega) (by omega) v1.1 rfl (by omega) (by omega)
                              clear h_raw3 v1 v0
                              refine ⟨fun c14 => ?_, fun c14 => ?_⟩
                              · refine ⟨fun c15 => ?_, fun c15 => ?_⟩
                                · refine ⟨fun c16 => ?_, fun c16 => ?_⟩
                                  · refine ⟨trivial, ?_⟩
                                    intro t1
                                    intro h_lives
                                    replace h_lives : (b2i t1) = 1 := h_lives
                                    show (b2i t1) = 1
                                    assumption
                                  · show (b2i false) = 1
                                    exfalso; first | omega | (have r2 := r2.1 (by assumption) (by assumption); omega) | (have r2 := r2.2.1 (by assumption) (by assumption); omega) | (have r2 := r2.2.2.1 (by omega) (by omega); omega) | (have r2 := r2.2.2.2 (by omega) (by omega); omega)
                                · show (b2i false) = 1
                                  exfalso; first | omega | (have r2 := r2.1 (by assumption) (by assumption); omega) | (have r2 := r2.2.1 (by assumption) (by assumption); omega) | (have r2 := r2.2.2.1 (by omega) (by omega); omega) | (have r2 := r2.2.2.2 (by omega) (by omega); omega)
                              · show (b2i false) = 1
                                exfalso; first | omega | (have r2 := r2.1 (by assumption) (by assumption); omega) | (have r2 := r2.2.1 (by assumption) (by assumption); omega) | (have r2 := r2.2.2.1 (by omega) (by omega); omega) | (have r2 := r2.2.2.2 (by omega) (by omega); omega)
                  · refine ⟨fun c9 => ?_, fun c9 => ?_⟩
                    · refine ⟨fun c10 => ?_, fun c10 => ?_⟩
                      · show (b2i false) = 1
                        exfalso; first | omega | (have r2 := r2.1 (by assumption) (by assumption); omega) | (have r2 := r2.2.1 (by assumption) (by assumption); omega) | (have r2 := r2.2.2.1 (by omega) (by omega); omega) | (have r2 := r2.2.2.2 (by omega) (by omega); omega)
                      · refine ⟨fun c11 => ?_, fun c11 => ?_⟩
                        · show (b2i false) = 1
                          exfalso; first | omega | (have r2 := r2.1 (by assumption) (by assumption); omega) | (have r2 := r2.2.1 (by assumption) (by assumption); omega) | (have r2 := r2.2.2.1 (by omega) (by omega); omega) | (have r2 := r2.2.2.2 (by omega) (by omega); omega)
                        · refine ⟨fun c12 => ?_, fun c12 => ?_⟩
                          · show (b2i false) = 1
                            exfalso; first | omega | (have r2 := r2.1 (by assumption) (by assumption); omega) | (have r2 := r2.2.1 (by assumption) (by assumption); omega) | (have r2 := r2.2.2.1 (by omega) (by omega); omega) | (have r2 := r2.2.2.2 (by omega) (by omega); omega)
                          · intro n12 e_n12 l_n12 u_n12
                            refine ⟨fun c13 => ?_, fun c13 => ?_⟩
                            · refine ⟨trivial, ?_⟩
                              intro t1
                              intro h_lives
                              replace h_lives : (b2i t1) = 1 := h_lives
                              show (b2i t1) = 1
                              assumption
                            · refine ⟨trivial, ?_⟩
                              intro n13 l_n13 u_n13
                              intro n14 l_n14 u_n14
                              intro n15 l_n15 u_n15
                              intro n16 l_n16 u_n16
                              intro h_value
                              replace h_value : ledTo n n1 n2 n3 n13 n14 n15 n16 := h_value
                              have v0 := led_ok h_value g1 (by omega)
                              have v01 := v0.1
                              have v02 := v0.2.1
                              intro b1
                              refine ⟨trivial, ?_⟩
                              intro n17 l_n17 u_n17
                              intro h_dnear
                              replace h_dnear : nearTo n13 n14 n15 n17 := h_dnear
                              rw [v02] at h_dnear
                              have v1 := near_led h_dnear (by omega) v0.2.2 (by omega) (by omega) (by omega) (by omega) (by omega) (by omega)
                              clear h_dnear
                              refine ⟨trivial, ?_⟩
                              intro n18 l_n18 u_n18
                              intro n19 l_n19 u_n19
                              intro h_raw3
                              replace h_raw3 : rawOf n17 n1 n2 n3 n18 n19 := h_raw3
                              have r3 := raw_back h_raw3 g1 (by omega) (by omega) v1.1 rfl (by omega) (by omega)
                              clear h_raw3 v1 v0
                              refine ⟨fun c14 => ?_, fun c14 => ?_⟩
                              · refine ⟨fun c15 => ?_, fun c15 => ?_⟩
                                · refine ⟨fun c16 => ?_, fun c16 => ?_⟩
                                  · refine ⟨trivial, ?_⟩
                                    intro t1
                                    intro h_lives
                                    replace h_lives : (b2i t1) = 1 := h_lives
                                    show (b2i t1) = 1
                                    assumption
                                  · show (b2i false) = 1
                                    exfalso; first | omega | (have r2 := r2.1 (by assumption) (by assumption); omega) | (have r2 := r2.2.1 (by assumption) (by assumption); omega) | (have r2 := r2.2.2.1 (by omega) (by omega); omega) | (have r2 := r2.2.2.2 (by omega) (by omega); omega)
                                · show (b2i false) = 1
                                  exfalso; first | omega | (have r2 := r2.1 (by assumption) (by assumption); omega) | (have r2 := r2.2.1 (by assumption) (by assumption); omega) | (have r2 := r2.2.2.1 (by omega) (by omega); omega) | (have r2 := r2.2.2.2 (by omega) (by omega); omega)
                              · show (b2i false) = 1
                                exfalso; first | omega | (have r2 := r2.1 (by assumption) (by assumption); omega) | (have r2 := r2.2.1 (by assumption) (by assumption); omega) | (have r2 := r2.2.2.1 (by omega) (by omega); omega) | (have r2 := r2.2.2.2 (by omega) (by omega); omega)
                    · refine ⟨fun c10 => ?_, fun c10 => ?_⟩
                      · show (b2i false) = 1
                        exfalso; first | omega | (have r2 := r2.1 (by assumption) (by assumption); omega) | (have r2 := r2.2.1 (by assumption) (by assumption); omega) | (have r2 := r2.2.2.1 (by omega) (by omega); omega) | (have r2 := r2.2.2.2 (by omega) (by omega); omega)
                      · refine ⟨fun c11 => ?_, fun c11 => ?_⟩
                        · show (b2i false) = 1
                          exfalso; first | omega | (have r2 := r2.1 (by assumption) (by assumption); omega) | (have r2 := r2.2.1 (by assumption) (by assumption); omega) | (have r2 := r2.2.2.1 (by omega) (by omega); omega) | (have r2 := r2.2.2.2 (by omega) (by omega); omega)
                        · intro n12 e_n12 l_n12 u_n12
                          refine ⟨fun c12 => ?_, fun c12 => ?_⟩
                          · refine ⟨trivial, ?_⟩
                            intro t1
                            intro h_lives
                            replace h_lives : (b2i t1) = 1 := h_lives
                            show (b2i t1) = 1
                            assumption
                          · refine ⟨trivial, ?_⟩
                            intro n13 l_n13 u_n13
                            intro n14 l_n14 u_n14
                            intro n15 l_n15 u_n15
                            intro n16 l_n16 u_n16
                            intro h_value
                            replace h_value : ledTo n n1 n2 n3 n13 n14 n15 n16 := h_value
                            have v0 := led_ok h_value g1 (by omega)
                            have v01 := v0.1
                            have v02 := v0.2.1
                            intro b1
                            refine ⟨trivial, ?_⟩
                            intro n17 l_n17 u_n17
                            intro h_dnear
                            replace h_dnear : nearTo n13 n14 n15 n17 := h_dnear
                            rw [v02] at h_dnear
                            have v1 := near_led h_dnear (by omega) v0.2.2 (by omega) (by omega) (by omega) (by omega) (by omega) (by omega)
                            clear h_dnear
                            refine ⟨trivial, ?_⟩
                            intro n18 l_n18 u_n18
                            intro n19 l_n19 u_n19
                            intro h_raw3
                            replace h_raw3 : rawOf n17 n1 n2 n3 n18 n19 := h_raw3
                            have r3 := raw_back h_raw3 g1 (by omega) (by omega) v1.1 rfl (by omega) (by omega)
                            clear h_raw3 v1 v0
                            refine ⟨fun c13 => ?_, fun c13 => ?_⟩
                            · refine ⟨fun c14 => ?_, fun c14 => ?_⟩
                              · refine ⟨fun c15 => ?_, fun c15 => ?_⟩
                                · refine ⟨trivial, ?_⟩
                                  intro t1
                                  intro h_lives
                                  replace h_lives : (b2i t1) = 1 := h_lives
                                  show (b2i t1) = 1
                                  assumption
                                · show (b2i false) = 1
                                  exfalso; first | omega | (have r2 := r2.1 (by assumption) (by assumption); omega) | (have r2 := r2.2.1 (by assumption) (by assumption); omega) | (have r2 := r2.2.2.1 (by omega) (by omega); omega) | (have r2 := r2.2.2.2 (by omega) (by omega); omega)
                              · show (b2i false) = 1
                                exfalso; first | omega | (have r2 := r2.1 (by assumption) (by assumption); omega) | (have r2 := r2.2.1 (by assumption) (by assumption); omega) | (have r2 := r2.2.2.1 (by omega) (by omega); omega) | (have r2 := r2.2.2.2 (by omega) (by omega); omega)
                            · show (b2i false) = 1
                              exfalso; first | omega | (have r2 := r2.1 (by assumption) (by assumption); omega) | (have r2 := r2.2.1 (by assumption) (by assumption); omega) | (have r2 := r2.2.2.1 (by omega) (by omega); omega) | (have r2 := r2.2.2.2 (by omega) (by omega); omega)

end Go.Proofs.Ytopeebkkfomdaaa.Sx
