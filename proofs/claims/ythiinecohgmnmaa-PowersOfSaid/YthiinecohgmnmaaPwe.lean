/-
  The laws of powers, part e: what they stand on; the examples.
-/
import Derived.Test.YthiinecohgmnmaaPwd
set_option linter.all false
set_option maxRecDepth 100000
namespace Go.Proofs.Ythiinecohgmnmaa.Sx
open Go Go.RowKit

theorem pow_gen {a n v e : Int} (h : powTo a n v e) (hn : n ≠ 0) (ha : a ≠ 0) (hw : ¬ (a < 0 ∧ n % 65536 ≠ 0)) : e = 0 ∧ ((a < 0 ∧ (n.tdiv 65536).tmod 2 ≠ 0) → v = clamp32 (-powF (roundE (max a (-a)) n))) ∧ (¬ (a < 0 ∧ (n.tdiv 65536).tmod 2 ≠ 0) → v = clamp32 (powF (roundE (max a (-a)) n))) := by
  obtain ⟨h1, h2⟩ := h.2.2.2.2 hn ha hw
  refine ⟨h1, fun z => ?_, fun z => ?_⟩
  · rw [h2]; unfold powA expoF; rw [if_pos z, powF_clamp]
  · rw [h2]; unfold powA expoF; rw [if_neg z, powF_clamp]
theorem pow_pos {a n v e : Int} (h : powTo a n v e) (hn : n ≠ 0) (ha : 0 < a) : e = 0 ∧ v = clamp32 (powF (roundE a n)) := by
  obtain ⟨h1, _, h3⟩ := pow_gen h hn (by omega) (by omega)
  rw [show max a (-a) = a by omega] at h3
  exact ⟨h1, h3 (by omega)⟩
theorem pw0 {a v e : Int} (h : powTo a 0 v e) : e = 0 ∧ v = 65536 := by have := h.1 rfl; exact ⟨this.2, this.1⟩
theorem v_zero : powF 0 = 65536 := by decide +kernel
theorem pw2 {n v e : Int} (h : powTo 131072 n v e) : e = 0 ∧ v = clamp32 (powF (n * 65536)) := by
  by_cases hn : n = 0
  · subst hn
    have := pw0 h
    rw [show (0 : Int) * 65536 = 0 by omega, v_zero]
    exact ⟨this.1, this.2⟩
  · have := pow_pos h hn (by omega)
    rwa [roundE_two] at this
theorem pwu {n v e : Int} (h : powTo 65536 n v e) : e = 0 ∧ v = 65536 := by
  by_cases hn : n = 0
  · subst hn; exact pw0 h
  · have := pow_pos h hn (by omega)
    rw [roundE_one, v_zero] at this
    exact this
theorem pw1 {a v e : Int} (h : powTo a 65536 v e) (h0 : -2147483648 ≤ a) (h1 : a ≤ 2147483647) : e = 0 ∧ v = a := by
  rcases Int.lt_trichotomy a 0 with z | z | z
  · obtain ⟨a1, a2, _⟩ := pow_gen h (by omega) (by omega) (by omega)
    have := a2 ⟨z, by decide⟩
    rw [pow_one (by omega) (by omega)] at this
    simp only [clamp32] at this
    omega
  · have := h.2.2.1 (by omega) z (by omega)
    omega
  · have := pow_pos h (by omega) z
    rw [pow_one (by omega) (by omega)] at this
    simp only [clamp32] at this
    omega
theorem whole_k : ∀ k : Fin 31, near24 (longF (2 ^ k.val)) = ((k.val : Int) - 16) * 65536 ∧ clamp32 (powF (((k.val : Int) - 16) * 65536 * 65536)) = 2 ^ k.val ∧ shI .shl .i32 1 (k.val : Int) = 2 ^ k.val ∧ (1 : Int) ≤ 2 ^ k.val := by decide +kernel
theorem v_log : near24 (longF 65536) = 0 ∧ near24 (longF 1) = -1048576 := by decide +kernel
theorem v_pow : clamp32 (powA 196608 131072) = 589824 ∧ clamp32 (powA (-131072) 196608) = -524288 := by decide +kernel
theorem v_exp : clamp32 (powF (0 * 65536)) = 65536 ∧ clamp32 (powF (65536 * 65536)) = 131072 ∧ clamp32 (powF (-1048576 * 65536)) = 1 ∧ clamp32 (powF (-1114112 * 65536)) = 1 ∧ clamp32 (powF (-1179648 * 65536)) = 0 ∧ clamp32 (powF (983040 * 65536)) = 2147483647 ∧ clamp32 (powF (32768 * 65536)) = 92682 := by decide +kernel

theorem p_lives : P_lives := by
  unfold P_lives
  intro hpre
  replace hpre : True := hpre
  refine ⟨trivial, ?_⟩
  intro n l_n u_n
  intro n1 l_n1 u_n1
  intro h_log2
  replace h_log2 : (((65536 : Int) ≤ 0 → n = 0 ∧ n1 = 1) ∧ (0 < (65536 : Int) → n1 = 0 ∧ n = near24 (longF (65536 : Int)))) := h_log2
  have z0 := h_log2.2 (by omega)
  rw [v_log.1] at z0
  clear h_log2
  refine ⟨trivial, ?_⟩
  intro n2 l_n2 u_n2
  intro n3 l_n3 u_n3
  intro h_log21
  replace h_log21 : (((1 : Int) ≤ 0 → n2 = 0 ∧ n3 = 1) ∧ (0 < (1 : Int) → n3 = 0 ∧ n2 = near24 (longF (1 : Int)))) := h_log21
  have z1 := h_log21.2 (by omega)
  rw [v_log.2] at z1
  clear h_log21
  refine ⟨trivial, ?_⟩
  intro n4 l_n4 u_n4
  intro n5 l_n5 u_n5
  intro h_log22
  replace h_log22 : (((0 : Int) ≤ 0 → n4 = 0 ∧ n5 = 1) ∧ (0 < (0 : Int) → n5 = 0 ∧ n4 = near24 (longF (0 : Int)))) := h_log22
  have z2 := h_log22.1 (by omega)
  clear h_log22
  refine ⟨trivial, ?_⟩
  intro n6 l_n6 u_n6
  intro n7 l_n7 u_n7
  intro h_pow
  replace h_pow : powTo (196608 : Int) (131072 : Int) n6 n7 := h_pow
  have z10 := h_pow.2.2.2.2 (by omega) (by omega) (by omega)
  rw [v_pow.1] at z10
  clear h_pow
  refine ⟨trivial, ?_⟩
  intro n8 l_n8 u_n8
  intro n9 l_n9 u_n9
  intro h_pow1
  replace h_pow1 : powTo (-131072 : Int) (196608 : Int) n8 n9 := h_pow1
  have z11 := h_pow1.2.2.2.2 (by omega) (by omega) (by omega)
  rw [v_pow.2] at z11
  clear h_pow1
  refine ⟨trivial, ?_⟩
  intro n10 l_n10 u_n10
  intro n11 l_n11 u_n11
  intro h_pow2
  replace h_pow2 : powTo (-1 : Int) (1 : Int) n10 n11 := h_pow2
  have z12 := h_pow2.2.2.2.1 (by omega) (by omega) (by omega)
  clear h_pow2
  refine ⟨trivial, ?_⟩
  intro n12 l_n12 u_n12
  intro n13 l_n13 u_n13
  intro h_pow3
  replace h_pow3 : powTo (0 : Int) (0 : Int) n12 n13 := h_pow3
  have z13 := h_pow3.1 (by omega)
  clear h_pow3
  refine ⟨trivial, ?_⟩
  intro n14 l_n14 u_n14
  intro n15 l_n15 u_n15
  intro h_pow4
  replace h_pow4 : powTo (0 : Int) (-1 : Int) n14 n15 := h_pow4
  have z14 := h_pow4.2.1 (by omega) (by omega) (by omega)
  clear h_pow4
  refine ⟨fun c0 => ?_, fun c0 => ?_⟩
  · refine ⟨fun c1 => ?_, fun c1 => ?_⟩
    · show (b2i false) = 1
      exfalso; first | omega | (simp only [Classical.not_iff] at *; omega)
    · refine ⟨fun c2 => ?_, fun c2 => ?_⟩
      · refine ⟨fun c3 => ?_, fun c3 => ?_⟩
        · show (b2i false) = 1
          exfalso; first | omega | (simp only [Classical.not_iff] at *; omega)
        · refine ⟨fun c4 => ?_, fun c4 => ?_⟩
          · refine ⟨fun c5 => ?_, fun c5 => ?_⟩
            · show (b2i false) = 1
              exfalso; first | omega | (simp only [Classical.not_iff] at *; omega)
            · refine ⟨fun c6 => ?_, fun c6 => ?_⟩
              · refine ⟨fun c7 => ?_, fun c7 => ?_⟩
                · show (b2i false) = 1
                  exfalso; first | omega | (simp only [Classical.not_iff] at *; omega)
                · refine ⟨fun c8 => ?_, fun c8 => ?_⟩
                  · refine ⟨fun c9 => ?_, fun c9 => ?_⟩
                    · show (b2i false) = 1
                      exfalso; first | omega | (simp only [Classical.not_iff] at *; omega)
                    · refine ⟨fun c10 => ?_, fun c10 => ?_⟩
                      · refine ⟨fun c11 => ?_, fun c11 => ?_⟩
                        · show (b2i false) = 1
                          exfalso; first | omega | (simp only [Classical.not_iff] at *; omega)
                        · refine ⟨fun c12 => ?_, fun c12 => ?_⟩
                          · refine ⟨fun c13 => ?_, fun c13 => ?_⟩
                            · show (b2i false) = 1
                              exfalso; first | omega | (simp only [Classical.not_iff] at *; omega)
                            · refine ⟨fun c14 => ?_, fun c14 => ?_⟩
                              · refine ⟨fun c15 => ?_, fun c15 => ?_⟩
                                · show (b2i false) = 1
                                  exfalso; first | omega | (simp only [Classical.not_iff] at *; omega)
                                · refine ⟨trivial, ?_⟩
                                  intro n16 l_n16 u_n16
                                  intro h_exp2
                                  replace h_exp2 : n16 = clamp32 (powF ((0 : Int) * 65536)) := h_exp2
                                  have z20 := h_exp2.trans v_exp.1
                                  refine ⟨fun c16 => ?_, fun c16 => ?_⟩
                                  · refine ⟨trivial, ?_⟩
                                    intro n17 l_n17 u_n17
                                    intro h_exp21
                                    replace h_exp21 : n17 = clamp32 (powF ((65536 : Int) * 65536)) := h_exp21
                                    have z21 := h_exp21.trans v_exp.2.1
                                    refine ⟨fun c17 => ?_, fun c17 => ?_⟩
                                    · refine ⟨trivial, ?_⟩
                                      intro n18 l_n18 u_n18
                                      intro h_exp22
                                      replace h_exp22 : n18 = clamp32 (powF ((-1048576 : Int) * 65536)) := h_exp22
                                      have z22 := h_exp22.trans v_exp.2.2.1
                                      refine ⟨fun c18 => ?_, fun c18 => ?_⟩
                                      · refine ⟨trivial, ?_⟩
                                        intro n19 l_n19 u_n19
                                        intro h_exp23
                                        replace h_exp23 : n19 = clamp32 (powF ((-1114112 : Int) * 65536)) := h_exp23
                                        have z23 := h_exp23.trans v_exp.2.2.2.1
                                        refine ⟨fun c19 => ?_, fun c19 => ?_⟩
                                        · refine ⟨trivial, ?_⟩
                                          intro n20 l_n20 u_n20
                                          intro h_exp24
                                          replace h_exp24 : n20 = clamp32 (powF ((-1179648 : Int) * 65536)) := h_exp24
                                          have z24 := h_exp24.trans v_exp.2.2.2.2.1
                                          refine ⟨fun c20 => ?_, fun c20 => ?_⟩
                                          · refine ⟨trivial, ?_⟩
                                            intro n21 l_n21 u_n21
                                            intro h_exp25
                                            replace h_exp25 : n21 = clamp32 (powF ((983040 : Int) * 65536)) := h_exp25
                                            have z25 := h_exp25.trans v_exp.2.2.2.2.2.1
                                            refine ⟨fun c21 => ?_, fun c21 => ?_⟩
                                            · refine ⟨trivial, ?_⟩
                                              intro n22 l_n22 u_n22
                                              intro h_exp26
                                              replace h_exp26 : n22 = clamp32 (powF ((32768 : Int) * 65536)) := h_exp26
                                              have z26 := h_exp26.trans v_exp.2.2.2.2.2.2
                                              show (b2i (n22 == 92682)) = 1
                                              rw [z26]; rfl
                                            · show (b2i false) = 1
                                              exfalso; first | omega | (simp only [Classical.not_iff] at *; omega)
                                          · show (b2i false) = 1
                                            exfalso; first | omega | (simp only [Classical.not_iff] at *; omega)
                                        · show (b2i false) = 1
                                          exfalso; first | omega | (simp only [Classical.not_iff] at *; omega)
                                      · show (b2i false) = 1
                                        exfalso; first | omega | (simp only [Classical.not_iff] at *; omega)
                                    · show (b2i false) = 1
                                      exfalso; first | omega | (simp only [Classical.not_iff] at *; omega)
                                  · show (b2i false) = 1
                                    exfalso; first | omega | (simp only [Classical.not_iff] at *; omega)
                              · show (b2i false) = 1
                                exfalso; first | omega | (simp only [Classical.not_iff] at *; omega)
                          · show (b2i false) = 1
                            exfalso; first | omega | (simp only [Classical.not_iff] at *; omega)
                      · show (b2i false) = 1
                        exfalso; first | omega | (simp only [Classical.not_iff] at *; omega)
                  · show (b2i false) = 1
                    exfalso; first | omega | (simp only [Classical.not_iff] at *; omega)
              · show (b2i false) = 1
                exfalso; first | omega | (simp only [Classical.not_iff] at *; omega)
          · show (b2i false) = 1
            exfalso; first | omega | (simp only [Classical.not_iff] at *; omega)
      · show (b2i false) = 1
        exfalso; first | omega | (simp only [Classical.not_iff] at *; omega)
  · show (b2i false) = 1
    exfalso; first | omega | (simp only [Classical.not_iff] at *; omega)

end Go.Proofs.Ythiinecohgmnmaa.Sx
