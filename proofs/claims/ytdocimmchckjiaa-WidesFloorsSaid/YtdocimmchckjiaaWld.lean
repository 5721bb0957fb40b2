/-
  The laws of wides, part d.
-/
import Derived.Test.YtdocimmchckjiaaWla
set_option linter.all false
set_option maxRecDepth 100000
namespace Go.Proofs.Ytdocimmchckjiaa.Sx
open Go Go.RowKit

set_option maxHeartbeats 4000000 in
theorem p_lfloors : P_lfloors := by
  unfold P_lfloors
  intro n l_n u_n
  intro n1 l_n1 u_n1
  intro n2 l_n2 u_n2
  intro hpre
  replace hpre : True := hpre
  intro b
  refine ⟨trivial, ?_⟩
  intro n3 l_n3 u_n3
  intro n4 l_n4 u_n4
  intro n5 l_n5 u_n5
  intro n6 l_n6 u_n6
  intro h_wfloor
  replace h_wfloor : ((n2 < 1 → n3 = 0 ∧ n4 = 0 ∧ n5 = 0 ∧ n6 = 1) ∧ (1 ≤ n2 → n6 = 0 ∧ isFloor (w128 n n1) n2 (w128 n3 n4) n5)) := h_wfloor
  have : w128 n n1 = n * 18446744073709551616 + n1 := rfl
  have : w128 n3 n4 = n3 * 18446744073709551616 + n4 := rfl
  have hff := h_wfloor
  simp only [isFloor] at h_wfloor
  have hqn : 0 ≤ w128 n3 n4 → 0 ≤ w128 n3 n4 * n2 ∨ n2 < 0 := fun q => by
    rcases Int.lt_or_le n2 0 with z | z
    · exact Or.inr z
    · exact Or.inl (Int.mul_nonneg q z)
  intro b1
  refine ⟨trivial, ?_⟩
  intro n7 l_n7 u_n7
  intro n8 l_n8 u_n8
  intro n9 l_n9 u_n9
  intro h_wnear
  replace h_wnear : ((n2 < 1 → n7 = 0 ∧ n8 = 0 ∧ n9 = 1) ∧ (1 ≤ n2 → n9 = 0 ∧ isNear (w128 n n1) n2 (w128 n7 n8))) := h_wnear
  have : w128 n n1 = n * 18446744073709551616 + n1 := rfl
  have : w128 n7 n8 = n7 * 18446744073709551616 + n8 := rfl
  have kn : n2 < 1 ∨ (1 ≤ n2 ∧ n5 < n2 - n5 ∧ w128 n7 n8 = w128 n3 n4) ∨ (1 ≤ n2 ∧ n2 - n5 ≤ n5 ∧ w128 n7 n8 = w128 n3 n4 + 1) := by
    rcases Int.lt_or_le n2 1 with z | z
    · exact Or.inl z
    · rcases Int.lt_or_le n5 (n2 - n5) with y | y
      · exact Or.inr (Or.inl ⟨z, y, near_uniq z (h_wnear.2 z).2 (near_down (hff.2 z).2 y)⟩)
      · exact Or.inr (Or.inr ⟨z, y, near_uniq z (h_wnear.2 z).2 (near_up (hff.2 z).2 y)⟩)
  replace h_wnear := And.intro h_wnear.1 (fun z => (h_wnear.2 z).1)
  intro b2
  refine ⟨fun c0 => ?_, fun c0 => ?_⟩
  · refine ⟨fun c1 => ?_, fun c1 => ?_⟩
    · refine ⟨fun c2 => ?_, fun c2 => ?_⟩
      · refine ⟨fun c3 => ?_, fun c3 => ?_⟩
        · refine ⟨fun c4 => ?_, fun c4 => ?_⟩
          · refine ⟨fun c5 => ?_, fun c5 => ?_⟩
            · refine ⟨trivial, ?_⟩
              intro t
              intro h_lives
              replace h_lives : (b2i t) = 1 := h_lives
              show (b2i t) = 1
              assumption
            · show (b2i false) = 1
              exfalso; omega
          · show (b2i false) = 1
            exfalso; omega
        · show (b2i false) = 1
          exfalso; omega
      · show (b2i false) = 1
        exfalso; omega
    · show (b2i false) = 1
      exfalso; omega
  · refine ⟨trivial, ?_⟩
    intro n10 l_n10 u_n10
    intro n11 l_n11 u_n11
    intro h_wof
    replace h_wof : w128 n10 n11 = (1 : Int) := h_wof
    have : w128 n10 n11 = n10 * 18446744073709551616 + n11 := rfl
    refine ⟨trivial, ?_⟩
    intro n12 l_n12 u_n12
    intro n13 l_n13 u_n13
    intro n14 l_n14 u_n14
    intro h_wadd
    replace h_wadd : tellW (w128 n3 n4 + w128 n10 n11) n12 n13 n14 := h_wadd
    have : w128 n3 n4 = n3 * 18446744073709551616 + n4 := rfl
    have : w128 n10 n11 = n10 * 18446744073709551616 + n11 := rfl
    have : w128 n12 n13 = n12 * 18446744073709551616 + n13 := rfl
    replace h_wadd := tell_or h_wadd
    intro b3
    refine ⟨trivial, ?_⟩
    intro n15 l_n15 u_n15
    intro n16 l_n16 u_n16
    intro n17 l_n17 u_n17
    intro h_wtms
    replace h_wtms : tellW (w128 n3 n4 * n2) n15 n16 n17 := h_wtms
    have : w128 n3 n4 = n3 * 18446744073709551616 + n4 := rfl
    have : w128 n15 n16 = n15 * 18446744073709551616 + n16 := rfl
    replace h_wtms := tell_or h_wtms
    intro b4
    refine ⟨trivial, ?_⟩
    intro n18 l_n18 u_n18
    intro n19 l_n19 u_n19
    intro n20 l_n20 u_n20
    intro h_wsub
    replace h_wsub : tellW (w128 n n1 - w128 n15 n16) n18 n19 n20 := h_wsub
    have : w128 n n1 = n * 18446744073709551616 + n1 := rfl
    have : w128 n15 n16 = n15 * 18446744073709551616 + n16 := rfl
    have : w128 n18 n19 = n18 * 18446744073709551616 + n19 := rfl
    replace h_wsub := tell_or h_wsub
    intro b5
    refine ⟨fun c1 => ?_, fun c1 => ?_⟩
    · refine ⟨trivial, ?_⟩
      intro n21 l_n21 u_n21
      intro n22 l_n22 u_n22
      intro n23 l_n23 u_n23
      intro h_wtms1
      replace h_wtms1 : tellW (w128 n12 n13 * n2) n21 n22 n23 := h_wtms1
      have : w128 n12 n13 = n12 * 18446744073709551616 + n13 := rfl
      have : w128 n21 n22 = n21 * 18446744073709551616 + n22 := rfl
      have : w128 n12 n13 * n2 = w128 n3 n4 * n2 + n2 := by
        rw [show w128 n12 n13 = w128 n3 n4 + 1 by omega]; grind
      replace h_wtms1 := tell_or h_wtms1
      refine ⟨trivial, ?_⟩
      intro n24 l_n24 u_n24
      intro n25 l_n25 u_n25
      intro n26 l_n26 u_n26
      intro h_wsub1
      replace h_wsub1 : tellW (w128 n21 n22 - w128 n n1) n24 n25 n26 := h_wsub1
      have : w128 n21 n22 = n21 * 18446744073709551616 + n22 := rfl
      have : w128 n n1 = n * 18446744073709551616 + n1 := rfl
      have : w128 n24 n25 = n24 * 18446744073709551616 + n25 := rfl
      replace h_wsub1 := tell_or h_wsub1
      refine ⟨trivial, ?_⟩
      intro n27 l_n27 u_n27
      intro n28 l_n28 u_n28
      intro h_wof1
      replace h_wof1 : w128 n27 n28 = n2 := h_wof1
      have : w128 n27 n28 = n27 * 18446744073709551616 + n28 := rfl
      refine ⟨trivial, ?_⟩
      intro n29 l_n29 u_n29
      intro n30 l_n30 u_n30
      intro n31 l_n31 u_n31
      intro h_wsub2
      replace h_wsub2 : tellW (w128 n27 n28 - w128 n24 n25) n29 n30 n31 := h_wsub2
      have : w128 n27 n28 = n27 * 18446744073709551616 + n28 := rfl
      have : w128 n24 n25 = n24 * 18446744073709551616 + n25 := rfl
      have : w128 n29 n30 = n29 * 18446744073709551616 + n30 := rfl
      replace h_wsub2 := tell_or h_wsub2
      refine ⟨fun c2 => ?_, fun c2 => ?_⟩
      · show (b2i false) = 1
        exfalso; omega
      · refine ⟨fun c3 => ?_, fun c3 => ?_⟩
        · show (b2i false) = 1
          exfalso; omega
        · refine ⟨fun c4 => ?_, fun c4 => ?_⟩
          · show (b2i false) = 1
            exfalso; omega
          · refine ⟨fun c5 => ?_, fun c5 => ?_⟩
            · show (b2i false) = 1
              exfalso; omega
            · refine ⟨trivial, ?_⟩
              intro n32 l_n32 u_n32
              intro n33 l_n33 u_n33
              intro h_wof2
              replace h_wof2 : w128 n32 n33 = n5 := h_wof2
              have : w128 n32 n33 = n32 * 18446744073709551616 + n33 := rfl
              refine ⟨fun c6 => ?_, fun c6 => ?_⟩
              · show (b2i false) = 1
                exfalso; omega
              · refine ⟨fun c7 => ?_, fun c7 => ?_⟩
                · show (b2i false) = 1
                  exfalso; omega
                · refine ⟨fun c8 => ?_, fun c8 => ?_⟩
                  · show (b2i false) = 1
                    exfalso; omega
                  · refine ⟨fun c9 => ?_, fun c9 => ?_⟩
                    · simp only [wrap_u64, wrap_i64, wrap_i32, wrap_u32] at c9
                      refine ⟨fun c10 => ?_, fun c10 => ?_⟩
                      · refine ⟨trivial, ?_⟩
                        intro t
                        intro h_lives
                        replace h_lives : (b2i t) = 1 := h_lives
                        show (b2i t) = 1
                        assumption
                      · show (b2i false) = 1
                        exfalso; omega
                    · simp only [wrap_u64, wrap_i64, wrap_i32, wrap_u32] at c9
                      refine ⟨fun c10 => ?_, fun c10 => ?_⟩
                      · refine ⟨fun c11 => ?_, fun c11 => ?_⟩
                        · refine ⟨trivial, ?_⟩
                          intro t
                          intro h_lives
                          replace h_lives : (b2i t) = 1 := h_lives
                          show (b2i t) = 1
                          assumption
                        · show (b2i false) = 1
                          exfalso; omega
                      · show (b2i false) = 1
                        exfalso; omega
    · refine ⟨fun c2 => ?_, fun c2 => ?_⟩
      · show (b2i false) = 1
        exfalso; omega
      · refine ⟨fun c3 => ?_, fun c3 => ?_⟩
        · show (b2i false) = 1
          exfalso; omega
        · refine ⟨fun c4 => ?_, fun c4 => ?_⟩
          · show (b2i false) = 1
            exfalso; omega
          · refine ⟨fun c5 => ?_, fun c5 => ?_⟩
            · show (b2i false) = 1
              exfalso; omega
            · refine ⟨trivial, ?_⟩
              intro n21 l_n21 u_n21
              intro n22 l_n22 u_n22
              intro h_wof1
              replace h_wof1 : w128 n21 n22 = n5 := h_wof1
              have : w128 n21 n22 = n21 * 18446744073709551616 + n22 := rfl
              refine ⟨fun c6 => ?_, fun c6 => ?_⟩
              · show (b2i false) = 1
                exfalso; omega
              · refine ⟨fun c7 => ?_, fun c7 => ?_⟩
                · show (b2i false) = 1
                  exfalso; omega
                · refine ⟨fun c8 => ?_, fun c8 => ?_⟩
                  · show (b2i false) = 1
                    exfalso; omega
                  · refine ⟨fun c9 => ?_, fun c9 => ?_⟩
                    · simp only [wrap_u64, wrap_i64, wrap_i32, wrap_u32] at c9
                      refine ⟨fun c10 => ?_, fun c10 => ?_⟩
                      · refine ⟨trivial, ?_⟩
                        intro t
                        intro h_lives
                        replace h_lives : (b2i t) = 1 := h_lives
                        show (b2i t) = 1
                        assumption
                      · show (b2i false) = 1
                        exfalso; omega
                    · simp only [wrap_u64, wrap_i64, wrap_i32, wrap_u32] at c9
                      refine ⟨fun c10 => ?_, fun c10 => ?_⟩
                      · refine ⟨fun c11 => ?_, fun c11 => ?_⟩
                        · refine ⟨trivial, ?_⟩
                          intro t
                          intro h_lives
                          replace h_lives : (b2i t) = 1 := h_lives
                          show (b2i t) = 1
                          assumption
                        · show (b2i false) = 1
                          exfalso; omega
                      · show (b2i false) = 1
                        exfalso; omega

end Go.Proofs.Ytdocimmchckjiaa.Sx
