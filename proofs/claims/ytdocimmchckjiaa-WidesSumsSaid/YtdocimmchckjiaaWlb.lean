/-
  The laws of wides, part b.
-/
import Derived.Test.YtdocimmchckjiaaWla
set_option linter.all false
set_option maxRecDepth 100000
namespace Go.Proofs.Ytdocimmchckjiaa.Sx
open Go Go.RowKit

set_option maxHeartbeats 4000000 in
theorem p_lsums : P_lsums := by
  unfold P_lsums
  intro n l_n u_n
  intro n1 l_n1 u_n1
  intro n2 l_n2 u_n2
  intro n3 l_n3 u_n3
  intro n4 l_n4 u_n4
  intro n5 l_n5 u_n5
  intro hpre
  replace hpre : True := hpre
  intro b
  refine ⟨trivial, ?_⟩
  intro n6 l_n6 u_n6
  intro n7 l_n7 u_n7
  intro n8 l_n8 u_n8
  intro h_wadd
  replace h_wadd : tellW (w128 n n1 + w128 n2 n3) n6 n7 n8 := h_wadd
  have : w128 n n1 = n * 18446744073709551616 + n1 := rfl
  have : w128 n2 n3 = n2 * 18446744073709551616 + n3 := rfl
  have : w128 n6 n7 = n6 * 18446744073709551616 + n7 := rfl
  replace h_wadd := tell_or h_wadd
  intro b1
  refine ⟨trivial, ?_⟩
  intro n9 l_n9 u_n9
  intro n10 l_n10 u_n10
  intro n11 l_n11 u_n11
  intro h_wadd1
  replace h_wadd1 : tellW (w128 n2 n3 + w128 n n1) n9 n10 n11 := h_wadd1
  have : w128 n2 n3 = n2 * 18446744073709551616 + n3 := rfl
  have : w128 n n1 = n * 18446744073709551616 + n1 := rfl
  have : w128 n9 n10 = n9 * 18446744073709551616 + n10 := rfl
  replace h_wadd1 := tell_or h_wadd1
  intro b2
  refine ⟨fun c0 => ?_, fun c0 => ?_⟩
  · show (b2i false) = 1
    exfalso; omega
  · refine ⟨fun c1 => ?_, fun c1 => ?_⟩
    · show (b2i false) = 1
      exfalso; omega
    · refine ⟨fun c2 => ?_, fun c2 => ?_⟩
      · refine ⟨fun c3 => ?_, fun c3 => ?_⟩
        · show (b2i false) = 1
          exfalso; omega
        · refine ⟨fun c4 => ?_, fun c4 => ?_⟩
          · refine ⟨fun c5 => ?_, fun c5 => ?_⟩
            · refine ⟨trivial, ?_⟩
              intro t
              intro h_lives
              replace h_lives : (b2i t) = 1 := h_lives
              show (b2i t) = 1
              assumption
            · show (b2i false) = 1
              exfalso; omega
          · refine ⟨trivial, ?_⟩
            intro n12 l_n12 u_n12
            intro n13 l_n13 u_n13
            intro n14 l_n14 u_n14
            intro h_wsub
            replace h_wsub : tellW (w128 n6 n7 - w128 n2 n3) n12 n13 n14 := h_wsub
            have : w128 n6 n7 = n6 * 18446744073709551616 + n7 := rfl
            have : w128 n2 n3 = n2 * 18446744073709551616 + n3 := rfl
            have : w128 n12 n13 = n12 * 18446744073709551616 + n13 := rfl
            have gs : n14 = 0 ∧ w128 n12 n13 = w128 n n1 := by have := tell_or h_wsub; omega
            intro b3
            refine ⟨trivial, ?_⟩
            intro n15 l_n15 u_n15
            intro n16 l_n16 u_n16
            intro n17 l_n17 u_n17
            intro h_wadd2
            replace h_wadd2 : tellW (w128 n6 n7 + w128 n4 n5) n15 n16 n17 := h_wadd2
            have : w128 n6 n7 = n6 * 18446744073709551616 + n7 := rfl
            have : w128 n4 n5 = n4 * 18446744073709551616 + n5 := rfl
            have : w128 n15 n16 = n15 * 18446744073709551616 + n16 := rfl
            intro b4
            refine ⟨trivial, ?_⟩
            intro n18 l_n18 u_n18
            intro n19 l_n19 u_n19
            intro n20 l_n20 u_n20
            intro h_wadd3
            replace h_wadd3 : tellW (w128 n2 n3 + w128 n4 n5) n18 n19 n20 := h_wadd3
            have : w128 n2 n3 = n2 * 18446744073709551616 + n3 := rfl
            have : w128 n4 n5 = n4 * 18446744073709551616 + n5 := rfl
            have : w128 n18 n19 = n18 * 18446744073709551616 + n19 := rfl
            intro b5
            refine ⟨trivial, ?_⟩
            intro n21 l_n21 u_n21
            intro n22 l_n22 u_n22
            intro n23 l_n23 u_n23
            intro h_wadd4
            replace h_wadd4 : tellW (w128 n n1 + w128 n18 n19) n21 n22 n23 := h_wadd4
            have : w128 n n1 = n * 18446744073709551616 + n1 := rfl
            have : w128 n18 n19 = n18 * 18446744073709551616 + n19 := rfl
            have : w128 n21 n22 = n21 * 18446744073709551616 + n22 := rfl
            intro b6
            refine ⟨fun c5 => ?_, fun c5 => ?_⟩
            · show (b2i false) = 1
              exfalso; omega
            · refine ⟨fun c6 => ?_, fun c6 => ?_⟩
              · show (b2i false) = 1
                exfalso; omega
              · refine ⟨fun c7 => ?_, fun c7 => ?_⟩
                · have g7 := tell_no h_wadd2 (by omega)
                  refine ⟨trivial, ?_⟩
                  intro t
                  intro h_lives
                  replace h_lives : (b2i t) = 1 := h_lives
                  show (b2i t) = 1
                  assumption
                · have g7 := tell_ok h_wadd2 (by omega)
                  refine ⟨fun c8 => ?_, fun c8 => ?_⟩
                  · have g8 := tell_no h_wadd3 (by omega)
                    refine ⟨trivial, ?_⟩
                    intro t
                    intro h_lives
                    replace h_lives : (b2i t) = 1 := h_lives
                    show (b2i t) = 1
                    assumption
                  · have g8 := tell_ok h_wadd3 (by omega)
                    refine ⟨fun c9 => ?_, fun c9 => ?_⟩
                    · have g9 := tell_no h_wadd4 (by omega)
                      refine ⟨trivial, ?_⟩
                      intro t
                      intro h_lives
                      replace h_lives : (b2i t) = 1 := h_lives
                      show (b2i t) = 1
                      assumption
                    · have g9 := tell_ok h_wadd4 (by omega)
                      refine ⟨fun c10 => ?_, fun c10 => ?_⟩
                      · refine ⟨trivial, ?_⟩
                        intro t
                        intro h_lives
                        replace h_lives : (b2i t) = 1 := h_lives
                        show (b2i t) = 1
                        assumption
                      · show (b2i false) = 1
                        exfalso; omega
      · refine ⟨fun c3 => ?_, fun c3 => ?_⟩
        · refine ⟨fun c4 => ?_, fun c4 => ?_⟩
          · refine ⟨trivial, ?_⟩
            intro t
            intro h_lives
            replace h_lives : (b2i t) = 1 := h_lives
            show (b2i t) = 1
            assumption
          · show (b2i false) = 1
            exfalso; omega
        · refine ⟨trivial, ?_⟩
          intro n12 l_n12 u_n12
          intro n13 l_n13 u_n13
          intro n14 l_n14 u_n14
          intro h_wsub
          replace h_wsub : tellW (w128 n6 n7 - w128 n2 n3) n12 n13 n14 := h_wsub
          have : w128 n6 n7 = n6 * 18446744073709551616 + n7 := rfl
          have : w128 n2 n3 = n2 * 18446744073709551616 + n3 := rfl
          have : w128 n12 n13 = n12 * 18446744073709551616 + n13 := rfl
          have gs : n14 = 0 ∧ w128 n12 n13 = w128 n n1 := by have := tell_or h_wsub; omega
          intro b3
          refine ⟨trivial, ?_⟩
          intro n15 l_n15 u_n15
          intro n16 l_n16 u_n16
          intro n17 l_n17 u_n17
          intro h_wadd2
          replace h_wadd2 : tellW (w128 n6 n7 + w128 n4 n5) n15 n16 n17 := h_wadd2
          have : w128 n6 n7 = n6 * 18446744073709551616 + n7 := rfl
          have : w128 n4 n5 = n4 * 18446744073709551616 + n5 := rfl
          have : w128 n15 n16 = n15 * 18446744073709551616 + n16 := rfl
          intro b4
          refine ⟨trivial, ?_⟩
          intro n18 l_n18 u_n18
          intro n19 l_n19 u_n19
          intro n20 l_n20 u_n20
          intro h_wadd3
          replace h_wadd3 : tellW (w128 n2 n3 + w128 n4 n5) n18 n19 n20 := h_wadd3
          have : w128 n2 n3 = n2 * 18446744073709551616 + n3 := rfl
          have : w128 n4 n5 = n4 * 18446744073709551616 + n5 := rfl
          have : w128 n18 n19 = n18 * 18446744073709551616 + n19 := rfl
          intro b5
          refine ⟨trivial, ?_⟩
          intro n21 l_n21 u_n21
          intro n22 l_n22 u_n22
          intro n23 l_n23 u_n23
          intro h_wadd4
          replace h_wadd4 : tellW (w128 n n1 + w128 n18 n19) n21 n22 n23 := h_wadd4
          have : w128 n n1 = n * 18446744073709551616 + n1 := rfl
          have : w128 n18 n19 = n18 * 18446744073709551616 + n19 := rfl
          have : w128 n21 n22 = n21 * 18446744073709551616 + n22 := rfl
          intro b6
          refine ⟨fun c4 => ?_, fun c4 => ?_⟩
          · show (b2i false) = 1
            exfalso; omega
          · refine ⟨fun c5 => ?_, fun c5 => ?_⟩
            · show (b2i false) = 1
              exfalso; omega
            · refine ⟨fun c6 => ?_, fun c6 => ?_⟩
              · have g6 := tell_no h_wadd2 (by omega)
                refine ⟨trivial, ?_⟩
                intro t
                intro h_lives
                replace h_lives : (b2i t) = 1 := h_lives
                show (b2i t) = 1
                assumption
              · have g6 := tell_ok h_wadd2 (by omega)
                refine ⟨fun c7 => ?_, fun c7 => ?_⟩
                · have g7 := tell_no h_wadd3 (by omega)
                  refine ⟨trivial, ?_⟩
                  intro t
                  intro h_lives
                  replace h_lives : (b2i t) = 1 := h_lives
                  show (b2i t) = 1
                  assumption
                · have g7 := tell_ok h_wadd3 (by omega)
                  refine ⟨fun c8 => ?_, fun c8 => ?_⟩
                  · have g8 := tell_no h_wadd4 (by omega)
                    refine ⟨trivial, ?_⟩
                    intro t
                    intro h_lives
                    replace h_lives : (b2i t) = 1 := h_lives
                    show (b2i t) = 1
                    assumption
                  · have g8 := tell_ok h_wadd4 (by omega)
                    refine ⟨fun c9 => ?_, fun c9 => ?_⟩
                    · refine ⟨trivial, ?_⟩
                      intro t
                      intro h_lives
                      replace h_lives : (b2i t) = 1 := h_lives
                      show (b2i t) = 1
                      assumption
                    · show (b2i false) = 1
                      exfalso; omega

end Go.Proofs.Ytdocimmchckjiaa.Sx
