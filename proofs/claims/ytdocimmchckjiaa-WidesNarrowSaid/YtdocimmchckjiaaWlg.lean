/-
  The laws of wides, part g.
-/
import Derived.Test.YtdocimmchckjiaaWla
set_option linter.all false
set_option maxRecDepth 100000
namespace Go.Proofs.Ytdocimmchckjiaa.Sx
open Go Go.RowKit

set_option maxHeartbeats 4000000 in
theorem p_lnarrow : P_lnarrow := by
  unfold P_lnarrow
  intro n l_n u_n
  intro n1 l_n1 u_n1
  intro n2 l_n2 u_n2
  intro hpre
  replace hpre : True := hpre
  intro b
  refine ⟨trivial, ?_⟩
  intro n3 l_n3 u_n3
  intro n4 l_n4 u_n4
  intro h_wof
  replace h_wof : w128 n3 n4 = n2 := h_wof
  simp only [tellW, inW, half128, w128, isFloor, isNear, isInt, isI64] at h_wof
  refine ⟨trivial, ?_⟩
  intro n5 l_n5 u_n5
  intro t
  intro h_wint
  replace h_wint : isInt (w128 n3 n4) n5 (b2i t) := h_wint
  simp only [isInt, isI64, w128] at h_wint
  refine ⟨fun c0 => ?_, fun c0 => ?_⟩
  · show (b2i false) = 1
    exfalso; (try simp only [Classical.not_not, ← b2i_one] at *); omega
  · refine ⟨fun c1 => ?_, fun c1 => ?_⟩
    · have q1 := (b2i_zero t).2 c1
      show (b2i false) = 1
      exfalso; (try simp only [Classical.not_not, ← b2i_one] at *); omega
    · have q1 := (b2i_one t).2 (Classical.not_not.1 c1)
      refine ⟨trivial, ?_⟩
      intro n6 l_n6 u_n6
      intro t1
      intro h_wint1
      replace h_wint1 : isInt (w128 n n1) n6 (b2i t1) := h_wint1
      simp only [isInt, isI64, w128] at h_wint1
      refine ⟨trivial, ?_⟩
      intro n7 l_n7 u_n7
      intro n8 l_n8 u_n8
      intro h_wof1
      replace h_wof1 : w128 n7 n8 = (-9223372036854775808 : Int) := h_wof1
      simp only [tellW, inW, half128, w128, isFloor, isNear, isInt, isI64] at h_wof1
      refine ⟨trivial, ?_⟩
      intro n9 l_n9 u_n9
      intro h_wcmp
      replace h_wcmp : ((w128 n n1 < w128 n7 n8 → n9 = -1) ∧ (w128 n n1 = w128 n7 n8 → n9 = 0) ∧ (w128 n7 n8 < w128 n n1 → n9 = 1)) := h_wcmp
      simp only [tellW, inW, half128, w128, isFloor, isNear, isInt, isI64] at h_wcmp
      refine ⟨fun c2 => ?_, fun c2 => ?_⟩
      · refine ⟨trivial, ?_⟩
        intro n10 l_n10 u_n10
        intro n11 l_n11 u_n11
        intro h_wof2
        replace h_wof2 : w128 n10 n11 = (9223372036854775807 : Int) := h_wof2
        simp only [tellW, inW, half128, w128, isFloor, isNear, isInt, isI64] at h_wof2
        refine ⟨trivial, ?_⟩
        intro n12 l_n12 u_n12
        intro h_wcmp1
        replace h_wcmp1 : ((w128 n n1 < w128 n10 n11 → n12 = -1) ∧ (w128 n n1 = w128 n10 n11 → n12 = 0) ∧ (w128 n10 n11 < w128 n n1 → n12 = 1)) := h_wcmp1
        simp only [tellW, inW, half128, w128, isFloor, isNear, isInt, isI64] at h_wcmp1
        refine ⟨fun c3 => ?_, fun c3 => ?_⟩
        · refine ⟨fun c4 => ?_, fun c4 => ?_⟩
          · have q4 := (b2i_one t1).2 c4
            refine ⟨trivial, ?_⟩
            intro n13 l_n13 u_n13
            intro n14 l_n14 u_n14
            intro h_wof3
            replace h_wof3 : w128 n13 n14 = n6 := h_wof3
            simp only [tellW, inW, half128, w128, isFloor, isNear, isInt, isI64] at h_wof3
            refine ⟨fun c5 => ?_, fun c5 => ?_⟩
            · refine ⟨trivial, ?_⟩
              intro t2
              intro h_lives
              replace h_lives : (b2i t2) = 1 := h_lives
              show (b2i t2) = 1
              assumption
            · refine ⟨fun c6 => ?_, fun c6 => ?_⟩
              · have q6 := (b2i_zero t1).2 c6
                refine ⟨fun c7 => ?_, fun c7 => ?_⟩
                · refine ⟨trivial, ?_⟩
                  intro t2
                  intro h_lives
                  replace h_lives : (b2i t2) = 1 := h_lives
                  show (b2i t2) = 1
                  assumption
                · show (b2i false) = 1
                  exfalso; (try simp only [Classical.not_not, ← b2i_one] at *); omega
              · have q6 := (b2i_one t1).2 (Classical.not_not.1 c6)
                show (b2i false) = 1
                exfalso; (try simp only [Classical.not_not, ← b2i_one] at *); omega
          · have q4 := (b2i_zero t1).2 c4
            refine ⟨fun c5 => ?_, fun c5 => ?_⟩
            · have q5 := (b2i_zero t1).2 c5
              refine ⟨fun c6 => ?_, fun c6 => ?_⟩
              · refine ⟨trivial, ?_⟩
                intro t2
                intro h_lives
                replace h_lives : (b2i t2) = 1 := h_lives
                show (b2i t2) = 1
                assumption
              · show (b2i false) = 1
                exfalso; (try simp only [Classical.not_not, ← b2i_one] at *); omega
            · have q5 := (b2i_one t1).2 (Classical.not_not.1 c5)
              show (b2i false) = 1
              exfalso; (try simp only [Classical.not_not, ← b2i_one] at *); omega
        · show (b2i false) = 1
          exfalso; (try simp only [Classical.not_not, ← b2i_one] at *); omega
      · refine ⟨fun c3 => ?_, fun c3 => ?_⟩
        · have q3 := (b2i_zero t1).2 c3
          refine ⟨fun c4 => ?_, fun c4 => ?_⟩
          · have q4 := (b2i_one t1).2 c4
            refine ⟨trivial, ?_⟩
            intro n10 l_n10 u_n10
            intro n11 l_n11 u_n11
            intro h_wof2
            replace h_wof2 : w128 n10 n11 = n6 := h_wof2
            simp only [tellW, inW, half128, w128, isFloor, isNear, isInt, isI64] at h_wof2
            refine ⟨fun c5 => ?_, fun c5 => ?_⟩
            · refine ⟨trivial, ?_⟩
              intro t2
              intro h_lives
              replace h_lives : (b2i t2) = 1 := h_lives
              show (b2i t2) = 1
              assumption
            · refine ⟨fun c6 => ?_, fun c6 => ?_⟩
              · have q6 := (b2i_zero t1).2 c6
                refine ⟨fun c7 => ?_, fun c7 => ?_⟩
                · refine ⟨trivial, ?_⟩
                  intro t2
                  intro h_lives
                  replace h_lives : (b2i t2) = 1 := h_lives
                  show (b2i t2) = 1
                  assumption
                · show (b2i false) = 1
                  exfalso; (try simp only [Classical.not_not, ← b2i_one] at *); omega
              · have q6 := (b2i_one t1).2 (Classical.not_not.1 c6)
                show (b2i false) = 1
                exfalso; (try simp only [Classical.not_not, ← b2i_one] at *); omega
          · have q4 := (b2i_zero t1).2 c4
            refine ⟨fun c5 => ?_, fun c5 => ?_⟩
            · have q5 := (b2i_zero t1).2 c5
              refine ⟨fun c6 => ?_, fun c6 => ?_⟩
              · refine ⟨trivial, ?_⟩
                intro t2
                intro h_lives
                replace h_lives : (b2i t2) = 1 := h_lives
                show (b2i t2) = 1
                assumption
              · show (b2i false) = 1
                exfalso; (try simp only [Classical.not_not, ← b2i_one] at *); omega
            · have q5 := (b2i_one t1).2 (Classical.not_not.1 c5)
              show (b2i false) = 1
              exfalso; (try simp only [Classical.not_not, ← b2i_one] at *); omega
        · have q3 := (b2i_one t1).2 (Classical.not_not.1 c3)
          show (b2i false) = 1
          exfalso; (try simp only [Classical.not_not, ← b2i_one] at *); omega

end Go.Proofs.Ytdocimmchckjiaa.Sx
