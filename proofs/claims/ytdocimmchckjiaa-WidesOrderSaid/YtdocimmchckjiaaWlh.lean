/-
  The laws of wides, part h.
-/
import Derived.Test.YtdocimmchckjiaaWlf
set_option linter.all false
set_option maxRecDepth 100000
namespace Go.Proofs.Ytdocimmchckjiaa.Sx
open Go Go.RowKit

/-- how two numbers stand, told by one. -/
structure Cmp3 (x y c : Int) : Prop where
  o : (c = -1 ∧ x < y) ∨ (c = 0 ∧ x = y) ∨ (c = 1 ∧ y < x)
theorem cmp_in {x y c : Int} (h : (x < y → c = -1) ∧ (x = y → c = 0) ∧ (y < x → c = 1)) : Cmp3 x y c := ⟨by omega⟩
theorem cmp_neg {x y c d : Int} (h : Cmp3 x y c) (k : Cmp3 y x d) : c = -d := by have := h.o; have := k.o; omega
theorem cmp_eq {a b c d k : Int} (h : Cmp3 (w128 a b) (w128 c d) k) (h1 : 0 ≤ b) (h2 : b ≤ 18446744073709551615) (h3 : 0 ≤ d) (h4 : d ≤ 18446744073709551615) : k = 0 ↔ a = c ∧ b = d := by
  have := h.o
  constructor
  · intro z; exact w_inj (by omega) h1 h2 h3 h4
  · rintro ⟨rfl, rfl⟩; omega
theorem cmp_sub {x y z w c d : Int} (h : Cmp3 x y c) (k : Cmp3 z w d) (e : z = x - y) (f : w = 0) : d = c := by have := h.o; have := k.o; omega
theorem cmp_add {x y u z w c d : Int} (h : Cmp3 x y c) (k : Cmp3 z w d) (e : z = x + u) (f : w = y + u) : d = c := by have := h.o; have := k.o; omega
theorem cmp_trans {x y z c d k : Int} (h : Cmp3 x y c) (g : Cmp3 y z d) (e : Cmp3 x z k) : c = d → c ≠ 0 → k = c := by have := h.o; have := g.o; have := e.o; omega

set_option maxHeartbeats 4000000 in
theorem p_lorder : P_lorder := by
  unfold P_lorder
  intro n l_n u_n
  intro n1 l_n1 u_n1
  intro n2 l_n2 u_n2
  intro n3 l_n3 u_n3
  intro n4 l_n4 u_n4
  intro n5 l_n5 u_n5
  intro hpre
  replace hpre : True := hpre
  intro b
  refine ⟨trivial, ?_⟩
  intro n6 l_n6 u_n6
  intro h_wcmp
  replace h_wcmp : ((w128 n n1 < w128 n2 n3 → n6 = -1) ∧ (w128 n n1 = w128 n2 n3 → n6 = 0) ∧ (w128 n2 n3 < w128 n n1 → n6 = 1)) := h_wcmp
  replace h_wcmp := cmp_in h_wcmp
  have t0 := cmp_eq h_wcmp l_n1 u_n1 l_n3 u_n3
  refine ⟨trivial, ?_⟩
  intro n7 l_n7 u_n7
  intro h_wcmp1
  replace h_wcmp1 : ((w128 n2 n3 < w128 n4 n5 → n7 = -1) ∧ (w128 n2 n3 = w128 n4 n5 → n7 = 0) ∧ (w128 n4 n5 < w128 n2 n3 → n7 = 1)) := h_wcmp1
  replace h_wcmp1 := cmp_in h_wcmp1
  refine ⟨trivial, ?_⟩
  intro n8 l_n8 u_n8
  intro h_wcmp2
  replace h_wcmp2 : ((w128 n2 n3 < w128 n n1 → n8 = -1) ∧ (w128 n2 n3 = w128 n n1 → n8 = 0) ∧ (w128 n n1 < w128 n2 n3 → n8 = 1)) := h_wcmp2
  replace h_wcmp2 := cmp_in h_wcmp2
  have t1 := cmp_neg h_wcmp h_wcmp2
  refine ⟨fun c0 => ?_, fun c0 => ?_⟩
  · show (b2i false) = 1
    exfalso; omega
  · refine ⟨fun c1 => ?_, fun c1 => ?_⟩
    · show (b2i false) = 1
      exfalso; omega
    · refine ⟨trivial, ?_⟩
      intro n9 l_n9 u_n9
      intro n10 l_n10 u_n10
      intro n11 l_n11 u_n11
      intro h_wsub
      replace h_wsub : tellW (w128 n n1 - w128 n2 n3) n9 n10 n11 := h_wsub
      intro b1
      refine ⟨fun c2 => ?_, fun c2 => ?_⟩
      · have g2 := tell_ok h_wsub (by omega)
        refine ⟨trivial, ?_⟩
        intro n12 l_n12 u_n12
        intro n13 l_n13 u_n13
        intro h_wof
        replace h_wof : w128 n12 n13 = (0 : Int) := h_wof
        refine ⟨trivial, ?_⟩
        intro n14 l_n14 u_n14
        intro h_wcmp3
        replace h_wcmp3 : ((w128 n9 n10 < w128 n12 n13 → n14 = -1) ∧ (w128 n9 n10 = w128 n12 n13 → n14 = 0) ∧ (w128 n12 n13 < w128 n9 n10 → n14 = 1)) := h_wcmp3
        replace h_wcmp3 := cmp_in h_wcmp3
        have t2 := cmp_sub h_wcmp h_wcmp3 g2.1 h_wof
        refine ⟨fun c3 => ?_, fun c3 => ?_⟩
        · show (b2i false) = 1
          exfalso; omega
        · refine ⟨fun c4 => ?_, fun c4 => ?_⟩
          · refine ⟨fun c5 => ?_, fun c5 => ?_⟩
            · refine ⟨trivial, ?_⟩
              intro n15 l_n15 u_n15
              intro h_wcmp4
              replace h_wcmp4 : ((w128 n n1 < w128 n4 n5 → n15 = -1) ∧ (w128 n n1 = w128 n4 n5 → n15 = 0) ∧ (w128 n4 n5 < w128 n n1 → n15 = 1)) := h_wcmp4
              replace h_wcmp4 := cmp_in h_wcmp4
              have t3 := cmp_trans h_wcmp h_wcmp1 h_wcmp4
              refine ⟨fun c6 => ?_, fun c6 => ?_⟩
              · show (b2i false) = 1
                exfalso; omega
              · refine ⟨trivial, ?_⟩
                intro n16 l_n16 u_n16
                intro n17 l_n17 u_n17
                intro n18 l_n18 u_n18
                intro h_wadd
                replace h_wadd : tellW (w128 n n1 + w128 n4 n5) n16 n17 n18 := h_wadd
                intro b2
                refine ⟨trivial, ?_⟩
                intro n19 l_n19 u_n19
                intro n20 l_n20 u_n20
                intro n21 l_n21 u_n21
                intro h_wadd1
                replace h_wadd1 : tellW (w128 n2 n3 + w128 n4 n5) n19 n20 n21 := h_wadd1
                intro b3
                refine ⟨fun c7 => ?_, fun c7 => ?_⟩
                · have g7 := tell_no h_wadd (by omega)
                  refine ⟨trivial, ?_⟩
                  intro t
                  intro h_lives
                  replace h_lives : (b2i t) = 1 := h_lives
                  show (b2i t) = 1
                  assumption
                · have g7 := tell_ok h_wadd (by omega)
                  refine ⟨fun c8 => ?_, fun c8 => ?_⟩
                  · have g8 := tell_no h_wadd1 (by omega)
                    refine ⟨trivial, ?_⟩
                    intro t
                    intro h_lives
                    replace h_lives : (b2i t) = 1 := h_lives
                    show (b2i t) = 1
                    assumption
                  · have g8 := tell_ok h_wadd1 (by omega)
                    refine ⟨trivial, ?_⟩
                    intro n22 l_n22 u_n22
                    intro h_wcmp5
                    replace h_wcmp5 : ((w128 n16 n17 < w128 n19 n20 → n22 = -1) ∧ (w128 n16 n17 = w128 n19 n20 → n22 = 0) ∧ (w128 n19 n20 < w128 n16 n17 → n22 = 1)) := h_wcmp5
                    replace h_wcmp5 := cmp_in h_wcmp5
                    have t4 := cmp_add h_wcmp h_wcmp5 (tell_ok h_wadd (by omega)).1 (tell_ok h_wadd1 (by omega)).1
                    refine ⟨fun c9 => ?_, fun c9 => ?_⟩
                    · refine ⟨trivial, ?_⟩
                      intro t
                      intro h_lives
                      replace h_lives : (b2i t) = 1 := h_lives
                      show (b2i t) = 1
                      assumption
                    · show (b2i false) = 1
                      exfalso; omega
            · refine ⟨trivial, ?_⟩
              intro n15 l_n15 u_n15
              intro n16 l_n16 u_n16
              intro n17 l_n17 u_n17
              intro h_wadd
              replace h_wadd : tellW (w128 n n1 + w128 n4 n5) n15 n16 n17 := h_wadd
              intro b2
              refine ⟨trivial, ?_⟩
              intro n18 l_n18 u_n18
              intro n19 l_n19 u_n19
              intro n20 l_n20 u_n20
              intro h_wadd1
              replace h_wadd1 : tellW (w128 n2 n3 + w128 n4 n5) n18 n19 n20 := h_wadd1
              intro b3
              refine ⟨fun c6 => ?_, fun c6 => ?_⟩
              · have g6 := tell_no h_wadd (by omega)
                refine ⟨trivial, ?_⟩
                intro t
                intro h_lives
                replace h_lives : (b2i t) = 1 := h_lives
                show (b2i t) = 1
                assumption
              · have g6 := tell_ok h_wadd (by omega)
                refine ⟨fun c7 => ?_, fun c7 => ?_⟩
                · have g7 := tell_no h_wadd1 (by omega)
                  refine ⟨trivial, ?_⟩
                  intro t
                  intro h_lives
                  replace h_lives : (b2i t) = 1 := h_lives
                  show (b2i t) = 1
                  assumption
                · have g7 := tell_ok h_wadd1 (by omega)
                  refine ⟨trivial, ?_⟩
                  intro n21 l_n21 u_n21
                  intro h_wcmp4
                  replace h_wcmp4 : ((w128 n15 n16 < w128 n18 n19 → n21 = -1) ∧ (w128 n15 n16 = w128 n18 n19 → n21 = 0) ∧ (w128 n18 n19 < w128 n15 n16 → n21 = 1)) := h_wcmp4
                  replace h_wcmp4 := cmp_in h_wcmp4
                  have t4 := cmp_add h_wcmp h_wcmp4 (tell_ok h_wadd (by omega)).1 (tell_ok h_wadd1 (by omega)).1
                  refine ⟨fun c8 => ?_, fun c8 => ?_⟩
                  · refine ⟨trivial, ?_⟩
                    intro t
                    intro h_lives
                    replace h_lives : (b2i t) = 1 := h_lives
                    show (b2i t) = 1
                    assumption
                  · show (b2i false) = 1
                    exfalso; omega
          · refine ⟨trivial, ?_⟩
            intro n15 l_n15 u_n15
            intro n16 l_n16 u_n16
            intro n17 l_n17 u_n17
            intro h_wadd
            replace h_wadd : tellW (w128 n n1 + w128 n4 n5) n15 n16 n17 := h_wadd
            intro b2
            refine ⟨trivial, ?_⟩
            intro n18 l_n18 u_n18
            intro n19 l_n19 u_n19
            intro n20 l_n20 u_n20
            intro h_wadd1
            replace h_wadd1 : tellW (w128 n2 n3 + w128 n4 n5) n18 n19 n20 := h_wadd1
            intro b3
            refine ⟨fun c5 => ?_, fun c5 => ?_⟩
            · have g5 := tell_no h_wadd (by omega)
              refine ⟨trivial, ?_⟩
              intro t
              intro h_lives
              replace h_lives : (b2i t) = 1 := h_lives
              show (b2i t) = 1
              assumption
            · have g5 := tell_ok h_wadd (by omega)
              refine ⟨fun c6 => ?_, fun c6 => ?_⟩
              · have g6 := tell_no h_wadd1 (by omega)
                refine ⟨trivial, ?_⟩
                intro t
                intro h_lives
                replace h_lives : (b2i t) = 1 := h_lives
                show (b2i t) = 1
                assumption
              · have g6 := tell_ok h_wadd1 (by omega)
                refine ⟨trivial, ?_⟩
                intro n21 l_n21 u_n21
                intro h_wcmp4
                replace h_wcmp4 : ((w128 n15 n16 < w128 n18 n19 → n21 = -1) ∧ (w128 n15 n16 = w128 n18 n19 → n21 = 0) ∧ (w128 n18 n19 < w128 n15 n16 → n21 = 1)) := h_wcmp4
                replace h_wcmp4 := cmp_in h_wcmp4
                have t4 := cmp_add h_wcmp h_wcmp4 (tell_ok h_wadd (by omega)).1 (tell_ok h_wadd1 (by omega)).1
                refine ⟨fun c7 => ?_, fun c7 => ?_⟩
                · refine ⟨trivial, ?_⟩
                  intro t
                  intro h_lives
                  replace h_lives : (b2i t) = 1 := h_lives
                  show (b2i t) = 1
                  assumption
                · show (b2i false) = 1
                  exfalso; omega
      · have g2 := tell_no h_wsub (by omega)
        refine ⟨fun c3 => ?_, fun c3 => ?_⟩
        · refine ⟨fun c4 => ?_, fun c4 => ?_⟩
          · refine ⟨trivial, ?_⟩
            intro n12 l_n12 u_n12
            intro h_wcmp3
            replace h_wcmp3 : ((w128 n n1 < w128 n4 n5 → n12 = -1) ∧ (w128 n n1 = w128 n4 n5 → n12 = 0) ∧ (w128 n4 n5 < w128 n n1 → n12 = 1)) := h_wcmp3
            replace h_wcmp3 := cmp_in h_wcmp3
            have t3 := cmp_trans h_wcmp h_wcmp1 h_wcmp3
            refine ⟨fun c5 => ?_, fun c5 => ?_⟩
            · show (b2i false) = 1
              exfalso; omega
            · refine ⟨trivial, ?_⟩
              intro n13 l_n13 u_n13
              intro n14 l_n14 u_n14
              intro n15 l_n15 u_n15
              intro h_wadd
              replace h_wadd : tellW (w128 n n1 + w128 n4 n5) n13 n14 n15 := h_wadd
              intro b2
              refine ⟨trivial, ?_⟩
              intro n16 l_n16 u_n16
              intro n17 l_n17 u_n17
              intro n18 l_n18 u_n18
              intro h_wadd1
              replace h_wadd1 : tellW (w128 n2 n3 + w128 n4 n5) n16 n17 n18 := h_wadd1
              intro b3
              refine ⟨fun c6 => ?_, fun c6 => ?_⟩
              · have g6 := tell_no h_wadd (by omega)
                refine ⟨trivial, ?_⟩
                intro t
                intro h_lives
                replace h_lives : (b2i t) = 1 := h_lives
                show (b2i t) = 1
                assumption
              · have g6 := tell_ok h_wadd (by omega)
                refine ⟨fun c7 => ?_, fun c7 => ?_⟩
                · have g7 := tell_no h_wadd1 (by omega)
                  refine ⟨trivial, ?_⟩
                  intro t
                  intro h_lives
                  replace h_lives : (b2i t) = 1 := h_lives
                  show (b2i t) = 1
                  assumption
                · have g7 := tell_ok h_wadd1 (by omega)
                  refine ⟨trivial, ?_⟩
                  intro n19 l_n19 u_n19
                  intro h_wcmp4
                  replace h_wcmp4 : ((w128 n13 n14 < w128 n16 n17 → n19 = -1) ∧ (w128 n13 n14 = w128 n16 n17 → n19 = 0) ∧ (w128 n16 n17 < w128 n13 n14 → n19 = 1)) := h_wcmp4
                  replace h_wcmp4 := cmp_in h_wcmp4
                  have t4 := cmp_add h_wcmp h_wcmp4 (tell_ok h_wadd (by omega)).1 (tell_ok h_wadd1 (by omega)).1
                  refine ⟨fun c8 => ?_, fun c8 => ?_⟩
                  · refine ⟨trivial, ?_⟩
                    intro t
                    intro h_lives
                    replace h_lives : (b2i t) = 1 := h_lives
                    show (b2i t) = 1
                    assumption
                  · show (b2i false) = 1
                    exfalso; omega
          · refine ⟨trivial, ?_⟩
            intro n12 l_n12 u_n12
            intro n13 l_n13 u_n13
            intro n14 l_n14 u_n14
            intro h_wadd
            replace h_wadd : tellW (w128 n n1 + w128 n4 n5) n12 n13 n14 := h_wadd
            intro b2
            refine ⟨trivial, ?_⟩
            intro n15 l_n15 u_n15
            intro n16 l_n16 u_n16
            intro n17 l_n17 u_n17
            intro h_wadd1
            replace h_wadd1 : tellW (w128 n2 n3 + w128 n4 n5) n15 n16 n17 := h_wadd1
            intro b3
            refine ⟨fun c5 => ?_, fun c5 => ?_⟩
            · have g5 := tell_no h_wadd (by omega)
              refine ⟨trivial, ?_⟩
              intro t
              intro h_lives
              replace h_lives : (b2i t) = 1 := h_lives
              show (b2i t) = 1
              assumption
            · have g5 := tell_ok h_wadd (by omega)
              refine ⟨fun c6 => ?_, fun c6 => ?_⟩
              · have g6 := tell_no h_wadd1 (by omega)
                refine ⟨trivial, ?_⟩
                intro t
                intro h_lives
                replace h_lives : (b2i t) = 1 := h_lives
                show (b2i t) = 1
                assumption
              · have g6 := tell_ok h_wadd1 (by omega)
                refine ⟨trivial, ?_⟩
                intro n18 l_n18 u_n18
                intro h_wcmp3
                replace h_wcmp3 : ((w128 n12 n13 < w128 n15 n16 → n18 = -1) ∧ (w128 n12 n13 = w128 n15 n16 → n18 = 0) ∧ (w128 n15 n16 < w128 n12 n13 → n18 = 1)) := h_wcmp3
                replace h_wcmp3 := cmp_in h_wcmp3
                have t4 := cmp_add h_wcmp h_wcmp3 (tell_ok h_wadd (by omega)).1 (tell_ok h_wadd1 (by omega)).1
                refine ⟨fun c7 => ?_, fun c7 => ?_⟩
                · refine ⟨trivial, ?_⟩
                  intro t
                  intro h_lives
                  replace h_lives : (b2i t) = 1 := h_lives
                  show (b2i t) = 1
                  assumption
                · show (b2i false) = 1
                  exfalso; omega
        · refine ⟨trivial, ?_⟩
          intro n12 l_n12 u_n12
          intro n13 l_n13 u_n13
          intro n14 l_n14 u_n14
          intro h_wadd
          replace h_wadd : tellW (w128 n n1 + w128 n4 n5) n12 n13 n14 := h_wadd
          intro b2
          refine ⟨trivial, ?_⟩
          intro n15 l_n15 u_n15
          intro n16 l_n16 u_n16
          intro n17 l_n17 u_n17
          intro h_wadd1
          replace h_wadd1 : tellW (w128 n2 n3 + w128 n4 n5) n15 n16 n17 := h_wadd1
          intro b3
          refine ⟨fun c4 => ?_, fun c4 => ?_⟩
          · have g4 := tell_no h_wadd (by omega)
            refine ⟨trivial, ?_⟩
            intro t
            intro h_lives
            replace h_lives : (b2i t) = 1 := h_lives
            show (b2i t) = 1
            assumption
          · have g4 := tell_ok h_wadd (by omega)
            refine ⟨fun c5 => ?_, fun c5 => ?_⟩
            · have g5 := tell_no h_wadd1 (by omega)
              refine ⟨trivial, ?_⟩
              intro t
              intro h_lives
              replace h_lives : (b2i t) = 1 := h_lives
              show (b2i t) = 1
              assumption
            · have g5 := tell_ok h_wadd1 (by omega)
              refine ⟨trivial, ?_⟩
              intro n18 l_n18 u_n18
              intro h_wcmp3
              replace h_wcmp3 : ((w128 n12 n13 < w128 n15 n16 → n18 = -1) ∧ (w128 n12 n13 = w128 n15 n16 → n18 = 0) ∧ (w128 n15 n16 < w128 n12 n13 → n18 = 1)) := h_wcmp3
              replace h_wcmp3 := cmp_in h_wcmp3
              have t4 := cmp_add h_wcmp h_wcmp3 (tell_ok h_wadd (by omega)).1 (tell_ok h_wadd1 (by omega)).1
              refine ⟨fun c6 => ?_, fun c6 => ?_⟩
              · refine ⟨trivial, ?_⟩
                intro t
                intro h_lives
                replace h_lives : (b2i t) = 1 := h_lives
                show (b2i t) = 1
                assumption
              · show (b2i false) = 1
                exfalso; omega

end Go.Proofs.Ytdocimmchckjiaa.Sx
