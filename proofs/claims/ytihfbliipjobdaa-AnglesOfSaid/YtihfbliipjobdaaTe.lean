/-
  The law AnglesOf, plainly.
-/
import Derived.Test.YtihfbliipjobdaaTa
import Derived.Test.YtihfbliipjobdaaTc
import Derived.Test.YtihfbliipjobdaaTd
set_option linter.all false
set_option maxRecDepth 100000
namespace Go.Proofs.Ytihfbliipjobdaa.Sx
open Go Go.RowKit

theorem p_lof : P_lof := by
  unfold P_lof
  intro n l_n u_n
  intro n1 l_n1 u_n1
  intro n2 l_n2 u_n2
  intro hpre
  replace hpre : True := hpre
  refine ⟨trivial, ?_⟩
  intro n3 l_n3 u_n3
  intro n4 l_n4 u_n4
  intro h_atan
  replace h_atan : ((n2 = 0 ∧ n1 = 0 → n3 = 0 ∧ n4 = 12) ∧ (¬ (n2 = 0 ∧ n1 = 0) → n4 = 0 ∧ n3 = atF n1 n2)) := h_atan
  refine ⟨trivial, ?_⟩
  intro n5 l_n5 u_n5
  intro n6 l_n6 u_n6
  intro h_ratan
  replace h_ratan : ((n2 = 0 ∧ n1 = 0 → n5 = 0 ∧ n6 = 12) ∧ (¬ (n2 = 0 ∧ n1 = 0) → n6 = 0 ∧ n5 = atF n1 n2)) := h_ratan
  refine ⟨trivial, ?_⟩
  intro n7 l_n7 u_n7
  intro h_asin
  replace h_asin : n7 = sinF n := h_asin
  refine ⟨trivial, ?_⟩
  intro n8 l_n8 u_n8
  intro h_rsin
  replace h_rsin : n8 = sinF n := h_rsin
  refine ⟨fun c0 => ?_, fun c0 => ?_⟩
  · refine ⟨trivial, ?_⟩
    intro n9 l_n9 u_n9
    intro h_acos
    replace h_acos : n9 = cosF n := h_acos
    refine ⟨trivial, ?_⟩
    intro n10 l_n10 u_n10
    intro h_rcos
    replace h_rcos : n10 = cosF n := h_rcos
    refine ⟨fun c1 => ?_, fun c1 => ?_⟩
    · refine ⟨fun c2 => ?_, fun c2 => ?_⟩
      · refine ⟨fun c3 => ?_, fun c3 => ?_⟩
        · refine ⟨trivial, ?_⟩
          intro t
          intro h_lives
          replace h_lives : (b2i t) = 1 := h_lives
          show (b2i t) = 1
          assumption
        · show (b2i false) = 1
          exfalso; omega
      · show (b2i false) = 1
        exfalso; omega
    · show (b2i false) = 1
      exfalso; omega
  · show (b2i false) = 1
    exfalso; omega

theorem p_turns : P_turns := turns_new p_tround p_tnext

end Go.Proofs.Ytihfbliipjobdaa.Sx
