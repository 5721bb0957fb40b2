/-
  The laws of decodes, part c.
-/
import Derived.Test.YtopeebkkfomdaaaDb
set_option linter.all false
set_option maxRecDepth 100000
namespace Go.Proofs.Ytopeebkkfomdaaa.Sx
open Go Go.RowKit

theorem p_lof : P_lof := by
  unfold P_lof
  intro n l_n u_n
  intro n1 l_n1 u_n1
  intro n2 l_n2 u_n2
  intro n3 l_n3 u_n3
  intro n4 l_n4 u_n4
  intro n5 l_n5 u_n5
  intro n6 l_n6 u_n6
  intro n7 l_n7 u_n7
  intro hpre
  replace hpre : True := hpre
  intro b
  intro b1
  refine ⟨trivial, ?_⟩
  intro n8 l_n8 u_n8
  intro n9 l_n9 u_n9
  intro n10 l_n10 u_n10
  intro n11 l_n11 u_n11
  intro h_value
  replace h_value : ledTo n n1 n2 n3 n8 n9 n10 n11 := h_value
  intro b2
  refine ⟨trivial, ?_⟩
  intro n12 l_n12 u_n12
  intro n13 l_n13 u_n13
  intro n14 l_n14 u_n14
  intro n15 l_n15 u_n15
  intro h_rvalue
  replace h_rvalue : ledTo n n1 n2 n3 n12 n13 n14 n15 := h_rvalue
  have z1 := ledTo_uniq h_value h_rvalue (by omega) (by omega) (by omega) (by omega)
  intro b3
  refine ⟨trivial, ?_⟩
  intro n16 l_n16 u_n16
  intro n17 l_n17 u_n17
  intro h_raw
  replace h_raw : rawOf n4 n1 n2 n3 n16 n17 := h_raw
  refine ⟨trivial, ?_⟩
  intro n18 l_n18 u_n18
  intro n19 l_n19 u_n19
  intro h_rraw
  replace h_rraw : rawOf n4 n1 n2 n3 n18 n19 := h_rraw
  have z2 := rawOf_uniq h_raw h_rraw
  refine ⟨fun c0 => ?_, fun c0 => ?_⟩
  · refine ⟨fun c1 => ?_, fun c1 => ?_⟩
    · refine ⟨fun c2 => ?_, fun c2 => ?_⟩
      · refine ⟨fun c3 => ?_, fun c3 => ?_⟩
        · refine ⟨trivial, ?_⟩
          intro n20 l_n20 u_n20
          intro h_dnear
          replace h_dnear : nearTo n8 n9 n10 n20 := h_dnear
          refine ⟨trivial, ?_⟩
          intro n21 l_n21 u_n21
          intro h_rdnear
          replace h_rdnear : nearTo n12 n13 n14 n21 := h_rdnear
          have z3 := nearTo_uniq h_dnear h_rdnear z1.1 z1.2.1 z1.2.2.1
          refine ⟨fun c4 => ?_, fun c4 => ?_⟩
          · refine ⟨trivial, ?_⟩
            intro n22 l_n22 u_n22
            intro h_dnear1
            replace h_dnear1 : nearTo n5 n6 n7 n22 := h_dnear1
            refine ⟨trivial, ?_⟩
            intro n23 l_n23 u_n23
            intro h_rdnear1
            replace h_rdnear1 : nearTo n5 n6 n7 n23 := h_rdnear1
            have z4 := nearTo_uniq h_dnear1 h_rdnear1 rfl rfl rfl
            refine ⟨fun c5 => ?_, fun c5 => ?_⟩
            · refine ⟨trivial, ?_⟩
              intro t
              intro h_lives
              replace h_lives : (b2i t) = 1 := h_lives
              show (b2i t) = 1
              assumption
            · show (b2i false) = 1
              exfalso; omega
          · show (b2i false) = 1
            exfalso; omega
        · show (b2i false) = 1
          exfalso; omega
      · show (b2i false) = 1
        exfalso; omega
    · show (b2i false) = 1
      exfalso; omega
  · show (b2i false) = 1
    exfalso; omega

end Go.Proofs.Ytopeebkkfomdaaa.Sx
