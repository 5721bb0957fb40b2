/-
  The laws of wides, part e.
-/
import Derived.Test.YtdocimmchckjiaaWla
set_option linter.all false
set_option maxRecDepth 100000
namespace Go.Proofs.Ytdocimmchckjiaa.Sx
open Go Go.RowKit

theorem floor_two {A m n x y z r s t : Int} (h1 : isFloor A m x r) (h2 : isFloor x n y s) (hm : 1 ≤ m) (h3 : isFloor A (m * n) z t) : z = y := by
  refine (floor_uniq h3 (s := s * m + r) ?_).1
  obtain ⟨a1, a2, a3⟩ := h1
  obtain ⟨b1, b2, b3⟩ := h2
  have e : y * (m * n) + (s * m + r) = (y * n + s) * m + r := by grind
  refine ⟨by rw [e, ← b1]; exact a1, ?_, ?_⟩
  · have := Int.mul_nonneg b2 (show 0 ≤ m by omega)
    omega
  · have := Int.mul_le_mul_of_nonneg_right (show s + 1 ≤ n by omega) (show 0 ≤ m by omega)
    have e2 : (s + 1) * m = s * m + m := by grind
    have e3 : n * m = m * n := Int.mul_comm _ _
    omega

theorem p_lhalves : P_lhalves := by
  unfold P_lhalves
  intro n l_n u_n
  intro n1 l_n1 u_n1
  intro n2 l_n2 u_n2
  intro n3 l_n3 u_n3
  intro hpre
  replace hpre : True := hpre
  intro b
  refine ⟨trivial, ?_⟩
  intro n4 l_n4 u_n4
  intro n5 l_n5 u_n5
  intro n6 l_n6 u_n6
  intro n7 l_n7 u_n7
  intro h_wfloor
  replace h_wfloor : (((1 : Int) < 1 → n4 = 0 ∧ n5 = 0 ∧ n6 = 0 ∧ n7 = 1) ∧ (1 ≤ (1 : Int) → n7 = 0 ∧ isFloor (w128 n n1) (1 : Int) (w128 n4 n5) n6)) := h_wfloor
  have : w128 n n1 = n * 18446744073709551616 + n1 := rfl
  have : w128 n4 n5 = n4 * 18446744073709551616 + n5 := rfl
  simp only [isFloor] at h_wfloor
  intro b1
  refine ⟨fun c0 => ?_, fun c0 => ?_⟩
  · show (b2i false) = 1
    exfalso; omega
  · refine ⟨fun c1 => ?_, fun c1 => ?_⟩
    · show (b2i false) = 1
      exfalso; omega
    · refine ⟨fun c2 => ?_, fun c2 => ?_⟩
      · show (b2i false) = 1
        exfalso; omega
      · refine ⟨fun c3 => ?_, fun c3 => ?_⟩
        · refine ⟨trivial, ?_⟩
          intro t
          intro h_lives
          replace h_lives : (b2i t) = 1 := h_lives
          show (b2i t) = 1
          assumption
        · refine ⟨fun c4 => ?_, fun c4 => ?_⟩
          · refine ⟨trivial, ?_⟩
            intro t
            intro h_lives
            replace h_lives : (b2i t) = 1 := h_lives
            show (b2i t) = 1
            assumption
          · refine ⟨trivial, ?_⟩
            intro n8 l_n8 u_n8
            intro n9 l_n9 u_n9
            intro n10 l_n10 u_n10
            intro n11 l_n11 u_n11
            intro h_wfloor1
            replace h_wfloor1 : ((n2 < 1 → n8 = 0 ∧ n9 = 0 ∧ n10 = 0 ∧ n11 = 1) ∧ (1 ≤ n2 → n11 = 0 ∧ isFloor (w128 n n1) n2 (w128 n8 n9) n10)) := h_wfloor1
            have : w128 n n1 = n * 18446744073709551616 + n1 := rfl
            have : w128 n8 n9 = n8 * 18446744073709551616 + n9 := rfl
            have ff1 := (h_wfloor1.2 (by omega)).2
            have fe1 := (h_wfloor1.2 (by omega)).1
            intro b2
            refine ⟨trivial, ?_⟩
            intro n12 l_n12 u_n12
            intro n13 l_n13 u_n13
            intro n14 l_n14 u_n14
            intro n15 l_n15 u_n15
            intro h_wfloor2
            replace h_wfloor2 : ((n3 < 1 → n12 = 0 ∧ n13 = 0 ∧ n14 = 0 ∧ n15 = 1) ∧ (1 ≤ n3 → n15 = 0 ∧ isFloor (w128 n8 n9) n3 (w128 n12 n13) n14)) := h_wfloor2
            have : w128 n8 n9 = n8 * 18446744073709551616 + n9 := rfl
            have : w128 n12 n13 = n12 * 18446744073709551616 + n13 := rfl
            have ff2 := (h_wfloor2.2 (by omega)).2
            have fe2 := (h_wfloor2.2 (by omega)).1
            intro b3
            intro n16 e_n16 l_n16 u_n16
            refine ⟨trivial, ?_⟩
            intro n17 l_n17 u_n17
            intro n18 l_n18 u_n18
            intro n19 l_n19 u_n19
            intro n20 l_n20 u_n20
            intro h_wfloor3
            replace h_wfloor3 : ((n16 < 1 → n17 = 0 ∧ n18 = 0 ∧ n19 = 0 ∧ n20 = 1) ∧ (1 ≤ n16 → n20 = 0 ∧ isFloor (w128 n n1) n16 (w128 n17 n18) n19)) := h_wfloor3
            have : w128 n n1 = n * 18446744073709551616 + n1 := rfl
            have : w128 n17 n18 = n17 * 18446744073709551616 + n18 := rfl
            have hd : 1 ≤ n16 := by
              have := Int.mul_le_mul (show 1 ≤ n2 by omega) (show 1 ≤ n3 by omega) (by omega) (by omega)
              rw [e_n16]; omega
            have ff3 := (h_wfloor3.2 hd).2
            have fe3 := (h_wfloor3.2 hd).1
            have hu := (floor_two ff1 ff2 (by omega) (e_n16 ▸ ff3)).symm
            intro b4
            refine ⟨fun c5 => ?_, fun c5 => ?_⟩
            · refine ⟨fun c6 => ?_, fun c6 => ?_⟩
              · refine ⟨fun c7 => ?_, fun c7 => ?_⟩
                · refine ⟨fun c8 => ?_, fun c8 => ?_⟩
                  · refine ⟨trivial, ?_⟩
                    intro t
                    intro h_lives
                    replace h_lives : (b2i t) = 1 := h_lives
                    show (b2i t) = 1
                    assumption
                  · show (b2i false) = 1
                    exfalso; omega
                · show (b2i false) = 1
                  exfalso; omega
              · show (b2i false) = 1
                exfalso; omega
            · show (b2i false) = 1
              exfalso; omega

end Go.Proofs.Ytdocimmchckjiaa.Sx
