/-
  The laws of powers, part f.
-/
import Derived.Test.YtkknmicgalkgjaaPwe
set_option linter.all false
set_option maxRecDepth 100000
namespace Go.Proofs.Ytkknmicgalkgjaa.Sx
open Go Go.RowKit

theorem p_lwhole : P_lwhole := by
  unfold P_lwhole
  intro n l_n u_n
  intro n1 l_n1 u_n1
  intro hpre
  replace hpre : True := hpre
  refine ⟨fun c0 => ?_, fun c0 => ?_⟩
  · refine ⟨fun c1 => ?_, fun c1 => ?_⟩
    · refine ⟨by omega, ?_⟩
      intro n2 e_n2 l_n2 u_n2
      intro n3 e_n3 l_n3 u_n3
      have wk := whole_k ⟨n2.toNat, by omega⟩
      simp only at wk
      rw [show ((n2.toNat : Nat) : Int) = n2 by omega] at wk
      have wk3 := wk.2.2.1
      rw [← e_n3] at wk3
      rw [← wk3] at wk
      refine ⟨trivial, ?_⟩
      intro n4 l_n4 u_n4
      intro n5 l_n5 u_n5
      intro h_log2
      replace h_log2 : ((n3 ≤ 0 → n4 = 0 ∧ n5 = 1) ∧ (0 < n3 → n5 = 0 ∧ n4 = near24 (longF n3))) := h_log2
      have z0 := h_log2.2 (by omega)
      rw [wk.1] at z0
      clear h_log2
      intro n6 e_n6 l_n6 u_n6
      refine ⟨trivial, ?_⟩
      intro n7 l_n7 u_n7
      intro h_exp2
      replace h_exp2 : n7 = clamp32 (powF (n6 * 65536)) := h_exp2
      have z1 := h_exp2
      rw [show n6 = (n2 - 16) * 65536 by omega, wk.2.1] at z1
      clear h_exp2
      refine ⟨fun c2 => ?_, fun c2 => ?_⟩
      · show (b2i false) = 1
        exfalso; first | omega | (simp only [Classical.not_iff] at *; omega)
      · intro n8 e_n8 l_n8 u_n8
        refine ⟨fun c3 => ?_, fun c3 => ?_⟩
        · refine ⟨fun c4 => ?_, fun c4 => ?_⟩
          · show (b2i false) = 1
            exfalso; first | omega | (simp only [Classical.not_iff] at *; omega)
          · refine ⟨trivial, ?_⟩
            intro n9 l_n9 u_n9
            intro n10 l_n10 u_n10
            intro h_pow
            replace h_pow : powTo (131072 : Int) n n9 n10 := h_pow
            have zp := pw2 h_pow
            refine ⟨trivial, ?_⟩
            intro n11 l_n11 u_n11
            intro n12 l_n12 u_n12
            intro h_pow1
            replace h_pow1 : powTo n (65536 : Int) n11 n12 := h_pow1
            have z3 := pw1 h_pow1 l_n u_n
            clear h_pow1
            refine ⟨trivial, ?_⟩
            intro n13 l_n13 u_n13
            intro n14 l_n14 u_n14
            intro h_pow2
            replace h_pow2 : powTo n (0 : Int) n13 n14 := h_pow2
            have z4 := pw0 h_pow2
            clear h_pow2
            refine ⟨trivial, ?_⟩
            intro n15 l_n15 u_n15
            intro n16 l_n16 u_n16
            intro h_pow3
            replace h_pow3 : powTo (65536 : Int) n n15 n16 := h_pow3
            have z5 := pwu h_pow3
            clear h_pow3
            refine ⟨trivial, ?_⟩
            intro n17 l_n17 u_n17
            intro h_exp21
            replace h_exp21 : n17 = clamp32 (powF (n * 65536)) := h_exp21
            have zx := (pw2 h_pow).2.trans h_exp21.symm
            refine ⟨fun c5 => ?_, fun c5 => ?_⟩
            · refine ⟨fun c6 => ?_, fun c6 => ?_⟩
              · refine ⟨fun c7 => ?_, fun c7 => ?_⟩
                · refine ⟨fun c8 => ?_, fun c8 => ?_⟩
                  · refine ⟨fun c9 => ?_, fun c9 => ?_⟩
                    · refine ⟨fun c10 => ?_, fun c10 => ?_⟩
                      · refine ⟨fun c11 => ?_, fun c11 => ?_⟩
                        · refine ⟨fun c12 => ?_, fun c12 => ?_⟩
                          · refine ⟨trivial, ?_⟩
                            intro t
                            intro h_lives
                            replace h_lives : (b2i t) = 1 := h_lives
                            show (b2i t) = 1
                            assumption
                          · show (b2i false) = 1
                            exfalso; first | omega | (simp only [Classical.not_iff] at *; omega)
                        · show (b2i false) = 1
                          exfalso; first | omega | (simp only [Classical.not_iff] at *; omega)
                      · show (b2i false) = 1
                        exfalso; first | omega | (simp only [Classical.not_iff] at *; omega)
                    · show (b2i false) = 1
                      exfalso; first | omega | (simp only [Classical.not_iff] at *; omega)
                  · show (b2i false) = 1
                    exfalso; first | omega | (simp only [Classical.not_iff] at *; omega)
                · show (b2i false) = 1
                  exfalso; first | omega | (simp only [Classical.not_iff] at *; omega)
              · show (b2i false) = 1
                exfalso; first | omega | (simp only [Classical.not_iff] at *; omega)
            · show (b2i false) = 1
              exfalso; first | omega | (simp only [Classical.not_iff] at *; omega)
        · show (b2i false) = 1
          exfalso; first | omega | (simp only [Classical.not_iff] at *; omega)
    · refine ⟨trivial, ?_⟩
      intro n2 l_n2 u_n2
      intro n3 l_n3 u_n3
      intro h_pow
      replace h_pow : powTo (131072 : Int) n n2 n3 := h_pow
      have zp := pw2 h_pow
      refine ⟨trivial, ?_⟩
      intro n4 l_n4 u_n4
      intro n5 l_n5 u_n5
      intro h_pow1
      replace h_pow1 : powTo n (65536 : Int) n4 n5 := h_pow1
      have z3 := pw1 h_pow1 l_n u_n
      clear h_pow1
      refine ⟨trivial, ?_⟩
      intro n6 l_n6 u_n6
      intro n7 l_n7 u_n7
      intro h_pow2
      replace h_pow2 : powTo n (0 : Int) n6 n7 := h_pow2
      have z4 := pw0 h_pow2
      clear h_pow2
      refine ⟨trivial, ?_⟩
      intro n8 l_n8 u_n8
      intro n9 l_n9 u_n9
      intro h_pow3
      replace h_pow3 : powTo (65536 : Int) n n8 n9 := h_pow3
      have z5 := pwu h_pow3
      clear h_pow3
      refine ⟨trivial, ?_⟩
      intro n10 l_n10 u_n10
      intro h_exp2
      replace h_exp2 : n10 = clamp32 (powF (n * 65536)) := h_exp2
      have zx := (pw2 h_pow).2.trans h_exp2.symm
      refine ⟨fun c2 => ?_, fun c2 => ?_⟩
      · refine ⟨fun c3 => ?_, fun c3 => ?_⟩
        · refine ⟨fun c4 => ?_, fun c4 => ?_⟩
          · refine ⟨fun c5 => ?_, fun c5 => ?_⟩
            · refine ⟨fun c6 => ?_, fun c6 => ?_⟩
              · refine ⟨fun c7 => ?_, fun c7 => ?_⟩
                · refine ⟨fun c8 => ?_, fun c8 => ?_⟩
                  · refine ⟨fun c9 => ?_, fun c9 => ?_⟩
                    · refine ⟨trivial, ?_⟩
                      intro t
                      intro h_lives
                      replace h_lives : (b2i t) = 1 := h_lives
                      show (b2i t) = 1
                      assumption
                    · show (b2i false) = 1
                      exfalso; first | omega | (simp only [Classical.not_iff] at *; omega)
                  · show (b2i false) = 1
                    exfalso; first | omega | (simp only [Classical.not_iff] at *; omega)
                · show (b2i false) = 1
                  exfalso; first | omega | (simp only [Classical.not_iff] at *; omega)
              · show (b2i false) = 1
                exfalso; first | omega | (simp only [Classical.not_iff] at *; omega)
            · show (b2i false) = 1
              exfalso; first | omega | (simp only [Classical.not_iff] at *; omega)
          · show (b2i false) = 1
            exfalso; first | omega | (simp only [Classical.not_iff] at *; omega)
        · show (b2i false) = 1
          exfalso; first | omega | (simp only [Classical.not_iff] at *; omega)
      · show (b2i false) = 1
        exfalso; first | omega | (simp only [Classical.not_iff] at *; omega)
  · refine ⟨trivial, ?_⟩
    intro n2 l_n2 u_n2
    intro n3 l_n3 u_n3
    intro h_pow
    replace h_pow : powTo (131072 : Int) n n2 n3 := h_pow
    have zp := pw2 h_pow
    refine ⟨trivial, ?_⟩
    intro n4 l_n4 u_n4
    intro n5 l_n5 u_n5
    intro h_pow1
    replace h_pow1 : powTo n (65536 : Int) n4 n5 := h_pow1
    have z3 := pw1 h_pow1 l_n u_n
    clear h_pow1
    refine ⟨trivial, ?_⟩
    intro n6 l_n6 u_n6
    intro n7 l_n7 u_n7
    intro h_pow2
    replace h_pow2 : powTo n (0 : Int) n6 n7 := h_pow2
    have z4 := pw0 h_pow2
    clear h_pow2
    refine ⟨trivial, ?_⟩
    intro n8 l_n8 u_n8
    intro n9 l_n9 u_n9
    intro h_pow3
    replace h_pow3 : powTo (65536 : Int) n n8 n9 := h_pow3
    have z5 := pwu h_pow3
    clear h_pow3
    refine ⟨trivial, ?_⟩
    intro n10 l_n10 u_n10
    intro h_exp2
    replace h_exp2 : n10 = clamp32 (powF (n * 65536)) := h_exp2
    have zx := (pw2 h_pow).2.trans h_exp2.symm
    refine ⟨fun c1 => ?_, fun c1 => ?_⟩
    · refine ⟨fun c2 => ?_, fun c2 => ?_⟩
      · refine ⟨fun c3 => ?_, fun c3 => ?_⟩
        · refine ⟨fun c4 => ?_, fun c4 => ?_⟩
          · refine ⟨fun c5 => ?_, fun c5 => ?_⟩
            · refine ⟨fun c6 => ?_, fun c6 => ?_⟩
              · refine ⟨fun c7 => ?_, fun c7 => ?_⟩
                · refine ⟨fun c8 => ?_, fun c8 => ?_⟩
                  · refine ⟨trivial, ?_⟩
                    intro t
                    intro h_lives
                    replace h_lives : (b2i t) = 1 := h_lives
                    show (b2i t) = 1
                    assumption
                  · show (b2i false) = 1
                    exfalso; first | omega | (simp only [Classical.not_iff] at *; omega)
                · show (b2i false) = 1
                  exfalso; first | omega | (simp only [Classical.not_iff] at *; omega)
              · show (b2i false) = 1
                exfalso; first | omega | (simp only [Classical.not_iff] at *; omega)
            · show (b2i false) = 1
              exfalso; first | omega | (simp only [Classical.not_iff] at *; omega)
          · show (b2i false) = 1
            exfalso; first | omega | (simp only [Classical.not_iff] at *; omega)
        · show (b2i false) = 1
          exfalso; first | omega | (simp only [Classical.not_iff] at *; omega)
      · show (b2i false) = 1
        exfalso; first | omega | (simp only [Classical.not_iff] at *; omega)
    · show (b2i false) = 1
      exfalso; first | omega | (simp only [Classical.not_iff] at *; omega)

theorem p_lrefused : P_lrefused := by
  unfold P_lrefused
  intro n l_n u_n
  intro n1 l_n1 u_n1
  intro hpre
  replace hpre : True := hpre
  have tm := tm65 n1
  refine ⟨trivial, ?_⟩
  intro n2 l_n2 u_n2
  intro n3 l_n3 u_n3
  intro h_pow
  replace h_pow : powTo n n1 n2 n3 := h_pow
  have p1 := h_pow.1
  have p2 := h_pow.2.1
  have p3 := h_pow.2.2.1
  have p4 := h_pow.2.2.2.1
  have p5 : n1 ≠ 0 → n ≠ 0 → ¬ (n < 0 ∧ n1 % 65536 ≠ 0) → n3 = 0 := fun a b c => (pow_gen h_pow a b c).1
  have p6 : n1 ≠ 0 → 0 < n → n3 = 0 ∧ n2 = clamp32 (powF (roundE n n1)) := fun a b => pow_pos h_pow a b
  have hpi := powF_in (roundE n n1)
  simp only [clamp32] at p6
  clear h_pow
  refine ⟨fun c0 => ?_, fun c0 => ?_⟩
  · refine ⟨fun c1 => ?_, fun c1 => ?_⟩
    · refine ⟨fun c2 => ?_, fun c2 => ?_⟩
      · refine ⟨trivial, ?_⟩
        intro t
        intro h_lives
        replace h_lives : (b2i t) = 1 := h_lives
        show (b2i t) = 1
        assumption
      · show (b2i false) = 1
        exfalso; first | omega | (simp only [Classical.not_iff] at *; omega)
    · show (b2i false) = 1
      exfalso; first | omega | (simp only [Classical.not_iff] at *; omega)
  · refine ⟨fun c1 => ?_, fun c1 => ?_⟩
    · refine ⟨fun c2 => ?_, fun c2 => ?_⟩
      · refine ⟨fun c3 => ?_, fun c3 => ?_⟩
        · refine ⟨fun c4 => ?_, fun c4 => ?_⟩
          · refine ⟨trivial, ?_⟩
            intro t
            intro h_lives
            replace h_lives : (b2i t) = 1 := h_lives
            show (b2i t) = 1
            assumption
          · show (b2i false) = 1
            exfalso; first | omega | (simp only [Classical.not_iff] at *; omega)
        · show (b2i false) = 1
          exfalso; first | omega | (simp only [Classical.not_iff] at *; omega)
      · refine ⟨fun c3 => ?_, fun c3 => ?_⟩
        · refine ⟨fun c4 => ?_, fun c4 => ?_⟩
          · refine ⟨fun c5 => ?_, fun c5 => ?_⟩
            · refine ⟨trivial, ?_⟩
              intro t
              intro h_lives
              replace h_lives : (b2i t) = 1 := h_lives
              show (b2i t) = 1
              assumption
            · show (b2i false) = 1
              exfalso; first | omega | (simp only [Classical.not_iff] at *; omega)
          · show (b2i false) = 1
            exfalso; first | omega | (simp only [Classical.not_iff] at *; omega)
        · refine ⟨fun c4 => ?_, fun c4 => ?_⟩
          · refine ⟨fun c5 => ?_, fun c5 => ?_⟩
            · refine ⟨fun c6 => ?_, fun c6 => ?_⟩
              · refine ⟨fun c7 => ?_, fun c7 => ?_⟩
                · refine ⟨trivial, ?_⟩
                  intro t
                  intro h_lives
                  replace h_lives : (b2i t) = 1 := h_lives
                  show (b2i t) = 1
                  assumption
                · show (b2i false) = 1
                  exfalso; first | omega | (simp only [Classical.not_iff] at *; omega)
              · show (b2i false) = 1
                exfalso; first | omega | (simp only [Classical.not_iff] at *; omega)
            · refine ⟨fun c6 => ?_, fun c6 => ?_⟩
              · refine ⟨fun c7 => ?_, fun c7 => ?_⟩
                · refine ⟨trivial, ?_⟩
                  intro t
                  intro h_lives
                  replace h_lives : (b2i t) = 1 := h_lives
                  show (b2i t) = 1
                  assumption
                · refine ⟨fun c8 => ?_, fun c8 => ?_⟩
                  · refine ⟨trivial, ?_⟩
                    intro t
                    intro h_lives
                    replace h_lives : (b2i t) = 1 := h_lives
                    show (b2i t) = 1
                    assumption
                  · show (b2i false) = 1
                    exfalso; first | omega | (simp only [Classical.not_iff] at *; omega)
              · show (b2i false) = 1
                exfalso; first | omega | (simp only [Classical.not_iff] at *; omega)
          · refine ⟨fun c5 => ?_, fun c5 => ?_⟩
            · refine ⟨fun c6 => ?_, fun c6 => ?_⟩
              · refine ⟨trivial, ?_⟩
                intro t
                intro h_lives
                replace h_lives : (b2i t) = 1 := h_lives
                show (b2i t) = 1
                assumption
              · refine ⟨fun c7 => ?_, fun c7 => ?_⟩
                · refine ⟨trivial, ?_⟩
                  intro t
                  intro h_lives
                  replace h_lives : (b2i t) = 1 := h_lives
                  show (b2i t) = 1
                  assumption
                · show (b2i false) = 1
                  exfalso; first | omega | (simp only [Classical.not_iff] at *; omega)
            · show (b2i false) = 1
              exfalso; first | omega | (simp only [Classical.not_iff] at *; omega)
    · refine ⟨fun c2 => ?_, fun c2 => ?_⟩
      · refine ⟨fun c3 => ?_, fun c3 => ?_⟩
        · refine ⟨fun c4 => ?_, fun c4 => ?_⟩
          · refine ⟨trivial, ?_⟩
            intro t
            intro h_lives
            replace h_lives : (b2i t) = 1 := h_lives
            show (b2i t) = 1
            assumption
          · show (b2i false) = 1
            exfalso; first | omega | (simp only [Classical.not_iff] at *; omega)
        · show (b2i false) = 1
          exfalso; first | omega | (simp only [Classical.not_iff] at *; omega)
      · refine ⟨fun c3 => ?_, fun c3 => ?_⟩
        · refine ⟨fun c4 => ?_, fun c4 => ?_⟩
          · refine ⟨fun c5 => ?_, fun c5 => ?_⟩
            · refine ⟨fun c6 => ?_, fun c6 => ?_⟩
              · refine ⟨trivial, ?_⟩
                intro t
                intro h_lives
                replace h_lives : (b2i t) = 1 := h_lives
                show (b2i t) = 1
                assumption
              · show (b2i false) = 1
                exfalso; first | omega | (simp only [Classical.not_iff] at *; omega)
            · show (b2i false) = 1
              exfalso; first | omega | (simp only [Classical.not_iff] at *; omega)
          · refine ⟨fun c5 => ?_, fun c5 => ?_⟩
            · refine ⟨fun c6 => ?_, fun c6 => ?_⟩
              · refine ⟨trivial, ?_⟩
                intro t
                intro h_lives
                replace h_lives : (b2i t) = 1 := h_lives
                show (b2i t) = 1
                assumption
              · refine ⟨fun c7 => ?_, fun c7 => ?_⟩
                · refine ⟨trivial, ?_⟩
                  intro t
                  intro h_lives
                  replace h_lives : (b2i t) = 1 := h_lives
                  show (b2i t) = 1
                  assumption
                · show (b2i false) = 1
                  exfalso; first | omega | (simp only [Classical.not_iff] at *; omega)
            · show (b2i false) = 1
              exfalso; first | omega | (simp only [Classical.not_iff] at *; omega)
        · refine ⟨fun c4 => ?_, fun c4 => ?_⟩
          · refine ⟨fun c5 => ?_, fun c5 => ?_⟩
            · refine ⟨trivial, ?_⟩
              intro t
              intro h_lives
              replace h_lives : (b2i t) = 1 := h_lives
              show (b2i t) = 1
              assumption
            · refine ⟨fun c6 => ?_, fun c6 => ?_⟩
              · refine ⟨trivial, ?_⟩
                intro t
                intro h_lives
                replace h_lives : (b2i t) = 1 := h_lives
                show (b2i t) = 1
                assumption
              · show (b2i false) = 1
                exfalso; first | omega | (simp only [Classical.not_iff] at *; omega)
          · show (b2i false) = 1
            exfalso; first | omega | (simp only [Classical.not_iff] at *; omega)

theorem p_lback : P_lback := by
  unfold P_lback
  intro n l_n u_n
  intro hpre
  replace hpre : True := hpre
  refine ⟨trivial, ?_⟩
  intro n1 l_n1 u_n1
  intro n2 l_n2 u_n2
  intro h_log2
  replace h_log2 : ((n ≤ 0 → n1 = 0 ∧ n2 = 1) ∧ (0 < n → n2 = 0 ∧ n1 = near24 (longF n))) := h_log2
  have z0 := h_log2
  clear h_log2
  refine ⟨fun c0 => ?_, fun c0 => ?_⟩
  · refine ⟨fun c1 => ?_, fun c1 => ?_⟩
    · refine ⟨fun c2 => ?_, fun c2 => ?_⟩
      · show (b2i false) = 1
        exfalso; first | omega | (simp only [Classical.not_iff] at *; omega)
      · refine ⟨trivial, ?_⟩
        intro n3 l_n3 u_n3
        intro h_exp2
        replace h_exp2 : n3 = clamp32 (powF (n * 65536)) := h_exp2
        refine ⟨fun c3 => ?_, fun c3 => ?_⟩
        · refine ⟨trivial, ?_⟩
          intro t
          intro h_lives
          replace h_lives : (b2i t) = 1 := h_lives
          show (b2i t) = 1
          assumption
        · refine ⟨fun c4 => ?_, fun c4 => ?_⟩
          · refine ⟨trivial, ?_⟩
            intro t
            intro h_lives
            replace h_lives : (b2i t) = 1 := h_lives
            show (b2i t) = 1
            assumption
          · refine ⟨trivial, ?_⟩
            intro n4 l_n4 u_n4
            intro n5 l_n5 u_n5
            intro h_log21
            replace h_log21 : ((n3 ≤ 0 → n4 = 0 ∧ n5 = 1) ∧ (0 < n3 → n5 = 0 ∧ n4 = near24 (longF n3))) := h_log21
            have bl := back_log (x := n) (y := n3) (by omega) (by have hh := h_exp2; simp only [clamp32] at hh; have := powF_in (n * 65536); omega) (by omega)
            have z9 := h_log21.2 bl.1
            rw [← z9.2] at bl
            clear h_log21
            refine ⟨fun c5 => ?_, fun c5 => ?_⟩
            · refine ⟨fun c6 => ?_, fun c6 => ?_⟩
              · simp only [wrap_u64, wrap_i64, wrap_i32, wrap_u32, wrap_u8] at c6
                refine ⟨fun c7 => ?_, fun c7 => ?_⟩
                · simp only [wrap_u64, wrap_i64, wrap_i32, wrap_u32, wrap_u8] at c7
                  refine ⟨trivial, ?_⟩
                  intro t
                  intro h_lives
                  replace h_lives : (b2i t) = 1 := h_lives
                  show (b2i t) = 1
                  assumption
                · simp only [wrap_u64, wrap_i64, wrap_i32, wrap_u32, wrap_u8] at c7
                  show (b2i false) = 1
                  exfalso; first | omega | (simp only [Classical.not_iff] at *; omega)
              · simp only [wrap_u64, wrap_i64, wrap_i32, wrap_u32, wrap_u8] at c6
                show (b2i false) = 1
                exfalso; first | omega | (simp only [Classical.not_iff] at *; omega)
            · show (b2i false) = 1
              exfalso; first | omega | (simp only [Classical.not_iff] at *; omega)
    · show (b2i false) = 1
      exfalso; first | omega | (simp only [Classical.not_iff] at *; omega)
  · refine ⟨trivial, ?_⟩
    intro n3 l_n3 u_n3
    intro h_exp2
    replace h_exp2 : n3 = clamp32 (powF (n1 * 65536)) := h_exp2
    have be := back_exp (x := n) (by omega) u_n
    have z1 := z0.2 (by omega)
    have hpi := powF_in (n1 * 65536)
    rw [← z1.2] at be
    have hc := h_exp2
    simp only [clamp32] at hc
    intro n4 e_n4 l_n4 u_n4
    refine ⟨fun c1 => ?_, fun c1 => ?_⟩
    · show (b2i false) = 1
      exfalso; first | omega | (simp only [Classical.not_iff] at *; omega)
    · refine ⟨fun c2 => ?_, fun c2 => ?_⟩
      · show (b2i false) = 1
        exfalso; first | omega | (simp only [Classical.not_iff] at *; omega)
      · refine ⟨trivial, ?_⟩
        intro n5 l_n5 u_n5
        intro h_exp21
        replace h_exp21 : n5 = clamp32 (powF (n * 65536)) := h_exp21
        refine ⟨fun c3 => ?_, fun c3 => ?_⟩
        · refine ⟨trivial, ?_⟩
          intro t
          intro h_lives
          replace h_lives : (b2i t) = 1 := h_lives
          show (b2i t) = 1
          assumption
        · refine ⟨fun c4 => ?_, fun c4 => ?_⟩
          · refine ⟨trivial, ?_⟩
            intro t
            intro h_lives
            replace h_lives : (b2i t) = 1 := h_lives
            show (b2i t) = 1
            assumption
          · refine ⟨trivial, ?_⟩
            intro n6 l_n6 u_n6
            intro n7 l_n7 u_n7
            intro h_log21
            replace h_log21 : ((n5 ≤ 0 → n6 = 0 ∧ n7 = 1) ∧ (0 < n5 → n7 = 0 ∧ n6 = near24 (longF n5))) := h_log21
            have bl := back_log (x := n) (y := n5) (by omega) (by have hh := h_exp21; simp only [clamp32] at hh; have := powF_in (n * 65536); omega) (by omega)
            have z9 := h_log21.2 bl.1
            rw [← z9.2] at bl
            clear h_log21
            refine ⟨fun c5 => ?_, fun c5 => ?_⟩
            · refine ⟨fun c6 => ?_, fun c6 => ?_⟩
              · simp only [wrap_u64, wrap_i64, wrap_i32, wrap_u32, wrap_u8] at c6
                refine ⟨fun c7 => ?_, fun c7 => ?_⟩
                · simp only [wrap_u64, wrap_i64, wrap_i32, wrap_u32, wrap_u8] at c7
                  refine ⟨trivial, ?_⟩
                  intro t
                  intro h_lives
                  replace h_lives : (b2i t) = 1 := h_lives
                  show (b2i t) = 1
                  assumption
                · simp only [wrap_u64, wrap_i64, wrap_i32, wrap_u32, wrap_u8] at c7
                  show (b2i false) = 1
                  exfalso; first | omega | (simp only [Classical.not_iff] at *; omega)
              · simp only [wrap_u64, wrap_i64, wrap_i32, wrap_u32, wrap_u8] at c6
                show (b2i false) = 1
                exfalso; first | omega | (simp only [Classical.not_iff] at *; omega)
            · show (b2i false) = 1
              exfalso; first | omega | (simp only [Classical.not_iff] at *; omega)

theorem p_lsums : P_lsums := by
  unfold P_lsums
  intro n l_n u_n
  intro n1 l_n1 u_n1
  intro hpre
  replace hpre : True := hpre
  intro n2 e_n2 l_n2 u_n2
  refine ⟨fun c0 => ?_, fun c0 => ?_⟩
  · refine ⟨trivial, ?_⟩
    intro t
    intro h_lives
    replace h_lives : (b2i t) = 1 := h_lives
    show (b2i t) = 1
    assumption
  · refine ⟨fun c1 => ?_, fun c1 => ?_⟩
    · refine ⟨trivial, ?_⟩
      intro t
      intro h_lives
      replace h_lives : (b2i t) = 1 := h_lives
      show (b2i t) = 1
      assumption
    · refine ⟨fun c2 => ?_, fun c2 => ?_⟩
      · refine ⟨trivial, ?_⟩
        intro t
        intro h_lives
        replace h_lives : (b2i t) = 1 := h_lives
        show (b2i t) = 1
        assumption
      · refine ⟨fun c3 => ?_, fun c3 => ?_⟩
        · refine ⟨trivial, ?_⟩
          intro t
          intro h_lives
          replace h_lives : (b2i t) = 1 := h_lives
          show (b2i t) = 1
          assumption
        · refine ⟨trivial, ?_⟩
          intro n3 l_n3 u_n3
          intro h_exp2
          replace h_exp2 : n3 = clamp32 (powF (n * 65536)) := h_exp2
          have i0 := powF_in (n * 65536)
          simp only [clamp32] at h_exp2
          refine ⟨trivial, ?_⟩
          intro n4 l_n4 u_n4
          intro h_exp21
          replace h_exp21 : n4 = clamp32 (powF (n1 * 65536)) := h_exp21
          have i1 := powF_in (n1 * 65536)
          simp only [clamp32] at h_exp21
          intro n5 e_n5 l_n5 u_n5
          simp only [wrap_u64, wrap_i64, wrap_i32, wrap_u32, wrap_u8] at e_n5
          refine ⟨trivial, ?_⟩
          intro n6 l_n6 u_n6
          intro h_exp22
          replace h_exp22 : n6 = clamp32 (powF (n5 * 65536)) := h_exp22
          have i2 := powF_in (n5 * 65536)
          simp only [clamp32] at h_exp22
          have es := exp_sum (a := n) (b := n1) (by omega) (by omega) (by omega)
          rw [show n + n1 = n5 by omega] at es
          refine ⟨fun c4 => ?_, fun c4 => ?_⟩
          · refine ⟨trivial, ?_⟩
            intro t
            intro h_lives
            replace h_lives : (b2i t) = 1 := h_lives
            show (b2i t) = 1
            assumption
          · refine ⟨fun c5 => ?_, fun c5 => ?_⟩
            · refine ⟨trivial, ?_⟩
              intro t
              intro h_lives
              replace h_lives : (b2i t) = 1 := h_lives
              show (b2i t) = 1
              assumption
            · refine ⟨fun c6 => ?_, fun c6 => ?_⟩
              · refine ⟨trivial, ?_⟩
                intro t
                intro h_lives
                replace h_lives : (b2i t) = 1 := h_lives
                show (b2i t) = 1
                assumption
              · intro n7 e_n7 l_n7 u_n7
                rw [show powF (n5 * 65536) = n6 by omega, show powF (n * 65536) = n3 by omega, show powF (n1 * 65536) = n4 by omega, ← e_n7] at es
                refine ⟨fun c7 => ?_, fun c7 => ?_⟩
                · have hmx : max n7 (0 - n7) ≤ 10000000000 := by omega
                  have hmx0 : 0 ≤ max n7 (0 - n7) := by omega
                  have hw : IntKind.wrap .i64 (16 * (max n7 (0 - n7))) = 16 * (max n7 (0 - n7)) := by rw [wrap_i64]; generalize max n7 (0 - n7) = d at *; omega
                  rw [hw] at c7
                  show (b2i false) = 1
                  exfalso; first | omega | (simp only [Classical.not_iff] at *; omega)
                · have hmx : max n7 (0 - n7) ≤ 10000000000 := by omega
                  have hmx0 : 0 ≤ max n7 (0 - n7) := by omega
                  have hw : IntKind.wrap .i64 (16 * (max n7 (0 - n7))) = 16 * (max n7 (0 - n7)) := by rw [wrap_i64]; generalize max n7 (0 - n7) = d at *; omega
                  rw [hw] at c7
                  refine ⟨fun c8 => ?_, fun c8 => ?_⟩
                  · refine ⟨trivial, ?_⟩
                    intro t
                    intro h_lives
                    replace h_lives : (b2i t) = 1 := h_lives
                    show (b2i t) = 1
                    assumption
                  · intro n8 e_n8 l_n8 u_n8
                    simp only [wrap_u64, wrap_i64, wrap_i32, wrap_u32, wrap_u8] at e_n8
                    refine ⟨trivial, ?_⟩
                    intro n9 l_n9 u_n9
                    intro h_exp23
                    replace h_exp23 : n9 = clamp32 (powF (n8 * 65536)) := h_exp23
                    have i3 := powF_in (n8 * 65536)
                    simp only [clamp32] at h_exp23
                    have en := exp_next (a := n) (by omega)
                    rw [show n + 65536 = n8 by omega] at en
                    intro n10 e_n10 l_n10 u_n10
                    refine ⟨fun c9 => ?_, fun c9 => ?_⟩
                    · refine ⟨fun c10 => ?_, fun c10 => ?_⟩
                      · refine ⟨trivial, ?_⟩
                        intro t
                        intro h_lives
                        replace h_lives : (b2i t) = 1 := h_lives
                        show (b2i t) = 1
                        assumption
                      · refine ⟨fun c11 => ?_, fun c11 => ?_⟩
                        · refine ⟨trivial, ?_⟩
                          intro t
                          intro h_lives
                          replace h_lives : (b2i t) = 1 := h_lives
                          show (b2i t) = 1
                          assumption
                        · show (b2i false) = 1
                          exfalso; first | omega | (simp only [Classical.not_iff] at *; omega)
                    · refine ⟨fun c10 => ?_, fun c10 => ?_⟩
                      · refine ⟨trivial, ?_⟩
                        intro t
                        intro h_lives
                        replace h_lives : (b2i t) = 1 := h_lives
                        show (b2i t) = 1
                        assumption
                      · show (b2i false) = 1
                        exfalso; first | omega | (simp only [Classical.not_iff] at *; omega)

theorem p_lrise : P_lrise := by
  unfold P_lrise
  intro n l_n u_n
  intro n1 l_n1 u_n1
  intro n2 l_n2 u_n2
  intro hpre
  replace hpre : True := hpre
  intro n3 e_n3 l_n3 u_n3
  intro n4 e_n4 l_n4 u_n4
  refine ⟨trivial, ?_⟩
  intro n5 l_n5 u_n5
  intro h_exp2
  replace h_exp2 : n5 = clamp32 (powF (n3 * 65536)) := h_exp2
  refine ⟨trivial, ?_⟩
  intro n6 l_n6 u_n6
  intro h_exp21
  replace h_exp21 : n6 = clamp32 (powF (n4 * 65536)) := h_exp21
  have em := powF_mono (show n3 * 65536 ≤ n4 * 65536 by omega)
  simp only [clamp32] at h_exp2 h_exp21
  refine ⟨fun c0 => ?_, fun c0 => ?_⟩
  · show (b2i false) = 1
    exfalso; first | omega | (simp only [Classical.not_iff] at *; omega)
  · refine ⟨fun c1 => ?_, fun c1 => ?_⟩
    · refine ⟨trivial, ?_⟩
      intro t
      intro h_lives
      replace h_lives : (b2i t) = 1 := h_lives
      show (b2i t) = 1
      assumption
    · refine ⟨trivial, ?_⟩
      intro n7 l_n7 u_n7
      intro n8 l_n8 u_n8
      intro h_log2
      replace h_log2 : ((n3 ≤ 0 → n7 = 0 ∧ n8 = 1) ∧ (0 < n3 → n8 = 0 ∧ n7 = near24 (longF n3))) := h_log2
      have z0 := h_log2.2 (by omega)
      clear h_log2
      refine ⟨trivial, ?_⟩
      intro n9 l_n9 u_n9
      intro n10 l_n10 u_n10
      intro h_log21
      replace h_log21 : ((n4 ≤ 0 → n9 = 0 ∧ n10 = 1) ∧ (0 < n4 → n10 = 0 ∧ n9 = near24 (longF n4))) := h_log21
      have z1 := h_log21.2 (by omega)
      have lm := near24_mono (long_mono (x := n3) (y := n4) (by omega) (by omega) (by omega))
      rw [← z0.2, ← z1.2] at lm
      clear h_log21
      refine ⟨trivial, ?_⟩
      intro n11 l_n11 u_n11
      intro n12 l_n12 u_n12
      intro h_pow
      replace h_pow : powTo n3 n2 n11 n12 := h_pow
      have p0 := fun z => pow_pos h_pow z (by omega)
      have p00 := h_pow.1
      refine ⟨trivial, ?_⟩
      intro n13 l_n13 u_n13
      intro n14 l_n14 u_n14
      intro h_pow1
      replace h_pow1 : powTo n4 n2 n13 n14 := h_pow1
      have p1 := fun z => pow_pos h_pow1 z (by omega)
      have p10 := h_pow1.1
      have rm := round_mono (x := n3) (y := n4) (n := n2) (by omega) (by omega) (by omega)
      have m1 : 0 < n2 → n11 ≤ n13 := fun z => by
        have a := (p0 (by omega)).2
        have b := (p1 (by omega)).2
        have c := powF_mono (rm.1 (by omega))
        simp only [clamp32] at a b
        omega
      have m2 : n2 < 0 → n13 ≤ n11 := fun z => by
        have a := (p0 (by omega)).2
        have b := (p1 (by omega)).2
        have c := powF_mono (rm.2 (by omega))
        simp only [clamp32] at a b
        omega
      have m3 : n12 = 0 ∧ n14 = 0 := by
        by_cases z : n2 = 0
        · exact ⟨(p00 z).2, (p10 z).2⟩
        · exact ⟨(p0 z).1, (p1 z).1⟩
      clear p0 p1 p00 p10 h_pow h_pow1 rm
      refine ⟨fun c2 => ?_, fun c2 => ?_⟩
      · show (b2i false) = 1
        exfalso; first | omega | (simp only [Classical.not_iff] at *; omega)
      · refine ⟨fun c3 => ?_, fun c3 => ?_⟩
        · show (b2i false) = 1
          exfalso; first | omega | (simp only [Classical.not_iff] at *; omega)
        · refine ⟨fun c4 => ?_, fun c4 => ?_⟩
          · show (b2i false) = 1
            exfalso; first | omega | (simp only [Classical.not_iff] at *; omega)
          · refine ⟨fun c5 => ?_, fun c5 => ?_⟩
            · show (b2i false) = 1
              exfalso; first | omega | (simp only [Classical.not_iff] at *; omega)
            · refine ⟨fun c6 => ?_, fun c6 => ?_⟩
              · show (b2i false) = 1
                exfalso; first | omega | (simp only [Classical.not_iff] at *; omega)
              · refine ⟨fun c7 => ?_, fun c7 => ?_⟩
                · refine ⟨fun c8 => ?_, fun c8 => ?_⟩
                  · show (b2i false) = 1
                    exfalso; first | omega | (simp only [Classical.not_iff] at *; omega)
                  · refine ⟨fun c9 => ?_, fun c9 => ?_⟩
                    · refine ⟨fun c10 => ?_, fun c10 => ?_⟩
                      · show (b2i false) = 1
                        exfalso; first | omega | (simp only [Classical.not_iff] at *; omega)
                      · refine ⟨fun c11 => ?_, fun c11 => ?_⟩
                        · refine ⟨trivial, ?_⟩
                          intro t
                          intro h_lives
                          replace h_lives : (b2i t) = 1 := h_lives
                          show (b2i t) = 1
                          assumption
                        · intro n15 e_n15 l_n15 u_n15
                          simp only [wrap_u64, wrap_i64, wrap_i32, wrap_u32, wrap_u8] at e_n15
                          refine ⟨trivial, ?_⟩
                          intro n16 l_n16 u_n16
                          intro n17 l_n17 u_n17
                          intro h_log22
                          replace h_log22 : ((n15 ≤ 0 → n16 = 0 ∧ n17 = 1) ∧ (0 < n15 → n17 = 0 ∧ n16 = near24 (longF n15))) := h_log22
                          have z4 := h_log22.2 (by omega)
                          have ld := long_double (x := n3) (by omega) (by omega)
                          rw [show 2 * n3 = n15 by omega] at ld
                          have z5 : n16 = n7 + 65536 := by rw [z4.2, ld, z0.2]; unfold near24; omega
                          clear h_log22 ld
                          intro n18 e_n18 l_n18 u_n18
                          refine ⟨fun c12 => ?_, fun c12 => ?_⟩
                          · refine ⟨fun c13 => ?_, fun c13 => ?_⟩
                            · refine ⟨trivial, ?_⟩
                              intro t
                              intro h_lives
                              replace h_lives : (b2i t) = 1 := h_lives
                              show (b2i t) = 1
                              assumption
                            · show (b2i false) = 1
                              exfalso; first | omega | (simp only [Classical.not_iff] at *; omega)
                          · show (b2i false) = 1
                            exfalso; first | omega | (simp only [Classical.not_iff] at *; omega)
                    · refine ⟨fun c10 => ?_, fun c10 => ?_⟩
                      · refine ⟨trivial, ?_⟩
                        intro t
                        intro h_lives
                        replace h_lives : (b2i t) = 1 := h_lives
                        show (b2i t) = 1
                        assumption
                      · intro n15 e_n15 l_n15 u_n15
                        simp only [wrap_u64, wrap_i64, wrap_i32, wrap_u32, wrap_u8] at e_n15
                        refine ⟨trivial, ?_⟩
                        intro n16 l_n16 u_n16
                        intro n17 l_n17 u_n17
                        intro h_log22
                        replace h_log22 : ((n15 ≤ 0 → n16 = 0 ∧ n17 = 1) ∧ (0 < n15 → n17 = 0 ∧ n16 = near24 (longF n15))) := h_log22
                        have z4 := h_log22.2 (by omega)
                        have ld := long_double (x := n3) (by omega) (by omega)
                        rw [show 2 * n3 = n15 by omega] at ld
                        have z5 : n16 = n7 + 65536 := by rw [z4.2, ld, z0.2]; unfold near24; omega
                        clear h_log22 ld
                        intro n18 e_n18 l_n18 u_n18
                        refine ⟨fun c11 => ?_, fun c11 => ?_⟩
                        · refine ⟨fun c12 => ?_, fun c12 => ?_⟩
                          · refine ⟨trivial, ?_⟩
                            intro t
                            intro h_lives
                            replace h_lives : (b2i t) = 1 := h_lives
                            show (b2i t) = 1
                            assumption
                          · show (b2i false) = 1
                            exfalso; first | omega | (simp only [Classical.not_iff] at *; omega)
                        · show (b2i false) = 1
                          exfalso; first | omega | (simp only [Classical.not_iff] at *; omega)
                · refine ⟨fun c8 => ?_, fun c8 => ?_⟩
                  · refine ⟨fun c9 => ?_, fun c9 => ?_⟩
                    · show (b2i false) = 1
                      exfalso; first | omega | (simp only [Classical.not_iff] at *; omega)
                    · refine ⟨fun c10 => ?_, fun c10 => ?_⟩
                      · refine ⟨trivial, ?_⟩
                        intro t
                        intro h_lives
                        replace h_lives : (b2i t) = 1 := h_lives
                        show (b2i t) = 1
                        assumption
                      · intro n15 e_n15 l_n15 u_n15
                        simp only [wrap_u64, wrap_i64, wrap_i32, wrap_u32, wrap_u8] at e_n15
                        refine ⟨trivial, ?_⟩
                        intro n16 l_n16 u_n16
                        intro n17 l_n17 u_n17
                        intro h_log22
                        replace h_log22 : ((n15 ≤ 0 → n16 = 0 ∧ n17 = 1) ∧ (0 < n15 → n17 = 0 ∧ n16 = near24 (longF n15))) := h_log22
                        have z4 := h_log22.2 (by omega)
                        have ld := long_double (x := n3) (by omega) (by omega)
                        rw [show 2 * n3 = n15 by omega] at ld
                        have z5 : n16 = n7 + 65536 := by rw [z4.2, ld, z0.2]; unfold near24; omega
                        clear h_log22 ld
                        intro n18 e_n18 l_n18 u_n18
                        refine ⟨fun c11 => ?_, fun c11 => ?_⟩
                        · refine ⟨fun c12 => ?_, fun c12 => ?_⟩
                          · refine ⟨trivial, ?_⟩
                            intro t
                            intro h_lives
                            replace h_lives : (b2i t) = 1 := h_lives
                            show (b2i t) = 1
                            assumption
                          · show (b2i false) = 1
                            exfalso; first | omega | (simp only [Classical.not_iff] at *; omega)
                        · show (b2i false) = 1
                          exfalso; first | omega | (simp only [Classical.not_iff] at *; omega)
                  · refine ⟨fun c9 => ?_, fun c9 => ?_⟩
                    · refine ⟨trivial, ?_⟩
                      intro t
                      intro h_lives
                      replace h_lives : (b2i t) = 1 := h_lives
                      show (b2i t) = 1
                      assumption
                    · intro n15 e_n15 l_n15 u_n15
                      simp only [wrap_u64, wrap_i64, wrap_i32, wrap_u32, wrap_u8] at e_n15
                      refine ⟨trivial, ?_⟩
                      intro n16 l_n16 u_n16
                      intro n17 l_n17 u_n17
                      intro h_log22
                      replace h_log22 : ((n15 ≤ 0 → n16 = 0 ∧ n17 = 1) ∧ (0 < n15 → n17 = 0 ∧ n16 = near24 (longF n15))) := h_log22
                      have z4 := h_log22.2 (by omega)
                      have ld := long_double (x := n3) (by omega) (by omega)
                      rw [show 2 * n3 = n15 by omega] at ld
                      have z5 : n16 = n7 + 65536 := by rw [z4.2, ld, z0.2]; unfold near24; omega
                      clear h_log22 ld
                      intro n18 e_n18 l_n18 u_n18
                      refine ⟨fun c10 => ?_, fun c10 => ?_⟩
                      · refine ⟨fun c11 => ?_, fun c11 => ?_⟩
                        · refine ⟨trivial, ?_⟩
                          intro t
                          intro h_lives
                          replace h_lives : (b2i t) = 1 := h_lives
                          show (b2i t) = 1
                          assumption
                        · show (b2i false) = 1
                          exfalso; first | omega | (simp only [Classical.not_iff] at *; omega)
                      · show (b2i false) = 1
                        exfalso; first | omega | (simp only [Classical.not_iff] at *; omega)

end Go.Proofs.Ytkknmicgalkgjaa.Sx
