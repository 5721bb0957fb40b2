/-
  The laws of angles.
-/
import Derived.Test.YtihfbliipjobdaaAe
set_option linter.all false
set_option maxRecDepth 100000
namespace Go.Proofs.Ytihfbliipjobdaa.Sx
open Go Go.RowKit

theorem at_v1 : atF 0 5 = 0 := by decide +kernel
theorem at_v2 : atF 1 0 = 5898240 := by decide +kernel
theorem at_v3 : atF 1 1 = 2949120 := by decide +kernel
theorem at_v4 : atF 0 (-1) = 11796480 := by decide +kernel
theorem at_v5 : atF (-1) 0 = 17694720 := by decide +kernel
theorem ang_v1 : sinF 0 = 0 ∧ sinF 5898240 = 65536 ∧ sinF 1966080 = 32768 ∧ cosF 3932160 = 32768 ∧ cosF 11796480 = -65536 ∧ sinF (-5898240) = -65536 := by decide +kernel

theorem p_lives : P_lives := by
  unfold P_lives
  intro hpre
  replace hpre : True := hpre
  obtain ⟨w1, w2, w3, w4, w5, w6⟩ := ang_v1
  refine ⟨trivial, ?_⟩
  intro n l_n u_n
  intro n1 l_n1 u_n1
  intro h_atan
  replace h_atan : (((0 : Int) = 0 ∧ (0 : Int) = 0 → n = 0 ∧ n1 = 12) ∧ (¬ ((0 : Int) = 0 ∧ (0 : Int) = 0) → n1 = 0 ∧ n = atF (0 : Int) (0 : Int))) := h_atan
  have z := h_atan.1 ⟨rfl, rfl⟩
  refine ⟨fun c0 => ?_, fun c0 => ?_⟩
  · show (b2i false) = 1
    exfalso; omega
  · refine ⟨fun c1 => ?_, fun c1 => ?_⟩
    · show (b2i false) = 1
      exfalso; omega
    · refine ⟨?_, ?_⟩
      · show ¬ ((5 : Int) = 0 ∧ (0 : Int) = 0)
        omega
      intro t
      intro h_leads
      replace h_leads : ((b2i t) = 1 ↔ atF (0 : Int) (5 : Int) = (0 : Int)) := h_leads
      have z0 := h_leads.2 at_v1
      refine ⟨fun c2 => ?_, fun c2 => ?_⟩
      · have q2 := (b2i_zero t).2 c2
        show (b2i false) = 1
        exfalso; omega
      · have q2 := (b2i_one t).2 (Classical.not_not.1 c2)
        refine ⟨?_, ?_⟩
        · show ¬ ((0 : Int) = 0 ∧ (1 : Int) = 0)
          omega
        intro t1
        intro h_leads1
        replace h_leads1 : ((b2i t1) = 1 ↔ atF (1 : Int) (0 : Int) = (5898240 : Int)) := h_leads1
        have z1 := h_leads1.2 at_v2
        refine ⟨fun c3 => ?_, fun c3 => ?_⟩
        · have q3 := (b2i_zero t1).2 c3
          show (b2i false) = 1
          exfalso; omega
        · have q3 := (b2i_one t1).2 (Classical.not_not.1 c3)
          refine ⟨?_, ?_⟩
          · show ¬ ((1 : Int) = 0 ∧ (1 : Int) = 0)
            omega
          intro t2
          intro h_leads2
          replace h_leads2 : ((b2i t2) = 1 ↔ atF (1 : Int) (1 : Int) = (2949120 : Int)) := h_leads2
          have z2 := h_leads2.2 at_v3
          refine ⟨fun c4 => ?_, fun c4 => ?_⟩
          · have q4 := (b2i_zero t2).2 c4
            show (b2i false) = 1
            exfalso; omega
          · have q4 := (b2i_one t2).2 (Classical.not_not.1 c4)
            refine ⟨?_, ?_⟩
            · show ¬ ((-1 : Int) = 0 ∧ (0 : Int) = 0)
              omega
            intro t3
            intro h_leads3
            replace h_leads3 : ((b2i t3) = 1 ↔ atF (0 : Int) (-1 : Int) = (11796480 : Int)) := h_leads3
            have z3 := h_leads3.2 at_v4
            refine ⟨fun c5 => ?_, fun c5 => ?_⟩
            · have q5 := (b2i_zero t3).2 c5
              show (b2i false) = 1
              exfalso; omega
            · have q5 := (b2i_one t3).2 (Classical.not_not.1 c5)
              refine ⟨?_, ?_⟩
              · show ¬ ((0 : Int) = 0 ∧ (-1 : Int) = 0)
                omega
              intro t4
              intro h_leads4
              replace h_leads4 : ((b2i t4) = 1 ↔ atF (-1 : Int) (0 : Int) = (17694720 : Int)) := h_leads4
              have z4 := h_leads4.2 at_v5
              refine ⟨fun c6 => ?_, fun c6 => ?_⟩
              · have q6 := (b2i_zero t4).2 c6
                show (b2i false) = 1
                exfalso; omega
              · have q6 := (b2i_one t4).2 (Classical.not_not.1 c6)
                refine ⟨trivial, ?_⟩
                intro n2 l_n2 u_n2
                intro h_asin
                replace h_asin : n2 = sinF (0 : Int) := h_asin
                rw [w1] at h_asin
                refine ⟨fun c7 => ?_, fun c7 => ?_⟩
                · refine ⟨trivial, ?_⟩
                  intro n3 l_n3 u_n3
                  intro h_asin1
                  replace h_asin1 : n3 = sinF (5898240 : Int) := h_asin1
                  rw [w2] at h_asin1
                  refine ⟨fun c8 => ?_, fun c8 => ?_⟩
                  · refine ⟨trivial, ?_⟩
                    intro n4 l_n4 u_n4
                    intro h_asin2
                    replace h_asin2 : n4 = sinF (1966080 : Int) := h_asin2
                    rw [w3] at h_asin2
                    refine ⟨fun c9 => ?_, fun c9 => ?_⟩
                    · refine ⟨trivial, ?_⟩
                      intro n5 l_n5 u_n5
                      intro h_acos
                      replace h_acos : n5 = cosF (3932160 : Int) := h_acos
                      rw [w4] at h_acos
                      refine ⟨fun c10 => ?_, fun c10 => ?_⟩
                      · refine ⟨trivial, ?_⟩
                        intro n6 l_n6 u_n6
                        intro h_acos1
                        replace h_acos1 : n6 = cosF (11796480 : Int) := h_acos1
                        rw [w5] at h_acos1
                        refine ⟨fun c11 => ?_, fun c11 => ?_⟩
                        · refine ⟨trivial, ?_⟩
                          intro n7 l_n7 u_n7
                          intro h_asin3
                          replace h_asin3 : n7 = sinF (-5898240 : Int) := h_asin3
                          rw [w6] at h_asin3
                          show (b2i (n7 == (-65536))) = 1
                          rw [h_asin3]; rfl
                        · show (b2i false) = 1
                          exfalso; omega
                      · show (b2i false) = 1
                        exfalso; omega
                    · show (b2i false) = 1
                      exfalso; omega
                  · show (b2i false) = 1
                    exfalso; omega
                · show (b2i false) = 1
                  exfalso; omega

theorem shl_i32 {a s : Int} (h0 : 0 ≤ s) (h1 : s ≤ 31) (h2 : -2147483648 ≤ a * 2 ^ s.toNat) (h3 : a * 2 ^ s.toNat ≤ 2147483647) : shI .shl .i32 a s = a * 2 ^ s.toNat := by
  simp only [shI, IntKind.bits]
  rw [show Min.min s.toNat 32 = s.toNat by omega, wrap_i32]
  omega
theorem turn_lead {y x k f y' x' : Int} (h0 : ¬ (x = 0 ∧ y = 0)) (y0 : -2147483648 ≤ y) (y1 : y ≤ 2147483647) (x0 : -2147483648 ≤ x) (x1 : x ≤ 2147483647) (k0 : 0 ≤ k) (k1 : k ≤ 31) (hf : f = max (max (max y (0 - y)) x) (0 - x)) (hfar : ¬ 2147483647 < shI .shl .i64 f k) (hy : y' = shI .shl .i32 y k) (hx : x' = shI .shl .i32 x k) :
    ¬ (x' = 0 ∧ y' = 0) ∧ atF y' x' = atF y x := by
  have f0 : 0 ≤ f := by omega
  have f1 : f ≤ 2147483648 := by omega
  have p0 : (1 : Int) ≤ 2 ^ k.toNat := by have := two_pow_pos' k.toNat; omega
  have p1 : (2 : Int) ^ k.toNat ≤ 2147483648 := by
    have := Nat.pow_le_pow_right (n := 2) (by omega) (show k.toNat ≤ 31 by omega)
    have e : ((2 ^ k.toNat : Nat) : Int) = (2 : Int) ^ k.toNat := by simp
    have e' : (2 ^ 31 : Nat) = 2147483648 := rfl
    omega
  have q := Int.mul_le_mul f1 p1 (by omega) (by omega)
  have q0 := Int.mul_nonneg f0 (show (0 : Int) ≤ 2 ^ k.toNat by omega)
  rw [shl_i64 k0 (by omega) (by omega) (by omega)] at hfar
  have a1 := Int.mul_le_mul_of_nonneg_right (show y ≤ f by omega) (show (0 : Int) ≤ 2 ^ k.toNat by omega)
  have a2 := Int.mul_le_mul_of_nonneg_right (show -f ≤ y by omega) (show (0 : Int) ≤ 2 ^ k.toNat by omega)
  have a3 := Int.mul_le_mul_of_nonneg_right (show x ≤ f by omega) (show (0 : Int) ≤ 2 ^ k.toNat by omega)
  have a4 := Int.mul_le_mul_of_nonneg_right (show -f ≤ x by omega) (show (0 : Int) ≤ 2 ^ k.toNat by omega)
  have e : -f * 2 ^ k.toNat = -(f * 2 ^ k.toNat) := Int.neg_mul _ _
  rw [shl_i32 k0 k1 (by omega) (by omega)] at hy hx
  have l := f_le (y := y) (x := x) (B := f) (by omega) (by omega) (by omega) (by omega)
  have lm := Int.mul_le_mul_of_nonneg_right (show max (fX y x) (fY y x) ≤ f by omega) (show (0 : Int) ≤ 2 ^ k.toNat by omega)
  refine ⟨?_, ?_⟩
  · rintro ⟨z1, z2⟩
    rw [hx] at z1
    rw [hy] at z2
    have w1 := (Int.mul_eq_zero.1 z1).resolve_right (by omega)
    have w2 := (Int.mul_eq_zero.1 z2).resolve_right (by omega)
    exact h0 ⟨w1, w2⟩
  · rw [hx, hy]
    exact at_scale k.toNat h0 (by omega)
theorem tmod_r (z : Int) : (0 ≤ z.tmod 23592960 → z.tmod 23592960 = z % 23592960) ∧ (z.tmod 23592960 < 0 → z.tmod 23592960 + 23592960 = z % 23592960) := by
  rcases Int.le_total 0 z with h | h
  · rw [Int.tmod_eq_emod_of_nonneg h]; omega
  · obtain ⟨m, rfl⟩ : ∃ m, z = -m := ⟨-z, by omega⟩
    rw [Int.neg_tmod, Int.tmod_eq_emod_of_nonneg (show 0 ≤ m by omega)]; omega

end Go.Proofs.Ytihfbliipjobdaa.Sx
