/-
  The document's angles: directions.
-/
import Derived.Test.YtihfbliipjobdaaTb
set_option linter.all false
set_option maxRecDepth 100000
namespace Go.Proofs.Ytihfbliipjobdaa.Sx
open Go Go.RowKit

def upS (u0 v0 u v : Int) : Prop := ∃ k : Nat, k ≤ upN (max u0 v0) ∧ u = u0 * 2 ^ k ∧ v = v0 * 2 ^ k
theorem at1_step {u0 v0 u v : Int} (h0 : 0 ≤ u0) (h1 : 0 ≤ v0) (hm : 1 ≤ max u0 v0) (hM : max u0 v0 ≤ 2147483648) (hi : ∃ k : Nat, k ≤ upN (max u0 v0) ∧ u = u0 * 2 ^ k ∧ v = v0 * 2 ^ k) :
    1 ≤ max u v ∧ (max u v < 1152921504606846976 → upS u0 v0 (2 * u) (2 * v)) ∧
    (¬ max u v < 1152921504606846976 → u = u0 * 2 ^ upN (max u0 v0) ∧ v = v0 * 2 ^ upN (max u0 v0)) := by
  obtain ⟨k, hk, rfl, rfl⟩ := hi
  obtain ⟨w1, w2, w3⟩ := up_in hm hM
  have pk : (0 : Int) < 2 ^ k := Int.pow_pos (by decide)
  have em : max (u0 * 2 ^ k) (v0 * 2 ^ k) = max u0 v0 * 2 ^ k := by
    rcases Int.le_total u0 v0 with z | z
    · have := Int.mul_le_mul_of_nonneg_right z (Int.le_of_lt pk)
      rw [Int.max_eq_right z, Int.max_eq_right this]
    · have := Int.mul_le_mul_of_nonneg_right z (Int.le_of_lt pk)
      rw [Int.max_eq_left z, Int.max_eq_left this]
  have hlt : k < upN (max u0 v0) → 2 * (max u0 v0 * 2 ^ k) ≤ max u0 v0 * 2 ^ upN (max u0 v0) := by
    intro z
    obtain ⟨d, hd⟩ : ∃ d, upN (max u0 v0) = k + 1 + d := ⟨upN (max u0 v0) - (k + 1), by omega⟩
    rw [hd, Int.pow_add, Int.pow_succ]
    have e : max u0 v0 * (2 ^ k * 2 * 2 ^ d) = 2 * (max u0 v0 * 2 ^ k) * 2 ^ d := by grind
    rw [e]
    have pd : (1 : Int) ≤ 2 ^ d := Int.pow_pos (by decide)
    have := Int.mul_le_mul_of_nonneg_left pd (show 0 ≤ 2 * (max u0 v0 * 2 ^ k) from Int.mul_nonneg (by omega) (Int.mul_nonneg (by omega) (Int.le_of_lt pk)))
    omega
  rw [em]
  refine ⟨?_, fun z => ?_, fun z => ?_⟩
  · have := Int.mul_le_mul hm (show (1 : Int) ≤ 2 ^ k from pk) (by omega) (by omega)
    omega
  · have : k ≠ upN (max u0 v0) := by
      intro e
      rw [e] at z
      omega
    refine ⟨k + 1, by omega, ?_, ?_⟩ <;> (rw [Int.pow_succ]; grind)
  · have : k = upN (max u0 v0) := by
      rcases Nat.lt_or_ge k (upN (max u0 v0)) with y | y
      · have := hlt y
        omega
      · omega
    rw [this]
    exact ⟨rfl, rfl⟩

set_option maxHeartbeats 4000000 in
theorem t_ratan {p0 p1 p2 p3 p4 : Int} (hF : fQ p3 p4 = p2 ∧ fX p3 p4 = p0 ∧ fY p3 p4 = p1) (q0 : 0 ≤ p2) (q1 : p2 ≤ 3) (x0 : 1 ≤ p0) (x1 : p0 ≤ 2147483648) (y0 : 0 ≤ p1) (y1 : p1 ≤ 2147483648) (h0 : ¬ (p4 = 0 ∧ p3 = 0)) : ratanT p0 p1 p2 p3 p4 := by
  unfold ratanT
  refine ⟨?_, ?_⟩
  · show (∃ k : Nat, k ≤ upN (max p0 p1) ∧ p0 = p0 * 2 ^ k ∧ p1 = p1 * 2 ^ k)
    exact ⟨0, Nat.zero_le _, by rw [Int.pow_zero]; omega, by rw [Int.pow_zero]; omega⟩
  intro n_1 l_n_1 u_n_1
  intro n_2 l_n_2 u_n_2
  intro hi_at1
  replace hi_at1 : (∃ k : Nat, k ≤ upN (max p0 p1) ∧ n_1 = p0 * 2 ^ k ∧ n_2 = p1 * 2 ^ k) := hi_at1
  have hs1 := at1_step (u0 := p0) (v0 := p1) (by omega) (by omega) (by omega) (by omega) hi_at1
  clear hi_at1
  obtain ⟨ha1, hb1, hc1⟩ := hs1
  intro vs_1 lv_vs_1
  refine ⟨fun c0 => ?_, fun c0 => ?_⟩
  · intro n_3 e_n_3 l_n_3 u_n_3
    intro n_4 e_n_4 l_n_4 u_n_4
    refine ⟨by first | omega | (have h3 := hst.2.1 (by omega); omega) | (have h3 := hst.2.2.1 (by omega); omega), ?_⟩
    intro n_5 e_n_5 l_n_5 u_n_5
    refine ⟨by first | omega | (have h3 := hst.2.1 (by omega); omega) | (have h3 := hst.2.2.1 (by omega); omega), ?_⟩
    intro n_6 e_n_6 l_n_6 u_n_6
    refine ⟨?_, ?_⟩
    · show (∃ k : Nat, k ≤ upN (max p0 p1) ∧ n_5 = p0 * 2 ^ k ∧ n_6 = p1 * 2 ^ k)
      obtain ⟨k, k1, k2, k3⟩ := hb1 (by assumption)
      exact ⟨k, k1, by rw [← k2]; omega, by rw [← k3]; omega⟩
    · show (2305843009213693952 - max n_5 n_6).toNat < (2305843009213693952 - max n_1 n_2).toNat
      omega
  · intro b_1
    intro b_2
    intro b_3
    refine ⟨?_, ?_⟩
    · show (p2 = p2 * 2 ^ ((1 : Int) - 1).toNat + (bk n_1 n_2 ((1 : Int) - 1).toNat).2.2 ∧ n_1 = (bk n_1 n_2 ((1 : Int) - 1).toNat).1 ∧ n_2 = (bk n_1 n_2 ((1 : Int) - 1).toNat).2.1)
      refine ⟨?_, rfl, rfl⟩
      show p2 = p2 * 2 ^ 0 + 0
      omega
    intro n_7 l_n_7 u_n_7
    intro n_8 l_n_8 u_n_8
    intro n_9 l_n_9 u_n_9
    intro n_10 l_n_10 u_n_10
    intro hi_at2
    replace hi_at2 : (n_8 = p2 * 2 ^ (n_7 - 1).toNat + (bk n_1 n_2 (n_7 - 1).toNat).2.2 ∧ n_9 = (bk n_1 n_2 (n_7 - 1).toNat).1 ∧ n_10 = (bk n_1 n_2 (n_7 - 1).toNat).2.1) := hi_at2
    have hu := hc1 (by assumption)
    clear hb1 hc1
    have hsc := scaled (X := p0) (Y := p1) (by omega) (by omega) (by omega) (by omega)
    rw [← hu.1, ← hu.2] at hsc
    have hs3 := hsc.2.2.1
    intro vs_2 lv_vs_2
    refine ⟨fun c1 => ?_, fun c1 => ?_⟩
    · intro n_11 e_n_11 l_n_11 u_n_11
      refine ⟨by first | omega | (have h3 := hst.2.1 (by omega); omega) | (have h3 := hst.2.2.1 (by omega); omega), ?_⟩
      intro n_12 e_n_12 l_n_12 u_n_12
      intro n_13 e_n_13 l_n_13 u_n_13
      have hst := at_step l_n_7 (by omega) (by omega) (by omega) hi_at2 e_n_12 e_n_13 hsc.1 hsc.2.1 hs3
      refine ⟨?_, ?_⟩
      · show (nb n_9 n_10 4611686018427387984 ∧ nb n_12 n_13 4611686018427387904)
        exact hst.1
      intro n_14 l_n_14 u_n_14
      intro n_15 l_n_15 u_n_15
      intro h_rback
      replace h_rback : (n_14 = bkX n_9 n_10 n_12 n_13 ∧ n_15 = bkY n_9 n_10 n_12 n_13) := h_rback
      rw [← h_rback.1, ← h_rback.2] at hst
      intro b_4
      refine ⟨fun c2 => ?_, fun c2 => ?_⟩
      · intro n_16 e_n_16 l_n_16 u_n_16
        intro n_17 e_n_17 l_n_17 u_n_17
        refine ⟨by first | omega | (have h3 := hst.2.1 (by omega); omega) | (have h3 := hst.2.2.1 (by omega); omega), ?_⟩
        intro n_18 e_n_18 l_n_18 u_n_18
        refine ⟨by first | omega | (have h3 := hst.2.1 (by omega); omega) | (have h3 := hst.2.2.1 (by omega); omega), ?_⟩
        intro n_19 e_n_19 l_n_19 u_n_19
        refine ⟨by first | omega | (have h3 := hst.2.1 (by omega); omega) | (have h3 := hst.2.2.1 (by omega); omega), ?_⟩
        refine ⟨by first | omega | (have h3 := hst.2.1 (by omega); omega) | (have h3 := hst.2.2.1 (by omega); omega), ?_⟩
        intro n_20 e_n_20 l_n_20 u_n_20
        refine ⟨by first | omega | (have h3 := hst.2.1 (by omega); omega) | (have h3 := hst.2.2.1 (by omega); omega), ?_⟩
        refine ⟨by first | omega | (have h3 := hst.2.1 (by omega); omega) | (have h3 := hst.2.2.1 (by omega); omega), ?_⟩
        intro n_21 e_n_21 l_n_21 u_n_21
        refine ⟨?_, ?_⟩
        · show (n_19 = p2 * 2 ^ (n_18 - 1).toNat + (bk n_1 n_2 (n_18 - 1).toNat).2.2 ∧ n_20 = (bk n_1 n_2 (n_18 - 1).toNat).1 ∧ n_21 = (bk n_1 n_2 (n_18 - 1).toNat).2.1)
          rw [show (n_18 - 1).toNat = n_7.toNat by omega]
          have h3 := hst.2.1 (by omega)
          exact ⟨by omega, by omega, by omega⟩
        · show (41 - n_18).toNat < (41 - n_7).toNat
          omega
      · intro n_22 e_n_22 l_n_22 u_n_22
        refine ⟨by first | omega | (have h3 := hst.2.1 (by omega); omega) | (have h3 := hst.2.2.1 (by omega); omega), ?_⟩
        intro n_23 e_n_23 l_n_23 u_n_23
        refine ⟨by first | omega | (have h3 := hst.2.1 (by omega); omega) | (have h3 := hst.2.2.1 (by omega); omega), ?_⟩
        intro n_24 e_n_24 l_n_24 u_n_24
        refine ⟨?_, ?_⟩
        · show (n_24 = p2 * 2 ^ (n_23 - 1).toNat + (bk n_1 n_2 (n_23 - 1).toNat).2.2 ∧ n_9 = (bk n_1 n_2 (n_23 - 1).toNat).1 ∧ n_10 = (bk n_1 n_2 (n_23 - 1).toNat).2.1)
          rw [show (n_23 - 1).toNat = n_7.toNat by omega]
          have h3 := hst.2.2.1 (by omega)
          exact ⟨by omega, by omega, by omega⟩
        · show (41 - n_23).toNat < (41 - n_7).toNat
          omega
    · refine ⟨trivial, ?_⟩
      intro n_25 l_n_25 u_n_25
      intro n_26 l_n_26 u_n_26
      intro h_rmul
      replace h_rmul : w128 n_25 n_26 = n_8 * (5898240 : Int) := h_rmul
      refine ⟨trivial, ?_⟩
      intro n_27 l_n_27 u_n_27
      intro n_28 l_n_28 u_n_28
      intro n_29 l_n_29 u_n_29
      intro h_rnear
      replace h_rnear : (((1099511627776 : Int) < 1 → n_27 = 0 ∧ n_28 = 0 ∧ n_29 = 1) ∧ (1 ≤ (1099511627776 : Int) → n_29 = 0 ∧ isNear (w128 n_25 n_26) (1099511627776 : Int) (w128 n_27 n_28))) := h_rnear
      have hw := (h_rnear.2 (by omega)).2
      rw [h_rmul] at hw
      have h41 : n_7 = 41 := by omega
      rw [h41] at hi_at2
      replace hi_at2 : n_8 = p2 * 2 ^ 40 + (bk n_1 n_2 40).2.2 ∧ n_9 = (bk n_1 n_2 40).1 ∧ n_10 = (bk n_1 n_2 40).2.1 := hi_at2
      have hend := at_end (y := p3) (x := p4) hF.1.symm (by rw [hF.2.1, hF.2.2]; exact hu.1) (by rw [hF.2.1, hF.2.2]; exact hu.2) hi_at2.1 hw l_n_8 u_n_8
      intro b_5
      refine ⟨trivial, ?_⟩
      intro n_30 l_n_30 u_n_30
      intro t_1
      intro h_rint
      replace h_rint : isInt (w128 n_27 n_28) n_30 (b2i t_1) := h_rint
      have hi2 := (h_rint.1 (by simp only [isI64]; omega)).2
      rw [← hi2] at hend
      refine ⟨fun c2 => ?_, fun c2 => ?_⟩
      · show ((p4 = 0 ∧ p3 = 0 → (0 : Int) = 0 ∧ (0 : Int) = 12) ∧ (¬ (p4 = 0 ∧ p3 = 0) → (0 : Int) = 0 ∧ (0 : Int) = atF p3 p4))
        refine ⟨fun h => absurd h h0, fun _ => ⟨rfl, ?_⟩⟩
        rw [← hend.2.2]
        omega
      · intro n_31 e_n_31 l_n_31 u_n_31
        simp only [wrap_u64, wrap_i64, wrap_i32, wrap_u32, wrap_u8] at e_n_31
        refine ⟨by first | omega | (have h3 := hst.2.1 (by omega); omega) | (have h3 := hst.2.2.1 (by omega); omega), ?_⟩
        refine ⟨by first | omega | (have h3 := hst.2.1 (by omega); omega) | (have h3 := hst.2.2.1 (by omega); omega), ?_⟩
        intro n_32 e_n_32 l_n_32 u_n_32
        show ((p4 = 0 ∧ p3 = 0 → n_32 = 0 ∧ (0 : Int) = 12) ∧ (¬ (p4 = 0 ∧ p3 = 0) → (0 : Int) = 0 ∧ n_32 = atF p3 p4))
        refine ⟨fun h => absurd h h0, fun _ => ⟨rfl, ?_⟩⟩
        rw [← hend.2.2]
        omega

set_option maxHeartbeats 4000000 in
theorem p_ratan : P_ratan := by
  unfold P_ratan
  intro n l_n u_n
  intro n1 l_n1 u_n1
  intro hpre
  replace hpre : True := hpre
  refine ⟨fun c0 => ?_, fun c0 => ?_⟩
  · refine ⟨fun c1 => ?_, fun c1 => ?_⟩
    · show ((n1 = 0 ∧ n = 0 → (0 : Int) = 0 ∧ (12 : Int) = 12) ∧ (¬ (n1 = 0 ∧ n = 0) → (12 : Int) = 0 ∧ (0 : Int) = atF n n1))
      refine ⟨fun _ => ⟨rfl, rfl⟩, fun h => absurd ⟨by assumption, by assumption⟩ h⟩
    · refine ⟨fun c2 => ?_, fun c2 => ?_⟩
      · refine ⟨fun c3 => ?_, fun c3 => ?_⟩
        · refine ⟨by omega, ?_⟩
          intro n2 e_n2 l_n2 u_n2
          refine ⟨by omega, ?_⟩
          intro n3 e_n3 l_n3 u_n3
          exact t_ratan ⟨by unfold fQ; (repeat' split) <;> omega, by unfold fX; (repeat' split) <;> omega, by unfold fY; (repeat' split) <;> omega⟩ (by omega) (by omega) (by omega) (by omega) (by omega) (by omega) (by omega)
        · refine ⟨fun c4 => ?_, fun c4 => ?_⟩
          · refine ⟨fun c5 => ?_, fun c5 => ?_⟩
            · intro n2 e_n2 l_n2 u_n2
              refine ⟨by omega, ?_⟩
              intro n3 e_n3 l_n3 u_n3
              refine ⟨by omega, ?_⟩
              intro n4 e_n4 l_n4 u_n4
              exact t_ratan ⟨by unfold fQ; (repeat' split) <;> omega, by unfold fX; (repeat' split) <;> omega, by unfold fY; (repeat' split) <;> omega⟩ (by omega) (by omega) (by omega) (by omega) (by omega) (by omega) (by omega)
            · refine ⟨fun c6 => ?_, fun c6 => ?_⟩
              · refine ⟨fun c7 => ?_, fun c7 => ?_⟩
                · intro n2 e_n2 l_n2 u_n2
                  intro n3 e_n3 l_n3 u_n3
                  refine ⟨by omega, ?_⟩
                  intro n4 e_n4 l_n4 u_n4
                  refine ⟨by omega, ?_⟩
                  intro n5 e_n5 l_n5 u_n5
                  exact t_ratan ⟨by unfold fQ; (repeat' split) <;> omega, by unfold fX; (repeat' split) <;> omega, by unfold fY; (repeat' split) <;> omega⟩ (by omega) (by omega) (by omega) (by omega) (by omega) (by omega) (by omega)
                · intro n2 e_n2 l_n2 u_n2
                  refine ⟨by omega, ?_⟩
                  intro n3 e_n3 l_n3 u_n3
                  refine ⟨by omega, ?_⟩
                  intro n4 e_n4 l_n4 u_n4
                  exact t_ratan ⟨by unfold fQ; (repeat' split) <;> omega, by unfold fX; (repeat' split) <;> omega, by unfold fY; (repeat' split) <;> omega⟩ (by omega) (by omega) (by omega) (by omega) (by omega) (by omega) (by omega)
              · intro n2 e_n2 l_n2 u_n2
                refine ⟨by omega, ?_⟩
                intro n3 e_n3 l_n3 u_n3
                refine ⟨by omega, ?_⟩
                intro n4 e_n4 l_n4 u_n4
                exact t_ratan ⟨by unfold fQ; (repeat' split) <;> omega, by unfold fX; (repeat' split) <;> omega, by unfold fY; (repeat' split) <;> omega⟩ (by omega) (by omega) (by omega) (by omega) (by omega) (by omega) (by omega)
          · refine ⟨fun c5 => ?_, fun c5 => ?_⟩
            · refine ⟨fun c6 => ?_, fun c6 => ?_⟩
              · intro n2 e_n2 l_n2 u_n2
                intro n3 e_n3 l_n3 u_n3
                refine ⟨by omega, ?_⟩
                intro n4 e_n4 l_n4 u_n4
                refine ⟨by omega, ?_⟩
                intro n5 e_n5 l_n5 u_n5
                exact t_ratan ⟨by unfold fQ; (repeat' split) <;> omega, by unfold fX; (repeat' split) <;> omega, by unfold fY; (repeat' split) <;> omega⟩ (by omega) (by omega) (by omega) (by omega) (by omega) (by omega) (by omega)
              · intro n2 e_n2 l_n2 u_n2
                refine ⟨by omega, ?_⟩
                intro n3 e_n3 l_n3 u_n3
                refine ⟨by omega, ?_⟩
                intro n4 e_n4 l_n4 u_n4
                exact t_ratan ⟨by unfold fQ; (repeat' split) <;> omega, by unfold fX; (repeat' split) <;> omega, by unfold fY; (repeat' split) <;> omega⟩ (by omega) (by omega) (by omega) (by omega) (by omega) (by omega) (by omega)
            · intro n2 e_n2 l_n2 u_n2
              refine ⟨by omega, ?_⟩
              intro n3 e_n3 l_n3 u_n3
              refine ⟨by omega, ?_⟩
              intro n4 e_n4 l_n4 u_n4
              exact t_ratan ⟨by unfold fQ; (repeat' split) <;> omega, by unfold fX; (repeat' split) <;> omega, by unfold fY; (repeat' split) <;> omega⟩ (by omega) (by omega) (by omega) (by omega) (by omega) (by omega) (by omega)
      · refine ⟨fun c3 => ?_, fun c3 => ?_⟩
        · refine ⟨fun c4 => ?_, fun c4 => ?_⟩
          · intro n2 e_n2 l_n2 u_n2
            refine ⟨by omega, ?_⟩
            intro n3 e_n3 l_n3 u_n3
            refine ⟨by omega, ?_⟩
            intro n4 e_n4 l_n4 u_n4
            exact t_ratan ⟨by unfold fQ; (repeat' split) <;> omega, by unfold fX; (repeat' split) <;> omega, by unfold fY; (repeat' split) <;> omega⟩ (by omega) (by omega) (by omega) (by omega) (by omega) (by omega) (by omega)
          · refine ⟨fun c5 => ?_, fun c5 => ?_⟩
            · refine ⟨fun c6 => ?_, fun c6 => ?_⟩
              · intro n2 e_n2 l_n2 u_n2
                intro n3 e_n3 l_n3 u_n3
                refine ⟨by omega, ?_⟩
                intro n4 e_n4 l_n4 u_n4
                refine ⟨by omega, ?_⟩
                intro n5 e_n5 l_n5 u_n5
                exact t_ratan ⟨by unfold fQ; (repeat' split) <;> omega, by unfold fX; (repeat' split) <;> omega, by unfold fY; (repeat' split) <;> omega⟩ (by omega) (by omega) (by omega) (by omega) (by omega) (by omega) (by omega)
              · intro n2 e_n2 l_n2 u_n2
                refine ⟨by omega, ?_⟩
                intro n3 e_n3 l_n3 u_n3
                refine ⟨by omega, ?_⟩
                intro n4 e_n4 l_n4 u_n4
                exact t_ratan ⟨by unfold fQ; (repeat' split) <;> omega, by unfold fX; (repeat' split) <;> omega, by unfold fY; (repeat' split) <;> omega⟩ (by omega) (by omega) (by omega) (by omega) (by omega) (by omega) (by omega)
            · intro n2 e_n2 l_n2 u_n2
              refine ⟨by omega, ?_⟩
              intro n3 e_n3 l_n3 u_n3
              refine ⟨by omega, ?_⟩
              intro n4 e_n4 l_n4 u_n4
              exact t_ratan ⟨by unfold fQ; (repeat' split) <;> omega, by unfold fX; (repeat' split) <;> omega, by unfold fY; (repeat' split) <;> omega⟩ (by omega) (by omega) (by omega) (by omega) (by omega) (by omega) (by omega)
        · refine ⟨fun c4 => ?_, fun c4 => ?_⟩
          · refine ⟨fun c5 => ?_, fun c5 => ?_⟩
            · intro n2 e_n2 l_n2 u_n2
              intro n3 e_n3 l_n3 u_n3
              refine ⟨by omega, ?_⟩
              intro n4 e_n4 l_n4 u_n4
              refine ⟨by omega, ?_⟩
              intro n5 e_n5 l_n5 u_n5
              exact t_ratan ⟨by unfold fQ; (repeat' split) <;> omega, by unfold fX; (repeat' split) <;> omega, by unfold fY; (repeat' split) <;> omega⟩ (by omega) (by omega) (by omega) (by omega) (by omega) (by omega) (by omega)
            · intro n2 e_n2 l_n2 u_n2
              refine ⟨by omega, ?_⟩
              intro n3 e_n3 l_n3 u_n3
              refine ⟨by omega, ?_⟩
              intro n4 e_n4 l_n4 u_n4
              exact t_ratan ⟨by unfold fQ; (repeat' split) <;> omega, by unfold fX; (repeat' split) <;> omega, by unfold fY; (repeat' split) <;> omega⟩ (by omega) (by omega) (by omega) (by omega) (by omega) (by omega) (by omega)
          · intro n2 e_n2 l_n2 u_n2
            refine ⟨by omega, ?_⟩
            intro n3 e_n3 l_n3 u_n3
            refine ⟨by omega, ?_⟩
            intro n4 e_n4 l_n4 u_n4
            exact t_ratan ⟨by unfold fQ; (repeat' split) <;> omega, by unfold fX; (repeat' split) <;> omega, by unfold fY; (repeat' split) <;> omega⟩ (by omega) (by omega) (by omega) (by omega) (by omega) (by omega) (by omega)
  · refine ⟨fun c1 => ?_, fun c1 => ?_⟩
    · refine ⟨fun c2 => ?_, fun c2 => ?_⟩
      · refine ⟨by omega, ?_⟩
        intro n2 e_n2 l_n2 u_n2
        refine ⟨by omega, ?_⟩
        intro n3 e_n3 l_n3 u_n3
        exact t_ratan ⟨by unfold fQ; (repeat' split) <;> omega, by unfold fX; (repeat' split) <;> omega, by unfold fY; (repeat' split) <;> omega⟩ (by omega) (by omega) (by omega) (by omega) (by omega) (by omega) (by omega)
      · refine ⟨fun c3 => ?_, fun c3 => ?_⟩
        · refine ⟨fun c4 => ?_, fun c4 => ?_⟩
          · intro n2 e_n2 l_n2 u_n2
            refine ⟨by omega, ?_⟩
            intro n3 e_n3 l_n3 u_n3
            refine ⟨by omega, ?_⟩
            intro n4 e_n4 l_n4 u_n4
            exact t_ratan ⟨by unfold fQ; (repeat' split) <;> omega, by unfold fX; (repeat' split) <;> omega, by unfold fY; (repeat' split) <;> omega⟩ (by omega) (by omega) (by omega) (by omega) (by omega) (by omega) (by omega)
          · refine ⟨fun c5 => ?_, fun c5 => ?_⟩
            · refine ⟨fun c6 => ?_, fun c6 => ?_⟩
              · intro n2 e_n2 l_n2 u_n2
                intro n3 e_n3 l_n3 u_n3
                refine ⟨by omega, ?_⟩
                intro n4 e_n4 l_n4 u_n4
                refine ⟨by omega, ?_⟩
                intro n5 e_n5 l_n5 u_n5
                exact t_ratan ⟨by unfold fQ; (repeat' split) <;> omega, by unfold fX; (repeat' split) <;> omega, by unfold fY; (repeat' split) <;> omega⟩ (by omega) (by omega) (by omega) (by omega) (by omega) (by omega) (by omega)
              · intro n2 e_n2 l_n2 u_n2
                refine ⟨by omega, ?_⟩
                intro n3 e_n3 l_n3 u_n3
                refine ⟨by omega, ?_⟩
                intro n4 e_n4 l_n4 u_n4
                exact t_ratan ⟨by unfold fQ; (repeat' split) <;> omega, by unfold fX; (repeat' split) <;> omega, by unfold fY; (repeat' split) <;> omega⟩ (by omega) (by omega) (by omega) (by omega) (by omega) (by omega) (by omega)
            · intro n2 e_n2 l_n2 u_n2
              refine ⟨by omega, ?_⟩
              intro n3 e_n3 l_n3 u_n3
              refine ⟨by omega, ?_⟩
              intro n4 e_n4 l_n4 u_n4
              exact t_ratan ⟨by unfold fQ; (repeat' split) <;> omega, by unfold fX; (repeat' split) <;> omega, by unfold fY; (repeat' split) <;> omega⟩ (by omega) (by omega) (by omega) (by omega) (by omega) (by omega) (by omega)
        · refine ⟨fun c4 => ?_, fun c4 => ?_⟩
          · refine ⟨fun c5 => ?_, fun c5 => ?_⟩
            · intro n2 e_n2 l_n2 u_n2
              intro n3 e_n3 l_n3 u_n3
              refine ⟨by omega, ?_⟩
              intro n4 e_n4 l_n4 u_n4
              refine ⟨by omega, ?_⟩
              intro n5 e_n5 l_n5 u_n5
              exact t_ratan ⟨by unfold fQ; (repeat' split) <;> omega, by unfold fX; (repeat' split) <;> omega, by unfold fY; (repeat' split) <;> omega⟩ (by omega) (by omega) (by omega) (by omega) (by omega) (by omega) (by omega)
            · intro n2 e_n2 l_n2 u_n2
              refine ⟨by omega, ?_⟩
              intro n3 e_n3 l_n3 u_n3
              refine ⟨by omega, ?_⟩
              intro n4 e_n4 l_n4 u_n4
              exact t_ratan ⟨by unfold fQ; (repeat' split) <;> omega, by unfold fX; (repeat' split) <;> omega, by unfold fY; (repeat' split) <;> omega⟩ (by omega) (by omega) (by omega) (by omega) (by omega) (by omega) (by omega)
          · intro n2 e_n2 l_n2 u_n2
            refine ⟨by omega, ?_⟩
            intro n3 e_n3 l_n3 u_n3
            refine ⟨by omega, ?_⟩
            intro n4 e_n4 l_n4 u_n4
            exact t_ratan ⟨by unfold fQ; (repeat' split) <;> omega, by unfold fX; (repeat' split) <;> omega, by unfold fY; (repeat' split) <;> omega⟩ (by omega) (by omega) (by omega) (by omega) (by omega) (by omega) (by omega)
    · refine ⟨fun c2 => ?_, fun c2 => ?_⟩
      · refine ⟨fun c3 => ?_, fun c3 => ?_⟩
        · intro n2 e_n2 l_n2 u_n2
          refine ⟨by omega, ?_⟩
          intro n3 e_n3 l_n3 u_n3
          refine ⟨by omega, ?_⟩
          intro n4 e_n4 l_n4 u_n4
          exact t_ratan ⟨by unfold fQ; (repeat' split) <;> omega, by unfold fX; (repeat' split) <;> omega, by unfold fY; (repeat' split) <;> omega⟩ (by omega) (by omega) (by omega) (by omega) (by omega) (by omega) (by omega)
        · refine ⟨fun c4 => ?_, fun c4 => ?_⟩
          · refine ⟨fun c5 => ?_, fun c5 => ?_⟩
            · intro n2 e_n2 l_n2 u_n2
              intro n3 e_n3 l_n3 u_n3
              refine ⟨by omega, ?_⟩
              intro n4 e_n4 l_n4 u_n4
              refine ⟨by omega, ?_⟩
              intro n5 e_n5 l_n5 u_n5
              exact t_ratan ⟨by unfold fQ; (repeat' split) <;> omega, by unfold fX; (repeat' split) <;> omega, by unfold fY; (repeat' split) <;> omega⟩ (by omega) (by omega) (by omega) (by omega) (by omega) (by omega) (by omega)
            · intro n2 e_n2 l_n2 u_n2
              refine ⟨by omega, ?_⟩
              intro n3 e_n3 l_n3 u_n3
              refine ⟨by omega, ?_⟩
              intro n4 e_n4 l_n4 u_n4
              exact t_ratan ⟨by unfold fQ; (repeat' split) <;> omega, by unfold fX; (repeat' split) <;> omega, by unfold fY; (repeat' split) <;> omega⟩ (by omega) (by omega) (by omega) (by omega) (by omega) (by omega) (by omega)
          · intro n2 e_n2 l_n2 u_n2
            refine ⟨by omega, ?_⟩
            intro n3 e_n3 l_n3 u_n3
            refine ⟨by omega, ?_⟩
            intro n4 e_n4 l_n4 u_n4
            exact t_ratan ⟨by unfold fQ; (repeat' split) <;> omega, by unfold fX; (repeat' split) <;> omega, by unfold fY; (repeat' split) <;> omega⟩ (by omega) (by omega) (by omega) (by omega) (by omega) (by omega) (by omega)
      · refine ⟨fun c3 => ?_, fun c3 => ?_⟩
        · refine ⟨fun c4 => ?_, fun c4 => ?_⟩
          · intro n2 e_n2 l_n2 u_n2
            intro n3 e_n3 l_n3 u_n3
            refine ⟨by omega, ?_⟩
            intro n4 e_n4 l_n4 u_n4
            refine ⟨by omega, ?_⟩
            intro n5 e_n5 l_n5 u_n5
            exact t_ratan ⟨by unfold fQ; (repeat' split) <;> omega, by unfold fX; (repeat' split) <;> omega, by unfold fY; (repeat' split) <;> omega⟩ (by omega) (by omega) (by omega) (by omega) (by omega) (by omega) (by omega)
          · intro n2 e_n2 l_n2 u_n2
            refine ⟨by omega, ?_⟩
            intro n3 e_n3 l_n3 u_n3
            refine ⟨by omega, ?_⟩
            intro n4 e_n4 l_n4 u_n4
            exact t_ratan ⟨by unfold fQ; (repeat' split) <;> omega, by unfold fX; (repeat' split) <;> omega, by unfold fY; (repeat' split) <;> omega⟩ (by omega) (by omega) (by omega) (by omega) (by omega) (by omega) (by omega)
        · intro n2 e_n2 l_n2 u_n2
          refine ⟨by omega, ?_⟩
          intro n3 e_n3 l_n3 u_n3
          refine ⟨by omega, ?_⟩
          intro n4 e_n4 l_n4 u_n4
          exact t_ratan ⟨by unfold fQ; (repeat' split) <;> omega, by unfold fX; (repeat' split) <;> omega, by unfold fY; (repeat' split) <;> omega⟩ (by omega) (by omega) (by omega) (by omega) (by omega) (by omega) (by omega)

end Go.Proofs.Ytihfbliipjobdaa.Sx
