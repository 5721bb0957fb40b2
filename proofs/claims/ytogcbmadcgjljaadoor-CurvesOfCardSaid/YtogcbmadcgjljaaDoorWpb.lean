/-
  Plain laws of wides, part a.
-/
import Derived.Test.YtogcbmadcgjljaaDoorWb
set_option linter.all false
set_option maxRecDepth 100000
namespace Go.Proofs.YtogcbmadcgjljaaDoor.Sx
open Go Go.RowKit

theorem p_turned : P_turned := by
  unfold P_turned
  intro n l_n u_n
  intro n1 l_n1 u_n1
  intro n2 l_n2 u_n2
  intro hpre
  replace hpre : True := hpre
  intro b
  intro b1
  intro n3 e_n3 l_n3 u_n3
  intro n4 e_n4 l_n4 u_n4
  intro n5 e_n5 l_n5 u_n5
  intro n6 e_n6 l_n6 u_n6
  show ((0 : Int) = 0 ∧ w128 n5 n3 = (top8 - w128 n1 n) % top8)
  simp only [tellW, inW, half128, w128, wv, top8, top12, isInt, isI64, b2i, decide_eq_true_eq, true_and, and_true, implies_true, and_self, false_and, and_false, imp_false]; first | omega | (simp only [Classical.not_iff] at *; omega)

theorem p_part : P_part := by
  unfold P_part
  intro n l_n u_n
  intro n1 l_n1 u_n1
  intro hpre
  replace hpre : True := hpre
  intro b
  intro b1
  intro b2
  intro n2 e_n2 l_n2 u_n2
  simp only [wrap_u64, wrap_i64, wrap_i32, wrap_u32] at e_n2
  refine ⟨fun c0 => ?_, fun c0 => ?_⟩
  · refine ⟨trivial, ?_⟩
    intro n3 l_n3 u_n3
    intro n4 l_n4 u_n4
    intro n5 l_n5 u_n5
    intro h_turned
    replace h_turned : (n5 = 0 ∧ w128 n4 n3 = (top8 - w128 n2 n1) % top8) := h_turned
    simp only [w128, top8] at h_turned
    show (n5 = 0 ∧ (n < 0 → (b2i (decide (n < 0))) = 1 ∧ w128 n4 n3 = - w128 n n1) ∧ (0 ≤ n → (b2i (decide (n < 0))) = 0 ∧ w128 n4 n3 = w128 n n1))
    simp only [tellW, inW, half128, w128, wv, top8, top12, isInt, isI64, b2i, decide_eq_true_eq, true_and, and_true, implies_true, and_self, false_and, and_false, imp_false]; first | omega | (simp only [Classical.not_iff] at *; omega)
  · show ((0 : Int) = 0 ∧ (n < 0 → (b2i (decide (n < 0))) = 1 ∧ w128 n2 n1 = - w128 n n1) ∧ (0 ≤ n → (b2i (decide (n < 0))) = 0 ∧ w128 n2 n1 = w128 n n1))
    simp only [tellW, inW, half128, w128, wv, top8, top12, isInt, isI64, b2i, decide_eq_true_eq, true_and, and_true, implies_true, and_self, false_and, and_false, imp_false]; first | omega | (simp only [Classical.not_iff] at *; omega)

theorem p_whole : P_whole := by
  unfold P_whole
  intro t
  intro n l_n u_n
  intro n1 l_n1 u_n1
  intro n2 l_n2 u_n2
  intro hpre
  replace hpre : True := hpre
  intro b
  intro b1
  intro b2
  refine ⟨fun c0 => ?_, fun c0 => ?_⟩
  · refine ⟨fun c1 => ?_, fun c1 => ?_⟩
    · show tellW (if (b2i t) = 1 then - wv n n1 n2 else wv n n1 n2) (0 : Int) (0 : Int) (11 : Int)
      cases t <;> simp [b2i, tellW, inW, half128, w128, wv, top8, top12, isInt, isI64] at * <;> omega
    · refine ⟨fun c2 => ?_, fun c2 => ?_⟩
      · show tellW (if (b2i t) = 1 then - wv n n1 n2 else wv n n1 n2) (0 : Int) (0 : Int) (11 : Int)
        cases t <;> simp [b2i, tellW, inW, half128, w128, wv, top8, top12, isInt, isI64] at * <;> omega
      · refine ⟨fun c3 => ?_, fun c3 => ?_⟩
        · have q3 := (b2i_one t).2 c3
          refine ⟨trivial, ?_⟩
          intro n3 l_n3 u_n3
          intro n4 l_n4 u_n4
          intro n5 l_n5 u_n5
          intro h_turned
          replace h_turned : (n5 = 0 ∧ w128 n4 n3 = (top8 - w128 n1 n) % top8) := h_turned
          simp only [w128, top8] at h_turned
          intro n6 e_n6 l_n6 u_n6
          simp only [wrap_u64, wrap_i64, wrap_i32, wrap_u32] at e_n6
          show tellW (if (b2i t) = 1 then - wv n n1 n2 else wv n n1 n2) n6 n3 (0 : Int)
          cases t <;> simp [b2i, tellW, inW, half128, w128, wv, top8, top12, isInt, isI64] at * <;> omega
        · have q3 := (b2i_zero t).2 c3
          intro n3 e_n3 l_n3 u_n3
          simp only [wrap_u64, wrap_i64, wrap_i32, wrap_u32] at e_n3
          show tellW (if (b2i t) = 1 then - wv n n1 n2 else wv n n1 n2) n3 n (0 : Int)
          cases t <;> simp [b2i, tellW, inW, half128, w128, wv, top8, top12, isInt, isI64] at * <;> omega
  · refine ⟨fun c1 => ?_, fun c1 => ?_⟩
    · have q1 := (b2i_one t).2 c1
      refine ⟨trivial, ?_⟩
      intro n3 l_n3 u_n3
      intro n4 l_n4 u_n4
      intro n5 l_n5 u_n5
      intro h_turned
      replace h_turned : (n5 = 0 ∧ w128 n4 n3 = (top8 - w128 n1 n) % top8) := h_turned
      simp only [w128, top8] at h_turned
      intro n6 e_n6 l_n6 u_n6
      simp only [wrap_u64, wrap_i64, wrap_i32, wrap_u32] at e_n6
      show tellW (if (b2i t) = 1 then - wv n n1 n2 else wv n n1 n2) n6 n3 (0 : Int)
      cases t <;> simp [b2i, tellW, inW, half128, w128, wv, top8, top12, isInt, isI64] at * <;> omega
    · have q1 := (b2i_zero t).2 c1
      intro n3 e_n3 l_n3 u_n3
      simp only [wrap_u64, wrap_i64, wrap_i32, wrap_u32] at e_n3
      show tellW (if (b2i t) = 1 then - wv n n1 n2 else wv n n1 n2) n3 n (0 : Int)
      cases t <;> simp [b2i, tellW, inW, half128, w128, wv, top8, top12, isInt, isI64] at * <;> omega

theorem mul_u64 {a b : Int} (ha : 0 ≤ a) (ha' : a ≤ 18446744073709551615) (hb : 0 ≤ b) (hb' : b ≤ 18446744073709551615) : 0 ≤ a * b ∧ a * b ≤ 18446744073709551615 * 18446744073709551615 :=
  ⟨Int.mul_nonneg ha hb, Int.mul_le_mul ha' hb' hb (by omega)⟩

theorem p_wtimes : P_wtimes := by
  unfold P_wtimes
  intro n l_n u_n
  intro n1 l_n1 u_n1
  intro n2 l_n2 u_n2
  intro n3 l_n3 u_n3
  intro hpre
  replace hpre : True := hpre
  intro b
  intro b1
  refine ⟨trivial, ?_⟩
  intro n4 l_n4 u_n4
  intro n5 l_n5 u_n5
  intro h_mul64
  replace h_mul64 : n4 * 18446744073709551616 + n5 = n * n3 := h_mul64
  have k0 := mul_u64 (a := n) (b := n3) (by omega) (by omega) (by omega) (by omega)
  refine ⟨trivial, ?_⟩
  intro n6 l_n6 u_n6
  intro n7 l_n7 u_n7
  intro h_mul641
  replace h_mul641 : n6 * 18446744073709551616 + n7 = n1 * n3 := h_mul641
  have k1 := mul_u64 (a := n1) (b := n3) (by omega) (by omega) (by omega) (by omega)
  intro n8 e_n8 l_n8 u_n8
  intro n9 e_n9 l_n9 u_n9
  intro n10 e_n10 l_n10 u_n10
  simp only [wrap_u64, wrap_i64, wrap_i32, wrap_u32] at e_n10
  refine ⟨trivial, ?_⟩
  intro n11 l_n11 u_n11
  intro n12 l_n12 u_n12
  intro h_mul642
  replace h_mul642 : n11 * 18446744073709551616 + n12 = n2 * n3 := h_mul642
  have k2 := mul_u64 (a := n2) (b := n3) (by omega) (by omega) (by omega) (by omega)
  intro n13 e_n13 l_n13 u_n13
  intro n14 e_n14 l_n14 u_n14
  intro n15 e_n15 l_n15 u_n15
  simp only [wrap_u64, wrap_i64, wrap_i32, wrap_u32] at e_n15
  show wv n5 n8 n13 = (wv n n1 n2 * n3) % top12
  simp only [wv, top12]
  have e : (n + n1 * 18446744073709551616 + n2 * 340282366920938463463374607431768211456) * n3 = n * n3 + (n1 * n3) * 18446744073709551616 + (n2 * n3) * 340282366920938463463374607431768211456 := by grind
  rw [e]
  generalize n * n3 = x at *
  generalize n1 * n3 = y at *
  generalize n2 * n3 = z at *
  omega

theorem p_size : P_size := by
  unfold P_size
  intro n l_n u_n
  intro hpre
  replace hpre : True := hpre
  refine ⟨fun c0 => ?_, fun c0 => ?_⟩
  · intro n1 e_n1 l_n1 u_n1
    simp only [wrap_u64, wrap_i64, wrap_i32, wrap_u32] at e_n1
    show ((n < 0 → n1 = -n) ∧ (0 ≤ n → n1 = n))
    omega
  · intro n1 e_n1 l_n1 u_n1
    simp only [wrap_u64, wrap_i64, wrap_i32, wrap_u32] at e_n1
    show ((n < 0 → n1 = -n) ∧ (0 ≤ n → n1 = n))
    omega

theorem p_wadd : P_wadd := by
  unfold P_wadd
  intro n l_n u_n
  intro n1 l_n1 u_n1
  intro n2 l_n2 u_n2
  intro n3 l_n3 u_n3
  intro hpre
  replace hpre : True := hpre
  intro b
  intro b1
  intro b2
  intro n4 e_n4 l_n4 u_n4
  intro n5 e_n5 l_n5 u_n5
  intro n6 e_n6 l_n6 u_n6
  simp only [wrap_u64, wrap_i64, wrap_i32, wrap_u32] at e_n6
  refine ⟨fun c0 => ?_, fun c0 => ?_⟩
  · refine ⟨fun c1 => ?_, fun c1 => ?_⟩
    · show tellW (w128 n n1 + w128 n2 n3) (0 : Int) (0 : Int) (11 : Int)
      simp only [tellW, inW, half128, w128, wv, top8, top12, isInt, isI64, b2i, decide_eq_true_eq, true_and, and_true, implies_true, and_self, false_and, and_false, imp_false]; first | omega | (simp only [Classical.not_iff] at *; omega)
    · show tellW (w128 n n1 + w128 n2 n3) n6 n4 (0 : Int)
      simp only [tellW, inW, half128, w128, wv, top8, top12, isInt, isI64, b2i, decide_eq_true_eq, true_and, and_true, implies_true, and_self, false_and, and_false, imp_false]; first | omega | (simp only [Classical.not_iff] at *; omega)
  · show tellW (w128 n n1 + w128 n2 n3) n6 n4 (0 : Int)
    simp only [tellW, inW, half128, w128, wv, top8, top12, isInt, isI64, b2i, decide_eq_true_eq, true_and, and_true, implies_true, and_self, false_and, and_false, imp_false]; first | omega | (simp only [Classical.not_iff] at *; omega)

theorem p_wsub : P_wsub := by
  unfold P_wsub
  intro n l_n u_n
  intro n1 l_n1 u_n1
  intro n2 l_n2 u_n2
  intro n3 l_n3 u_n3
  intro hpre
  replace hpre : True := hpre
  intro b
  intro b1
  intro b2
  intro n4 e_n4 l_n4 u_n4
  intro n5 e_n5 l_n5 u_n5
  intro n6 e_n6 l_n6 u_n6
  simp only [wrap_u64, wrap_i64, wrap_i32, wrap_u32] at e_n6
  refine ⟨fun c0 => ?_, fun c0 => ?_⟩
  · refine ⟨fun c1 => ?_, fun c1 => ?_⟩
    · show tellW (w128 n n1 - w128 n2 n3) (0 : Int) (0 : Int) (11 : Int)
      simp only [tellW, inW, half128, w128, wv, top8, top12, isInt, isI64, b2i, decide_eq_true_eq, true_and, and_true, implies_true, and_self, false_and, and_false, imp_false]; first | omega | (simp only [Classical.not_iff] at *; omega)
    · show tellW (w128 n n1 - w128 n2 n3) n6 n4 (0 : Int)
      simp only [tellW, inW, half128, w128, wv, top8, top12, isInt, isI64, b2i, decide_eq_true_eq, true_and, and_true, implies_true, and_self, false_and, and_false, imp_false]; first | omega | (simp only [Classical.not_iff] at *; omega)
  · show tellW (w128 n n1 - w128 n2 n3) n6 n4 (0 : Int)
    simp only [tellW, inW, half128, w128, wv, top8, top12, isInt, isI64, b2i, decide_eq_true_eq, true_and, and_true, implies_true, and_self, false_and, and_false, imp_false]; first | omega | (simp only [Classical.not_iff] at *; omega)

theorem signed_mul {A N aw nw Q : Int} {t s : Bool} (h1 : (t = true ∧ aw = -A) ∨ (t = false ∧ aw = A)) (h2 : (s = true ∧ nw = -N) ∨ (s = false ∧ nw = N)) (h3 : Q = aw * nw) :
    (if b2i (!(t == s)) = 1 then -Q else Q) = A * N := by
  rcases h1 with ⟨rfl, rfl⟩ | ⟨rfl, rfl⟩ <;> rcases h2 with ⟨rfl, rfl⟩ | ⟨rfl, rfl⟩ <;> subst h3 <;> simp [b2i] <;> grind

theorem part_or {n t : Bool} {h : Int} : True := trivial

theorem p_wtms : P_wtms := by
  unfold P_wtms
  intro n l_n u_n
  intro n1 l_n1 u_n1
  intro n2 l_n2 u_n2
  intro hpre
  replace hpre : True := hpre
  intro b
  intro b1
  refine ⟨trivial, ?_⟩
  intro t
  intro n3 l_n3 u_n3
  intro n4 l_n4 u_n4
  intro n5 l_n5 u_n5
  intro h_part
  replace h_part : (n5 = 0 ∧ (n < 0 → (b2i t) = 1 ∧ w128 n4 n3 = - w128 n n1) ∧ (0 ≤ n → (b2i t) = 0 ∧ w128 n4 n3 = w128 n n1)) := h_part
  have ha : (t = true ∧ wv n3 n4 n5 = -(w128 n n1)) ∨ (t = false ∧ wv n3 n4 n5 = w128 n n1) := by
    cases t <;> simp [b2i, wv, w128] at * <;> omega
  have hb : 0 ≤ wv n3 n4 n5 ∧ wv n3 n4 n5 ≤ 170141183460469231731687303715884105728 := by
    simp only [wv, w128] at *; omega
  intro b2
  refine ⟨trivial, ?_⟩
  intro n6 l_n6 u_n6
  intro h_size
  replace h_size : ((n2 < 0 → n6 = -n2) ∧ (0 ≤ n2 → n6 = n2)) := h_size
  have hc : (decide (n2 < 0) = true ∧ n6 = -n2) ∨ (decide (n2 < 0) = false ∧ n6 = n2) := by
    by_cases q : n2 < 0 <;> simp [q] <;> omega
  refine ⟨trivial, ?_⟩
  intro n7 l_n7 u_n7
  intro n8 l_n8 u_n8
  intro n9 l_n9 u_n9
  intro h_wtimes
  replace h_wtimes : wv n7 n8 n9 = (wv n3 n4 n5 * n6) % top12 := h_wtimes
  have hd : wv n7 n8 n9 = wv n3 n4 n5 * n6 := by
    have hz : n6 ≤ 9223372036854775808 := by omega
    have h0 : 0 ≤ wv n3 n4 n5 * n6 := Int.mul_nonneg hb.1 l_n6
    have h1 : wv n3 n4 n5 * n6 ≤ 170141183460469231731687303715884105728 * 9223372036854775808 := Int.mul_le_mul hb.2 hz l_n6 (by omega)
    rw [h_wtimes]; simp only [top12]; omega
  refine ⟨trivial, ?_⟩
  intro n10 l_n10 u_n10
  intro n11 l_n11 u_n11
  intro n12 l_n12 u_n12
  intro h_whole
  replace h_whole : tellW (if (b2i (!(t == (decide (n2 < 0))))) = 1 then - wv n7 n8 n9 else wv n7 n8 n9) n10 n11 n12 := h_whole
  show tellW (w128 n n1 * n2) n10 n11 n12
  rw [signed_mul ha hc hd] at h_whole
  exact h_whole

theorem p_wmul : P_wmul := by
  unfold P_wmul
  intro n l_n u_n
  intro n1 l_n1 u_n1
  intro hpre
  replace hpre : True := hpre
  intro b
  refine ⟨trivial, ?_⟩
  intro n2 l_n2 u_n2
  intro n3 l_n3 u_n3
  intro h_wof
  replace h_wof : w128 n2 n3 = n := h_wof
  refine ⟨trivial, ?_⟩
  intro n4 l_n4 u_n4
  intro n5 l_n5 u_n5
  intro n6 l_n6 u_n6
  intro h_wtms
  replace h_wtms : tellW (w128 n2 n3 * n1) n4 n5 n6 := h_wtms
  intro b1
  show w128 n4 n5 = n * n1
  have k1 : w128 n2 n3 = n := h_wof
  rw [k1] at h_wtms
  have k2 : n * n1 ≤ 9223372036854775808 * 9223372036854775808 ∧ -(9223372036854775808 * 9223372036854775808) ≤ n * n1 := by
    have := mul_in (a := n) (b := n1) (l1 := -9223372036854775808) (h1 := 9223372036854775807) (l2 := -9223372036854775808) (h2 := 9223372036854775807) ⟨l_n, u_n⟩ ⟨l_n1, u_n1⟩
    simp only [mn, mx] at this
    simp at this
    omega
  exact (h_wtms.1 (by simp only [inW, half128]; omega)).2

end Go.Proofs.YtogcbmadcgjljaaDoor.Sx

/-
  Plain laws of wides, part b.
-/
set_option linter.all false
set_option maxRecDepth 100000
namespace Go.Proofs.YtogcbmadcgjljaaDoor.Sx
open Go Go.RowKit

theorem p_lz64 : P_lz64 := by
  unfold P_lz64
  intro n l_n u_n
  intro hpre
  replace hpre : True := hpre
  refine ⟨trivial, ?_⟩
  intro n1 l_n1 u_n1
  intro h_len64
  replace h_len64 : (0 ≤ n1 ∧ n < 2 ^ n1.toNat ∧ (0 < n → 2 ^ n1.toNat ≤ 2 * n) ∧ (n = 0 → n1 = 0)) := h_len64
  intro n2 e_n2 l_n2 u_n2
  show (0 ≤ n2 ∧ n < 2 ^ (64 - n2).toNat ∧ (0 < n → 2 ^ (64 - n2).toNat ≤ 2 * n) ∧ (n = 0 → n2 = 64))
  have e : 64 - n2 = n1 := by omega
  rw [e]
  obtain ⟨q1, q2, q3, q4⟩ := h_len64
  exact ⟨by omega, q2, q3, fun h => by have := q4 h; omega⟩

theorem p_wdivided : P_wdivided := by
  unfold P_wdivided
  intro n l_n u_n
  intro n1 l_n1 u_n1
  intro n2 l_n2 u_n2
  intro n3 l_n3 u_n3
  intro hpre
  replace hpre : 0 < n3 := hpre
  intro b
  intro b1
  refine ⟨?_, ?_⟩
  · show (0 : Int) < n3
    omega
  intro n4 l_n4 u_n4
  intro n5 l_n5 u_n5
  intro h_div64
  replace h_div64 : isFloor (w128 (0 : Int) n1) n3 n4 n5 := h_div64
  simp only [isFloor, w128] at h_div64
  refine ⟨?_, ?_⟩
  · show n5 < n3
    omega
  intro n6 l_n6 u_n6
  intro n7 l_n7 u_n7
  intro h_div641
  replace h_div641 : isFloor (w128 n5 n) n3 n6 n7 := h_div641
  simp only [isFloor, w128] at h_div641
  show ((0 : Int) = 0 ∧ isFloor (w128 n1 n) n3 (w128 n4 n6) n7)
  refine ⟨rfl, ?_⟩
  simp only [isFloor, w128]
  have e : (n4 * 18446744073709551616 + n6) * n3 = n4 * n3 * 18446744073709551616 + n6 * n3 := by grind
  rw [e]
  omega

theorem floor_neg {A d q r : Int} (h : isFloor (-A) d q r) : (0 < r → isFloor A d (-q - 1) (d - r)) ∧ (r = 0 → isFloor A d (-q) 0) := by
  obtain ⟨h1, h2, h3⟩ := h
  have e : (-q - 1) * d = -(q * d) - d := by grind
  have e2 : (-q) * d = -(q * d) := by grind
  refine ⟨fun h => ⟨?_, by omega, by omega⟩, fun h => ⟨?_, by omega, by omega⟩⟩
  · rw [e]; omega
  · rw [e2]; omega

theorem floor_le {A d q r : Int} (h : isFloor A d q r) (h0 : 0 ≤ A) (hd : 1 ≤ d) : 0 ≤ q ∧ q ≤ A - r := by
  obtain ⟨h1, h2, h3⟩ := h
  have hq : 0 ≤ q := by
    rcases Int.lt_or_le q 0 with h | h
    · have := Int.mul_le_mul_of_nonneg_right (show q ≤ -1 by omega) (show 0 ≤ d by omega)
      omega
    · exact h
  have := Int.mul_le_mul_of_nonneg_left hd hq
  omega

theorem p_wfloor : P_wfloor := by
  unfold P_wfloor
  intro n l_n u_n
  intro n1 l_n1 u_n1
  intro n2 l_n2 u_n2
  intro hpre
  replace hpre : True := hpre
  intro b
  intro b1
  refine ⟨fun c0 => ?_, fun c0 => ?_⟩
  · show ((n2 < 1 → (0 : Int) = 0 ∧ (0 : Int) = 0 ∧ (0 : Int) = 0 ∧ (1 : Int) = 1) ∧ (1 ≤ n2 → (1 : Int) = 0 ∧ isFloor (w128 n n1) n2 (w128 (0 : Int) (0 : Int)) (0 : Int)))
    exact ⟨fun _ => ⟨rfl, rfl, rfl, rfl⟩, fun h => by omega⟩
  · refine ⟨trivial, ?_⟩
    intro t
    intro n3 l_n3 u_n3
    intro n4 l_n4 u_n4
    intro n5 l_n5 u_n5
    intro h_part
    replace h_part : (n5 = 0 ∧ (n < 0 → (b2i t) = 1 ∧ w128 n4 n3 = - w128 n n1) ∧ (0 ≤ n → (b2i t) = 0 ∧ w128 n4 n3 = w128 n n1)) := h_part
    have ha : (t = true ∧ w128 n4 n3 = -(w128 n n1) ∧ n < 0) ∨ (t = false ∧ w128 n4 n3 = w128 n n1 ∧ 0 ≤ n) := by
      rcases Int.lt_or_le n 0 with q | q
      · obtain ⟨q1, q2⟩ := h_part.2.1 q
        exact Or.inl ⟨(b2i_one t).1 q1, q2, q⟩
      · obtain ⟨q1, q2⟩ := h_part.2.2 q
        exact Or.inr ⟨by have := (b2i_zero t).1 q1; simpa using this, q2, q⟩
    have hab : 0 ≤ w128 n4 n3 ∧ w128 n4 n3 ≤ 170141183460469231731687303715884105728 ∧ (t = false → w128 n4 n3 < 170141183460469231731687303715884105728) := by
      refine ⟨?_, ?_, fun ht => ?_⟩
      · simp only [w128]; omega
      · simp only [w128] at *; omega
      · rcases ha with ha | ha
        · rw [ht] at ha; cases ha.1
        · simp only [w128] at *; omega
    intro b2
    intro n6 e_n6 l_n6 u_n6
    simp only [wrap_u64, wrap_i64, wrap_i32, wrap_u32] at e_n6
    refine ⟨?_, ?_⟩
    · show 0 < n6
      omega
    intro n7 l_n7 u_n7
    intro n8 l_n8 u_n8
    intro n9 l_n9 u_n9
    intro n10 l_n10 u_n10
    intro h_wdivided
    replace h_wdivided : (n9 = 0 ∧ isFloor (w128 n4 n3) n6 (w128 n8 n7) n10) := h_wdivided
    obtain ⟨hz, hf⟩ := h_wdivided
    have e6 : n6 = n2 := by omega
    rw [e6] at hf
    have hq := floor_le hf hab.1 (by omega)
    have hwv : wv n7 n8 n9 = w128 n8 n7 := by simp only [wv, w128, hz]; omega
    have hr := hf.2.2
    intro b3
    refine ⟨trivial, ?_⟩
    intro n11 l_n11 u_n11
    intro n12 l_n12 u_n12
    intro n13 l_n13 u_n13
    intro h_whole
    replace h_whole : tellW (if (b2i t) = 1 then - wv n7 n8 n9 else wv n7 n8 n9) n11 n12 n13 := h_whole
    rw [hwv] at h_whole
    refine ⟨fun c1 => ?_, fun c1 => ?_⟩
    · have q1 := (b2i_one t).2 c1
      refine ⟨fun c2 => ?_, fun c2 => ?_⟩
      · refine ⟨trivial, ?_⟩
        intro n14 l_n14 u_n14
        intro n15 l_n15 u_n15
        intro h_wof
        replace h_wof : w128 n14 n15 = (1 : Int) := h_wof
        refine ⟨trivial, ?_⟩
        intro n16 l_n16 u_n16
        intro n17 l_n17 u_n17
        intro n18 l_n18 u_n18
        intro h_wsub
        replace h_wsub : tellW (w128 n11 n12 - w128 n14 n15) n16 n17 n18 := h_wsub
        intro n19 e_n19 l_n19 u_n19
        simp only [wrap_u64, wrap_i64, wrap_i32, wrap_u32] at e_n19
        intro n20 e_n20 l_n20 u_n20
        simp only [wrap_u64, wrap_i64, wrap_i32, wrap_u32] at e_n20
        show ((n2 < 1 → n16 = 0 ∧ n17 = 0 ∧ n20 = 0 ∧ (0 : Int) = 1) ∧ (1 ≤ n2 → (0 : Int) = 0 ∧ isFloor (w128 n n1) n2 (w128 n16 n17) n20))
        refine ⟨fun h => by omega, fun _ => ⟨rfl, ?_⟩⟩
        obtain ⟨rfl, ha, _⟩ := ha.resolve_right (fun h => by rw [c1] at h; cases h.1)
        rw [ha] at hf
        rw [show (if b2i true = 1 then -(w128 n8 n7) else w128 n8 n7) = -(w128 n8 n7) by simp [b2i]] at h_whole
        have g1 := (h_whole.1 (by simp only [inW, half128]; omega)).2
        have g2 : w128 n14 n15 = 1 := h_wof
        rw [g1, g2] at h_wsub
        have g3 := (h_wsub.1 (by simp only [inW, half128]; omega)).2
        rw [g3, show n20 = n2 - n10 by omega]
        exact (floor_neg hf).1 c2
      · intro n14 e_n14 l_n14 u_n14
        simp only [wrap_u64, wrap_i64, wrap_i32, wrap_u32] at e_n14
        show ((n2 < 1 → n11 = 0 ∧ n12 = 0 ∧ n14 = 0 ∧ (0 : Int) = 1) ∧ (1 ≤ n2 → (0 : Int) = 0 ∧ isFloor (w128 n n1) n2 (w128 n11 n12) n14))
        refine ⟨fun h => by omega, fun _ => ⟨rfl, ?_⟩⟩
        obtain ⟨rfl, ha, _⟩ := ha.resolve_right (fun h => by rw [c1] at h; cases h.1)
        rw [ha] at hf
        rw [show (if b2i true = 1 then -(w128 n8 n7) else w128 n8 n7) = -(w128 n8 n7) by simp [b2i]] at h_whole
        have g1 := (h_whole.1 (by simp only [inW, half128]; omega)).2
        rw [g1, show n14 = 0 by omega]
        exact (floor_neg hf).2 (by omega)
    · have q1 := (b2i_zero t).2 c1
      intro n14 e_n14 l_n14 u_n14
      simp only [wrap_u64, wrap_i64, wrap_i32, wrap_u32] at e_n14
      show ((n2 < 1 → n11 = 0 ∧ n12 = 0 ∧ n14 = 0 ∧ (0 : Int) = 1) ∧ (1 ≤ n2 → (0 : Int) = 0 ∧ isFloor (w128 n n1) n2 (w128 n11 n12) n14))
      refine ⟨fun h => by omega, fun _ => ⟨rfl, ?_⟩⟩
      obtain ⟨rfl, ha, _⟩ := ha.resolve_left (fun h => c1 h.1)
      have hlt := hab.2.2 rfl
      rw [show (if b2i false = 1 then -(w128 n8 n7) else w128 n8 n7) = w128 n8 n7 by simp [b2i]] at h_whole
      have g1 := (h_whole.1 (by simp only [inW, half128]; have := hf.2.1; omega)).2
      rw [g1, ← ha, show n14 = n10 by omega]
      exact hf

theorem near_up {A d q r : Int} (h : isFloor A d q r) (hu : d - r ≤ r) : isNear A d (q + 1) := by
  obtain ⟨h1, h2, h3⟩ := h
  have e1 : 2 * d * (q + 1) = 2 * (q * d) + 2 * d := by grind
  have e2 : 2 * d * (q + 1 + 1) = 2 * (q * d) + 4 * d := by grind
  refine ⟨?_, ?_⟩
  · rw [e1]; omega
  · rw [e2]; omega
theorem near_down {A d q r : Int} (h : isFloor A d q r) (hu : r < d - r) : isNear A d q := by
  obtain ⟨h1, h2, h3⟩ := h
  have e1 : 2 * d * q = 2 * (q * d) := by grind
  have e2 : 2 * d * (q + 1) = 2 * (q * d) + 2 * d := by grind
  refine ⟨?_, ?_⟩
  · rw [e1]; omega
  · rw [e2]; omega
/-- one more than the floor is a wide, if that was rounded up. -/
theorem near_in {A d q r : Int} (h : isFloor A d q r) (hA : inW A) (hu : d - r ≤ r) : inW (q + 1) := by
  obtain ⟨h1, h2, h3⟩ := h
  simp only [inW, half128] at *
  have hd : 2 ≤ d := by omega
  constructor
  · rcases Int.lt_or_le (q + 1) (-170141183460469231731687303715884105728) with h | h
    · have := Int.mul_le_mul_of_nonneg_right (show q ≤ -170141183460469231731687303715884105730 by omega) (show 0 ≤ d by omega)
      have e : (-170141183460469231731687303715884105730 : Int) * d ≤ -170141183460469231731687303715884105730 * 1 := by omega
      omega
    · exact h
  · rcases Int.lt_or_le (q + 1) 170141183460469231731687303715884105728 with h | h
    · exact h
    · have := Int.mul_le_mul_of_nonneg_right (show 170141183460469231731687303715884105727 ≤ q by omega) (show 0 ≤ d by omega)
      omega

theorem inW_w {h l : Int} (h1 : -9223372036854775808 ≤ h) (h2 : h ≤ 9223372036854775807) (h3 : 0 ≤ l) (h4 : l ≤ 18446744073709551615) : inW (w128 h l) := by
  simp only [inW, half128, w128]; omega

theorem p_wnear : P_wnear := by
  unfold P_wnear
  intro n l_n u_n
  intro n1 l_n1 u_n1
  intro n2 l_n2 u_n2
  intro hpre
  replace hpre : True := hpre
  intro b
  intro b1
  refine ⟨trivial, ?_⟩
  intro n3 l_n3 u_n3
  intro n4 l_n4 u_n4
  intro n5 l_n5 u_n5
  intro n6 l_n6 u_n6
  intro h_wfloor
  replace h_wfloor : ((n2 < 1 → n3 = 0 ∧ n4 = 0 ∧ n5 = 0 ∧ n6 = 1) ∧ (1 ≤ n2 → n6 = 0 ∧ isFloor (w128 n n1) n2 (w128 n3 n4) n5)) := h_wfloor
  intro b2
  refine ⟨fun c0 => ?_, fun c0 => ?_⟩
  · refine ⟨fun c1 => ?_, fun c1 => ?_⟩
    · refine ⟨trivial, ?_⟩
      intro n7 l_n7 u_n7
      intro n8 l_n8 u_n8
      intro h_wof
      replace h_wof : w128 n7 n8 = (1 : Int) := h_wof
      have g2 : w128 n7 n8 = 1 := h_wof
      refine ⟨trivial, ?_⟩
      intro n9 l_n9 u_n9
      intro n10 l_n10 u_n10
      intro n11 l_n11 u_n11
      intro h_wadd
      replace h_wadd : tellW (w128 n3 n4 + w128 n7 n8) n9 n10 n11 := h_wadd
      show ((n2 < 1 → n9 = 0 ∧ n10 = 0 ∧ n11 = 1) ∧ (1 ≤ n2 → n11 = 0 ∧ isNear (w128 n n1) n2 (w128 n9 n10)))
      have hd : 1 ≤ n2 := by
        rcases Int.lt_or_le n2 1 with h | h
        · have := h_wfloor.1 h; omega
        · exact h
      have hf := (h_wfloor.2 hd).2
      rw [wrap_i64] at c1
      have hr := hf.2
      have hu : n2 - n5 ≤ n5 := by omega
      rw [g2] at h_wadd
      have g3 := h_wadd.1 (near_in hf (inW_w l_n u_n l_n1 u_n1) hu)
      rw [g3.2]
      exact ⟨fun h => by omega, fun _ => ⟨g3.1, near_up hf hu⟩⟩
    · show ((n2 < 1 → n3 = 0 ∧ n4 = 0 ∧ n6 = 1) ∧ (1 ≤ n2 → n6 = 0 ∧ isNear (w128 n n1) n2 (w128 n3 n4)))
      have hd : 1 ≤ n2 := by
        rcases Int.lt_or_le n2 1 with h | h
        · have := h_wfloor.1 h; omega
        · exact h
      have hf := (h_wfloor.2 hd).2
      rw [wrap_i64] at c1
      have hr := hf.2
      exact ⟨fun h => by omega, fun _ => ⟨c0, near_down hf (by omega)⟩⟩
  · show ((n2 < 1 → n3 = 0 ∧ n4 = 0 ∧ n6 = 1) ∧ (1 ≤ n2 → n6 = 0 ∧ isNear (w128 n n1) n2 (w128 n3 n4)))
    have hd : n2 < 1 := by
      rcases Int.lt_or_le n2 1 with h | h
      · exact h
      · have := (h_wfloor.2 h).1; omega
    have := h_wfloor.1 hd
    exact ⟨fun h => by omega, fun h => by omega⟩

theorem p_wint : P_wint := by
  unfold P_wint
  intro n l_n u_n
  intro n1 l_n1 u_n1
  intro hpre
  replace hpre : True := hpre
  intro b
  intro n2 e_n2 l_n2 u_n2
  simp only [wrap_u64, wrap_i64, wrap_i32, wrap_u32] at e_n2
  refine ⟨trivial, ?_⟩
  intro n3 l_n3 u_n3
  intro n4 l_n4 u_n4
  intro h_wof
  replace h_wof : w128 n3 n4 = n2 := h_wof
  simp only [w128] at h_wof
  refine ⟨fun c0 => ?_, fun c0 => ?_⟩
  · show isInt (w128 n n1) n2 (b2i true)
    simp only [isInt, isI64, w128, b2i]; simp; omega
  · show isInt (w128 n n1) (0 : Int) (b2i false)
    simp only [isInt, isI64, w128, b2i]; simp; omega

end Go.Proofs.YtogcbmadcgjljaaDoor.Sx
