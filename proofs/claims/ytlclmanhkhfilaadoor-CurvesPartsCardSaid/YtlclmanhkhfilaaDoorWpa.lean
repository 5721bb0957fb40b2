/-
  Plain laws of wides, part a.
-/
import Derived.Test.YtlclmanhkhfilaaDoorWb
set_option linter.all false
set_option maxRecDepth 100000
namespace Go.Proofs.YtlclmanhkhfilaaDoor.Sx
open Go Go.RowKit

theorem p_turned : P_turned := by
  unfold P_turned
  intro n l_n u_n
  intro n1 l_n1 u_n1
  intro n2 l_n2 u_n2
  intro hpre
  replace hpre : True := hpre
  intro b
  intro b1
  intro n3 e_n3 l_n3 u_n3
  intro n4 e_n4 l_n4 u_n4
  intro n5 e_n5 l_n5 u_n5
  intro n6 e_n6 l_n6 u_n6
  show ((0 : Int) = 0 ∧ w128 n5 n3 = (top8 - w128 n1 n) % top8)
  simp only [tellW, inW, half128, w128, wv, top8, top12, isInt, isI64, b2i, decide_eq_true_eq, true_and, and_true, implies_true, and_self, false_and, and_false, imp_false]; first | omega | (simp only [Classical.not_iff] at *; omega)

theorem p_part : P_part := by
  unfold P_part
  intro n l_n u_n
  intro n1 l_n1 u_n1
  intro hpre
  replace hpre : True := hpre
  intro b
  intro b1
  intro b2
  intro n2 e_n2 l_n2 u_n2
  simp only [wrap_u64, wrap_i64, wrap_i32, wrap_u32] at e_n2
  refine ⟨fun c0 => ?_, fun c0 => ?_⟩
  · refine ⟨trivial, ?_⟩
    intro n3 l_n3 u_n3
    intro n4 l_n4 u_n4
    intro n5 l_n5 u_n5
    intro h_turned
    replace h_turned : (n5 = 0 ∧ w128 n4 n3 = (top8 - w128 n2 n1) % top8) := h_turned
    simp only [w128, top8] at h_turned
    show (n5 = 0 ∧ (n < 0 → (b2i (decide (n < 0))) = 1 ∧ w128 n4 n3 = - w128 n n1) ∧ (0 ≤ n → (b2i (decide (n < 0))) = 0 ∧ w128 n4 n3 = w128 n n1))
    simp only [tellW, inW, half128, w128, wv, top8, top12, isInt, isI64, b2i, decide_eq_true_eq, true_and, and_true, implies_true, and_self, false_and, and_false, imp_false]; first | omega | (simp only [Classical.not_iff] at *; omega)
  · show ((0 : Int) = 0 ∧ (n < 0 → (b2i (decide (n < 0))) = 1 ∧ w128 n2 n1 = - w128 n n1) ∧ (0 ≤ n → (b2i (decide (n < 0))) = 0 ∧ w128 n2 n1 = w128 n n1))
    simp only [tellW, inW, half128, w128, wv, top8, top12, isInt, isI64, b2i, decide_eq_true_eq, true_and, and_true, implies_true, and_self, false_and, and_false, imp_false]; first | omega | (simp only [Classical.not_iff] at *; omega)

theorem p_whole : P_whole := by
  unfold P_whole
  intro t
  intro n l_n u_n
  intro n1 l_n1 u_n1
  intro n2 l_n2 u_n2
  intro hpre
  replace hpre : True := hpre
  intro b
  intro b1
  intro b2
  refine ⟨fun c0 => ?_, fun c0 => ?_⟩
  · refine ⟨fun c1 => ?_, fun c1 => ?_⟩
    · show tellW (if (b2i t) = 1 then - wv n n1 n2 else wv n n1 n2) (0 : Int) (0 : Int) (11 : Int)
      cases t <;> simp [b2i, tellW, inW, half128, w128, wv, top8, top12, isInt, isI64] at * <;> omega
    · refine ⟨fun c2 => ?_, fun c2 => ?_⟩
      · show tellW (if (b2i t) = 1 then - wv n n1 n2 else wv n n1 n2) (0 : Int) (0 : Int) (11 : Int)
        cases t <;> simp [b2i, tellW, inW, half128, w128, wv, top8, top12, isInt, isI64] at * <;> omega
      · refine ⟨fun c3 => ?_, fun c3 => ?_⟩
        · have q3 := (b2i_one t).2 c3
          refine ⟨trivial, ?_⟩
          intro n3 l_n3 u_n3
          intro n4 l_n4 u_n4
          intro n5 l_n5 u_n5
          intro h_turned
          replace h_turned : (n5 = 0 ∧ w128 n4 n3 = (top8 - w128 n1 n) % top8) := h_turned
          simp only [w128, top8] at h_turned
          intro n6 e_n6 l_n6 u_n6
          simp only [wrap_u64, wrap_i64, wrap_i32, wrap_u32] at e_n6
          show tellW (if (b2i t) = 1 then - wv n n1 n2 else wv n n1 n2) n6 n3 (0 : Int)
          cases t <;> simp [b2i, tellW, inW, half128, w128, wv, top8, top12, isInt, isI64] at * <;> omega
        · have q3 := (b2i_zero t).2 c3
          intro n3 e_n3 l_n3 u_n3
          simp only [wrap_u64, wrap_i64, wrap_i32, wrap_u32] at e_n3
          show tellW (if (b2i t) = 1 then - wv n n1 n2 else wv n n1 n2) n3 n (0 : Int)
          cases t <;> simp [b2i, tellW, inW, half128, w128, wv, top8, top12, isInt, isI64] at * <;> omega
  · refine ⟨fun c1 => ?_, fun c1 => ?_⟩
    · have q1 := (b2i_one t).2 c1
      refine ⟨trivial, ?_⟩
      intro n3 l_n3 u_n3
      intro n4 l_n4 u_n4
      intro n5 l_n5 u_n5
      intro h_turned
      replace h_turned : (n5 = 0 ∧ w128 n4 n3 = (top8 - w128 n1 n) % top8) := h_turned
      simp only [w128, top8] at h_turned
      intro n6 e_n6 l_n6 u_n6
      simp only [wrap_u64, wrap_i64, wrap_i32, wrap_u32] at e_n6
      show tellW (if (b2i t) = 1 then - wv n n1 n2 else wv n n1 n2) n6 n3 (0 : Int)
      cases t <;> simp [b2i, tellW, inW, half128, w128, wv, top8, top12, isInt, isI64] at * <;> omega
    · have q1 := (b2i_zero t).2 c1
      intro n3 e_n3 l_n3 u_n3
      simp only [wrap_u64, wrap_i64, wrap_i32, wrap_u32] at e_n3
      show tellW (if (b2i t) = 1 then - wv n n1 n2 else wv n n1 n2) n3 n (0 : Int)
      cases t <;> simp [b2i, tellW, inW, half128, w128, wv, top8, top12, isInt, isI64] at * <;> omega

theorem mul_u64 {a b : Int} (ha : 0 ≤ a) (ha' : a ≤ 18446744073709551615) (hb : 0 ≤ b) (hb' : b ≤ 18446744073709551615) : 0 ≤ a * b ∧ a * b ≤ 18446744073709551615 * 18446744073709551615 :=
  ⟨Int.mul_nonneg ha hb, Int.mul_le_mul ha' hb' hb (by omega)⟩

theorem p_wtimes : P_wtimes := by
  unfold P_wtimes
  intro n l_n u_n
  intro n1 l_n1 u_n1
  intro n2 l_n2 u_n2
  intro n3 l_n3 u_n3
  intro hpre
  replace hpre : True := hpre
  intro b
  intro b1
  refine ⟨trivial, ?_⟩
  intro n4 l_n4 u_n4
  intro n5 l_n5 u_n5
  intro h_mul64
  replace h_mul64 : n4 * 18446744073709551616 + n5 = n * n3 := h_mul64
  have k0 := mul_u64 (a := n) (b := n3) (by omega) (by omega) (by omega) (by omega)
  refine ⟨trivial, ?_⟩
  intro n6 l_n6 u_n6
  intro n7 l_n7 u_n7
  intro h_mul641
  replace h_mul641 : n6 * 18446744073709551616 + n7 = n1 * n3 := h_mul641
  have k1 := mul_u64 (a := n1) (b := n3) (by omega) (by omega) (by omega) (by omega)
  intro n8 e_n8 l_n8 u_n8
  intro n9 e_n9 l_n9 u_n9
  intro n10 e_n10 l_n10 u_n10
  simp only [wrap_u64, wrap_i64, wrap_i32, wrap_u32] at e_n10
  refine ⟨trivial, ?_⟩
  intro n11 l_n11 u_n11
  intro n12 l_n12 u_n12
  intro h_mul642
  replace h_mul642 : n11 * 18446744073709551616 + n12 = n2 * n3 := h_mul642
  have k2 := mul_u64 (a := n2) (b := n3) (by omega) (by omega) (by omega) (by omega)
  intro n13 e_n13 l_n13 u_n13
  intro n14 e_n14 l_n14 u_n14
  intro n15 e_n15 l_n15 u_n15
  simp only [wrap_u64, wrap_i64, wrap_i32, wrap_u32] at e_n15
  show wv n5 n8 n13 = (wv n n1 n2 * n3) % top12
  simp only [wv, top12]
  have e : (n + n1 * 18446744073709551616 + n2 * 340282366920938463463374607431768211456) * n3 = n * n3 + (n1 * n3) * 18446744073709551616 + (n2 * n3) * 340282366920938463463374607431768211456 := by grind
  rw [e]
  generalize n * n3 = x at *
  generalize n1 * n3 = y at *
  generalize n2 * n3 = z at *
  omega

theorem p_size : P_size := by
  unfold P_size
  intro n l_n u_n
  intro hpre
  replace hpre : True := hpre
  refine ⟨fun c0 => ?_, fun c0 => ?_⟩
  · intro n1 e_n1 l_n1 u_n1
    simp only [wrap_u64, wrap_i64, wrap_i32, wrap_u32] at e_n1
    show ((n < 0 → n1 = -n) ∧ (0 ≤ n → n1 = n))
    omega
  · intro n1 e_n1 l_n1 u_n1
    simp only [wrap_u64, wrap_i64, wrap_i32, wrap_u32] at e_n1
    show ((n < 0 → n1 = -n) ∧ (0 ≤ n → n1 = n))
    omega

theorem p_wadd : P_wadd := by
  unfold P_wadd
  intro n l_n u_n
  intro n1 l_n1 u_n1
  intro n2 l_n2 u_n2
  intro n3 l_n3 u_n3
  intro hpre
  replace hpre : True := hpre
  intro b
  intro b1
  intro b2
  intro n4 e_n4 l_n4 u_n4
  intro n5 e_n5 l_n5 u_n5
  intro n6 e_n6 l_n6 u_n6
  simp only [wrap_u64, wrap_i64, wrap_i32, wrap_u32] at e_n6
  refine ⟨fun c0 => ?_, fun c0 => ?_⟩
  · refine ⟨fun c1 => ?_, fun c1 => ?_⟩
    · show tellW (w128 n n1 + w128 n2 n3) (0 : Int) (0 : Int) (11 : Int)
      simp only [tellW, inW, half128, w128, wv, top8, top12, isInt, isI64, b2i, decide_eq_true_eq, true_and, and_true, implies_true, and_self, false_and, and_false, imp_false]; first | omega | (simp only [Classical.not_iff] at *; omega)
    · show tellW (w128 n n1 + w128 n2 n3) n6 n4 (0 : Int)
      simp only [tellW, inW, half128, w128, wv, top8, top12, isInt, isI64, b2i, decide_eq_true_eq, true_and, and_true, implies_true, and_self, false_and, and_false, imp_false]; first | omega | (simp only [Classical.not_iff] at *; omega)
  · show tellW (w128 n n1 + w128 n2 n3) n6 n4 (0 : Int)
    simp only [tellW, inW, half128, w128, wv, top8, top12, isInt, isI64, b2i, decide_eq_true_eq, true_and, and_true, implies_true, and_self, false_and, and_false, imp_false]; first | omega | (simp only [Classical.not_iff] at *; omega)

theorem p_wsub : P_wsub := by
  unfold P_wsub
  intro n l_n u_n
  intro n1 l_n1 u_n1
  intro n2 l_n2 u_n2
  intro n3 l_n3 u_n3
  intro hpre
  replace hpre : True := hpre
  intro b
  intro b1
  intro b2
  intro n4 e_n4 l_n4 u_n4
  intro n5 e_n5 l_n5 u_n5
  intro n6 e_n6 l_n6 u_n6
  simp only [wrap_u64, wrap_i64, wrap_i32, wrap_u32] at e_n6
  refine ⟨fun c0 => ?_, fun c0 => ?_⟩
  · refine ⟨fun c1 => ?_, fun c1 => ?_⟩
    · show tellW (w128 n n1 - w128 n2 n3) (0 : Int) (0 : Int) (11 : Int)
      simp only [tellW, inW, half128, w128, wv, top8, top12, isInt, isI64, b2i, decide_eq_true_eq, true_and, and_true, implies_true, and_self, false_and, and_false, imp_false]; first | omega | (simp only [Classical.not_iff] at *; omega)
    · show tellW (w128 n n1 - w128 n2 n3) n6 n4 (0 : Int)
      simp only [tellW, inW, half128, w128, wv, top8, top12, isInt, isI64, b2i, decide_eq_true_eq, true_and, and_true, implies_true, and_self, false_and, and_false, imp_false]; first | omega | (simp only [Classical.not_iff] at *; omega)
  · show tellW (w128 n n1 - w128 n2 n3) n6 n4 (0 : Int)
    simp only [tellW, inW, half128, w128, wv, top8, top12, isInt, isI64, b2i, decide_eq_true_eq, true_and, and_true, implies_true, and_self, false_and, and_false, imp_false]; first | omega | (simp only [Classical.not_iff] at *; omega)

theorem signed_mul {A N aw nw Q : Int} {t s : Bool} (h1 : (t = true ∧ aw = -A) ∨ (t = false ∧ aw = A)) (h2 : (s = true ∧ nw = -N) ∨ (s = false ∧ nw = N)) (h3 : Q = aw * nw) :
    (if b2i (!(t == s)) = 1 then -Q else Q) = A * N := by
  rcases h1 with ⟨rfl, rfl⟩ | ⟨rfl, rfl⟩ <;> rcases h2 with ⟨rfl, rfl⟩ | ⟨rfl, rfl⟩ <;> subst h3 <;> simp [b2i] <;> grind

theorem part_or {n t : Bool} {h : Int} : True := trivial

theorem p_wtms : P_wtms := by
  unfold P_wtms
  intro n l_n u_n
  intro n1 l_n1 u_n1
  intro n2 l_n2 u_n2
  intro hpre
  replace hpre : True := hpre
  intro b
  intro b1
  refine ⟨trivial, ?_⟩
  intro t
  intro n3 l_n3 u_n3
  intro n4 l_n4 u_n4
  intro n5 l_n5 u_n5
  intro h_part
  replace h_part : (n5 = 0 ∧ (n < 0 → (b2i t) = 1 ∧ w128 n4 n3 = - w128 n n1) ∧ (0 ≤ n → (b2i t) = 0 ∧ w128 n4 n3 = w128 n n1)) := h_part
  have ha : (t = true ∧ wv n3 n4 n5 = -(w128 n n1)) ∨ (t = false ∧ wv n3 n4 n5 = w128 n n1) := by
    cases t <;> simp [b2i, wv, w128] at * <;> omega
  have hb : 0 ≤ wv n3 n4 n5 ∧ wv n3 n4 n5 ≤ 170141183460469231731687303715884105728 := by
    simp only [wv, w128] at *; omega
  intro b2
  refine ⟨trivial, ?_⟩
  intro n6 l_n6 u_n6
  intro h_size
  replace h_size : ((n2 < 0 → n6 = -n2) ∧ (0 ≤ n2 → n6 = n2)) := h_size
  have hc : (decide (n2 < 0) = true ∧ n6 = -n2) ∨ (decide (n2 < 0) = false ∧ n6 = n2) := by
    by_cases q : n2 < 0 <;> simp [q] <;> omega
  refine ⟨trivial, ?_⟩
  intro n7 l_n7 u_n7
  intro n8 l_n8 u_n8
  intro n9 l_n9 u_n9
  intro h_wtimes
  replace h_wtimes : wv n7 n8 n9 = (wv n3 n4 n5 * n6) % top12 := h_wtimes
  have hd : wv n7 n8 n9 = wv n3 n4 n5 * n6 := by
    have hz : n6 ≤ 9223372036854775808 := by omega
    have h0 : 0 ≤ wv n3 n4 n5 * n6 := Int.mul_nonneg hb.1 l_n6
    have h1 : wv n3 n4 n5 * n6 ≤ 170141183460469231731687303715884105728 * 9223372036854775808 := Int.mul_le_mul hb.2 hz l_n6 (by omega)
    rw [h_wtimes]; simp only [top12]; omega
  refine ⟨trivial, ?_⟩
  intro n10 l_n10 u_n10
  intro n11 l_n11 u_n11
  intro n12 l_n12 u_n12
  intro h_whole
  replace h_whole : tellW (if (b2i (!(t == (decide (n2 < 0))))) = 1 then - wv n7 n8 n9 else wv n7 n8 n9) n10 n11 n12 := h_whole
  show tellW (w128 n n1 * n2) n10 n11 n12
  rw [signed_mul ha hc hd] at h_whole
  exact h_whole

theorem p_wmul : P_wmul := by
  unfold P_wmul
  intro n l_n u_n
  intro n1 l_n1 u_n1
  intro hpre
  replace hpre : True := hpre
  intro b
  refine ⟨trivial, ?_⟩
  intro n2 l_n2 u_n2
  intro n3 l_n3 u_n3
  intro h_wof
  replace h_wof : w128 n2 n3 = n := h_wof
  refine ⟨trivial, ?_⟩
  intro n4 l_n4 u_n4
  intro n5 l_n5 u_n5
  intro n6 l_n6 u_n6
  intro h_wtms
  replace h_wtms : tellW (w128 n2 n3 * n1) n4 n5 n6 := h_wtms
  intro b1
  show w128 n4 n5 = n * n1
  have k1 : w128 n2 n3 = n := h_wof
  rw [k1] at h_wtms
  have k2 : n * n1 ≤ 9223372036854775808 * 9223372036854775808 ∧ -(9223372036854775808 * 9223372036854775808) ≤ n * n1 := by
    have := mul_in (a := n) (b := n1) (l1 := -9223372036854775808) (h1 := 9223372036854775807) (l2 := -9223372036854775808) (h2 := 9223372036854775807) ⟨l_n, u_n⟩ ⟨l_n1, u_n1⟩
    simp only [mn, mx] at this
    simp at this
    omega
  exact (h_wtms.1 (by simp only [inW, half128]; omega)).2

end Go.Proofs.YtlclmanhkhfilaaDoor.Sx
