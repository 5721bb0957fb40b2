/-
  Plain laws of wides: functions.
-/
import Derived.Test.YtcjllibeaiofpaaGreatDoorWa
set_option linter.all false
set_option maxRecDepth 100000
namespace Go.Proofs.YtcjllibeaiofpaaGreatDoor.Sx
open Go Go.RowKit
theorem p_turned : P_turned := by
 unfold P_turned
 intro n l_n u_n n1 l_n1 u_n1 n2 l_n2 u_n2 hpre
 replace hpre : True := hpre
 intro b b1 n3 e_n3 l_n3 u_n3 n4 e_n4 l_n4 u_n4 n5 e_n5 l_n5 u_n5 n6 e_n6 l_n6 u_n6
 show ((0 : Int) = 0 /\ w128 n5 n3 = (top8 - w128 n1 n) % top8)
 simp only [tellW, inW, half128, w128, wv, top8, top12, isInt, isI64, b2i, decide_eq_true_eq, true_and, and_true, implies_true, and_self, false_and, and_false, imp_false]; first | omega | (simp only [Classical.not_iff] at *; omega)
theorem p_part : P_part := by
 unfold P_part
 intro n l_n u_n n1 l_n1 u_n1 hpre
 replace hpre : True := hpre
 intro b b1 b2 n2 e_n2 l_n2 u_n2
 simp only [wrap_u64, wrap_i64, wrap_i32, wrap_u32] at e_n2
 refine ⟨fun c0 => ?_, fun c0 => ?_⟩
 ·refine ⟨trivial, ?_⟩
  intro n3 l_n3 u_n3 n4 l_n4 u_n4 n5 l_n5 u_n5 h_turned
  replace h_turned : (n5 = 0 /\ w128 n4 n3 = (top8 - w128 n2 n1) % top8) := h_turned
  simp only [w128, top8] at h_turned
  show (n5 = 0 /\ (n < 0 -> (b2i (decide (n < 0))) = 1 /\ w128 n4 n3 = - w128 n n1) /\ (0 <= n -> (b2i (decide (n < 0))) = 0 /\ w128 n4 n3 = w128 n n1))
  simp only [tellW, inW, half128, w128, wv, top8, top12, isInt, isI64, b2i, decide_eq_true_eq, true_and, and_true, implies_true, and_self, false_and, and_false, imp_false]; first | omega | (simp only [Classical.not_iff] at *; omega)
 ·show ((0 : Int) = 0 /\ (n < 0 -> (b2i (decide (n < 0))) = 1 /\ w128 n2 n1 = - w128 n n1) /\ (0 <= n -> (b2i (decide (n < 0))) = 0 /\ w128 n2 n1 = w128 n n1))
  simp only [tellW, inW, half128, w128, wv, top8, top12, isInt, isI64, b2i, decide_eq_true_eq, true_and, and_true, implies_true, and_self, false_and, and_false, imp_false]; first | omega | (simp only [Classical.not_iff] at *; omega)
theorem p_whole : P_whole := by
 unfold P_whole
 intro t n l_n u_n n1 l_n1 u_n1 n2 l_n2 u_n2 hpre
 replace hpre : True := hpre
 intro b b1 b2
 refine ⟨fun c0 => ?_, fun c0 => ?_⟩
 ·refine ⟨fun c1 => ?_, fun c1 => ?_⟩
  ·show tellW (if (b2i t) = 1 then - wv n n1 n2 else wv n n1 n2) (0 : Int) (0 : Int) (11 : Int)
   cases t <;> simp [b2i, tellW, inW, half128, w128, wv, top8, top12, isInt, isI64] at * <;> omega
  ·refine ⟨fun c2 => ?_, fun c2 => ?_⟩
   ·show tellW (if (b2i t) = 1 then - wv n n1 n2 else wv n n1 n2) (0 : Int) (0 : Int) (11 : Int)
    cases t <;> simp [b2i, tellW, inW, half128, w128, wv, top8, top12, isInt, isI64] at * <;> omega
   ·refine ⟨fun c3 => ?_, fun c3 => ?_⟩
    ·have q3 := (b2i_one t).2 c3
     refine ⟨trivial, ?_⟩
     intro n3 l_n3 u_n3 n4 l_n4 u_n4 n5 l_n5 u_n5 h_turned
     replace h_turned : (n5 = 0 /\ w128 n4 n3 = (top8 - w128 n1 n) % top8) := h_turned
     simp only [w128, top8] at h_turned
     intro n6 e_n6 l_n6 u_n6
     simp only [wrap_u64, wrap_i64, wrap_i32, wrap_u32] at e_n6
     show tellW (if (b2i t) = 1 then - wv n n1 n2 else wv n n1 n2) n6 n3 (0 : Int)
     cases t <;> simp [b2i, tellW, inW, half128, w128, wv, top8, top12, isInt, isI64] at * <;> omega
    ·have q3 := (b2i_zero t).2 c3
     intro n3 e_n3 l_n3 u_n3
     simp only [wrap_u64, wrap_i64, wrap_i32, wrap_u32] at e_n3
     show tellW (if (b2i t) = 1 then - wv n n1 n2 else wv n n1 n2) n3 n (0 : Int)
     cases t <;> simp [b2i, tellW, inW, half128, w128, wv, top8, top12, isInt, isI64] at * <;> omega
 ·refine ⟨fun c1 => ?_, fun c1 => ?_⟩
  ·have q1 := (b2i_one t).2 c1
   refine ⟨trivial, ?_⟩
   intro n3 l_n3 u_n3 n4 l_n4 u_n4 n5 l_n5 u_n5 h_turned
   replace h_turned : (n5 = 0 /\ w128 n4 n3 = (top8 - w128 n1 n) % top8) := h_turned
   simp only [w128, top8] at h_turned
   intro n6 e_n6 l_n6 u_n6
   simp only [wrap_u64, wrap_i64, wrap_i32, wrap_u32] at e_n6
   show tellW (if (b2i t) = 1 then - wv n n1 n2 else wv n n1 n2) n6 n3 (0 : Int)
   cases t <;> simp [b2i, tellW, inW, half128, w128, wv, top8, top12, isInt, isI64] at * <;> omega
  ·have q1 := (b2i_zero t).2 c1
   intro n3 e_n3 l_n3 u_n3
   simp only [wrap_u64, wrap_i64, wrap_i32, wrap_u32] at e_n3
   show tellW (if (b2i t) = 1 then - wv n n1 n2 else wv n n1 n2) n3 n (0 : Int)
   cases t <;> simp [b2i, tellW, inW, half128, w128, wv, top8, top12, isInt, isI64] at * <;> omega
theorem mul_u64 {a b : Int} (ha : 0 <= a) (ha' : a <= 18446744073709551615) (hb : 0 <= b) (hb' : b <= 18446744073709551615) : 0 <= a * b /\ a * b <= 18446744073709551615 * 18446744073709551615 :=
 ⟨Int.mul_nonneg ha hb, Int.mul_le_mul ha' hb' hb (by omega)⟩
theorem p_wtimes : P_wtimes := by
 unfold P_wtimes
 intro n l_n u_n n1 l_n1 u_n1 n2 l_n2 u_n2 n3 l_n3 u_n3 hpre
 replace hpre : True := hpre
 intro b b1
 refine ⟨trivial, ?_⟩
 intro n4 l_n4 u_n4 n5 l_n5 u_n5 h_mul64
 replace h_mul64 : n4 * 18446744073709551616 + n5 = n * n3 := h_mul64
 have k0 := mul_u64 (a := n) (b := n3) (by omega) (by omega) (by omega) (by omega)
 refine ⟨trivial, ?_⟩
 intro n6 l_n6 u_n6 n7 l_n7 u_n7 h_mul641
 replace h_mul641 : n6 * 18446744073709551616 + n7 = n1 * n3 := h_mul641
 have k1 := mul_u64 (a := n1) (b := n3) (by omega) (by omega) (by omega) (by omega)
 intro n8 e_n8 l_n8 u_n8 n9 e_n9 l_n9 u_n9 n10 e_n10 l_n10 u_n10
 simp only [wrap_u64, wrap_i64, wrap_i32, wrap_u32] at e_n10
 refine ⟨trivial, ?_⟩
 intro n11 l_n11 u_n11 n12 l_n12 u_n12 h_mul642
 replace h_mul642 : n11 * 18446744073709551616 + n12 = n2 * n3 := h_mul642
 have k2 := mul_u64 (a := n2) (b := n3) (by omega) (by omega) (by omega) (by omega)
 intro n13 e_n13 l_n13 u_n13 n14 e_n14 l_n14 u_n14 n15 e_n15 l_n15 u_n15
 simp only [wrap_u64, wrap_i64, wrap_i32, wrap_u32] at e_n15
 show wv n5 n8 n13 = (wv n n1 n2 * n3) % top12
 simp only [wv, top12]
 have e : (n + n1 * 18446744073709551616 + n2 * 340282366920938463463374607431768211456) * n3 = n * n3 + (n1 * n3) * 18446744073709551616 + (n2 * n3) * 340282366920938463463374607431768211456 := by grind
 rw [e]
 generalize n * n3 = x at *
 generalize n1 * n3 = y at *
 generalize n2 * n3 = z at *
 omega
theorem p_size : P_size := by
 unfold P_size
 intro n l_n u_n hpre
 replace hpre : True := hpre
 refine ⟨fun c0 => ?_, fun c0 => ?_⟩
 ·intro n1 e_n1 l_n1 u_n1
  simp only [wrap_u64, wrap_i64, wrap_i32, wrap_u32] at e_n1
  show ((n < 0 -> n1 = -n) /\ (0 <= n -> n1 = n))
  omega
 ·intro n1 e_n1 l_n1 u_n1
  simp only [wrap_u64, wrap_i64, wrap_i32, wrap_u32] at e_n1
  show ((n < 0 -> n1 = -n) /\ (0 <= n -> n1 = n))
  omega
theorem p_wadd : P_wadd := by
 unfold P_wadd
 intro n l_n u_n n1 l_n1 u_n1 n2 l_n2 u_n2 n3 l_n3 u_n3 hpre
 replace hpre : True := hpre
 intro b b1 b2 n4 e_n4 l_n4 u_n4 n5 e_n5 l_n5 u_n5 n6 e_n6 l_n6 u_n6
 simp only [wrap_u64, wrap_i64, wrap_i32, wrap_u32] at e_n6
 refine ⟨fun c0 => ?_, fun c0 => ?_⟩
 ·refine ⟨fun c1 => ?_, fun c1 => ?_⟩
  ·show tellW (w128 n n1 + w128 n2 n3) (0 : Int) (0 : Int) (11 : Int)
   simp only [tellW, inW, half128, w128, wv, top8, top12, isInt, isI64, b2i, decide_eq_true_eq, true_and, and_true, implies_true, and_self, false_and, and_false, imp_false]; first | omega | (simp only [Classical.not_iff] at *; omega)
  ·show tellW (w128 n n1 + w128 n2 n3) n6 n4 (0 : Int)
   simp only [tellW, inW, half128, w128, wv, top8, top12, isInt, isI64, b2i, decide_eq_true_eq, true_and, and_true, implies_true, and_self, false_and, and_false, imp_false]; first | omega | (simp only [Classical.not_iff] at *; omega)
 ·show tellW (w128 n n1 + w128 n2 n3) n6 n4 (0 : Int)
  simp only [tellW, inW, half128, w128, wv, top8, top12, isInt, isI64, b2i, decide_eq_true_eq, true_and, and_true, implies_true, and_self, false_and, and_false, imp_false]; first | omega | (simp only [Classical.not_iff] at *; omega)
theorem p_wsub : P_wsub := by
 unfold P_wsub
 intro n l_n u_n n1 l_n1 u_n1 n2 l_n2 u_n2 n3 l_n3 u_n3 hpre
 replace hpre : True := hpre
 intro b b1 b2 n4 e_n4 l_n4 u_n4 n5 e_n5 l_n5 u_n5 n6 e_n6 l_n6 u_n6
 simp only [wrap_u64, wrap_i64, wrap_i32, wrap_u32] at e_n6
 refine ⟨fun c0 => ?_, fun c0 => ?_⟩
 ·refine ⟨fun c1 => ?_, fun c1 => ?_⟩
  ·show tellW (w128 n n1 - w128 n2 n3) (0 : Int) (0 : Int) (11 : Int)
   simp only [tellW, inW, half128, w128, wv, top8, top12, isInt, isI64, b2i, decide_eq_true_eq, true_and, and_true, implies_true, and_self, false_and, and_false, imp_false]; first | omega | (simp only [Classical.not_iff] at *; omega)
  ·show tellW (w128 n n1 - w128 n2 n3) n6 n4 (0 : Int)
   simp only [tellW, inW, half128, w128, wv, top8, top12, isInt, isI64, b2i, decide_eq_true_eq, true_and, and_true, implies_true, and_self, false_and, and_false, imp_false]; first | omega | (simp only [Classical.not_iff] at *; omega)
 ·show tellW (w128 n n1 - w128 n2 n3) n6 n4 (0 : Int)
  simp only [tellW, inW, half128, w128, wv, top8, top12, isInt, isI64, b2i, decide_eq_true_eq, true_and, and_true, implies_true, and_self, false_and, and_false, imp_false]; first | omega | (simp only [Classical.not_iff] at *; omega)
theorem signed_mul {A N aw nw Q : Int} {t s : Bool} (h1 : (t = true /\ aw = -A) \/ (t = false /\ aw = A)) (h2 : (s = true /\ nw = -N) \/ (s = false /\ nw = N)) (h3 : Q = aw * nw) :
  (if b2i (!(t == s)) = 1 then -Q else Q) = A * N := by
 rcases h1 with ⟨rfl, rfl⟩ | ⟨rfl, rfl⟩ <;> rcases h2 with ⟨rfl, rfl⟩ | ⟨rfl, rfl⟩ <;> subst h3 <;> simp [b2i] <;> grind
theorem p_wtms : P_wtms := by
 unfold P_wtms
 intro n l_n u_n n1 l_n1 u_n1 n2 l_n2 u_n2 hpre
 replace hpre : True := hpre
 intro b b1
 refine ⟨trivial, ?_⟩
 intro t n3 l_n3 u_n3 n4 l_n4 u_n4 n5 l_n5 u_n5 h_part
 replace h_part : (n5 = 0 /\ (n < 0 -> (b2i t) = 1 /\ w128 n4 n3 = - w128 n n1) /\ (0 <= n -> (b2i t) = 0 /\ w128 n4 n3 = w128 n n1)) := h_part
 have ha : (t = true /\ wv n3 n4 n5 = -(w128 n n1)) \/ (t = false /\ wv n3 n4 n5 = w128 n n1) := by
  cases t <;> simp [b2i, wv, w128] at * <;> omega
 have hb : 0 <= wv n3 n4 n5 /\ wv n3 n4 n5 <= 170141183460469231731687303715884105728 := by
  simp only [wv, w128] at *; omega
 intro b2
 refine ⟨trivial, ?_⟩
 intro n6 l_n6 u_n6 h_size
 replace h_size : ((n2 < 0 -> n6 = -n2) /\ (0 <= n2 -> n6 = n2)) := h_size
 have hc : (decide (n2 < 0) = true /\ n6 = -n2) \/ (decide (n2 < 0) = false /\ n6 = n2) := by
  by_cases q : n2 < 0 <;> simp [q] <;> omega
 refine ⟨trivial, ?_⟩
 intro n7 l_n7 u_n7 n8 l_n8 u_n8 n9 l_n9 u_n9 h_wtimes
 replace h_wtimes : wv n7 n8 n9 = (wv n3 n4 n5 * n6) % top12 := h_wtimes
 have hd : wv n7 n8 n9 = wv n3 n4 n5 * n6 := by
  have hz : n6 <= 9223372036854775808 := by omega
  have h0 : 0 <= wv n3 n4 n5 * n6 := Int.mul_nonneg hb.1 l_n6
  have h1 : wv n3 n4 n5 * n6 <= 170141183460469231731687303715884105728 * 9223372036854775808 := Int.mul_le_mul hb.2 hz l_n6 (by omega)
  rw [h_wtimes]; simp only [top12]; omega
 refine ⟨trivial, ?_⟩
 intro n10 l_n10 u_n10 n11 l_n11 u_n11 n12 l_n12 u_n12 h_whole
 replace h_whole : tellW (if (b2i (!(t == (decide (n2 < 0))))) = 1 then - wv n7 n8 n9 else wv n7 n8 n9) n10 n11 n12 := h_whole
 show tellW (w128 n n1 * n2) n10 n11 n12
 rw [signed_mul ha hc hd] at h_whole
 exact h_whole
theorem p_wmul : P_wmul := by
 unfold P_wmul
 intro n l_n u_n n1 l_n1 u_n1 hpre
 replace hpre : True := hpre
 intro b
 refine ⟨trivial, ?_⟩
 intro n2 l_n2 u_n2 n3 l_n3 u_n3 h_wof
 replace h_wof : w128 n2 n3 = n := h_wof
 refine ⟨trivial, ?_⟩
 intro n4 l_n4 u_n4 n5 l_n5 u_n5 n6 l_n6 u_n6 h_wtms
 replace h_wtms : tellW (w128 n2 n3 * n1) n4 n5 n6 := h_wtms
 intro b1
 show w128 n4 n5 = n * n1
 have k1 : w128 n2 n3 = n := h_wof
 rw [k1] at h_wtms
 have k2 : n * n1 <= 9223372036854775808 * 9223372036854775808 /\ -(9223372036854775808 * 9223372036854775808) <= n * n1 := by
  have := mul_in (a := n) (b := n1) (l1 := -9223372036854775808) (h1 := 9223372036854775807) (l2 := -9223372036854775808) (h2 := 9223372036854775807) ⟨l_n, u_n⟩ ⟨l_n1, u_n1⟩
  simp only [mn, mx] at this
  simp at this
  omega
 exact (h_wtms.1 (by simp only [inW, half128]; omega)).2
theorem p_lz64 : P_lz64 := by
 unfold P_lz64
 intro n l_n u_n hpre
 replace hpre : True := hpre
 refine ⟨trivial, ?_⟩
 intro n1 l_n1 u_n1 h_len64
 replace h_len64 : (0 <= n1 /\ n < 2 ^ n1.toNat /\ (0 < n -> 2 ^ n1.toNat <= 2 * n) /\ (n = 0 -> n1 = 0)) := h_len64
 intro n2 e_n2 l_n2 u_n2
 show (0 <= n2 /\ n < 2 ^ (64 - n2).toNat /\ (0 < n -> 2 ^ (64 - n2).toNat <= 2 * n) /\ (n = 0 -> n2 = 64))
 have e : 64 - n2 = n1 := by omega
 rw [e]
 obtain ⟨q1, q2, q3, q4⟩ := h_len64
 exact ⟨by omega, q2, q3, fun h => by have := q4 h; omega⟩
theorem p_wdivided : P_wdivided := by
 unfold P_wdivided
 intro n l_n u_n n1 l_n1 u_n1 n2 l_n2 u_n2 n3 l_n3 u_n3 hpre
 replace hpre : 0 < n3 := hpre
 intro b b1
 refine ⟨?_, ?_⟩
 ·show (0 : Int) < n3
  omega
 intro n4 l_n4 u_n4 n5 l_n5 u_n5 h_div64
 replace h_div64 : isFloor (w128 (0 : Int) n1) n3 n4 n5 := h_div64
 simp only [isFloor, w128] at h_div64
 refine ⟨?_, ?_⟩
 ·show n5 < n3
  omega
 intro n6 l_n6 u_n6 n7 l_n7 u_n7 h_div641
 replace h_div641 : isFloor (w128 n5 n) n3 n6 n7 := h_div641
 simp only [isFloor, w128] at h_div641
 show ((0 : Int) = 0 /\ isFloor (w128 n1 n) n3 (w128 n4 n6) n7)
 refine ⟨rfl, ?_⟩
 simp only [isFloor, w128]
 have e : (n4 * 18446744073709551616 + n6) * n3 = n4 * n3 * 18446744073709551616 + n6 * n3 := by grind
 rw [e]
 omega
theorem floor_neg {A d q r : Int} (h : isFloor (-A) d q r) : (0 < r -> isFloor A d (-q - 1) (d - r)) /\ (r = 0 -> isFloor A d (-q) 0) := by
 obtain ⟨h1, h2, h3⟩ := h
 have e : (-q - 1) * d = -(q * d) - d := by grind
 have e2 : (-q) * d = -(q * d) := by grind
 refine ⟨fun h => ⟨?_, by omega, by omega⟩, fun h => ⟨?_, by omega, by omega⟩⟩
 ·rw [e]; omega
 ·rw [e2]; omega
theorem floor_le {A d q r : Int} (h : isFloor A d q r) (h0 : 0 <= A) (hd : 1 <= d) : 0 <= q /\ q <= A - r := by
 obtain ⟨h1, h2, h3⟩ := h
 have hq : 0 <= q := by
  rcases Int.lt_or_le q 0 with h | h
  ·have := Int.mul_le_mul_of_nonneg_right (show q <= -1 by omega) (show 0 <= d by omega)
   omega
  ·exact h
 have := Int.mul_le_mul_of_nonneg_left hd hq
 omega
theorem p_wfloor : P_wfloor := by
 unfold P_wfloor
 intro n l_n u_n n1 l_n1 u_n1 n2 l_n2 u_n2 hpre
 replace hpre : True := hpre
 intro b b1
 refine ⟨fun c0 => ?_, fun c0 => ?_⟩
 ·show ((n2 < 1 -> (0 : Int) = 0 /\ (0 : Int) = 0 /\ (0 : Int) = 0 /\ (1 : Int) = 1) /\ (1 <= n2 -> (1 : Int) = 0 /\ isFloor (w128 n n1) n2 (w128 (0 : Int) (0 : Int)) (0 : Int)))
  exact ⟨fun _ => ⟨rfl, rfl, rfl, rfl⟩, fun h => by omega⟩
 ·refine ⟨trivial, ?_⟩
  intro t n3 l_n3 u_n3 n4 l_n4 u_n4 n5 l_n5 u_n5 h_part
  replace h_part : (n5 = 0 /\ (n < 0 -> (b2i t) = 1 /\ w128 n4 n3 = - w128 n n1) /\ (0 <= n -> (b2i t) = 0 /\ w128 n4 n3 = w128 n n1)) := h_part
  have ha : (t = true /\ w128 n4 n3 = -(w128 n n1) /\ n < 0) \/ (t = false /\ w128 n4 n3 = w128 n n1 /\ 0 <= n) := by
   rcases Int.lt_or_le n 0 with q | q
   ·obtain ⟨q1, q2⟩ := h_part.2.1 q
    exact Or.inl ⟨(b2i_one t).1 q1, q2, q⟩
   ·obtain ⟨q1, q2⟩ := h_part.2.2 q
    exact Or.inr ⟨by have := (b2i_zero t).1 q1; simpa using this, q2, q⟩
  have hab : 0 <= w128 n4 n3 /\ w128 n4 n3 <= 170141183460469231731687303715884105728 /\ (t = false -> w128 n4 n3 < 170141183460469231731687303715884105728) := by
   refine ⟨?_, ?_, fun ht => ?_⟩
   ·simp only [w128]; omega
   ·simp only [w128] at *; omega
   ·rcases ha with ha | ha
    ·rw [ht] at ha; cases ha.1
    ·simp only [w128] at *; omega
  intro b2 n6 e_n6 l_n6 u_n6
  simp only [wrap_u64, wrap_i64, wrap_i32, wrap_u32] at e_n6
  refine ⟨?_, ?_⟩
  ·show 0 < n6
   omega
  intro n7 l_n7 u_n7 n8 l_n8 u_n8 n9 l_n9 u_n9 n10 l_n10 u_n10 h_wdivided
  replace h_wdivided : (n9 = 0 /\ isFloor (w128 n4 n3) n6 (w128 n8 n7) n10) := h_wdivided
  obtain ⟨hz, hf⟩ := h_wdivided
  have e6 : n6 = n2 := by omega
  rw [e6] at hf
  have hq := floor_le hf hab.1 (by omega)
  have hwv : wv n7 n8 n9 = w128 n8 n7 := by simp only [wv, w128, hz]; omega
  have hr := hf.2.2
  intro b3
  refine ⟨trivial, ?_⟩
  intro n11 l_n11 u_n11 n12 l_n12 u_n12 n13 l_n13 u_n13 h_whole
  replace h_whole : tellW (if (b2i t) = 1 then - wv n7 n8 n9 else wv n7 n8 n9) n11 n12 n13 := h_whole
  rw [hwv] at h_whole
  refine ⟨fun c1 => ?_, fun c1 => ?_⟩
  ·have q1 := (b2i_one t).2 c1
   refine ⟨fun c2 => ?_, fun c2 => ?_⟩
   ·refine ⟨trivial, ?_⟩
    intro n14 l_n14 u_n14 n15 l_n15 u_n15 h_wof
    replace h_wof : w128 n14 n15 = (1 : Int) := h_wof
    refine ⟨trivial, ?_⟩
    intro n16 l_n16 u_n16 n17 l_n17 u_n17 n18 l_n18 u_n18 h_wsub
    replace h_wsub : tellW (w128 n11 n12 - w128 n14 n15) n16 n17 n18 := h_wsub
    intro n19 e_n19 l_n19 u_n19
    simp only [wrap_u64, wrap_i64, wrap_i32, wrap_u32] at e_n19
    intro n20 e_n20 l_n20 u_n20
    simp only [wrap_u64, wrap_i64, wrap_i32, wrap_u32] at e_n20
    show ((n2 < 1 -> n16 = 0 /\ n17 = 0 /\ n20 = 0 /\ (0 : Int) = 1) /\ (1 <= n2 -> (0 : Int) = 0 /\ isFloor (w128 n n1) n2 (w128 n16 n17) n20))
    refine ⟨fun h => by omega, fun _ => ⟨rfl, ?_⟩⟩
    obtain ⟨rfl, ha, _⟩ := ha.resolve_right (fun h => by rw [c1] at h; cases h.1)
    rw [ha] at hf
    rw [show (if b2i true = 1 then -(w128 n8 n7) else w128 n8 n7) = -(w128 n8 n7) by simp [b2i]] at h_whole
    have g1 := (h_whole.1 (by simp only [inW, half128]; omega)).2
    have g2 : w128 n14 n15 = 1 := h_wof
    rw [g1, g2] at h_wsub
    have g3 := (h_wsub.1 (by simp only [inW, half128]; omega)).2
    rw [g3, show n20 = n2 - n10 by omega]
    exact (floor_neg hf).1 c2
   ·intro n14 e_n14 l_n14 u_n14
    simp only [wrap_u64, wrap_i64, wrap_i32, wrap_u32] at e_n14
    show ((n2 < 1 -> n11 = 0 /\ n12 = 0 /\ n14 = 0 /\ (0 : Int) = 1) /\ (1 <= n2 -> (0 : Int) = 0 /\ isFloor (w128 n n1) n2 (w128 n11 n12) n14))
    refine ⟨fun h => by omega, fun _ => ⟨rfl, ?_⟩⟩
    obtain ⟨rfl, ha, _⟩ := ha.resolve_right (fun h => by rw [c1] at h; cases h.1)
    rw [ha] at hf
    rw [show (if b2i true = 1 then -(w128 n8 n7) else w128 n8 n7) = -(w128 n8 n7) by simp [b2i]] at h_whole
    have g1 := (h_whole.1 (by simp only [inW, half128]; omega)).2
    rw [g1, show n14 = 0 by omega]
    exact (floor_neg hf).2 (by omega)
  ·have q1 := (b2i_zero t).2 c1
   intro n14 e_n14 l_n14 u_n14
   simp only [wrap_u64, wrap_i64, wrap_i32, wrap_u32] at e_n14
   show ((n2 < 1 -> n11 = 0 /\ n12 = 0 /\ n14 = 0 /\ (0 : Int) = 1) /\ (1 <= n2 -> (0 : Int) = 0 /\ isFloor (w128 n n1) n2 (w128 n11 n12) n14))
   refine ⟨fun h => by omega, fun _ => ⟨rfl, ?_⟩⟩
   obtain ⟨rfl, ha, _⟩ := ha.resolve_left (fun h => c1 h.1)
   have hlt := hab.2.2 rfl
   rw [show (if b2i false = 1 then -(w128 n8 n7) else w128 n8 n7) = w128 n8 n7 by simp [b2i]] at h_whole
   have g1 := (h_whole.1 (by simp only [inW, half128]; have := hf.2.1; omega)).2
   rw [g1, <- ha, show n14 = n10 by omega]
   exact hf
theorem near_up {A d q r : Int} (h : isFloor A d q r) (hu : d - r <= r) : isNear A d (q + 1) := by
 obtain ⟨h1, h2, h3⟩ := h
 have e1 : 2 * d * (q + 1) = 2 * (q * d) + 2 * d := by grind
 have e2 : 2 * d * (q + 1 + 1) = 2 * (q * d) + 4 * d := by grind
 refine ⟨?_, ?_⟩
 ·rw [e1]; omega
 ·rw [e2]; omega
theorem near_down {A d q r : Int} (h : isFloor A d q r) (hu : r < d - r) : isNear A d q := by
 obtain ⟨h1, h2, h3⟩ := h
 have e1 : 2 * d * q = 2 * (q * d) := by grind
 have e2 : 2 * d * (q + 1) = 2 * (q * d) + 2 * d := by grind
 refine ⟨?_, ?_⟩
 ·rw [e1]; omega
 ·rw [e2]; omega
theorem near_in {A d q r : Int} (h : isFloor A d q r) (hA : inW A) (hu : d - r <= r) : inW (q + 1) := by
 obtain ⟨h1, h2, h3⟩ := h
 simp only [inW, half128] at *
 have hd : 2 <= d := by omega
 constructor
 ·rcases Int.lt_or_le (q + 1) (-170141183460469231731687303715884105728) with h | h
  ·have := Int.mul_le_mul_of_nonneg_right (show q <= -170141183460469231731687303715884105730 by omega) (show 0 <= d by omega)
   have e : (-170141183460469231731687303715884105730 : Int) * d <= -170141183460469231731687303715884105730 * 1 := by omega
   omega
  ·exact h
 ·rcases Int.lt_or_le (q + 1) 170141183460469231731687303715884105728 with h | h
  ·exact h
  ·have := Int.mul_le_mul_of_nonneg_right (show 170141183460469231731687303715884105727 <= q by omega) (show 0 <= d by omega)
   omega
theorem inW_w {h l : Int} (h1 : -9223372036854775808 <= h) (h2 : h <= 9223372036854775807) (h3 : 0 <= l) (h4 : l <= 18446744073709551615) : inW (w128 h l) := by
 simp only [inW, half128, w128]; omega
theorem p_wnear : P_wnear := by
 unfold P_wnear
 intro n l_n u_n n1 l_n1 u_n1 n2 l_n2 u_n2 hpre
 replace hpre : True := hpre
 intro b b1
 refine ⟨trivial, ?_⟩
 intro n3 l_n3 u_n3 n4 l_n4 u_n4 n5 l_n5 u_n5 n6 l_n6 u_n6 h_wfloor
 replace h_wfloor : ((n2 < 1 -> n3 = 0 /\ n4 = 0 /\ n5 = 0 /\ n6 = 1) /\ (1 <= n2 -> n6 = 0 /\ isFloor (w128 n n1) n2 (w128 n3 n4) n5)) := h_wfloor
 intro b2
 refine ⟨fun c0 => ?_, fun c0 => ?_⟩
 ·refine ⟨fun c1 => ?_, fun c1 => ?_⟩
  ·refine ⟨trivial, ?_⟩
   intro n7 l_n7 u_n7 n8 l_n8 u_n8 h_wof
   replace h_wof : w128 n7 n8 = (1 : Int) := h_wof
   have g2 : w128 n7 n8 = 1 := h_wof
   refine ⟨trivial, ?_⟩
   intro n9 l_n9 u_n9 n10 l_n10 u_n10 n11 l_n11 u_n11 h_wadd
   replace h_wadd : tellW (w128 n3 n4 + w128 n7 n8) n9 n10 n11 := h_wadd
   show ((n2 < 1 -> n9 = 0 /\ n10 = 0 /\ n11 = 1) /\ (1 <= n2 -> n11 = 0 /\ isNear (w128 n n1) n2 (w128 n9 n10)))
   have hd : 1 <= n2 := by
    rcases Int.lt_or_le n2 1 with h | h
    ·have := h_wfloor.1 h; omega
    ·exact h
   have hf := (h_wfloor.2 hd).2
   rw [wrap_i64] at c1
   have hr := hf.2
   have hu : n2 - n5 <= n5 := by omega
   rw [g2] at h_wadd
   have g3 := h_wadd.1 (near_in hf (inW_w l_n u_n l_n1 u_n1) hu)
   rw [g3.2]
   exact ⟨fun h => by omega, fun _ => ⟨g3.1, near_up hf hu⟩⟩
  ·show ((n2 < 1 -> n3 = 0 /\ n4 = 0 /\ n6 = 1) /\ (1 <= n2 -> n6 = 0 /\ isNear (w128 n n1) n2 (w128 n3 n4)))
   have hd : 1 <= n2 := by
    rcases Int.lt_or_le n2 1 with h | h
    ·have := h_wfloor.1 h; omega
    ·exact h
   have hf := (h_wfloor.2 hd).2
   rw [wrap_i64] at c1
   have hr := hf.2
   exact ⟨fun h => by omega, fun _ => ⟨c0, near_down hf (by omega)⟩⟩
 ·show ((n2 < 1 -> n3 = 0 /\ n4 = 0 /\ n6 = 1) /\ (1 <= n2 -> n6 = 0 /\ isNear (w128 n n1) n2 (w128 n3 n4)))
  have hd : n2 < 1 := by
   rcases Int.lt_or_le n2 1 with h | h
   ·exact h
   ·have := (h_wfloor.2 h).1; omega
  have := h_wfloor.1 hd
  exact ⟨fun h => by omega, fun h => by omega⟩
theorem p_wint : P_wint := by
 unfold P_wint
 intro n l_n u_n n1 l_n1 u_n1 hpre
 replace hpre : True := hpre
 intro b n2 e_n2 l_n2 u_n2
 simp only [wrap_u64, wrap_i64, wrap_i32, wrap_u32] at e_n2
 refine ⟨trivial, ?_⟩
 intro n3 l_n3 u_n3 n4 l_n4 u_n4 h_wof
 replace h_wof : w128 n3 n4 = n2 := h_wof
 simp only [w128] at h_wof
 refine ⟨fun c0 => ?_, fun c0 => ?_⟩
 ·show isInt (w128 n n1) n2 (b2i true)
  simp only [isInt, isI64, w128, b2i]; simp; omega
 ·show isInt (w128 n n1) (0 : Int) (b2i false)
  simp only [isInt, isI64, w128, b2i]; simp; omega
theorem dv_down {u m n v q s y q' s' : Int} (h : dvInv u m n v q s) (hy : y = m * 4294967296 + n) (hs : 0 <= s) (hm : 2147483648 <= m) (hm' : m <= 4294967295) (hn : 0 <= n) (hn' : n <= 4294967295) (hv : 0 <= v) (hv' : v <= 4294967295) (hu : u < y) (hq : 0 <= q) (hqq : q <= 18446744073709551615)
  (hc : 4294967296 <= q \/ IntKind.wrap .u64 (IntKind.wrap .u64 (4294967296 * s) + v) < IntKind.wrap .u64 (q * n)) (e1 : q' = IntKind.wrap .u64 (q - 1)) (e2 : s' = IntKind.wrap .u64 (s + m)) :
  q' < q /\ (s' < 4294967296 -> dvInv u m n v q' s') /\ (4294967296 <= s' -> isFloor (u * 4294967296 + v) y q' (u * 4294967296 + v - q' * y)) := by
 obtain ⟨h1, h2, h3⟩ := h
 subst hy
 have x1 : (q + 1) * (m * 4294967296 + n) = q * m * 4294967296 + q * n + m * 4294967296 + n := by grind
 rw [x1] at h3
 have x2 : (q - 1) * m = q * m - m := by grind
 have x3 : (q - 1 + 1) * (m * 4294967296 + n) = q * m * 4294967296 + q * n := by grind
 have x4 : (q - 1) * (m * 4294967296 + n) = q * m * 4294967296 + q * n - m * 4294967296 - n := by grind
 have x5 : (q - 1) * n = q * n - n := by grind
 have hR0 : 0 <= q * n := Int.mul_nonneg hq hn
 have key : u * 4294967296 + v < q * m * 4294967296 + q * n /\ 1 <= q := by
  rcases Int.lt_or_le q 4294967296 with hl | hl
  ·have hR : q * n <= 4294967295 * 4294967295 := Int.mul_le_mul (by omega) hn' hn (by omega)
   rcases hc with hc | hc
   ·omega
   ·rw [wrap_u64, wrap_u64, wrap_u64] at hc
    have hq1 : 1 <= q := by
     rcases Int.lt_or_le q 1 with h | h
     ·have : q = 0 := by omega
      subst this
      simp at hc
      omega
     ·exact h
    exact ⟨by omega, hq1⟩
  ·have a1 := Int.mul_le_mul_of_nonneg_right hl (show 0 <= m by omega)
   have a2 := Int.mul_le_mul_of_nonneg_right hl hn
   exact ⟨by omega, by omega⟩
 have f1 : q' = q - 1 := by rw [e1, wrap_u64]; omega
 have f2 : s' = s + m := by rw [e2, wrap_u64]; omega
 subst f1; subst f2
 refine ⟨by omega, fun hl => ⟨by omega, hl, by rw [x3]; exact key.1⟩, fun hl => ⟨by omega, ?_, ?_⟩⟩
 ·have hq2 : q - 1 <= 4294967296 := by
   rcases Int.lt_or_le 4294967297 q with h | h
   ·have := Int.mul_le_mul_of_nonneg_right (show 4294967298 <= q by omega) (show 0 <= m by omega)
    omega
   ·omega
  have := Int.mul_le_mul_of_nonneg_right hq2 hn
  omega
 ·omega
theorem dv_stop {u m n v q s y : Int} (h : dvInv u m n v q s) (hy : y = m * 4294967296 + n) (hs : 0 <= s) (hn : 0 <= n) (hn' : n <= 4294967295) (hv : 0 <= v) (hv' : v <= 4294967295) (hq : 0 <= q)
  (hl : ¬ 4294967296 <= q) (hc : ¬ IntKind.wrap .u64 (IntKind.wrap .u64 (4294967296 * s) + v) < IntKind.wrap .u64 (q * n)) : isFloor (u * 4294967296 + v) y q (u * 4294967296 + v - q * y) := by
 obtain ⟨h1, h2, h3⟩ := h
 subst hy
 have x1 : (q + 1) * (m * 4294967296 + n) = q * m * 4294967296 + q * n + m * 4294967296 + n := by grind
 have x2 : q * (m * 4294967296 + n) = q * m * 4294967296 + q * n := by grind
 have hR : q * n <= 4294967295 * 4294967295 := Int.mul_le_mul (by omega) hn' hn (by omega)
 have hR0 : 0 <= q * n := Int.mul_nonneg hq hn
 rw [wrap_u64, wrap_u64, wrap_u64] at hc
 refine ⟨by omega, ?_, ?_⟩ <;> omega
theorem dv_init {u m n v q s y : Int} (hy : y = m * 4294967296 + n) (hu0 : 0 <= u) (hu : u <= 18446744073709551615) (hm : 2147483648 <= m) (hm' : m <= 4294967295) (hn : 0 <= n) (hv : 0 <= v) (hv' : v <= 4294967295)
  (e1 : q = IntKind.wrap .u64 (u.tdiv m)) (e2 : s = IntKind.wrap .u64 (u - IntKind.wrap .u64 (q * m))) : dvInv u m n v q s := by
 have d1 := Int.mul_ediv_add_emod u m
 have d2 := Int.emod_nonneg u (show m ≠ 0 by omega)
 have d3 := Int.emod_lt_of_pos u (show 0 < m by omega)
 have d4 : 0 <= u / m := Int.ediv_nonneg hu0 (by omega)
 have d5 : u / m <= u := Int.ediv_le_self _ hu0
 rw [Int.tdiv_eq_ediv_of_nonneg hu0, wrap_u64] at e1
 have f1 : q = u / m := by omega
 have f2 : q * m = m * (u / m) := by rw [f1, Int.mul_comm]
 rw [f2, wrap_u64, wrap_u64] at e2
 have f4 : 0 <= m * (u / m) := Int.mul_nonneg (by omega) d4
 have f3 : s = u % m := by omega
 refine ⟨by rw [f2, f3]; exact d1, by omega, ?_⟩
 have x1 : (q + 1) * (m * 4294967296 + n) = q * m * 4294967296 + m * 4294967296 + (q + 1) * n := by grind
 have x2 : 0 <= (q + 1) * n := Int.mul_nonneg (by omega) hn
 rw [x1, f2]
 omega
theorem dv_rem {u v q y r : Int} (h : isFloor (u * 4294967296 + v) y q (u * 4294967296 + v - q * y)) (hy : y <= 18446744073709551615)
  (e : r = IntKind.wrap .u64 (IntKind.wrap .u64 (IntKind.wrap .u64 (u * 4294967296) + v) - IntKind.wrap .u64 (q * y))) : isFloor (u * 4294967296 + v) y q r := by
 obtain ⟨h1, h2, h3⟩ := h
 have : r = u * 4294967296 + v - q * y := by
  rw [e]; simp only [wrap_u64]
  generalize q * y = x at *
  omega
 rw [this]; exact ⟨h1, h2, h3⟩
theorem dv_small {u v q y r : Int} (h : isFloor (u * 4294967296 + v) y q r) (hu0 : 0 <= u) (hu : u < y) (hv : 0 <= v) (hv' : v <= 4294967295) : 0 <= q /\ q <= 4294967295 := by
 obtain ⟨h1, h2, h3⟩ := h
 constructor
 ·rcases Int.lt_or_le q 0 with h | h
  ·have := Int.mul_le_mul_of_nonneg_right (show q <= -1 by omega) (show 0 <= y by omega)
   omega
  ·exact h
 ·rcases Int.lt_or_le 4294967295 q with h | h
  ·have := Int.mul_le_mul_of_nonneg_right (show 4294967296 <= q by omega) (show 0 <= y by omega)
   omega
  ·exact h
theorem dv_final {W d k y u v1 v0 q1 r1 q0 r2 Q R z : Int} (hk : 0 <= k) (hk' : k <= 63) (hd : 0 < d) (hy : y = d * 2 ^ k.toNat) (hyy : y <= 18446744073709551615) (hX : u * 18446744073709551616 + (v1 * 4294967296 + v0) = W * 2 ^ k.toNat) (hu0 : 0 <= u) (hu : u < y)
  (hv1 : 0 <= v1) (hv1' : v1 <= 4294967295) (hv0 : 0 <= v0) (hv0' : v0 <= 4294967295) (F1 : isFloor (u * 4294967296 + v1) y q1 r1) (F2 : isFloor (r1 * 4294967296 + v0) y q0 r2)
  (eQ : Q = IntKind.wrap .u64 (IntKind.wrap .u64 (q1 * 4294967296) + q0)) (ez : r2 = z) (eR : R = shI .shr .u64 z k) : isFloor W d Q R := by
 subst ez
 have b1 := dv_small F1 hu0 hu hv1 hv1'
 have b2 := dv_small F2 F1.2.1 F1.2.2 hv0 hv0'
 have fQ : Q = q1 * 4294967296 + q0 := by rw [eQ]; simp only [wrap_u64]; omega
 obtain ⟨g1, g2, g3⟩ := F1
 obtain ⟨g4, g5, g6⟩ := F2
 have hp := two_pow_pos' k.toNat
 simp only [shI, IntKind.bits] at eR
 rw [show Min.min k.toNat 64 = k.toNat by omega, Int.fdiv_eq_ediv_of_nonneg _ (Int.le_of_lt hp)] at eR
 generalize (2 : Int) ^ k.toNat = p at *
 have x1 : r2 = (W - Q * d) * p := by
  rw [fQ]
  have : (W - (q1 * 4294967296 + q0) * d) * p = W * p - (q1 * (d * p)) * 4294967296 - q0 * (d * p) := by grind
  rw [this, <- hX, <- hy]
  omega
 have x2 : R = W - Q * d := by rw [eR, x1, Int.mul_ediv_cancel _ (Int.ne_of_gt hp)]
 rw [x1] at g5 g6
 rw [hy] at g6
 refine ⟨by rw [x2]; omega, ?_, ?_⟩
 ·rw [x2]
  rcases Int.lt_or_le (W - Q * d) 0 with h | h
  ·have := Int.mul_lt_mul_of_pos_right h hp
   omega
  ·exact h
 ·rw [x2]
  exact Int.lt_of_mul_lt_mul_right g6 (Int.le_of_lt hp)
theorem dv_set {n n1 n2 n3 n4 n7 n8 : Int} (h0 : 0 < n) (h1 : n < n2) (l1 : 0 <= n1) (u1 : n1 <= 18446744073709551615) (u2 : n2 <= 18446744073709551615) (hl : 0 <= n3 /\ n2 < 2 ^ (64 - n3).toNat /\ (0 < n2 -> 2 ^ (64 - n3).toNat <= 2 * n2) /\ (n2 = 0 -> n3 = 64)) (hl' : n3 <= 64)
  (e4 : n4 = shI .shl .u64 n2 n3) (e7 : n7 = bitsI .or .u64 (shI .shl .u64 n n3) (shI .shr .u64 n1 (64 - n3))) (e8 : n8 = shI .shl .u64 n1 n3) :
  n3 <= 63 /\ n4 = n2 * 2 ^ n3.toNat /\ 9223372036854775808 <= n4 /\ n7 < n4 /\ n7 * 18446744073709551616 + n8 = w128 n n1 * 2 ^ n3.toNat := by
 obtain ⟨a1, a2, a3, _⟩ := hl
 have a3 := a3 (by omega)
 have hk : n3 <= 63 := by
  rcases Int.lt_or_le 63 n3 with h | h
  ·have : n3 = 64 := by omega
   subst this
   simp at a2
   omega
  ·exact h
 simp only [shI, IntKind.bits] at e4 e7 e8
 rw [show Min.min n3.toNat 64 = n3.toNat by omega] at e4 e7 e8
 rw [show Min.min (64 - n3).toNat 64 = (64 - n3).toNat by omega] at e7
 have hp := two_pow_pos' n3.toNat
 have hr := two_pow_pos' (64 - n3).toNat
 have hpr : (2 : Int) ^ n3.toNat * 2 ^ (64 - n3).toNat = 18446744073709551616 := by
  rw [<- Int.pow_add, show n3.toNat + (64 - n3).toNat = 64 by omega]; decide
 rw [Int.fdiv_eq_ediv_of_nonneg _ (Int.le_of_lt hr)] at e7
 have m1 : n2 * 2 ^ n3.toNat < 18446744073709551616 := by
  have := Int.mul_lt_mul_of_pos_right a2 hp
  rw [Int.mul_comm (2 ^ (64 - n3).toNat)] at this
  omega
 have m2 : 9223372036854775808 <= n2 * 2 ^ n3.toNat := by
  have := Int.mul_le_mul_of_nonneg_right a3 (Int.le_of_lt hp)
  rw [Int.mul_comm (2 ^ (64 - n3).toNat)] at this
  have e : 2 * n2 * 2 ^ n3.toNat = 2 * (n2 * 2 ^ n3.toNat) := by grind
  omega
 have m3 : (n + 1) * 2 ^ n3.toNat <= n2 * 2 ^ n3.toNat := Int.mul_le_mul_of_nonneg_right (by omega) (Int.le_of_lt hp)
 have m4 : (n + 1) * 2 ^ n3.toNat = n * 2 ^ n3.toNat + 2 ^ n3.toNat := by grind
 have m5 : 0 <= n * 2 ^ n3.toNat := Int.mul_nonneg (by omega) (Int.le_of_lt hp)
 have d0 : 0 <= n1 / 2 ^ (64 - n3).toNat := Int.ediv_nonneg l1 (Int.le_of_lt hr)
 have d1 : n1 / 2 ^ (64 - n3).toNat < 2 ^ n3.toNat := Int.ediv_lt_of_lt_mul hr (by rw [hpr]; omega)
 have f4 : n4 = n2 * 2 ^ n3.toNat := by rw [e4, wrap_u64]; omega
 rw [wrap_u64, Int.emod_eq_of_lt m5 (by omega), or_add m5 (by omega) d0 d1 (by omega)] at e7
 have d2 := Int.mul_ediv_add_emod n1 (2 ^ (64 - n3).toNat)
 have d3 := Int.emod_nonneg n1 (Int.ne_of_gt hr)
 have d4 := Int.emod_lt_of_pos n1 hr
 refine ⟨hk, f4, by omega, by omega, ?_⟩
 have g1 : n1 * 2 ^ n3.toNat = n1 / 2 ^ (64 - n3).toNat * 18446744073709551616 + (n1 % 2 ^ (64 - n3).toNat) * 2 ^ n3.toNat := by
  conv => lhs; rw [<- d2]
  rw [<- hpr]; grind
 have g2 : (n1 % 2 ^ (64 - n3).toNat) * 2 ^ n3.toNat < 18446744073709551616 := by
  have := Int.mul_lt_mul_of_pos_right d4 hp
  rw [Int.mul_comm (2 ^ (64 - n3).toNat)] at this
  omega
 have g3 : 0 <= (n1 % 2 ^ (64 - n3).toNat) * 2 ^ n3.toNat := Int.mul_nonneg d3 (Int.le_of_lt hp)
 have f8 : n8 = (n1 % 2 ^ (64 - n3).toNat) * 2 ^ n3.toNat := by
  rw [e8, wrap_u64, g1]; omega
 simp only [w128]
 have g4 : (n * 18446744073709551616 + n1) * 2 ^ n3.toNat = n * 2 ^ n3.toNat * 18446744073709551616 + n1 * 2 ^ n3.toNat := by grind
 rw [g4, g1, e7, f8]
 omega
set_option maxHeartbeats 4000000 in
theorem p_div64 : P_div64 := by
 unfold P_div64
 intro n l_n u_n n1 l_n1 u_n1 n2 l_n2 u_n2 hpre
 replace hpre : n < n2 := hpre
 refine ⟨fun c0 => ?_, fun c0 => ?_⟩
 ·exfalso; omega
 ·refine ⟨fun c1 => ?_, fun c1 => ?_⟩
  ·exfalso; omega
  ·refine ⟨fun c2 => ?_, fun c2 => ?_⟩
   ·refine ⟨by omega, ?_⟩
    intro n3 e_n3 l_n3 u_n3
    refine ⟨by omega, ?_⟩
    intro n4 e_n4 l_n4 u_n4 n5 e_n5 l_n5 u_n5 n6 e_n6 l_n6 u_n6
    show isFloor (w128 n n1) n2 n5 n6
    have e3 : n3 = n2 := by omega
    have e4 : n4 = n2 := by omega
    rw [e3, Int.tdiv_eq_ediv_of_nonneg l_n1, wrap_u64] at e_n5
    rw [e4, Int.tmod_eq_emod_of_nonneg l_n1] at e_n6
    have d1 := Int.mul_ediv_add_emod n1 n2
    have d2 := Int.emod_nonneg n1 (show n2 ≠ 0 by omega)
    have d3 := Int.emod_lt_of_pos n1 (show 0 < n2 by omega)
    have d4 : 0 <= n1 / n2 := Int.ediv_nonneg l_n1 (by omega)
    have d5 : n1 / n2 <= n1 := Int.ediv_le_self _ l_n1
    have e5 : n5 = n1 / n2 := by omega
    have e6 : n5 * n2 = n2 * (n1 / n2) := by rw [e5, Int.mul_comm]
    simp only [isFloor, w128]
    rw [e6]
    omega
   ·refine ⟨trivial, ?_⟩
    intro n3 l_n3 u_n3 h_lz64
    replace h_lz64 : (0 <= n3 /\ n2 < 2 ^ (64 - n3).toNat /\ (0 < n2 -> 2 ^ (64 - n3).toNat <= 2 * n2) /\ (n2 = 0 -> n3 = 64)) := h_lz64
    intro n4 e_n4 l_n4 u_n4 n5 e_n5 l_n5 u_n5 n6 e_n6 l_n6 u_n6 n7 e_n7 l_n7 u_n7 n8 e_n8 l_n8 u_n8 n9 e_n9 l_n9 u_n9 n10 e_n10 l_n10 u_n10
    obtain ⟨k1, k2, k3, k4, k5⟩ := dv_set (by omega) hpre l_n1 u_n1 u_n2 h_lz64 u_n3 e_n4 e_n7 e_n8
    have ky : n4 = n5 * 4294967296 + n6 := by omega
    refine ⟨by omega, ?_⟩
    intro n11 e_n11 l_n11 u_n11 n12 e_n12 l_n12 u_n12 n13 e_n13 l_n13 u_n13
    refine ⟨?_, ?_⟩
    ·show dvInv n7 n5 n6 n9 n12 n13
     exact dv_init ky l_n7 u_n7 (by omega) (by omega) l_n6 l_n9 (by omega) (by rw [e_n12, e_n11]) e_n13
    intro n14 l_n14 u_n14 n15 l_n15 u_n15 hi_dv1
    replace hi_dv1 : dvInv n7 n5 n6 n9 n14 n15 := hi_dv1
    intro vs lv_vs
    refine ⟨fun c3 => ?_, fun c3 => ?_⟩
    ·intro n16 e_n16 l_n16 u_n16
     intro n17 e_n17 l_n17 u_n17
     refine ⟨fun c4 => ?_, fun c4 => ?_⟩
     ·intro n18 e_n18 l_n18 u_n18
      have D1 := dv_down hi_dv1 ky (by omega) (by omega) (by omega) l_n6 (by omega) l_n9 (by omega) (by omega) (by omega) (by omega) (by first | exact Or.inl (by assumption) | exact Or.inr (by assumption)) e_n16 e_n17
      have F1 := dv_rem (D1.2.2 (by assumption)) (by omega) e_n18
      have F1b := F1.2
      refine ⟨by omega, ?_⟩
      intro n19 e_n19 l_n19 u_n19 n20 e_n20 l_n20 u_n20 n21 e_n21 l_n21 u_n21
      refine ⟨?_, ?_⟩
      ·show dvInv n18 n5 n6 n10 n20 n21
       exact dv_init ky (by omega) (by omega) (by omega) (by omega) l_n6 l_n10 (by omega) (by rw [e_n20, e_n19]) e_n21
      intro n22 l_n22 u_n22 n23 l_n23 u_n23 hi_dv2
      replace hi_dv2 : dvInv n18 n5 n6 n10 n22 n23 := hi_dv2
      intro vs1 lv_vs1
      refine ⟨fun c5 => ?_, fun c5 => ?_⟩
      ·intro n24 e_n24 l_n24 u_n24
       intro n25 e_n25 l_n25 u_n25
       refine ⟨fun c6 => ?_, fun c6 => ?_⟩
       ·intro n26 e_n26 l_n26 u_n26
        intro n27 e_n27 l_n27 u_n27
        have D2 := dv_down hi_dv2 ky (by omega) (by omega) (by omega) l_n6 (by omega) l_n10 (by omega) (by omega) (by omega) (by omega) (by first | exact Or.inl (by assumption) | exact Or.inr (by assumption)) e_n24 e_n25
        have F2 := dv_rem (D2.2.2 (by assumption)) (by omega) rfl
        show isFloor (w128 n n1) n2 n26 n27
        exact dv_final l_n3 k1 (by omega) k2 u_n4 (by rw [<- k5]; omega) l_n7 k4 l_n9 (by omega) l_n10 (by omega) F1 F2 e_n26 rfl e_n27
       ·refine ⟨?_, ?_⟩
        ·show dvInv n18 n5 n6 n10 n24 n25
         have D := dv_down hi_dv2 ky (by omega) (by omega) (by omega) l_n6 (by omega) l_n10 (by omega) (by omega) (by omega) (by omega) (by first | exact Or.inl (by assumption) | exact Or.inr (by assumption)) e_n24 e_n25
         exact D.2.1 (by omega)
        ·show n24.toNat < n22.toNat
         have D := dv_down hi_dv2 ky (by omega) (by omega) (by omega) l_n6 (by omega) l_n10 (by omega) (by omega) (by omega) (by omega) (by first | exact Or.inl (by assumption) | exact Or.inr (by assumption)) e_n24 e_n25
         have D1 := D.1
         omega
      ·refine ⟨fun c6 => ?_, fun c6 => ?_⟩
       ·intro n24 e_n24 l_n24 u_n24
        intro n25 e_n25 l_n25 u_n25
        refine ⟨fun c7 => ?_, fun c7 => ?_⟩
        ·intro n26 e_n26 l_n26 u_n26
         intro n27 e_n27 l_n27 u_n27
         have D2 := dv_down hi_dv2 ky (by omega) (by omega) (by omega) l_n6 (by omega) l_n10 (by omega) (by omega) (by omega) (by omega) (by first | exact Or.inl (by assumption) | exact Or.inr (by assumption)) e_n24 e_n25
         have F2 := dv_rem (D2.2.2 (by assumption)) (by omega) rfl
         show isFloor (w128 n n1) n2 n26 n27
         exact dv_final l_n3 k1 (by omega) k2 u_n4 (by rw [<- k5]; omega) l_n7 k4 l_n9 (by omega) l_n10 (by omega) F1 F2 e_n26 rfl e_n27
        ·refine ⟨?_, ?_⟩
         ·show dvInv n18 n5 n6 n10 n24 n25
          have D := dv_down hi_dv2 ky (by omega) (by omega) (by omega) l_n6 (by omega) l_n10 (by omega) (by omega) (by omega) (by omega) (by first | exact Or.inl (by assumption) | exact Or.inr (by assumption)) e_n24 e_n25
          exact D.2.1 (by omega)
         ·show n24.toNat < n22.toNat
          have D := dv_down hi_dv2 ky (by omega) (by omega) (by omega) l_n6 (by omega) l_n10 (by omega) (by omega) (by omega) (by omega) (by first | exact Or.inl (by assumption) | exact Or.inr (by assumption)) e_n24 e_n25
          have D1 := D.1
          omega
       ·intro n24 e_n24 l_n24 u_n24
        intro n25 e_n25 l_n25 u_n25
        have F2 := dv_rem (dv_stop hi_dv2 ky (by omega) l_n6 (by omega) l_n10 (by omega) (by omega) (by assumption) (by assumption)) (by omega) rfl
        show isFloor (w128 n n1) n2 n24 n25
        exact dv_final l_n3 k1 (by omega) k2 u_n4 (by rw [<- k5]; omega) l_n7 k4 l_n9 (by omega) l_n10 (by omega) F1 F2 e_n24 rfl e_n25
     ·refine ⟨?_, ?_⟩
      ·show dvInv n7 n5 n6 n9 n16 n17
       have D := dv_down hi_dv1 ky (by omega) (by omega) (by omega) l_n6 (by omega) l_n9 (by omega) (by omega) (by omega) (by omega) (by first | exact Or.inl (by assumption) | exact Or.inr (by assumption)) e_n16 e_n17
       exact D.2.1 (by omega)
      ·show n16.toNat < n14.toNat
       have D := dv_down hi_dv1 ky (by omega) (by omega) (by omega) l_n6 (by omega) l_n9 (by omega) (by omega) (by omega) (by omega) (by first | exact Or.inl (by assumption) | exact Or.inr (by assumption)) e_n16 e_n17
       have D1 := D.1
       omega
    ·refine ⟨fun c4 => ?_, fun c4 => ?_⟩
     ·intro n16 e_n16 l_n16 u_n16
      intro n17 e_n17 l_n17 u_n17
      refine ⟨fun c5 => ?_, fun c5 => ?_⟩
      ·intro n18 e_n18 l_n18 u_n18
       have D1 := dv_down hi_dv1 ky (by omega) (by omega) (by omega) l_n6 (by omega) l_n9 (by omega) (by omega) (by omega) (by omega) (by first | exact Or.inl (by assumption) | exact Or.inr (by assumption)) e_n16 e_n17
       have F1 := dv_rem (D1.2.2 (by assumption)) (by omega) e_n18
       have F1b := F1.2
       refine ⟨by omega, ?_⟩
       intro n19 e_n19 l_n19 u_n19 n20 e_n20 l_n20 u_n20 n21 e_n21 l_n21 u_n21
       refine ⟨?_, ?_⟩
       ·show dvInv n18 n5 n6 n10 n20 n21
        exact dv_init ky (by omega) (by omega) (by omega) (by omega) l_n6 l_n10 (by omega) (by rw [e_n20, e_n19]) e_n21
       intro n22 l_n22 u_n22 n23 l_n23 u_n23 hi_dv2
       replace hi_dv2 : dvInv n18 n5 n6 n10 n22 n23 := hi_dv2
       intro vs1 lv_vs1
       refine ⟨fun c6 => ?_, fun c6 => ?_⟩
       ·intro n24 e_n24 l_n24 u_n24
        intro n25 e_n25 l_n25 u_n25
        refine ⟨fun c7 => ?_, fun c7 => ?_⟩
        ·intro n26 e_n26 l_n26 u_n26
         intro n27 e_n27 l_n27 u_n27
         have D2 := dv_down hi_dv2 ky (by omega) (by omega) (by omega) l_n6 (by omega) l_n10 (by omega) (by omega) (by omega) (by omega) (by first | exact Or.inl (by assumption) | exact Or.inr (by assumption)) e_n24 e_n25
         have F2 := dv_rem (D2.2.2 (by assumption)) (by omega) rfl
         show isFloor (w128 n n1) n2 n26 n27
         exact dv_final l_n3 k1 (by omega) k2 u_n4 (by rw [<- k5]; omega) l_n7 k4 l_n9 (by omega) l_n10 (by omega) F1 F2 e_n26 rfl e_n27
        ·refine ⟨?_, ?_⟩
         ·show dvInv n18 n5 n6 n10 n24 n25
          have D := dv_down hi_dv2 ky (by omega) (by omega) (by omega) l_n6 (by omega) l_n10 (by omega) (by omega) (by omega) (by omega) (by first | exact Or.inl (by assumption) | exact Or.inr (by assumption)) e_n24 e_n25
          exact D.2.1 (by omega)
         ·show n24.toNat < n22.toNat
          have D := dv_down hi_dv2 ky (by omega) (by omega) (by omega) l_n6 (by omega) l_n10 (by omega) (by omega) (by omega) (by omega) (by first | exact Or.inl (by assumption) | exact Or.inr (by assumption)) e_n24 e_n25
          have D1 := D.1
          omega
       ·refine ⟨fun c7 => ?_, fun c7 => ?_⟩
        ·intro n24 e_n24 l_n24 u_n24
         intro n25 e_n25 l_n25 u_n25
         refine ⟨fun c8 => ?_, fun c8 => ?_⟩
         ·intro n26 e_n26 l_n26 u_n26
          intro n27 e_n27 l_n27 u_n27
          have D2 := dv_down hi_dv2 ky (by omega) (by omega) (by omega) l_n6 (by omega) l_n10 (by omega) (by omega) (by omega) (by omega) (by first | exact Or.inl (by assumption) | exact Or.inr (by assumption)) e_n24 e_n25
          have F2 := dv_rem (D2.2.2 (by assumption)) (by omega) rfl
          show isFloor (w128 n n1) n2 n26 n27
          exact dv_final l_n3 k1 (by omega) k2 u_n4 (by rw [<- k5]; omega) l_n7 k4 l_n9 (by omega) l_n10 (by omega) F1 F2 e_n26 rfl e_n27
         ·refine ⟨?_, ?_⟩
          ·show dvInv n18 n5 n6 n10 n24 n25
           have D := dv_down hi_dv2 ky (by omega) (by omega) (by omega) l_n6 (by omega) l_n10 (by omega) (by omega) (by omega) (by omega) (by first | exact Or.inl (by assumption) | exact Or.inr (by assumption)) e_n24 e_n25
           exact D.2.1 (by omega)
          ·show n24.toNat < n22.toNat
           have D := dv_down hi_dv2 ky (by omega) (by omega) (by omega) l_n6 (by omega) l_n10 (by omega) (by omega) (by omega) (by omega) (by first | exact Or.inl (by assumption) | exact Or.inr (by assumption)) e_n24 e_n25
           have D1 := D.1
           omega
        ·intro n24 e_n24 l_n24 u_n24
         intro n25 e_n25 l_n25 u_n25
         have F2 := dv_rem (dv_stop hi_dv2 ky (by omega) l_n6 (by omega) l_n10 (by omega) (by omega) (by assumption) (by assumption)) (by omega) rfl
         show isFloor (w128 n n1) n2 n24 n25
         exact dv_final l_n3 k1 (by omega) k2 u_n4 (by rw [<- k5]; omega) l_n7 k4 l_n9 (by omega) l_n10 (by omega) F1 F2 e_n24 rfl e_n25
      ·refine ⟨?_, ?_⟩
       ·show dvInv n7 n5 n6 n9 n16 n17
        have D := dv_down hi_dv1 ky (by omega) (by omega) (by omega) l_n6 (by omega) l_n9 (by omega) (by omega) (by omega) (by omega) (by first | exact Or.inl (by assumption) | exact Or.inr (by assumption)) e_n16 e_n17
        exact D.2.1 (by omega)
       ·show n16.toNat < n14.toNat
        have D := dv_down hi_dv1 ky (by omega) (by omega) (by omega) l_n6 (by omega) l_n9 (by omega) (by omega) (by omega) (by omega) (by first | exact Or.inl (by assumption) | exact Or.inr (by assumption)) e_n16 e_n17
        have D1 := D.1
        omega
     ·intro n16 e_n16 l_n16 u_n16
      have F1 := dv_rem (dv_stop hi_dv1 ky (by omega) l_n6 (by omega) l_n9 (by omega) (by omega) (by assumption) (by assumption)) (by omega) e_n16
      have F1b := F1.2
      refine ⟨by omega, ?_⟩
      intro n17 e_n17 l_n17 u_n17 n18 e_n18 l_n18 u_n18 n19 e_n19 l_n19 u_n19
      refine ⟨?_, ?_⟩
      ·show dvInv n16 n5 n6 n10 n18 n19
       exact dv_init ky (by omega) (by omega) (by omega) (by omega) l_n6 l_n10 (by omega) (by rw [e_n18, e_n17]) e_n19
      intro n20 l_n20 u_n20 n21 l_n21 u_n21 hi_dv2
      replace hi_dv2 : dvInv n16 n5 n6 n10 n20 n21 := hi_dv2
      intro vs1 lv_vs1
      refine ⟨fun c5 => ?_, fun c5 => ?_⟩
      ·intro n22 e_n22 l_n22 u_n22
       intro n23 e_n23 l_n23 u_n23
       refine ⟨fun c6 => ?_, fun c6 => ?_⟩
       ·intro n24 e_n24 l_n24 u_n24
        intro n25 e_n25 l_n25 u_n25
        have D2 := dv_down hi_dv2 ky (by omega) (by omega) (by omega) l_n6 (by omega) l_n10 (by omega) (by omega) (by omega) (by omega) (by first | exact Or.inl (by assumption) | exact Or.inr (by assumption)) e_n22 e_n23
        have F2 := dv_rem (D2.2.2 (by assumption)) (by omega) rfl
        show isFloor (w128 n n1) n2 n24 n25
        exact dv_final l_n3 k1 (by omega) k2 u_n4 (by rw [<- k5]; omega) l_n7 k4 l_n9 (by omega) l_n10 (by omega) F1 F2 e_n24 rfl e_n25
       ·refine ⟨?_, ?_⟩
        ·show dvInv n16 n5 n6 n10 n22 n23
         have D := dv_down hi_dv2 ky (by omega) (by omega) (by omega) l_n6 (by omega) l_n10 (by omega) (by omega) (by omega) (by omega) (by first | exact Or.inl (by assumption) | exact Or.inr (by assumption)) e_n22 e_n23
         exact D.2.1 (by omega)
        ·show n22.toNat < n20.toNat
         have D := dv_down hi_dv2 ky (by omega) (by omega) (by omega) l_n6 (by omega) l_n10 (by omega) (by omega) (by omega) (by omega) (by first | exact Or.inl (by assumption) | exact Or.inr (by assumption)) e_n22 e_n23
         have D1 := D.1
         omega
      ·refine ⟨fun c6 => ?_, fun c6 => ?_⟩
       ·intro n22 e_n22 l_n22 u_n22
        intro n23 e_n23 l_n23 u_n23
        refine ⟨fun c7 => ?_, fun c7 => ?_⟩
        ·intro n24 e_n24 l_n24 u_n24
         intro n25 e_n25 l_n25 u_n25
         have D2 := dv_down hi_dv2 ky (by omega) (by omega) (by omega) l_n6 (by omega) l_n10 (by omega) (by omega) (by omega) (by omega) (by first | exact Or.inl (by assumption) | exact Or.inr (by assumption)) e_n22 e_n23
         have F2 := dv_rem (D2.2.2 (by assumption)) (by omega) rfl
         show isFloor (w128 n n1) n2 n24 n25
         exact dv_final l_n3 k1 (by omega) k2 u_n4 (by rw [<- k5]; omega) l_n7 k4 l_n9 (by omega) l_n10 (by omega) F1 F2 e_n24 rfl e_n25
        ·refine ⟨?_, ?_⟩
         ·show dvInv n16 n5 n6 n10 n22 n23
          have D := dv_down hi_dv2 ky (by omega) (by omega) (by omega) l_n6 (by omega) l_n10 (by omega) (by omega) (by omega) (by omega) (by first | exact Or.inl (by assumption) | exact Or.inr (by assumption)) e_n22 e_n23
          exact D.2.1 (by omega)
         ·show n22.toNat < n20.toNat
          have D := dv_down hi_dv2 ky (by omega) (by omega) (by omega) l_n6 (by omega) l_n10 (by omega) (by omega) (by omega) (by omega) (by first | exact Or.inl (by assumption) | exact Or.inr (by assumption)) e_n22 e_n23
          have D1 := D.1
          omega
       ·intro n22 e_n22 l_n22 u_n22
        intro n23 e_n23 l_n23 u_n23
        have F2 := dv_rem (dv_stop hi_dv2 ky (by omega) l_n6 (by omega) l_n10 (by omega) (by omega) (by assumption) (by assumption)) (by omega) rfl
        show isFloor (w128 n n1) n2 n22 n23
        exact dv_final l_n3 k1 (by omega) k2 u_n4 (by rw [<- k5]; omega) l_n7 k4 l_n9 (by omega) l_n10 (by omega) F1 F2 e_n22 rfl e_n23
end Go.Proofs.YtcjllibeaiofpaaGreatDoor.Sx
