/-
  Plain laws of wides.
-/
import Derived.Test.YtcjllibeaiofpaaGreatDoorRx
set_option linter.all false
namespace Go.Proofs.YtcjllibeaiofpaaGreatDoor.Sx
open Go Go.RowKit
theorem wrap_u64 (x : Int) : IntKind.wrap .u64 x = x % 18446744073709551616 := by simp [IntKind.wrap, IntKind.bits, IntKind.signed]
theorem wrap_u32 (x : Int) : IntKind.wrap .u32 x = x % 4294967296 := by simp [IntKind.wrap, IntKind.bits, IntKind.signed]
theorem wrap_u8 (x : Int) : IntKind.wrap .u8 x = x % 256 := by simp [IntKind.wrap, IntKind.bits, IntKind.signed]
theorem wrap_i64 (x : Int) : IntKind.wrap .i64 x = (x + 9223372036854775808) % 18446744073709551616 - 9223372036854775808 := by
 simp [IntKind.wrap, IntKind.bits, IntKind.signed]; omega
theorem wrap_i32 (x : Int) : IntKind.wrap .i32 x = (x + 2147483648) % 4294967296 - 2147483648 := by
 simp [IntKind.wrap, IntKind.bits, IntKind.signed]; omega
theorem b2i_dec (a : Bool) (p : Prop) [Decidable p] : (b2i a = b2i (decide p)) <-> (a = true <-> p) := by
 by_cases h : p <;> cases a <;> simp [b2i, h]
theorem b2i_one (a : Bool) : (b2i a = 1) <-> a = true := by cases a <;> simp [b2i]
theorem b2i_zero (a : Bool) : (b2i a = 0) <-> ¬ a = true := by cases a <;> simp [b2i]
theorem p_cmpi64 : P_cmpi64 := by
 unfold P_cmpi64
 intros
 repeat' (first | intro _ | refine And.intro ?_ ?_)
 all_goals (simp only [Post_cmpi64, not_true_eq_false, not_false_eq_true] at * <;> try omega)
theorem p_cmpu64 : P_cmpu64 := by
 unfold P_cmpu64
 intros
 repeat' (first | intro _ | refine And.intro ?_ ?_)
 all_goals (simp only [Post_cmpu64, not_true_eq_false, not_false_eq_true] at * <;> try omega)
theorem p_wcmp : P_wcmp := by
 unfold P_wcmp
 intros
 repeat' (first | intro _ | refine And.intro ?_ ?_)
 all_goals (simp only [Post_wcmp, Pre_cmpi64, Pre_cmpu64, Post_cmpi64, Post_cmpu64, w128, not_true_eq_false, not_false_eq_true] at * <;> try omega)
theorem p_wof : P_wof := by
 unfold P_wof
 intros
 repeat' (first | intro _ | refine And.intro ?_ ?_)
 all_goals (simp only [Post_wof, w128, wrap_u64, shI, IntKind.bits, not_true_eq_false, not_false_eq_true] at * <;> try omega)
theorem p_mul64 : P_mul64 := by
 unfold P_mul64
 intro a ha ha' b hb hb' _ x0 ex0 _ _ x1 ex1 _ _ y0 ey0 _ _ y1 ey1 _ _ w0 ew0 _ _ t et _ _ w1 ew1 _ _ w2 ew2 _ _ w3 ew3 _ _ h eh _ _ l el _ _
 simp only [Post_mul64, wrap_u64] at *
 have e : a * b = 18446744073709551616 * (x1 * y1) + 4294967296 * (x1 * y0) + 4294967296 * (x0 * y1) + x0 * y0 := by
  have ea : a = 4294967296 * x1 + x0 := by omega
  have eb : b = 4294967296 * y1 + y0 := by omega
  rw [ea, eb]; grind
 rw [e] at el ⊢
 generalize x1 * y1 = p at *
 generalize x1 * y0 = q at *
 generalize x0 * y1 = r at *
 generalize x0 * y0 = s at *
 omega
theorem ofNat_bits {x : Int} (h0 : 0 <= x) (h1 : x < 18446744073709551616) : ((BitVec.ofInt 64 x).toNat : Int) = x := by
 rw [BitVec.toNat_ofInt]; simp; omega
theorem or_u64 {x y : Int} (hx : 0 <= x) (hx' : x < 18446744073709551616) (hy : 0 <= y) (hy' : y < 18446744073709551616) :
  bitsI .or .u64 x y = ((x.toNat ||| y.toNat : Nat) : Int) := by
 have h1 := ofNat_bits hx hx'
 have h2 := ofNat_bits hy hy'
 have h1 : (BitVec.ofInt 64 x).toNat = x.toNat := by omega
 have h2 : (BitVec.ofInt 64 y).toNat = y.toNat := by omega
 show IntKind.wrap .u64 (((BitVec.ofInt 64 x ||| BitVec.ofInt 64 y).toNat : Nat) : Int) = _
 rw [wrap_u64, BitVec.toNat_or, h1, h2]
 have : x.toNat ||| y.toNat < 2 ^ 64 := Nat.or_lt_two_pow (by omega) (by omega)
 omega
theorem or_add {c : Int} {i : Nat} {y : Int} (hc : 0 <= c * 2 ^ i) (hc' : c * 2 ^ i < 18446744073709551616) (hy : 0 <= y) (hy' : y < 2 ^ i) (hy2 : y < 18446744073709551616) :
  bitsI .or .u64 (c * 2 ^ i) y = c * 2 ^ i + y := by
 have hp : (0 : Int) < 2 ^ i := Int.pow_pos (by omega)
 rw [or_u64 hc hc' hy hy2]
 have hc0 : 0 <= c := by
  rcases Int.lt_or_le c 0 with h | h
  ·have := Int.mul_neg_of_neg_of_pos h hp
   omega
  ·exact h
 obtain ⟨n, rfl⟩ := Int.eq_ofNat_of_zero_le hc0
 obtain ⟨m, rfl⟩ := Int.eq_ofNat_of_zero_le hy
 have hm : m < 2 ^ i := by exact_mod_cast hy'
 have e : ((n : Int) * 2 ^ i).toNat = 2 ^ i * n := by
  have : ((n : Int) * 2 ^ i) = ((2 ^ i * n : Nat) : Int) := by
   rw [Nat.mul_comm]; simp
  rw [this, Int.toNat_natCast]
 rw [e, Int.toNat_natCast, <- Nat.two_pow_add_eq_or_of_lt hm]
 rw [Nat.mul_comm]; simp
theorem len8_ok : ∀ m : Fin 256, 0 <= len8tab.getD m.val 0 /\ (m.val : Int) < 2 ^ (len8tab.getD m.val 0).toNat /\ (0 < m.val -> (2 : Int) ^ (len8tab.getD m.val 0).toNat <= 2 * m.val) /\ (m.val = 0 -> len8tab.getD m.val 0 = 0) := by
 decide +kernel
theorem len_leaf {n m : Int} (s : Nat) (hm : m = n / 2 ^ s) (h0 : 0 <= m) (h1 : m < 256) (hs : s = 0 \/ 0 < m) : Post_len64 [[n]] [[(s : Int) + len8tab.getD m.toNat 0]] := by
 obtain ⟨a, b, c, d⟩ := len8_ok ⟨m.toNat, by omega⟩
 simp only at a b c d
 show _ /\ _ /\ _ /\ _
 generalize len8tab.getD m.toNat 0 = k at *
 have e : ((s : Int) + k).toNat = s + k.toNat := by omega
 have em : ((m.toNat : Nat) : Int) = m := by omega
 rw [em] at b c
 rw [e, Int.pow_add]
 have hp : (0 : Int) < 2 ^ s := Int.pow_pos (by omega)
 have g1 : n < (m + 1) * 2 ^ s := by rw [hm]; exact Int.lt_ediv_add_one_mul_self n hp
 have g2 : m * 2 ^ s <= n := by rw [hm]; exact Int.ediv_mul_le n (by omega)
 refine ⟨by omega, ?_, fun hn => ?_, fun hn => ?_⟩
 ·have := Int.mul_le_mul_of_nonneg_right (a := m + 1) (b := 2 ^ k.toNat) (c := 2 ^ s) (by omega) (by omega)
  rw [Int.mul_comm (2 ^ s)]
  omega
 ·have hm0 : 0 < m := by
   rcases hs with rfl | hs
   ·simp at hm; omega
   ·exact hs
  have := Int.mul_le_mul_of_nonneg_right (a := 2 ^ k.toNat) (b := 2 * m) (c := 2 ^ s) (c (by omega)) (by omega)
  rw [Int.mul_comm (2 ^ s)]
  have e2 : 2 * m * 2 ^ s = 2 * (m * 2 ^ s) := by grind
  omega
 ·have hm0 : m = 0 := by rw [hm, hn]; simp
  rcases hs with rfl | hs
  ·have := d (by omega); omega
  ·omega
theorem len_wrap {m : Int} (h0 : 0 <= m) (h1 : m < 256) : IntKind.wrap .u8 m = m := by rw [wrap_u8]; omega
theorem p_len64 : P_len64 := by
 unfold P_len64
 intro n _ _ _
 refine ⟨fun h n1 e1 _ _ => ⟨fun h2 n2 e2 _ _ => ⟨fun h3 n3 e3 _ _ n4 e4 _ _ n5 e5 _ _ => ?_, fun h3 n3 e3 _ _ n4 e4 _ _ => ?_⟩, fun h2 => ⟨fun h3 n2 e2 _ _ n3 e3 _ _ n4 e4 _ _ => ?_, fun h3 n2 e2 _ _ n3 e3 _ _ => ?_⟩⟩,
  fun h => ⟨fun h2 n1 e1 _ _ => ⟨fun h3 n2 e2 _ _ n3 e3 _ _ n4 e4 _ _ => ?_, fun h3 n2 e2 _ _ n3 e3 _ _ => ?_⟩, fun h2 => ⟨fun h3 n1 e1 _ _ n2 e2 _ _ n3 e3 _ _ => ?_, fun h3 n1 e1 _ _ => ?_⟩⟩⟩
 ·rw [e5, e4]; exact len_leaf 56 (by omega) (by omega) (by omega) (by omega)
 ·rw [e4, e3, len_wrap (by omega) (by omega)]; exact len_leaf 48 (by omega) (by omega) (by omega) (by omega)
 ·rw [e4, e3, len_wrap (by omega) (by omega)]; exact len_leaf 40 (by omega) (by omega) (by omega) (by omega)
 ·rw [e3, e2, len_wrap (by omega) (by omega)]; exact len_leaf 32 (by omega) (by omega) (by omega) (by omega)
 ·rw [e4, e3, len_wrap (by omega) (by omega)]; exact len_leaf 24 (by omega) (by omega) (by omega) (by omega)
 ·rw [e3, e2, len_wrap (by omega) (by omega)]; exact len_leaf 16 (by omega) (by omega) (by omega) (by omega)
 ·rw [e3, e2, len_wrap (by omega) (by omega)]; exact len_leaf 8 (by omega) (by omega) (by omega) (by omega)
 ·rw [e1, len_wrap (by omega) (by omega)]
  have := len_leaf (n := n) (m := n) 0 (by simp) (by omega) (by omega) (by omega)
  simpa using this
theorem pow2_le {a b : Nat} (h : a <= b) : (2 : Int) ^ a <= 2 ^ b := by
 have := Nat.pow_le_pow_right (n := 2) (by omega) h
 exact_mod_cast this
end Go.Proofs.YtcjllibeaiofpaaGreatDoor.Sx
