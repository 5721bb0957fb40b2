/-
  Plain laws, part i: bits.
-/
import Derived.Test.YtogcbmadcgjljaaDoorWb
set_option linter.all false
namespace Go.Proofs.YtogcbmadcgjljaaDoor.Sx
open Go Go.RowKit
theorem ofNat_bits {x : Int} (h0 : 0 ≤ x) (h1 : x < 18446744073709551616) : ((BitVec.ofInt 64 x).toNat : Int) = x := by
  rw [BitVec.toNat_ofInt]; simp; omega

theorem or_u64 {x y : Int} (hx : 0 ≤ x) (hx' : x < 18446744073709551616) (hy : 0 ≤ y) (hy' : y < 18446744073709551616) :
    bitsI .or .u64 x y = ((x.toNat ||| y.toNat : Nat) : Int) := by
  have h1 := ofNat_bits hx hx'
  have h2 := ofNat_bits hy hy'
  have h1 : (BitVec.ofInt 64 x).toNat = x.toNat := by omega
  have h2 : (BitVec.ofInt 64 y).toNat = y.toNat := by omega
  show IntKind.wrap .u64 (((BitVec.ofInt 64 x ||| BitVec.ofInt 64 y).toNat : Nat) : Int) = _
  rw [wrap_u64, BitVec.toNat_or, h1, h2]
  have : x.toNat ||| y.toNat < 2 ^ 64 := Nat.or_lt_two_pow (by omega) (by omega)
  omega

theorem or_add {c : Int} {i : Nat} {y : Int} (hc : 0 ≤ c * 2 ^ i) (hc' : c * 2 ^ i < 18446744073709551616) (hy : 0 ≤ y) (hy' : y < 2 ^ i) (hy2 : y < 18446744073709551616) :
    bitsI .or .u64 (c * 2 ^ i) y = c * 2 ^ i + y := by
  have hp : (0 : Int) < 2 ^ i := Int.pow_pos (by omega)
  rw [or_u64 hc hc' hy hy2]
  have hc0 : 0 ≤ c := by
    rcases Int.lt_or_le c 0 with h | h
    · have := Int.mul_neg_of_neg_of_pos h hp
      omega
    · exact h
  obtain ⟨n, rfl⟩ := Int.eq_ofNat_of_zero_le hc0
  obtain ⟨m, rfl⟩ := Int.eq_ofNat_of_zero_le hy
  have hm : m < 2 ^ i := by exact_mod_cast hy'
  have e : ((n : Int) * 2 ^ i).toNat = 2 ^ i * n := by
    have : ((n : Int) * 2 ^ i) = ((2 ^ i * n : Nat) : Int) := by
      rw [Nat.mul_comm]; simp
    rw [this, Int.toNat_natCast]
  rw [e, Int.toNat_natCast, ← Nat.two_pow_add_eq_or_of_lt hm]
  rw [Nat.mul_comm]; simp

theorem len8_ok : ∀ m : Fin 256, 0 ≤ len8tab.getD m.val 0 ∧ (m.val : Int) < 2 ^ (len8tab.getD m.val 0).toNat ∧ (0 < m.val → (2 : Int) ^ (len8tab.getD m.val 0).toNat ≤ 2 * m.val) ∧ (m.val = 0 → len8tab.getD m.val 0 = 0) := by
  decide +kernel

theorem len_leaf {n m : Int} (s : Nat) (hm : m = n / 2 ^ s) (h0 : 0 ≤ m) (h1 : m < 256) (hs : s = 0 ∨ 0 < m) : Post_len64 [[n]] [[(s : Int) + len8tab.getD m.toNat 0]] := by
  obtain ⟨a, b, c, d⟩ := len8_ok ⟨m.toNat, by omega⟩
  simp only at a b c d
  show _ ∧ _ ∧ _ ∧ _
  generalize len8tab.getD m.toNat 0 = k at *
  have e : ((s : Int) + k).toNat = s + k.toNat := by omega
  have em : ((m.toNat : Nat) : Int) = m := by omega
  rw [em] at b c
  rw [e, Int.pow_add]
  have hp : (0 : Int) < 2 ^ s := Int.pow_pos (by omega)
  have g1 : n < (m + 1) * 2 ^ s := by rw [hm]; exact Int.lt_ediv_add_one_mul_self n hp
  have g2 : m * 2 ^ s ≤ n := by rw [hm]; exact Int.ediv_mul_le n (by omega)
  refine ⟨by omega, ?_, fun hn => ?_, fun hn => ?_⟩
  · have := Int.mul_le_mul_of_nonneg_right (a := m + 1) (b := 2 ^ k.toNat) (c := 2 ^ s) (by omega) (by omega)
    rw [Int.mul_comm (2 ^ s)]
    omega
  · have hm0 : 0 < m := by
      rcases hs with rfl | hs
      · simp at hm; omega
      · exact hs
    have := Int.mul_le_mul_of_nonneg_right (a := 2 ^ k.toNat) (b := 2 * m) (c := 2 ^ s) (c (by omega)) (by omega)
    rw [Int.mul_comm (2 ^ s)]
    have e2 : 2 * m * 2 ^ s = 2 * (m * 2 ^ s) := by grind
    omega
  · have hm0 : m = 0 := by rw [hm, hn]; simp
    rcases hs with rfl | hs
    · have := d (by omega); omega
    · omega

theorem len_wrap {m : Int} (h0 : 0 ≤ m) (h1 : m < 256) : IntKind.wrap .u8 m = m := by rw [wrap_u8]; omega

theorem p_len64 : P_len64 := by
  unfold P_len64
  intro n _ _ _
  refine ⟨fun h n1 e1 _ _ => ⟨fun h2 n2 e2 _ _ => ⟨fun h3 n3 e3 _ _ n4 e4 _ _ n5 e5 _ _ => ?_, fun h3 n3 e3 _ _ n4 e4 _ _ => ?_⟩, fun h2 => ⟨fun h3 n2 e2 _ _ n3 e3 _ _ n4 e4 _ _ => ?_, fun h3 n2 e2 _ _ n3 e3 _ _ => ?_⟩⟩,
    fun h => ⟨fun h2 n1 e1 _ _ => ⟨fun h3 n2 e2 _ _ n3 e3 _ _ n4 e4 _ _ => ?_, fun h3 n2 e2 _ _ n3 e3 _ _ => ?_⟩, fun h2 => ⟨fun h3 n1 e1 _ _ n2 e2 _ _ n3 e3 _ _ => ?_, fun h3 n1 e1 _ _ => ?_⟩⟩⟩
  · rw [e5, e4]; exact len_leaf 56 (by omega) (by omega) (by omega) (by omega)
  · rw [e4, e3, len_wrap (by omega) (by omega)]; exact len_leaf 48 (by omega) (by omega) (by omega) (by omega)
  · rw [e4, e3, len_wrap (by omega) (by omega)]; exact len_leaf 40 (by omega) (by omega) (by omega) (by omega)
  · rw [e3, e2, len_wrap (by omega) (by omega)]; exact len_leaf 32 (by omega) (by omega) (by omega) (by omega)
  · rw [e4, e3, len_wrap (by omega) (by omega)]; exact len_leaf 24 (by omega) (by omega) (by omega) (by omega)
  · rw [e3, e2, len_wrap (by omega) (by omega)]; exact len_leaf 16 (by omega) (by omega) (by omega) (by omega)
  · rw [e3, e2, len_wrap (by omega) (by omega)]; exact len_leaf 8 (by omega) (by omega) (by omega) (by omega)
  · rw [e1, len_wrap (by omega) (by omega)]
    have := len_leaf (n := n) (m := n) 0 (by simp) (by omega) (by omega) (by omega)
    simpa using this

theorem pow2_le {a b : Nat} (h : a ≤ b) : (2 : Int) ^ a ≤ 2 ^ b := by
  have := Nat.pow_le_pow_right (n := 2) (by omega) h
  exact_mod_cast this

end Go.Proofs.YtogcbmadcgjljaaDoor.Sx
