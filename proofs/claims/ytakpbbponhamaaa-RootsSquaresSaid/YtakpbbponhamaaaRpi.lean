/-
  Plain laws, part i: roots bit by bit; the highest bit's place; the product of words by halves.
-/
import Derived.Test.YtakpbbponhamaaaRpc
set_option linter.all false
namespace Go.Proofs.Ytakpbbponhamaaa.Sx
open Go Go.RowKit

theorem ofNat_bits {x : Int} (h0 : 0 ≤ x) (h1 : x < 18446744073709551616) : ((BitVec.ofInt 64 x).toNat : Int) = x := by
  rw [BitVec.toNat_ofInt]; simp; omega

theorem or_u64 {x y : Int} (hx : 0 ≤ x) (hx' : x < 18446744073709551616) (hy : 0 ≤ y) (hy' : y < 18446744073709551616) :
    bitsI .or .u64 x y = ((x.toNat ||| y.toNat : Nat) : Int) := by
  have h1 := ofNat_bits hx hx'
  have h2 := ofNat_bits hy hy'
  have h1 : (BitVec.ofInt 64 x).toNat = x.toNat := by omega
  have h2 : (BitVec.ofInt 64 y).toNat = y.toNat := by omega
  show IntKind.wrap .u64 (((BitVec.ofInt 64 x ||| BitVec.ofInt 64 y).toNat : Nat) : Int) = _
  rw [wrap_u64, BitVec.toNat_or, h1, h2]
  have : x.toNat ||| y.toNat < 2 ^ 64 := Nat.or_lt_two_pow (by omega) (by omega)
  omega

/-- a multiple of a power of two, and what is below that power. -/
theorem or_add {c : Int} {i : Nat} {y : Int} (hc : 0 ≤ c * 2 ^ i) (hc' : c * 2 ^ i < 18446744073709551616) (hy : 0 ≤ y) (hy' : y < 2 ^ i) (hy2 : y < 18446744073709551616) :
    bitsI .or .u64 (c * 2 ^ i) y = c * 2 ^ i + y := by
  have hp : (0 : Int) < 2 ^ i := Int.pow_pos (by omega)
  rw [or_u64 hc hc' hy hy2]
  have hc0 : 0 ≤ c := by
    rcases Int.lt_or_le c 0 with h | h
    · have := Int.mul_neg_of_neg_of_pos h hp
      omega
    · exact h
  obtain ⟨n, rfl⟩ := Int.eq_ofNat_of_zero_le hc0
  obtain ⟨m, rfl⟩ := Int.eq_ofNat_of_zero_le hy
  have hm : m < 2 ^ i := by exact_mod_cast hy'
  have e : ((n : Int) * 2 ^ i).toNat = 2 ^ i * n := by
    have : ((n : Int) * 2 ^ i) = ((2 ^ i * n : Nat) : Int) := by
      rw [Nat.mul_comm]; simp
    rw [this, Int.toNat_natCast]
  rw [e, Int.toNat_natCast, ← Nat.two_pow_add_eq_or_of_lt hm]
  rw [Nat.mul_comm]; simp

theorem p_lproduct : P_lproduct := by
  unfold P_lproduct
  intro a _ _ b _ _ _ p ep _ _ q eq _ _ r er _ _ m em _ _ h eh _ _ l el _ _
  show w128 h l = a * b
  have hl : bitsI .or .u64 (IntKind.wrap .u64 (m * 4294967296)) (p % 4294967296) = m % 4294967296 * 4294967296 + p % 4294967296 := by
    rw [wrap_u64, show m * 4294967296 % 18446744073709551616 = m % 4294967296 * 2 ^ 32 by omega]
    exact or_add (by omega) (by omega) (by omega) (by omega) (by omega)
  rw [hl] at el
  have e : a * b = 18446744073709551616 * (a / 4294967296 * (b / 4294967296)) + 4294967296 * q + 4294967296 * r + p := by
    rw [ep, eq, er]
    have ea : a = 4294967296 * (a / 4294967296) + a % 4294967296 := by omega
    have eb : b = 4294967296 * (b / 4294967296) + b % 4294967296 := by omega
    generalize a / 4294967296 = x1 at *
    generalize a % 4294967296 = x0 at *
    generalize b / 4294967296 = y1 at *
    generalize b % 4294967296 = y0 at *
    rw [ea, eb]; grind
  rw [e, w128]
  generalize a / 4294967296 * (b / 4294967296) = s at *
  omega

theorem len8_ok : ∀ m : Fin 256, 0 ≤ len8tab.getD m.val 0 ∧ (m.val : Int) < 2 ^ (len8tab.getD m.val 0).toNat ∧ (0 < m.val → (2 : Int) ^ (len8tab.getD m.val 0).toNat ≤ 2 * m.val) ∧ (m.val = 0 → len8tab.getD m.val 0 = 0) := by
  decide +kernel

theorem len_leaf {n m : Int} (s : Nat) (hm : m = n / 2 ^ s) (h0 : 0 ≤ m) (h1 : m < 256) (hs : s = 0 ∨ 0 < m) : Post_len64 [[n]] [[(s : Int) + len8tab.getD m.toNat 0]] := by
  obtain ⟨a, b, c, d⟩ := len8_ok ⟨m.toNat, by omega⟩
  simp only at a b c d
  show _ ∧ _ ∧ _ ∧ _
  generalize len8tab.getD m.toNat 0 = k at *
  have e : ((s : Int) + k).toNat = s + k.toNat := by omega
  have em : ((m.toNat : Nat) : Int) = m := by omega
  rw [em] at b c
  rw [e, Int.pow_add]
  have hp : (0 : Int) < 2 ^ s := Int.pow_pos (by omega)
  have g1 : n < (m + 1) * 2 ^ s := by rw [hm]; exact Int.lt_ediv_add_one_mul_self n hp
  have g2 : m * 2 ^ s ≤ n := by rw [hm]; exact Int.ediv_mul_le n (by omega)
  refine ⟨by omega, ?_, fun hn => ?_, fun hn => ?_⟩
  · have := Int.mul_le_mul_of_nonneg_right (a := m + 1) (b := 2 ^ k.toNat) (c := 2 ^ s) (by omega) (by omega)
    rw [Int.mul_comm (2 ^ s)]
    omega
  · have hm0 : 0 < m := by
      rcases hs with rfl | hs
      · simp at hm; omega
      · exact hs
    have := Int.mul_le_mul_of_nonneg_right (a := 2 ^ k.toNat) (b := 2 * m) (c := 2 ^ s) (c (by omega)) (by omega)
    rw [Int.mul_comm (2 ^ s)]
    have e2 : 2 * m * 2 ^ s = 2 * (m * 2 ^ s) := by grind
    omega
  · have hm0 : m = 0 := by rw [hm, hn]; simp
    rcases hs with rfl | hs
    · have := d (by omega); omega
    · omega

theorem len_wrap {m : Int} (h0 : 0 ≤ m) (h1 : m < 256) : IntKind.wrap .u8 m = m := by rw [wrap_u8]; omega

theorem p_len64 : P_len64 := by
  unfold P_len64
  intro n _ _ _
  refine ⟨fun h n1 e1 _ _ => ⟨fun h2 n2 e2 _ _ => ⟨fun h3 n3 e3 _ _ n4 e4 _ _ n5 e5 _ _ => ?_, fun h3 n3 e3 _ _ n4 e4 _ _ => ?_⟩, fun h2 => ⟨fun h3 n2 e2 _ _ n3 e3 _ _ n4 e4 _ _ => ?_, fun h3 n2 e2 _ _ n3 e3 _ _ => ?_⟩⟩,
    fun h => ⟨fun h2 n1 e1 _ _ => ⟨fun h3 n2 e2 _ _ n3 e3 _ _ n4 e4 _ _ => ?_, fun h3 n2 e2 _ _ n3 e3 _ _ => ?_⟩, fun h2 => ⟨fun h3 n1 e1 _ _ n2 e2 _ _ n3 e3 _ _ => ?_, fun h3 n1 e1 _ _ => ?_⟩⟩⟩
  · rw [e5, e4]; exact len_leaf 56 (by omega) (by omega) (by omega) (by omega)
  · rw [e4, e3, len_wrap (by omega) (by omega)]; exact len_leaf 48 (by omega) (by omega) (by omega) (by omega)
  · rw [e4, e3, len_wrap (by omega) (by omega)]; exact len_leaf 40 (by omega) (by omega) (by omega) (by omega)
  · rw [e3, e2, len_wrap (by omega) (by omega)]; exact len_leaf 32 (by omega) (by omega) (by omega) (by omega)
  · rw [e4, e3, len_wrap (by omega) (by omega)]; exact len_leaf 24 (by omega) (by omega) (by omega) (by omega)
  · rw [e3, e2, len_wrap (by omega) (by omega)]; exact len_leaf 16 (by omega) (by omega) (by omega) (by omega)
  · rw [e3, e2, len_wrap (by omega) (by omega)]; exact len_leaf 8 (by omega) (by omega) (by omega) (by omega)
  · rw [e1, len_wrap (by omega) (by omega)]
    have := len_leaf (n := n) (m := n) 0 (by simp) (by omega) (by omega) (by omega)
    simpa using this

theorem pow2_le {a b : Nat} (h : a ≤ b) : (2 : Int) ^ a ≤ 2 ^ b := by
  have := Nat.pow_le_pow_right (n := 2) (by omega) h
  exact_mod_cast this

theorem root_step {most : Nat} (hm : most ≤ 64) {n x i k : Int} (h : rootInv most n x i) (hi0 : 0 ≤ i) (hi : i < most) (hx : 0 ≤ x) (hk : k = most - 1 - i) :
    bitsI .or .u64 x (shI .shl .u64 1 k) = x + 2 ^ k.toNat ∧ x + 2 ^ k.toNat < 2 ^ most ∧ 0 ≤ x + (2 : Int) ^ k.toNat ∧
    ((x + 2 ^ k.toNat) * (x + 2 ^ k.toNat) ≤ n → rootInv most n (x + 2 ^ k.toNat) (i + 1)) ∧ (n < (x + 2 ^ k.toNat) * (x + 2 ^ k.toNat) → rootInv most n x (i + 1)) := by
  obtain ⟨h1, ⟨c, h2⟩, h3, h4, h5⟩ := h
  have e : most - i.toNat = k.toNat + 1 := by omega
  have e' : most - (i + 1).toNat = k.toNat := by omega
  have hp : (0 : Int) < 2 ^ k.toNat := Int.pow_pos (by omega)
  have hs : shI .shl .u64 1 k = 2 ^ k.toNat := by
    show IntKind.wrap .u64 (1 * 2 ^ (Min.min k.toNat 64)) = _
    rw [Nat.min_eq_left (by omega), wrap_u64, Int.one_mul]
    have : (2 : Int) ^ k.toNat ≤ 2 ^ 63 := pow2_le (by omega)
    omega
  have hmo : (2 : Int) ^ most ≤ 2 ^ 64 := pow2_le hm
  rw [e] at h2 h3 h5
  have e2 : (2 : Int) ^ (k.toNat + 1) = 2 ^ k.toNat * 2 := Int.pow_succ ..
  have hor : bitsI .or .u64 x (shI .shl .u64 1 k) = x + 2 ^ k.toNat := by
    rw [hs, h2]
    exact or_add (by omega) (by omega) (by omega) (by omega) (by omega)
  refine ⟨hor, by omega, by omega, fun hy => ⟨by omega, ⟨2 * c + 1, ?_⟩, ?_, hy, ?_⟩, fun hy => ⟨by omega, ⟨2 * c, ?_⟩, ?_, h4, ?_⟩⟩
  · rw [e', h2, e2]; grind
  · rw [e']; omega
  · rw [e', show x + 2 ^ k.toNat + 2 ^ k.toNat = x + 2 ^ (k.toNat + 1) by omega]; exact h5
  · rw [e', h2, e2]; grind
  · rw [e']; omega
  · rw [e']; exact hy

theorem root_init {most : Nat} {n : Int} (h0 : 0 ≤ n) (h : n < 2 ^ most * 2 ^ most) : rootInv most n 0 0 := by
  refine ⟨by omega, ⟨0, by simp⟩, by simp, by simpa using h0, ?_⟩
  simpa using h

theorem root_done {most : Nat} {n x i : Int} (h : rootInv most n x i) (hi : ¬ i < most) : isRoot n x := by
  obtain ⟨h1, _, _, h4, h5⟩ := h
  have e : most - i.toNat = 0 := by omega
  rw [e] at h5
  exact ⟨h4, by simpa using h5⟩

theorem p_rootnarrow : P_rootnarrow := by
  unfold P_rootnarrow
  intro n _ _ m _ _ _ _
  have hm : m = 32 := by omega
  subst hm
  refine ⟨root_init (most := 32) (by omega) (by omega), ?_⟩
  intro x _ _ i _ _ hI _ _
  replace hI : rootInv 32 n x i := hI
  refine ⟨fun hl => ⟨by omega, fun k ek _ _ y ey _ _ => ?_⟩, fun hl => root_done hI hl⟩
  obtain ⟨s1, s2, s3, s4, s5⟩ := root_step (k := k) (by omega) hI (by omega) hl (by omega) (by omega)
  rw [s1] at ey
  rw [← ey] at s2 s3 s4 s5
  refine ⟨?_, fun z _ _ hz => ⟨trivial, fun t ht => ?_⟩⟩
  · show y < 4294967296
    omega
  replace hz : z = y * y := hz
  replace ht : b2i t = b2i (decide (n < z)) := ht
  rw [b2i_dec, hz] at ht
  refine ⟨fun h => ⟨by omega, fun j ej _ _ => ⟨?_, ?_⟩⟩, fun h => ⟨by omega, fun j ej _ _ => ⟨?_, ?_⟩⟩⟩
  · show rootInv 32 n y j
    rw [ej]; exact s4 (Int.not_lt.1 fun h' => h (ht.2 h'))
  · show (32 - j).toNat < (32 - i).toNat
    omega
  · show rootInv 32 n x j
    rw [ej]; exact s5 (ht.1 (Classical.not_not.1 h))
  · show (32 - j).toNat < (32 - i).toNat
    omega

theorem p_rootwide : P_rootwide := by
  unfold P_rootwide
  intro h _ _ l _ _ m _ _ _ _ _
  have hm : m = 64 := by omega
  subst hm
  refine ⟨root_init (most := 64) (n := w128 h l) (by simp only [w128]; omega) (by simp only [w128]; omega), ?_⟩
  intro x _ _ i _ _ hI _ _
  replace hI : rootInv 64 (w128 h l) x i := hI
  refine ⟨fun hl => ⟨by omega, fun k ek _ _ y ey _ _ => ?_⟩, fun hl => root_done hI hl⟩
  obtain ⟨s1, s2, s3, s4, s5⟩ := root_step (k := k) (by omega) hI (by omega) hl (by omega) (by omega)
  rw [s1] at ey
  rw [← ey] at s2 s3 s4 s5
  refine ⟨trivial, fun z _ _ z1 _ _ hz => ⟨trivial, fun t ht => ?_⟩⟩
  replace hz : w128 z z1 = y * y := hz
  replace ht : b2i t = b2i (decide (w128 h l < w128 z z1)) := ht
  rw [b2i_dec, hz] at ht
  refine ⟨fun h => ⟨by omega, fun j ej _ _ => ⟨?_, ?_⟩⟩, fun h => ⟨by omega, fun j ej _ _ => ⟨?_, ?_⟩⟩⟩
  · show rootInv 64 _ y j
    rw [ej]; exact s4 (Int.not_lt.1 fun h' => h (ht.2 h'))
  · show (64 - j).toNat < (64 - i).toNat
    omega
  · show rootInv 64 _ x j
    rw [ej]; exact s5 (ht.1 (Classical.not_not.1 h))
  · show (64 - j).toNat < (64 - i).toNat
    omega

end Go.Proofs.Ytakpbbponhamaaa.Sx
