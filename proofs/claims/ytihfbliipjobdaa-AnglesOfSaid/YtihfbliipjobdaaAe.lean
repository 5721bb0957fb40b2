/-
  Plain laws of angles: directions.
-/
import Derived.Test.YtihfbliipjobdaaAd
set_option linter.all false
set_option maxRecDepth 100000
namespace Go.Proofs.Ytihfbliipjobdaa.Sx
open Go Go.RowKit

theorem p_afirst : P_afirst := by
  unfold P_afirst
  intro n l_n u_n
  intro n1 l_n1 u_n1
  intro hpre
  replace hpre : (¬ (n = 0 ∧ n1 = 0) ∧ -2147483648 ≤ n ∧ n ≤ 2147483648 ∧ -2147483648 ≤ n1 ∧ n1 ≤ 2147483648) := hpre
  intro b
  refine ⟨fun c0 => ?_, fun c0 => ?_⟩
  · refine ⟨fun c1 => ?_, fun c1 => ?_⟩
    · refine ⟨by omega, ?_⟩
      refine ⟨by omega, ?_⟩
      intro n2 e_n2 l_n2 u_n2
      refine ⟨by omega, ?_⟩
      refine ⟨by omega, ?_⟩
      intro n3 e_n3 l_n3 u_n3
      show ((0 : Int) = fQ n1 n ∧ n2 = fX n1 n ∧ n3 = fY n1 n)
      refine ⟨?_, ?_, ?_⟩
      · unfold fQ; (repeat' split) <;> omega
      · unfold fX; (repeat' split) <;> omega
      · unfold fY; (repeat' split) <;> omega
    · refine ⟨fun c2 => ?_, fun c2 => ?_⟩
      · intro n2 e_n2 l_n2 u_n2
        simp only [wrap_u64, wrap_i64, wrap_i32, wrap_u32, wrap_u8] at e_n2
        refine ⟨by omega, ?_⟩
        refine ⟨by omega, ?_⟩
        intro n3 e_n3 l_n3 u_n3
        refine ⟨by omega, ?_⟩
        refine ⟨by omega, ?_⟩
        intro n4 e_n4 l_n4 u_n4
        show ((1 : Int) = fQ n1 n ∧ n3 = fX n1 n ∧ n4 = fY n1 n)
        refine ⟨?_, ?_, ?_⟩
        · unfold fQ; (repeat' split) <;> omega
        · unfold fX; (repeat' split) <;> omega
        · unfold fY; (repeat' split) <;> omega
      · refine ⟨fun c3 => ?_, fun c3 => ?_⟩
        · intro n2 e_n2 l_n2 u_n2
          simp only [wrap_u64, wrap_i64, wrap_i32, wrap_u32, wrap_u8] at e_n2
          intro n3 e_n3 l_n3 u_n3
          simp only [wrap_u64, wrap_i64, wrap_i32, wrap_u32, wrap_u8] at e_n3
          refine ⟨by omega, ?_⟩
          refine ⟨by omega, ?_⟩
          intro n4 e_n4 l_n4 u_n4
          refine ⟨by omega, ?_⟩
          refine ⟨by omega, ?_⟩
          intro n5 e_n5 l_n5 u_n5
          show ((2 : Int) = fQ n1 n ∧ n4 = fX n1 n ∧ n5 = fY n1 n)
          refine ⟨?_, ?_, ?_⟩
          · unfold fQ; (repeat' split) <;> omega
          · unfold fX; (repeat' split) <;> omega
          · unfold fY; (repeat' split) <;> omega
        · intro n2 e_n2 l_n2 u_n2
          simp only [wrap_u64, wrap_i64, wrap_i32, wrap_u32, wrap_u8] at e_n2
          refine ⟨by omega, ?_⟩
          refine ⟨by omega, ?_⟩
          intro n3 e_n3 l_n3 u_n3
          refine ⟨by omega, ?_⟩
          refine ⟨by omega, ?_⟩
          intro n4 e_n4 l_n4 u_n4
          show ((3 : Int) = fQ n1 n ∧ n3 = fX n1 n ∧ n4 = fY n1 n)
          refine ⟨?_, ?_, ?_⟩
          · unfold fQ; (repeat' split) <;> omega
          · unfold fX; (repeat' split) <;> omega
          · unfold fY; (repeat' split) <;> omega
  · refine ⟨fun c1 => ?_, fun c1 => ?_⟩
    · intro n2 e_n2 l_n2 u_n2
      simp only [wrap_u64, wrap_i64, wrap_i32, wrap_u32, wrap_u8] at e_n2
      refine ⟨by omega, ?_⟩
      refine ⟨by omega, ?_⟩
      intro n3 e_n3 l_n3 u_n3
      refine ⟨by omega, ?_⟩
      refine ⟨by omega, ?_⟩
      intro n4 e_n4 l_n4 u_n4
      show ((1 : Int) = fQ n1 n ∧ n3 = fX n1 n ∧ n4 = fY n1 n)
      refine ⟨?_, ?_, ?_⟩
      · unfold fQ; (repeat' split) <;> omega
      · unfold fX; (repeat' split) <;> omega
      · unfold fY; (repeat' split) <;> omega
    · refine ⟨fun c2 => ?_, fun c2 => ?_⟩
      · intro n2 e_n2 l_n2 u_n2
        simp only [wrap_u64, wrap_i64, wrap_i32, wrap_u32, wrap_u8] at e_n2
        intro n3 e_n3 l_n3 u_n3
        simp only [wrap_u64, wrap_i64, wrap_i32, wrap_u32, wrap_u8] at e_n3
        refine ⟨by omega, ?_⟩
        refine ⟨by omega, ?_⟩
        intro n4 e_n4 l_n4 u_n4
        refine ⟨by omega, ?_⟩
        refine ⟨by omega, ?_⟩
        intro n5 e_n5 l_n5 u_n5
        show ((2 : Int) = fQ n1 n ∧ n4 = fX n1 n ∧ n5 = fY n1 n)
        refine ⟨?_, ?_, ?_⟩
        · unfold fQ; (repeat' split) <;> omega
        · unfold fX; (repeat' split) <;> omega
        · unfold fY; (repeat' split) <;> omega
      · intro n2 e_n2 l_n2 u_n2
        simp only [wrap_u64, wrap_i64, wrap_i32, wrap_u32, wrap_u8] at e_n2
        refine ⟨by omega, ?_⟩
        refine ⟨by omega, ?_⟩
        intro n3 e_n3 l_n3 u_n3
        refine ⟨by omega, ?_⟩
        refine ⟨by omega, ?_⟩
        intro n4 e_n4 l_n4 u_n4
        show ((3 : Int) = fQ n1 n ∧ n3 = fX n1 n ∧ n4 = fY n1 n)
        refine ⟨?_, ?_, ?_⟩
        · unfold fQ; (repeat' split) <;> omega
        · unfold fX; (repeat' split) <;> omega
        · unfold fY; (repeat' split) <;> omega

theorem log_up {m k : Int} (h : (m = 0 → k = -1) ∧ (0 < m → 0 ≤ k ∧ k ≤ 63 ∧ 2 ^ k.toNat ≤ m ∧ m < 2 * 2 ^ k.toNat)) (h1 : 1 ≤ m) (h2 : m ≤ 2147483648) : 0 ≤ k ∧ k ≤ 31 ∧ (60 - k).toNat = upN m := by
  obtain ⟨a1, a2, a3, a4⟩ := h.2 (by omega)
  have e : Nat.log2 m.toNat = k.toNat := by
    refine (Nat.log2_eq_iff (by omega)).2 ⟨?_, ?_⟩
    · have : ((2 ^ k.toNat : Nat) : Int) = (2 : Int) ^ k.toNat := by simp
      omega
    · have : ((2 ^ (k.toNat + 1) : Nat) : Int) = 2 * (2 : Int) ^ k.toNat := by rw [Nat.pow_succ]; simp; omega
      omega
  have l := log2_le h1 h2
  unfold upN
  rw [e] at l ⊢
  omega
theorem shl_i64 {a s : Int} (h0 : 0 ≤ s) (h1 : s ≤ 64) (h2 : -9223372036854775808 ≤ a * 2 ^ s.toNat) (h3 : a * 2 ^ s.toNat ≤ 9223372036854775807) : shI .shl .i64 a s = a * 2 ^ s.toNat := by
  simp only [shI, IntKind.bits]
  rw [show Min.min s.toNat 64 = s.toNat by omega, wrap_i64]
  omega
theorem shl_scaled {a b m s : Int} (hm : m = max a b) (ha : 1 ≤ a) (ha' : a ≤ 2147483648) (hb : 0 ≤ b) (hb' : b ≤ 2147483648) (hs : s.toNat = upN m) (hs0 : 0 ≤ s) (hs1 : s ≤ 64) :
    shI .shl .i64 a s = a * 2 ^ upN (max a b) ∧ shI .shl .i64 b s = b * 2 ^ upN (max a b) ∧ 0 < a * 2 ^ upN (max a b) ∧ a * 2 ^ upN (max a b) ≤ 2305843009213693951 ∧ 0 ≤ b * 2 ^ upN (max a b) ∧ b * 2 ^ upN (max a b) ≤ 2305843009213693951 ∧ nb (a * 2 ^ upN (max a b)) (b * 2 ^ upN (max a b)) 3300000000000000000 := by
  subst hm
  obtain ⟨u1, u2, u3⟩ := up_in (m := max a b) (by omega) (by omega)
  obtain ⟨s1, s2, s3, s4⟩ := scaled (X := a) (Y := b) (by omega) hb ha' hb'
  have e1 := Int.mul_le_mul_of_nonneg_right (show a ≤ max a b by omega) (Int.le_of_lt u3)
  have e2 := Int.mul_le_mul_of_nonneg_right (show b ≤ max a b by omega) (Int.le_of_lt u3)
  refine ⟨?_, ?_, s1, by omega, s2, by omega, s3⟩
  · rw [shl_i64 hs0 hs1 (by rw [hs]; omega) (by rw [hs]; omega), hs]
  · rw [shl_i64 hs0 hs1 (by rw [hs]; omega) (by rw [hs]; omega), hs]
theorem at_step {q a b i o x y c s : Int} (h1 : 1 ≤ i) (h2 : i < 41) (q0 : 0 ≤ q) (q1 : q ≤ 3) (hi : o = q * 2 ^ (i - 1).toNat + (bk a b (i - 1).toNat).2.2 ∧ x = (bk a b (i - 1).toNat).1 ∧ y = (bk a b (i - 1).toNat).2.1) (hc : c = tX.getD i.toNat 0) (hs : s = tY.getD i.toNat 0)
    (ha : 0 < a) (hb : 0 ≤ b) (hv : nb a b 3300000000000000000) :
    (nb x y 4611686018427387984 ∧ nb c s 4611686018427387904) ∧ (0 ≤ bkY x y c s → (2 * o + 1 = q * 2 ^ i.toNat + (bk a b i.toNat).2.2 ∧ bkX x y c s = (bk a b i.toNat).1 ∧ bkY x y c s = (bk a b i.toNat).2.1)) ∧ (¬ 0 ≤ bkY x y c s → (2 * o = q * 2 ^ i.toNat + (bk a b i.toNat).2.2 ∧ x = (bk a b i.toNat).1 ∧ y = (bk a b i.toNat).2.1)) ∧
    (-4611686018427387984 ≤ (bk a b i.toNat).1 ∧ (bk a b i.toNat).1 ≤ 4611686018427387984 ∧ -4611686018427387984 ≤ (bk a b i.toNat).2.1 ∧ (bk a b i.toNat).2.1 ≤ 4611686018427387984) ∧ q * 2 ^ i.toNat + (bk a b i.toNat).2.2 ≤ 4398046511104 := by
  obtain ⟨n, hn⟩ : ∃ n : Nat, i = n + 1 := ⟨(i - 1).toNat, by omega⟩
  have e1 : (i - 1).toNat = n := by omega
  have e2 : i.toNat = n + 1 := by omega
  rw [e1] at hi
  rw [e2] at hc hs ⊢
  obtain ⟨ho, hx, hy⟩ := hi
  have k := bk_ok ha hb hv n (by omega)
  have k' := bk_ok ha hb hv (n + 1) (by omega)
  have hcx : c = cx (n + 1) := hc
  have hsx : s = sx (n + 1) := hs
  have key : bk a b (n + 1) = if 0 ≤ bkY x y c s then (bkX x y c s, bkY x y c s, 2 * (bk a b n).2.2 + 1) else (x, y, 2 * (bk a b n).2.2) := by rw [hx, hy, hcx, hsx]; rfl
  have hp : q * 2 ^ (n + 1) = 2 * (q * 2 ^ n) := by rw [Int.pow_succ]; grind
  refine ⟨⟨?_, ?_⟩, fun z => ?_, fun z => ?_, ?_, ?_⟩
  · rw [hx, hy]; exact nb_mono k.len (by omega)
  · rw [hcx, hsx]; exact tab_ok ⟨n + 1, by omega⟩
  · rw [key, if_pos z]; exact ⟨by rw [ho, hp]; simp only; omega, rfl, rfl⟩
  · rw [key, if_neg z]; exact ⟨by rw [ho, hp]; simp only; omega, rfl, rfl⟩
  · have l := nb_mono k'.len (show (3300000000000000000 : Int) + 2 * ((n + 1 : Nat) : Int) ≤ 4611686018427387984 by omega)
    have lx := nb_x l
    have ly := nb_y l
    omega
  · have o1 := k'.o1
    have hq := Int.mul_le_mul_of_nonneg_right q1 (Int.le_of_lt (show (0 : Int) < 2 ^ (n + 1) from Int.pow_pos (by decide)))
    have h40 : (2 : Int) ^ (n + 1) ≤ 1099511627776 := by
      have := Nat.pow_le_pow_right (n := 2) (by omega) (show n + 1 ≤ 40 by omega)
      have e : ((2 ^ (n + 1) : Nat) : Int) = (2 : Int) ^ (n + 1) := by simp
      have e' : (2 ^ 40 : Nat) = 1099511627776 := rfl
      omega
    omega
theorem at_round {O v : Int} (h : isNear (O * 5898240) 1099511627776 v) : v = roundO O := by
  obtain ⟨h1, h2⟩ := h
  unfold roundO; omega
theorem at_end {y x q a b o v : Int} (hq : q = fQ y x) (ha : a = fX y x * 2 ^ upN (max (fX y x) (fY y x))) (hb : b = fY y x * 2 ^ upN (max (fX y x) (fY y x))) (ho : o = q * 2 ^ 40 + (bk a b 40).2.2) (hv : isNear (o * 5898240) 1099511627776 v) (h0 : 0 ≤ o) (h1 : o ≤ 4398046511104) :
    0 ≤ v ∧ v ≤ 23592960 ∧ v % 23592960 = atF y x := by
  have e := at_round hv
  have : atF y x = roundO o % 23592960 := by
    unfold atF fO
    rw [ho, hq, ha, hb]
    rfl
  rw [this, e]
  refine ⟨?_, ?_, rfl⟩ <;> (unfold roundO; omega)

set_option maxHeartbeats 8000000 in
theorem p_atan : P_atan := by
  unfold P_atan
  intro n l_n u_n
  intro n1 l_n1 u_n1
  intro hpre
  replace hpre : True := hpre
  refine ⟨fun c0 => ?_, fun c0 => ?_⟩
  · refine ⟨fun c1 => ?_, fun c1 => ?_⟩
    · show ((n1 = 0 ∧ n = 0 → (0 : Int) = 0 ∧ (12 : Int) = 12) ∧ (¬ (n1 = 0 ∧ n = 0) → (12 : Int) = 0 ∧ (0 : Int) = atF n n1))
      refine ⟨fun _ => ⟨rfl, rfl⟩, fun h => absurd ⟨by assumption, by assumption⟩ h⟩
    · refine ⟨?_, ?_⟩
      · show (¬ (n1 = 0 ∧ n = 0) ∧ -2147483648 ≤ n1 ∧ n1 ≤ 2147483648 ∧ -2147483648 ≤ n ∧ n ≤ 2147483648)
        omega
      intro n2 l_n2 u_n2
      intro n3 l_n3 u_n3
      intro n4 l_n4 u_n4
      intro h_afirst
      replace h_afirst : (n2 = fQ n n1 ∧ n3 = fX n n1 ∧ n4 = fY n n1) := h_afirst
      intro b
      intro n5 e_n5 l_n5 u_n5
      refine ⟨trivial, ?_⟩
      intro n6 l_n6 u_n6
      intro h_log
      replace h_log : ((n5 = 0 → n6 = -1) ∧ (0 < n5 → 0 ≤ n6 ∧ n6 ≤ 63 ∧ 2 ^ n6.toNat ≤ n5 ∧ n5 < 2 * 2 ^ n6.toNat)) := h_log
      have hl := log_up h_log l_n5 u_n5
      intro n7 e_n7 l_n7 u_n7
      simp only [wrap_u64, wrap_i64, wrap_i32, wrap_u32, wrap_u8] at e_n7
      refine ⟨by omega, ?_⟩
      intro n8 e_n8 l_n8 u_n8
      refine ⟨by omega, ?_⟩
      intro n9 e_n9 l_n9 u_n9
      intro n10 e_n10 l_n10 u_n10
      intro n11 e_n11 l_n11 u_n11
      have hs := shl_scaled (s := n7) e_n5 l_n3 u_n3 l_n4 u_n4 (by rw [← hl.2.2]; congr 1; omega) (by omega) (by omega)
      have e10 : n10 = n3 * 2 ^ upN (max n3 n4) := by rw [e_n10, e_n8]; exact hs.1
      have e11 : n11 = n4 * 2 ^ upN (max n3 n4) := by rw [e_n11, e_n9]; exact hs.2.1
      have hs2 := hs.2.2
      rw [← e10, ← e11] at hs2
      refine ⟨trivial, ?_⟩
      intro h_made
      replace h_made : True := h_made
      intro b1
      refine ⟨by omega, ?_⟩
      refine ⟨by omega, ?_⟩
      intro n12 e_n12 l_n12 u_n12
      refine ⟨by omega, ?_⟩
      refine ⟨by omega, ?_⟩
      intro n13 e_n13 l_n13 u_n13
      have hs3 := hs2
      rw [← e_n12, ← e_n13] at hs3
      refine ⟨?_, ?_⟩
      · show (n2 = n2 * 2 ^ ((1 : Int) - 1).toNat + (bk n12 n13 ((1 : Int) - 1).toNat).2.2 ∧ n12 = (bk n12 n13 ((1 : Int) - 1).toNat).1 ∧ n13 = (bk n12 n13 ((1 : Int) - 1).toNat).2.1)
        exact ⟨by show n2 = n2 * 2 ^ 0 + 0; omega, rfl, rfl⟩
      intro n14 l_n14 u_n14
      intro n15 l_n15 u_n15
      intro n16 l_n16 u_n16
      intro n17 l_n17 u_n17
      intro hi_atn
      replace hi_atn : (n15 = n2 * 2 ^ (n14 - 1).toNat + (bk n12 n13 (n14 - 1).toNat).2.2 ∧ n16 = (bk n12 n13 (n14 - 1).toNat).1 ∧ n17 = (bk n12 n13 (n14 - 1).toNat).2.1) := hi_atn
      intro vs lv_vs
      refine ⟨fun c2 => ?_, fun c2 => ?_⟩
      · intro n18 e_n18 l_n18 u_n18
        refine ⟨by omega, ?_⟩
        intro n19 e_n19 l_n19 u_n19
        intro n20 e_n20 l_n20 u_n20
        have hst := at_step l_n14 (by omega) l_n2 u_n2 hi_atn e_n19 e_n20 hs3.1 hs3.2.2.1 hs3.2.2.2.2
        refine ⟨?_, ?_⟩
        · show (nb n16 n17 4611686018427387984 ∧ nb n19 n20 4611686018427387904)
          exact hst.1
        intro n21 l_n21 u_n21
        intro n22 l_n22 u_n22
        intro h_pback
        replace h_pback : (n21 = bkX n16 n17 n19 n20 ∧ n22 = bkY n16 n17 n19 n20) := h_pback
        have hpb := h_pback
        rw [← h_pback.2] at hst
        have r1 := hst.2.2.2.1
        have r2 := hst.2.2.2.2
        have r3 := fun z => hst.2.1 z
        rw [← h_pback.1] at r3
        intro b2
        refine ⟨fun c3 => ?_, fun c3 => ?_⟩
        · intro n23 e_n23 l_n23 u_n23
          intro n24 e_n24 l_n24 u_n24
          refine ⟨by omega, ?_⟩
          intro n25 e_n25 l_n25 u_n25
          refine ⟨by omega, ?_⟩
          intro n26 e_n26 l_n26 u_n26
          refine ⟨by omega, ?_⟩
          refine ⟨by omega, ?_⟩
          intro n27 e_n27 l_n27 u_n27
          refine ⟨by omega, ?_⟩
          refine ⟨by omega, ?_⟩
          intro n28 e_n28 l_n28 u_n28
          refine ⟨?_, ?_⟩
          · show (n26 = n2 * 2 ^ (n25 - 1).toNat + (bk n12 n13 (n25 - 1).toNat).2.2 ∧ n27 = (bk n12 n13 (n25 - 1).toNat).1 ∧ n28 = (bk n12 n13 (n25 - 1).toNat).2.1)
            rw [show (n25 - 1).toNat = n14.toNat by omega]
            have h3 := hst.2.1 (by omega)
            rw [e_n26, e_n27, e_n28, show n23 = 2 * n15 + 1 by omega, h_pback.1]
            exact h3
          · show (41 - n25).toNat < (41 - n14).toNat
            omega
        · intro n23 e_n23 l_n23 u_n23
          refine ⟨by omega, ?_⟩
          intro n24 e_n24 l_n24 u_n24
          refine ⟨by omega, ?_⟩
          intro n25 e_n25 l_n25 u_n25
          refine ⟨?_, ?_⟩
          · show (n25 = n2 * 2 ^ (n24 - 1).toNat + (bk n12 n13 (n24 - 1).toNat).2.2 ∧ n16 = (bk n12 n13 (n24 - 1).toNat).1 ∧ n17 = (bk n12 n13 (n24 - 1).toNat).2.1)
            rw [show (n24 - 1).toNat = n14.toNat by omega]
            have h3 := hst.2.2.1 (by omega)
            rw [show n25 = 2 * n15 by omega]
            exact h3
          · show (41 - n24).toNat < (41 - n14).toNat
            omega
      · refine ⟨trivial, ?_⟩
        intro n18 l_n18 u_n18
        intro n19 l_n19 u_n19
        intro h_wmul
        replace h_wmul : w128 n18 n19 = n15 * (5898240 : Int) := h_wmul
        have h41 : n14 = 41 := by omega
        rw [h41] at hi_atn
        replace hi_atn : n15 = n2 * 2 ^ 40 + (bk n12 n13 40).2.2 ∧ n16 = (bk n12 n13 40).1 ∧ n17 = (bk n12 n13 40).2.1 := hi_atn
        refine ⟨trivial, ?_⟩
        intro n20 l_n20 u_n20
        intro n21 l_n21 u_n21
        intro n22 l_n22 u_n22
        intro h_wnear
        replace h_wnear : (((1099511627776 : Int) < 1 → n20 = 0 ∧ n21 = 0 ∧ n22 = 1) ∧ (1 ≤ (1099511627776 : Int) → n22 = 0 ∧ isNear (w128 n18 n19) (1099511627776 : Int) (w128 n20 n21))) := h_wnear
        have hw := (h_wnear.2 (by omega)).2
        rw [h_wmul] at hw
        have hend := at_end (y := n) (x := n1) h_afirst.1 (by rw [← h_afirst.2.1, ← h_afirst.2.2, e_n12, e10]) (by rw [← h_afirst.2.1, ← h_afirst.2.2, e_n13, e11]) hi_atn.1 hw l_n15 u_n15
        intro b2
        refine ⟨trivial, ?_⟩
        intro n23 l_n23 u_n23
        intro t
        intro h_wint
        replace h_wint : isInt (w128 n20 n21) n23 (b2i t) := h_wint
        have hi2 := (h_wint.1 (by simp only [isI64]; omega)).2
        rw [← hi2] at hend
        intro n24 e_n24 l_n24 u_n24
        rw [wrap_i32, Int.tmod_eq_emod_of_nonneg (by omega)] at e_n24
        refine ⟨by omega, ?_⟩
        refine ⟨by omega, ?_⟩
        intro n25 e_n25 l_n25 u_n25
        show ((n1 = 0 ∧ n = 0 → n25 = 0 ∧ (0 : Int) = 12) ∧ (¬ (n1 = 0 ∧ n = 0) → (0 : Int) = 0 ∧ n25 = atF n n1))
        refine ⟨fun h => by omega, fun _ => ⟨rfl, ?_⟩⟩
        rw [← hend.2.2]
        omega
  · refine ⟨?_, ?_⟩
    · show (¬ (n1 = 0 ∧ n = 0) ∧ -2147483648 ≤ n1 ∧ n1 ≤ 2147483648 ∧ -2147483648 ≤ n ∧ n ≤ 2147483648)
      omega
    intro n2 l_n2 u_n2
    intro n3 l_n3 u_n3
    intro n4 l_n4 u_n4
    intro h_afirst
    replace h_afirst : (n2 = fQ n n1 ∧ n3 = fX n n1 ∧ n4 = fY n n1) := h_afirst
    intro b
    intro n5 e_n5 l_n5 u_n5
    refine ⟨trivial, ?_⟩
    intro n6 l_n6 u_n6
    intro h_log
    replace h_log : ((n5 = 0 → n6 = -1) ∧ (0 < n5 → 0 ≤ n6 ∧ n6 ≤ 63 ∧ 2 ^ n6.toNat ≤ n5 ∧ n5 < 2 * 2 ^ n6.toNat)) := h_log
    have hl := log_up h_log l_n5 u_n5
    intro n7 e_n7 l_n7 u_n7
    simp only [wrap_u64, wrap_i64, wrap_i32, wrap_u32, wrap_u8] at e_n7
    refine ⟨by omega, ?_⟩
    intro n8 e_n8 l_n8 u_n8
    refine ⟨by omega, ?_⟩
    intro n9 e_n9 l_n9 u_n9
    intro n10 e_n10 l_n10 u_n10
    intro n11 e_n11 l_n11 u_n11
    have hs := shl_scaled (s := n7) e_n5 l_n3 u_n3 l_n4 u_n4 (by rw [← hl.2.2]; congr 1; omega) (by omega) (by omega)
    have e10 : n10 = n3 * 2 ^ upN (max n3 n4) := by rw [e_n10, e_n8]; exact hs.1
    have e11 : n11 = n4 * 2 ^ upN (max n3 n4) := by rw [e_n11, e_n9]; exact hs.2.1
    have hs2 := hs.2.2
    rw [← e10, ← e11] at hs2
    refine ⟨trivial, ?_⟩
    intro h_made
    replace h_made : True := h_made
    intro b1
    refine ⟨by omega, ?_⟩
    refine ⟨by omega, ?_⟩
    intro n12 e_n12 l_n12 u_n12
    refine ⟨by omega, ?_⟩
    refine ⟨by omega, ?_⟩
    intro n13 e_n13 l_n13 u_n13
    have hs3 := hs2
    rw [← e_n12, ← e_n13] at hs3
    refine ⟨?_, ?_⟩
    · show (n2 = n2 * 2 ^ ((1 : Int) - 1).toNat + (bk n12 n13 ((1 : Int) - 1).toNat).2.2 ∧ n12 = (bk n12 n13 ((1 : Int) - 1).toNat).1 ∧ n13 = (bk n12 n13 ((1 : Int) - 1).toNat).2.1)
      exact ⟨by show n2 = n2 * 2 ^ 0 + 0; omega, rfl, rfl⟩
    intro n14 l_n14 u_n14
    intro n15 l_n15 u_n15
    intro n16 l_n16 u_n16
    intro n17 l_n17 u_n17
    intro hi_atn
    replace hi_atn : (n15 = n2 * 2 ^ (n14 - 1).toNat + (bk n12 n13 (n14 - 1).toNat).2.2 ∧ n16 = (bk n12 n13 (n14 - 1).toNat).1 ∧ n17 = (bk n12 n13 (n14 - 1).toNat).2.1) := hi_atn
    intro vs lv_vs
    refine ⟨fun c1 => ?_, fun c1 => ?_⟩
    · intro n18 e_n18 l_n18 u_n18
      refine ⟨by omega, ?_⟩
      intro n19 e_n19 l_n19 u_n19
      intro n20 e_n20 l_n20 u_n20
      have hst := at_step l_n14 (by omega) l_n2 u_n2 hi_atn e_n19 e_n20 hs3.1 hs3.2.2.1 hs3.2.2.2.2
      refine ⟨?_, ?_⟩
      · show (nb n16 n17 4611686018427387984 ∧ nb n19 n20 4611686018427387904)
        exact hst.1
      intro n21 l_n21 u_n21
      intro n22 l_n22 u_n22
      intro h_pback
      replace h_pback : (n21 = bkX n16 n17 n19 n20 ∧ n22 = bkY n16 n17 n19 n20) := h_pback
      have hpb := h_pback
      rw [← h_pback.2] at hst
      have r1 := hst.2.2.2.1
      have r2 := hst.2.2.2.2
      have r3 := fun z => hst.2.1 z
      rw [← h_pback.1] at r3
      intro b2
      refine ⟨fun c2 => ?_, fun c2 => ?_⟩
      · intro n23 e_n23 l_n23 u_n23
        intro n24 e_n24 l_n24 u_n24
        refine ⟨by omega, ?_⟩
        intro n25 e_n25 l_n25 u_n25
        refine ⟨by omega, ?_⟩
        intro n26 e_n26 l_n26 u_n26
        refine ⟨by omega, ?_⟩
        refine ⟨by omega, ?_⟩
        intro n27 e_n27 l_n27 u_n27
        refine ⟨by omega, ?_⟩
        refine ⟨by omega, ?_⟩
        intro n28 e_n28 l_n28 u_n28
        refine ⟨?_, ?_⟩
        · show (n26 = n2 * 2 ^ (n25 - 1).toNat + (bk n12 n13 (n25 - 1).toNat).2.2 ∧ n27 = (bk n12 n13 (n25 - 1).toNat).1 ∧ n28 = (bk n12 n13 (n25 - 1).toNat).2.1)
          rw [show (n25 - 1).toNat = n14.toNat by omega]
          have h3 := hst.2.1 (by omega)
          rw [e_n26, e_n27, e_n28, show n23 = 2 * n15 + 1 by omega, h_pback.1]
          exact h3
        · show (41 - n25).toNat < (41 - n14).toNat
          omega
      · intro n23 e_n23 l_n23 u_n23
        refine ⟨by omega, ?_⟩
        intro n24 e_n24 l_n24 u_n24
        refine ⟨by omega, ?_⟩
        intro n25 e_n25 l_n25 u_n25
        refine ⟨?_, ?_⟩
        · show (n25 = n2 * 2 ^ (n24 - 1).toNat + (bk n12 n13 (n24 - 1).toNat).2.2 ∧ n16 = (bk n12 n13 (n24 - 1).toNat).1 ∧ n17 = (bk n12 n13 (n24 - 1).toNat).2.1)
          rw [show (n24 - 1).toNat = n14.toNat by omega]
          have h3 := hst.2.2.1 (by omega)
          rw [show n25 = 2 * n15 by omega]
          exact h3
        · show (41 - n24).toNat < (41 - n14).toNat
          omega
    · refine ⟨trivial, ?_⟩
      intro n18 l_n18 u_n18
      intro n19 l_n19 u_n19
      intro h_wmul
      replace h_wmul : w128 n18 n19 = n15 * (5898240 : Int) := h_wmul
      have h41 : n14 = 41 := by omega
      rw [h41] at hi_atn
      replace hi_atn : n15 = n2 * 2 ^ 40 + (bk n12 n13 40).2.2 ∧ n16 = (bk n12 n13 40).1 ∧ n17 = (bk n12 n13 40).2.1 := hi_atn
      refine ⟨trivial, ?_⟩
      intro n20 l_n20 u_n20
      intro n21 l_n21 u_n21
      intro n22 l_n22 u_n22
      intro h_wnear
      replace h_wnear : (((1099511627776 : Int) < 1 → n20 = 0 ∧ n21 = 0 ∧ n22 = 1) ∧ (1 ≤ (1099511627776 : Int) → n22 = 0 ∧ isNear (w128 n18 n19) (1099511627776 : Int) (w128 n20 n21))) := h_wnear
      have hw := (h_wnear.2 (by omega)).2
      rw [h_wmul] at hw
      have hend := at_end (y := n) (x := n1) h_afirst.1 (by rw [← h_afirst.2.1, ← h_afirst.2.2, e_n12, e10]) (by rw [← h_afirst.2.1, ← h_afirst.2.2, e_n13, e11]) hi_atn.1 hw l_n15 u_n15
      intro b2
      refine ⟨trivial, ?_⟩
      intro n23 l_n23 u_n23
      intro t
      intro h_wint
      replace h_wint : isInt (w128 n20 n21) n23 (b2i t) := h_wint
      have hi2 := (h_wint.1 (by simp only [isI64]; omega)).2
      rw [← hi2] at hend
      intro n24 e_n24 l_n24 u_n24
      rw [wrap_i32, Int.tmod_eq_emod_of_nonneg (by omega)] at e_n24
      refine ⟨by omega, ?_⟩
      refine ⟨by omega, ?_⟩
      intro n25 e_n25 l_n25 u_n25
      show ((n1 = 0 ∧ n = 0 → n25 = 0 ∧ (0 : Int) = 12) ∧ (¬ (n1 = 0 ∧ n = 0) → (0 : Int) = 0 ∧ n25 = atF n n1))
      refine ⟨fun h => by omega, fun _ => ⟨rfl, ?_⟩⟩
      rw [← hend.2.2]
      omega

theorem p_leads : P_leads := by
  unfold P_leads
  intro n l_n u_n
  intro n1 l_n1 u_n1
  intro n2 l_n2 u_n2
  intro hpre
  replace hpre : ¬ (n1 = 0 ∧ n = 0) := hpre
  refine ⟨trivial, ?_⟩
  intro n3 l_n3 u_n3
  intro n4 l_n4 u_n4
  intro h_atan
  replace h_atan : ((n1 = 0 ∧ n = 0 → n3 = 0 ∧ n4 = 12) ∧ (¬ (n1 = 0 ∧ n = 0) → n4 = 0 ∧ n3 = atF n n1)) := h_atan
  refine ⟨fun c0 => ?_, fun c0 => ?_⟩
  · show ((b2i (n4 == 0)) = 1 ↔ atF n n1 = n2)
    have h0 := (h_atan.2 hpre)
    simp only [b2i, beq_iff_eq, Bool.false_eq_true, if_false]
    first | omega | (rw [h0.1]; simp; omega)
  · show ((b2i false) = 1 ↔ atF n n1 = n2)
    have h0 := (h_atan.2 hpre)
    simp only [b2i, beq_iff_eq, Bool.false_eq_true, if_false]
    first | omega | (rw [h0.1]; simp; omega)

end Go.Proofs.Ytihfbliipjobdaa.Sx
