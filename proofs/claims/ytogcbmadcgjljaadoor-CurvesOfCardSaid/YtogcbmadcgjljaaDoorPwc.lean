/-
  Plain laws of powers: 2 to the power of a number.
-/
import Derived.Test.YtogcbmadcgjljaaDoorPwb
import Derived.Test.YtogcbmadcgjljaaDoorPm
set_option linter.all false
set_option maxRecDepth 100000
namespace Go.Proofs.YtogcbmadcgjljaaDoor.Sx
open Go Go.RowKit

theorem p_ptimes : P_ptimes := by
  unfold P_ptimes
  intro n l_n u_n
  intro n1 l_n1 u_n1
  intro hpre
  replace hpre : n * n1 < 85070591730234615865843651857942052864 := hpre
  refine ⟨trivial, ?_⟩
  intro n2 l_n2 u_n2
  intro n3 l_n3 u_n3
  intro h_mul64
  replace h_mul64 : n2 * 18446744073709551616 + n3 = n * n1 := h_mul64
  have hp := hpre
  have nn := Int.mul_nonneg l_n l_n1
  have n2b : n2 < 4611686018427387904 := by omega
  intro n4 e_n4 l_n4 u_n4
  rw [wrap_u64, show n2 * 4 % 18446744073709551616 = n2 * 2 ^ 2 by omega, or_add (c := n2) (i := 2) (y := n3 / 4611686018427387904) (by omega) (by omega) (by omega) (by omega) (by omega)] at e_n4
  show n4 = n * n1 / 4611686018427387904
  rw [e_n4, ← h_mul64]
  omega

theorem and1_i64 (x : Int) : bitsI .and .i64 x 1 = x % 2 := by
  have h : (BitVec.ofInt 64 x &&& 1#64) = BitVec.ofNat 64 (x % 2).toNat := by
    apply BitVec.eq_of_toNat_eq
    rw [BitVec.toNat_and]
    have : (1#64 : BitVec 64).toNat = 2 ^ 1 - 1 := rfl
    rw [this, Nat.and_two_pow_sub_one_eq_mod, BitVec.toNat_ofInt, BitVec.toNat_ofNat]
    omega
  have e : bitsI .and .i64 x 1 = IntKind.wrap .i64 (((BitVec.ofInt 64 x &&& 1#64).toNat : Nat) : Int) := rfl
  rw [e, h, wrap_i64, BitVec.toNat_ofNat]
  omega
theorem shr_k {k : IntKind} {l i : Int} (hk : k.bits = 64) (h0 : 0 ≤ i) (h1 : i ≤ 64) : shI .shr k l i = l / 2 ^ i.toNat := by
  simp only [shI, hk]
  rw [show Min.min i.toNat 64 = i.toNat by omega]
  exact Int.fdiv_eq_ediv_of_nonneg _ (Int.le_of_lt (Int.pow_pos (by decide)))
theorem qn_next {n : Nat} {f : Int} (hn : n < 32) : qn (n + 1) (f / 2 ^ (32 - (n + 1))) = if (f / 2 ^ (32 - (n + 1))) % 2 = 1 then qn n (f / 2 ^ (32 - n)) * tt (n + 1) / 4611686018427387904 else qn n (f / 2 ^ (32 - n)) := by
  have e : f / 2 ^ (32 - (n + 1)) / 2 = f / 2 ^ (32 - n) := by
    rw [Int.ediv_ediv_of_nonneg (Int.le_of_lt (Int.pow_pos (by decide))), show 32 - n = (32 - (n + 1)) + 1 by omega, Int.pow_succ]
  rw [← e]
  rfl
theorem qn_high : ∀ (n : Nat), n ≤ 32 → ∀ k : Int, 0 ≤ k → k < 2 ^ n → qn n k ≤ 9223372036854775808 := by
  intro n hn k h0 h1
  have := qx_top (n := n) hn h0 (Int.le_of_lt h1)
  rw [qx_lt h0 h1] at this
  omega
theorem bit_low {e : Int} {j : Nat} (hj : j < 32) : e / 2 ^ j % 2 = e % 4294967296 / 2 ^ j % 2 := by
  obtain ⟨i, hi⟩ : ∃ i : Nat, 32 = j + 1 + i := ⟨31 - j, by omega⟩
  have hp : (0 : Int) < 2 ^ j := Int.pow_pos (by decide)
  have hq : (0 : Int) < 2 ^ i := Int.pow_pos (by decide)
  have e32 : (4294967296 : Int) = 2 ^ j * (2 * 2 ^ i) := by
    have : (2 : Int) ^ (j + 1 + i) = 2 ^ j * 2 * 2 ^ i := by rw [Int.pow_add, Int.pow_succ]
    rw [← hi] at this
    have e' : (2 : Int) ^ 32 = 4294967296 := rfl
    rw [e'] at this
    rw [this]; grind
  have h := Int.mul_ediv_add_emod e 4294967296
  generalize e / 4294967296 = q at *
  generalize hr : e % 4294967296 = r at *
  have : e = r + 2 ^ j * (2 * (2 ^ i * q)) := by rw [← h]; rw [e32]; grind
  rw [this, Int.add_mul_ediv_left _ _ (by omega)]
  omega
/-- one bit more of a power. -/
theorem pw_step {e i p t : Int} (h1 : 1 ≤ i) (h2 : i < 33) (hp : p = qn (i - 1).toNat (e % 4294967296 / 2 ^ (33 - i).toNat)) (ht : t = tP.getD i.toNat 0) :
    (p * t < 85070591730234615865843651857942052864) ∧ (bitsI .and .i64 (shI .shr .i64 e (32 - i)) 1 = 1 → p * t / 4611686018427387904 = qn i.toNat (e % 4294967296 / 2 ^ (32 - i).toNat)) ∧ (¬ bitsI .and .i64 (shI .shr .i64 e (32 - i)) 1 = 1 → p = qn i.toNat (e % 4294967296 / 2 ^ (32 - i).toNat)) ∧ 4611686018427387904 ≤ qn i.toNat (e % 4294967296 / 2 ^ (32 - i).toNat) ∧ qn i.toNat (e % 4294967296 / 2 ^ (32 - i).toNat) ≤ 9223372036854775808 := by
  rw [and1_i64, shr_k rfl (by omega) (by omega)]
  obtain ⟨n, hn⟩ : ∃ n : Nat, i = n + 1 := ⟨(i - 1).toNat, by omega⟩
  have e1 : (i - 1).toNat = n := by omega
  have e2 : i.toNat = n + 1 := by omega
  have e3 : (33 - i).toNat = 32 - n := by omega
  have e4 : (32 - i).toNat = 32 - (n + 1) := by omega
  rw [e1, e3] at hp
  rw [e2] at ht ⊢
  rw [e4]
  have key := qn_next (n := n) (f := e % 4294967296) (by omega)
  have tab : ∀ k : Fin 33, 1 ≤ k.val → tP.getD k.val 0 = tt k.val := by decide +kernel
  have htt : t = tt (n + 1) := by rw [ht]; exact tab ⟨n + 1, by omega⟩ (by simp)
  have hf : 0 ≤ e % 4294967296 ∧ e % 4294967296 < 4294967296 := by omega
  have small : ∀ k : Nat, k ≤ 32 → 0 ≤ e % 4294967296 / 2 ^ (32 - k) ∧ e % 4294967296 / 2 ^ (32 - k) < 2 ^ k := by
    intro k hk
    have hp := two_pos (32 - k)
    have e' : (2 : Int) ^ k * 2 ^ (32 - k) = 4294967296 := by rw [← Int.pow_add, Nat.add_sub_cancel' hk]; rfl
    exact ⟨Int.ediv_nonneg hf.1 (Int.le_of_lt hp), Int.ediv_lt_of_lt_mul hp (by rw [e']; exact hf.2)⟩
  have s1 := small n (by omega)
  have s2 := small (n + 1) (by omega)
  have l1 := qn_low n (by omega) (e % 4294967296 / 2 ^ (32 - n))
  have u1 := qn_high n (by omega) _ s1.1 s1.2
  have tb := tt_in ⟨n + 1, by omega⟩
  simp only at tb
  have tb2 := tb.2.2 (by omega)
  refine ⟨?_, fun z => ?_, fun z => ?_, qn_low (n + 1) (by omega) _, qn_high (n + 1) (by omega) _ s2.1 s2.2⟩
  · rw [hp, htt]
    have := Int.mul_le_mul u1 tb2 (by omega) (by omega)
    omega
  · rw [bit_low (by omega)] at z
    rw [key, if_pos z, hp, htt]
  · rw [bit_low (by omega)] at z
    rw [key, if_neg z, hp]
theorem pw_end {e w d p : Int} (hw : w = e / 4294967296) (h1 : ¬ 15 ≤ w) (h2 : ¬ 63 < 46 - w) (hd : d = 46 - w - 1) (hp : p = qn 32 (e % 4294967296)) (hp0 : 0 ≤ p) (hp1 : p ≤ 9223372036854775808) : min ((shI .shr .u64 p d + 1) % 18446744073709551616 / 2) 2147483648 = powF e := by
  rw [shr_k rfl (by omega) (by omega)]
  unfold powF
  rw [← hw, if_neg h1, if_neg (by omega), hd, hp, show (46 - w - 1).toNat = (45 - w).toNat by omega]
  rw [hp] at hp0 hp1
  have h := two_pos (45 - w).toNat
  have a := Int.ediv_nonneg hp0 (Int.le_of_lt h)
  have b := Int.ediv_le_self (2 ^ (45 - w).toNat) hp0
  generalize qn 32 (e % 4294967296) / 2 ^ (45 - w).toNat = z at *
  omega

set_option maxHeartbeats 2000000 in
theorem p_power : P_power := by
  unfold P_power
  intro n l_n u_n
  intro hpre
  replace hpre : True := hpre
  intro n1 e_n1 l_n1 u_n1
  refine ⟨fun c0 => ?_, fun c0 => ?_⟩
  · show (2147483648 : Int) = powF n
    unfold powF; rw [if_pos (by omega)]
  · intro n2 e_n2 l_n2 u_n2
    refine ⟨fun c1 => ?_, fun c1 => ?_⟩
    · show (0 : Int) = powF n
      unfold powF; rw [if_neg (by omega), if_pos (by omega)]
    · refine ⟨trivial, ?_⟩
      intro h_pmade
      replace h_pmade : True := h_pmade
      intro b
      refine ⟨?_, ?_⟩
      · show (4611686018427387904 : Int) = qn ((0 : Int) - 1).toNat (n % 4294967296 / 2 ^ (33 - (0 : Int)).toNat)
        show (4611686018427387904 : Int) = qn 0 _
        rfl
      intro n3 l_n3 u_n3
      intro n4 l_n4 u_n4
      intro hi_pw
      replace hi_pw : n4 = qn (n3 - 1).toNat (n % 4294967296 / 2 ^ (33 - n3).toNat) := hi_pw
      intro vs lv_vs
      refine ⟨fun c2 => ?_, fun c2 => ?_⟩
      · refine ⟨fun c3 => ?_, fun c3 => ?_⟩
        · refine ⟨by omega, ?_⟩
          intro n5 e_n5 l_n5 u_n5
          refine ⟨?_, ?_⟩
          · show n4 = qn (n5 - 1).toNat (n % 4294967296 / 2 ^ (33 - n5).toNat)
            first
              | (have h0 : n3 = 0 := by assumption
                 rw [h0] at hi_pw
                 rw [show (n5 - 1).toNat = 0 by omega]
                 replace hi_pw : n4 = 4611686018427387904 := hi_pw
                 rw [hi_pw]; rfl)
              | (have ps := pw_step (t := tP.getD n3.toNat 0) (show 1 ≤ n3 by omega) (by omega) hi_pw rfl
                 rw [← e_n5] at ps
                 rw [show (n5 - 1).toNat = n3.toNat by omega, show (33 - n5).toNat = n5.toNat by omega]
                 exact ps.2.2.1 (by assumption))
          · show (33 - n5).toNat < (33 - n3).toNat
            omega
        · refine ⟨fun c4 => ?_, fun c4 => ?_⟩
          · simp only [wrap_u64, wrap_i64, wrap_i32, wrap_u32, wrap_u8] at c4
            refine ⟨by omega, ?_⟩
            intro n5 e_n5 l_n5 u_n5
            intro n6 e_n6 l_n6 u_n6
            simp only [wrap_u64, wrap_i64, wrap_i32, wrap_u32, wrap_u8] at e_n6
            show n6 = powF n
            have hq : n4 = qn 32 (n % 4294967296) := by
              first
                | (have h33 : n3 = 33 := by omega
                   rw [h33] at hi_pw
                   replace hi_pw : n4 = qn 32 (n % 4294967296 / 2 ^ 0) := hi_pw
                   rw [show n % 4294967296 / 2 ^ 0 = n % 4294967296 by simp] at hi_pw
                   exact hi_pw)
                | (have hz : n % 4294967296 = 0 := by omega
                   rw [hz, Int.zero_ediv, qn_zero] at hi_pw
                   rw [hz, qn_zero]; exact hi_pw)
            have pe := pw_end (p := n4) (d := n5) e_n1 (by assumption) (by omega) (by omega) hq (by omega) u_n4
            rw [e_n6]; exact pe
          · simp only [wrap_u64, wrap_i64, wrap_i32, wrap_u32, wrap_u8] at c4
            refine ⟨by omega, ?_⟩
            intro n5 e_n5 l_n5 u_n5
            refine ⟨fun c5 => ?_, fun c5 => ?_⟩
            · refine ⟨by omega, ?_⟩
              intro n6 e_n6 l_n6 u_n6
              refine ⟨?_, ?_⟩
              · show n4 * n6 < 85070591730234615865843651857942052864
                exact (pw_step (show 1 ≤ n3 by omega) (by omega) hi_pw e_n6).1
              intro n7 l_n7 u_n7
              intro h_ptimes
              replace h_ptimes : n7 = n4 * n6 / 4611686018427387904 := h_ptimes
              have ps := pw_step (show 1 ≤ n3 by omega) (by omega) hi_pw e_n6
              rw [← e_n5] at ps
              have ps2 := ps.2.1 (by assumption)
              rw [← h_ptimes] at ps2
              have ps3 := ps.2.2.2
              rw [← ps2] at ps3
              refine ⟨by omega, ?_⟩
              intro n8 e_n8 l_n8 u_n8
              refine ⟨by omega, ?_⟩
              refine ⟨by omega, ?_⟩
              intro n9 e_n9 l_n9 u_n9
              refine ⟨?_, ?_⟩
              · show n9 = qn (n8 - 1).toNat (n % 4294967296 / 2 ^ (33 - n8).toNat)
                rw [e_n9, show (n8 - 1).toNat = n3.toNat by omega, show (33 - n8).toNat = n5.toNat by omega]
                exact ps2
              · show (33 - n8).toNat < (33 - n3).toNat
                omega
            · refine ⟨by omega, ?_⟩
              intro n6 e_n6 l_n6 u_n6
              refine ⟨?_, ?_⟩
              · show n4 = qn (n6 - 1).toNat (n % 4294967296 / 2 ^ (33 - n6).toNat)
                first
                  | (have h0 : n3 = 0 := by assumption
                     rw [h0] at hi_pw
                     rw [show (n6 - 1).toNat = 0 by omega]
                     replace hi_pw : n4 = 4611686018427387904 := hi_pw
                     rw [hi_pw]; rfl)
                  | (have ps := pw_step (t := tP.getD n3.toNat 0) (show 1 ≤ n3 by omega) (by omega) hi_pw rfl
                     rw [← e_n5] at ps
                     rw [show (n6 - 1).toNat = n3.toNat by omega, show (33 - n6).toNat = n5.toNat by omega]
                     exact ps.2.2.1 (by assumption))
              · show (33 - n6).toNat < (33 - n3).toNat
                omega
      · refine ⟨by omega, ?_⟩
        intro n5 e_n5 l_n5 u_n5
        intro n6 e_n6 l_n6 u_n6
        simp only [wrap_u64, wrap_i64, wrap_i32, wrap_u32, wrap_u8] at e_n6
        show n6 = powF n
        have hq : n4 = qn 32 (n % 4294967296) := by
          first
            | (have h33 : n3 = 33 := by omega
               rw [h33] at hi_pw
               replace hi_pw : n4 = qn 32 (n % 4294967296 / 2 ^ 0) := hi_pw
               rw [show n % 4294967296 / 2 ^ 0 = n % 4294967296 by simp] at hi_pw
               exact hi_pw)
            | (have hz : n % 4294967296 = 0 := by omega
               rw [hz, Int.zero_ediv, qn_zero] at hi_pw
               rw [hz, qn_zero]; exact hi_pw)
        have pe := pw_end (p := n4) (d := n5) e_n1 (by assumption) (by omega) (by omega) hq (by omega) u_n4
        rw [e_n6]; exact pe

end Go.Proofs.YtogcbmadcgjljaaDoor.Sx
