/-
  Plain laws of angles: turns.
-/
import Derived.Test.YtihfbliipjobdaaAb
import Derived.Test.YtihfbliipjobdaaAm
set_option linter.all false
set_option maxRecDepth 100000
namespace Go.Proofs.Ytihfbliipjobdaa.Sx
open Go Go.RowKit

theorem p_crossed : P_crossed := by
  unfold P_crossed
  intro n l_n u_n
  intro n1 l_n1 u_n1
  intro n2 l_n2 u_n2
  intro n3 l_n3 u_n3
  intro hpre
  replace hpre : (isI64 ((n * n1 + n2 * n3) / 4611686018427387904) ∧ -half128 ≤ n * n1 + n2 * n3 ∧ n * n1 + n2 * n3 < half128) := hpre
  refine ⟨trivial, ?_⟩
  intro n4 l_n4 u_n4
  intro n5 l_n5 u_n5
  intro h_wmul
  replace h_wmul : w128 n4 n5 = n * n1 := h_wmul
  refine ⟨trivial, ?_⟩
  intro n6 l_n6 u_n6
  intro n7 l_n7 u_n7
  intro h_wmul1
  replace h_wmul1 : w128 n6 n7 = n2 * n3 := h_wmul1
  refine ⟨trivial, ?_⟩
  intro n8 l_n8 u_n8
  intro n9 l_n9 u_n9
  intro n10 l_n10 u_n10
  intro h_wadd
  replace h_wadd : tellW (w128 n4 n5 + w128 n6 n7) n8 n9 n10 := h_wadd
  rw [h_wmul, h_wmul1] at h_wadd
  have k1 := (h_wadd.1 ⟨hpre.2.1, hpre.2.2⟩).2
  intro b
  refine ⟨trivial, ?_⟩
  intro n11 l_n11 u_n11
  intro n12 l_n12 u_n12
  intro n13 l_n13 u_n13
  intro n14 l_n14 u_n14
  intro h_wfloor
  replace h_wfloor : (((4611686018427387904 : Int) < 1 → n11 = 0 ∧ n12 = 0 ∧ n13 = 0 ∧ n14 = 1) ∧ (1 ≤ (4611686018427387904 : Int) → n14 = 0 ∧ isFloor (w128 n8 n9) (4611686018427387904 : Int) (w128 n11 n12) n13)) := h_wfloor
  have k2 := (h_wfloor.2 (by omega)).2
  rw [k1] at k2
  intro b1
  refine ⟨trivial, ?_⟩
  intro n15 l_n15 u_n15
  intro t
  intro h_wint
  replace h_wint : isInt (w128 n11 n12) n15 (b2i t) := h_wint
  have k3 : w128 n11 n12 = (n * n1 + n2 * n3) / 4611686018427387904 := by
    obtain ⟨f1, f2, f3⟩ := k2
    omega
  rw [k3] at h_wint
  show n15 = (n * n1 + n2 * n3) / 4611686018427387904
  exact (h_wint.1 hpre.1).2

theorem cross_in {x y c s : Int} (h : nb x y 4611686018427387984) (k : nb c s 4611686018427387904) :
    (-21267647932558654341370000000000000000 ≤ x * c - y * s ∧ x * c - y * s ≤ 21267647932558654341370000000000000000) ∧ (-21267647932558654341370000000000000000 ≤ x * s + y * c ∧ x * s + y * c ≤ 21267647932558654341370000000000000000) := by
  have := nb_mul h k
  have a := nb_x this
  have b := nb_y this
  omega
theorem fit_in {v : Int} (h : -21267647932558654341370000000000000000 ≤ v) (h' : v ≤ 21267647932558654341370000000000000000) : isI64 (v / 4611686018427387904) ∧ -half128 ≤ v ∧ v < half128 := by
  simp only [isI64, half128]; omega

theorem p_pon : P_pon := by
  unfold P_pon
  intro n l_n u_n
  intro n1 l_n1 u_n1
  intro n2 l_n2 u_n2
  intro n3 l_n3 u_n3
  intro hpre
  replace hpre : (nb n n1 4611686018427387984 ∧ nb n2 n3 4611686018427387904) := hpre
  intro b
  intro b1
  intro b2
  intro n4 e_n4 l_n4 u_n4
  simp only [wrap_u64, wrap_i64, wrap_i32, wrap_u32] at e_n4
  refine ⟨?_, ?_⟩
  · show (isI64 ((n * n2 + n4 * n3) / 4611686018427387904) ∧ -half128 ≤ n * n2 + n4 * n3 ∧ n * n2 + n4 * n3 < half128)
    have hn1 := nb_y hpre.1
    have hc := cross_in hpre.1 hpre.2
    have e0 : n4 = -n1 := by omega
    have e : n * n2 + n4 * n3 = n * n2 - n1 * n3 := by rw [e0]; grind
    rw [e]
    exact fit_in hc.1.1 hc.1.2
  intro n5 l_n5 u_n5
  intro h_crossed
  replace h_crossed : n5 = (n * n2 + n4 * n3) / 4611686018427387904 := h_crossed
  refine ⟨?_, ?_⟩
  · show (isI64 ((n1 * n2 + n * n3) / 4611686018427387904) ∧ -half128 ≤ n1 * n2 + n * n3 ∧ n1 * n2 + n * n3 < half128)
    have hc := cross_in hpre.1 hpre.2
    have e : n1 * n2 + n * n3 = n * n3 + n1 * n2 := by omega
    rw [e]
    exact fit_in hc.2.1 hc.2.2
  intro n6 l_n6 u_n6
  intro h_crossed1
  replace h_crossed1 : n6 = (n1 * n2 + n * n3) / 4611686018427387904 := h_crossed1
  show (n5 = onX n n1 n2 n3 ∧ n6 = onY n n1 n2 n3)
  have hn1 := nb_y hpre.1
  have e0 : n4 = -n1 := by omega
  rw [e0] at h_crossed
  exact ⟨h_crossed, h_crossed1⟩

theorem p_pback : P_pback := by
  unfold P_pback
  intro n l_n u_n
  intro n1 l_n1 u_n1
  intro n2 l_n2 u_n2
  intro n3 l_n3 u_n3
  intro hpre
  replace hpre : (nb n n1 4611686018427387984 ∧ nb n2 n3 4611686018427387904) := hpre
  intro b
  intro b1
  intro b2
  refine ⟨?_, ?_⟩
  · show (isI64 ((n * n2 + n1 * n3) / 4611686018427387904) ∧ -half128 ≤ n * n2 + n1 * n3 ∧ n * n2 + n1 * n3 < half128)
    have hc := cross_in hpre.1 (nb_conj hpre.2)
    have e : n * n2 + n1 * n3 = n * n2 - n1 * -n3 := by grind
    rw [e]
    exact fit_in hc.1.1 hc.1.2
  intro n4 l_n4 u_n4
  intro h_crossed
  replace h_crossed : n4 = (n * n2 + n1 * n3) / 4611686018427387904 := h_crossed
  intro n5 e_n5 l_n5 u_n5
  simp only [wrap_u64, wrap_i64, wrap_i32, wrap_u32] at e_n5
  refine ⟨?_, ?_⟩
  · show (isI64 ((n1 * n2 + n5 * n3) / 4611686018427387904) ∧ -half128 ≤ n1 * n2 + n5 * n3 ∧ n1 * n2 + n5 * n3 < half128)
    have hn := nb_x hpre.1
    have hc := cross_in hpre.1 (nb_conj hpre.2)
    have e0 : n5 = -n := by omega
    have e : n1 * n2 + (-n) * n3 = n * -n3 + n1 * n2 := by grind
    rw [e0, e]
    exact fit_in hc.2.1 hc.2.2
  intro n6 l_n6 u_n6
  intro h_crossed1
  replace h_crossed1 : n6 = (n1 * n2 + n5 * n3) / 4611686018427387904 := h_crossed1
  show (n4 = bkX n n1 n2 n3 ∧ n6 = bkY n n1 n2 n3)
  have hn := nb_x hpre.1
  refine ⟨h_crossed, ?_⟩
  rw [h_crossed1]
  unfold bkY
  congr 3
  omega

theorem tmod_ok (n : Int) : n.tdiv 5898240 * 5898240 + n.tmod 5898240 = n ∧ (0 ≤ n → 0 ≤ n.tmod 5898240) ∧ (n ≤ 0 → n.tmod 5898240 ≤ 0) ∧ -5898240 < n.tmod 5898240 ∧ n.tmod 5898240 < 5898240 := by
  have h := Int.mul_tdiv_add_tmod n 5898240
  rcases Int.le_total 0 n with z | z
  · rw [Int.tdiv_eq_ediv_of_nonneg z, Int.tmod_eq_emod_of_nonneg z] at *
    omega
  · obtain ⟨m, rfl⟩ : ∃ m, n = -m := ⟨-n, by omega⟩
    rw [Int.neg_tdiv, Int.neg_tmod, Int.tdiv_eq_ediv_of_nonneg (show 0 ≤ m by omega), Int.tmod_eq_emod_of_nonneg (show 0 ≤ m by omega)] at *
    omega
theorem and3 (x : Int) : bitsI .and .i64 x 3 = x % 4 := by
  have h : (BitVec.ofInt 64 x &&& 3#64) = BitVec.ofNat 64 (x % 4).toNat := by
    have e3 : (3#64 : BitVec 64) = BitVec.ofInt 64 3 := rfl
    apply BitVec.eq_of_toNat_eq
    rw [BitVec.toNat_and]
    have : (3#64 : BitVec 64).toNat = 2 ^ 2 - 1 := rfl
    rw [this, Nat.and_two_pow_sub_one_eq_mod, BitVec.toNat_ofInt, BitVec.toNat_ofNat]
    omega
  have e : bitsI .and .i64 x 3 = IntKind.wrap .i64 (((BitVec.ofInt 64 x &&& 3#64).toNat : Nat) : Int) := rfl
  rw [e, h, wrap_i64, BitVec.toNat_ofNat]
  omega

theorem p_quarters : P_quarters := by
  unfold P_quarters
  intro n l_n u_n
  intro hpre
  replace hpre : True := hpre
  obtain ⟨t1, t2, t3, t4, t5⟩ := tmod_ok n
  intro n1 e_n1 l_n1 u_n1
  refine ⟨fun c0 => ?_, fun c0 => ?_⟩
  · intro n2 e_n2 l_n2 u_n2
    intro n3 e_n3 l_n3 u_n3
    
    have hq := and3 n2
    rw [hq] at e_n3
    intro n4 e_n4 l_n4 u_n4
    simp only [wrap_u64, wrap_i64, wrap_i32, wrap_u32] at e_n4
    refine ⟨by omega, ?_⟩
    refine ⟨by omega, ?_⟩
    intro n5 e_n5 l_n5 u_n5
    refine ⟨by omega, ?_⟩
    intro n6 e_n6 l_n6 u_n6
    show (n5 = n / 5898240 % 4 ∧ n6 = n % 5898240 * 1099511627776 / 5898240)
    have hk : n2 = n / 5898240 := by omega
    have hr : n - n2 * 5898240 = n % 5898240 := by omega
    rw [hr] at e_n4
    rw [hk] at e_n3
    have h0 : 0 ≤ n % 5898240 ∧ n % 5898240 < 5898240 := by omega
    clear hr t1 t2 t3 t4 t5 c0
    generalize n % 5898240 = r at *
    generalize n / 5898240 = k at *
    have m1 : r % 18446744073709551616 = r := by omega
    have m2 : r * 1099511627776 % 18446744073709551616 = r * 1099511627776 := by omega
    rw [m1, m2] at e_n4
    clear m1 m2
    constructor <;> omega
  · intro n2 e_n2 l_n2 u_n2
    
    have hq := and3 n1
    rw [hq] at e_n2
    intro n3 e_n3 l_n3 u_n3
    simp only [wrap_u64, wrap_i64, wrap_i32, wrap_u32] at e_n3
    refine ⟨by omega, ?_⟩
    refine ⟨by omega, ?_⟩
    intro n4 e_n4 l_n4 u_n4
    refine ⟨by omega, ?_⟩
    intro n5 e_n5 l_n5 u_n5
    show (n4 = n / 5898240 % 4 ∧ n5 = n % 5898240 * 1099511627776 / 5898240)
    have hk : n1 = n / 5898240 := by omega
    have hr : n - n1 * 5898240 = n % 5898240 := by omega
    rw [hr] at e_n3
    rw [hk] at e_n2
    have h0 : 0 ≤ n % 5898240 ∧ n % 5898240 < 5898240 := by omega
    clear hr t1 t2 t3 t4 t5 c0
    generalize n % 5898240 = r at *
    generalize n / 5898240 = k at *
    have m1 : r % 18446744073709551616 = r := by omega
    have m2 : r * 1099511627776 % 18446744073709551616 = r * 1099511627776 := by omega
    rw [m1, m2] at e_n3
    clear m1 m2
    constructor <;> omega

theorem p_anear : P_anear := by
  unfold P_anear
  intro n l_n u_n
  intro hpre
  replace hpre : True := hpre
  intro n1 e_n1 l_n1 u_n1
  show n1 = nearS n
  exact e_n1

end Go.Proofs.Ytihfbliipjobdaa.Sx
