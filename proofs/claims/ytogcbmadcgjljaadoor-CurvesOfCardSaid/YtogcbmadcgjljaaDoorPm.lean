/-
  Plain laws of powers: sums of exponents; logs and back.
-/
import Derived.Test.YtogcbmadcgjljaaDoorRxh
set_option linter.all false
set_option maxRecDepth 100000
namespace Go.Proofs.YtogcbmadcgjljaaDoor.Sx
open Go Go.RowKit

theorem tt_sq : ∀ i : Fin 32, tt (i + 1) * tt (i + 1) ≤ 4611686018427387904 * tt i ∧ 4611686018427387904 * tt i ≤ tt (i + 1) * tt (i + 1) + 3 * 4611686018427387904 := by decide +kernel
theorem tt_in : ∀ i : Fin 33, 4611686018427387904 + 744261110 ≤ tt i ∧ tt i ≤ 9223372036854775808 ∧ (1 ≤ i.val → tt i ≤ 6521908912666391106) := by decide +kernel
theorem tt0 : tt 0 = 9223372036854775808 := rfl
/-- all the way up: doubled behind the end. -/
def qx (n : Nat) (J : Int) : Int := 2 ^ (J / 2 ^ n).toNat * qn n (J % 2 ^ n)
theorem two_pos (n : Nat) : (0 : Int) < 2 ^ n := Int.pow_pos (by decide)
theorem qn_zero : ∀ n, qn n 0 = 4611686018427387904
  | 0 => rfl
  | n + 1 => by
    show (if (0 : Int) % 2 = 1 then _ else qn n (0 / 2)) = _
    rw [if_neg (by omega)]; exact qn_zero n
theorem qn_low : ∀ (n : Nat), n ≤ 32 → ∀ k, 4611686018427387904 ≤ qn n k
  | 0, _, k => Int.le_refl _
  | n + 1, hn, k => by
    have ih := qn_low n (by omega) (k / 2)
    have e : qn (n + 1) k = if k % 2 = 1 then qn n (k / 2) * tt (n + 1) / 4611686018427387904 else qn n (k / 2) := rfl
    rw [e]
    split
    · have t := (tt_in ⟨n + 1, by omega⟩).1
      simp only at t
      have := Int.mul_le_mul ih (show 4611686018427387904 ≤ tt (n + 1) by omega) (by omega) (by omega)
      rw [Int.le_ediv_iff_mul_le (by omega)]
      omega
    · exact ih
theorem half_ix (n : Nat) (J : Int) : J / 2 ^ (n + 1) = (J / 2) / 2 ^ n ∧ (J % 2 ^ (n + 1)) / 2 = (J / 2) % 2 ^ n ∧ (J % 2 ^ (n + 1)) % 2 = J % 2 := by
  have hp : (0 : Int) < 2 ^ n := Int.pow_pos (by decide)
  rw [Int.pow_succ]
  generalize (2 : Int) ^ n = P at *
  have h1 := Int.mul_ediv_add_emod J (P * 2)
  have h2 := Int.emod_nonneg J (show P * 2 ≠ 0 by omega)
  have h3 := Int.emod_lt_of_pos J (show 0 < P * 2 by omega)
  generalize J / (P * 2) = q at *
  generalize J % (P * 2) = r at *
  have e : P * 2 * q = 2 * (P * q) := by grind
  have h4 : J / 2 = P * q + r / 2 := by omega
  have h5 : J % 2 = r % 2 := by omega
  have h6 : (J / 2) / P = q ∧ (J / 2) % P = r / 2 := (Int.ediv_emod_unique hp).2 ⟨by omega, by omega, by omega⟩
  exact ⟨h6.1.symm, h6.2.symm, h5.symm⟩
theorem qx_even {n : Nat} {J : Int} (h : J % 2 = 0) : qx (n + 1) J = qx n (J / 2) := by
  obtain ⟨h1, h2, h3⟩ := half_ix n J
  unfold qx
  rw [h1]
  congr 1
  show (if (J % 2 ^ (n + 1)) % 2 = 1 then _ else _) = _
  rw [if_neg (by omega), h2]
theorem qx_odd {n : Nat} (hn : n ≤ 32) {J : Int} (h : J % 2 = 1) : ∃ r : Int, 0 ≤ r ∧ r ≤ qx n (J / 2) ∧ 4611686018427387904 * qx (n + 1) J = qx n (J / 2) * tt (n + 1) - r := by
  obtain ⟨h1, h2, h3⟩ := half_ix n J
  unfold qx
  rw [h1]
  have e : qn (n + 1) (J % 2 ^ (n + 1)) = qn n ((J / 2) % 2 ^ n) * tt (n + 1) / 4611686018427387904 := by
    show (if (J % 2 ^ (n + 1)) % 2 = 1 then _ else _) = _
    rw [if_pos (by omega), h2]
  rw [e]
  have hc := two_pos (J / 2 / 2 ^ n).toNat
  generalize (2 : Int) ^ (J / 2 / 2 ^ n).toNat = c at *
  have hl := qn_low n hn ((J / 2) % 2 ^ n)
  generalize qn n ((J / 2) % 2 ^ n) = p at *
  have d1 := Int.mul_ediv_add_emod (p * tt (n + 1)) 4611686018427387904
  have d2 := Int.emod_nonneg (p * tt (n + 1)) (show (4611686018427387904 : Int) ≠ 0 by omega)
  have d3 := Int.emod_lt_of_pos (p * tt (n + 1)) (show (0 : Int) < 4611686018427387904 by omega)
  generalize p * tt (n + 1) / 4611686018427387904 = q at *
  generalize hr : p * tt (n + 1) % 4611686018427387904 = r at *
  refine ⟨c * r, Int.mul_nonneg (by omega) d2, Int.mul_le_mul_of_nonneg_left (by omega) (by omega), ?_⟩
  have e2 : c * p * tt (n + 1) = c * (p * tt (n + 1)) := by grind
  rw [e2, ← d1]; grind
theorem qx_low (n : Nat) (hn : n ≤ 32) (J : Int) : 4611686018427387904 ≤ qx n J := by
  unfold qx
  have hc := two_pos (J / 2 ^ n).toNat
  have := Int.mul_le_mul (show 1 ≤ (2 : Int) ^ (J / 2 ^ n).toNat by omega) (qn_low n hn (J % 2 ^ n)) (by omega) (by omega)
  omega
theorem qx_lt {n : Nat} {J : Int} (h0 : 0 ≤ J) (h1 : J < 2 ^ n) : qx n J = qn n J := by
  unfold qx
  rw [Int.ediv_eq_zero_of_lt h0 h1, Int.emod_eq_of_lt h0 h1]
  simp
theorem qx_up {n : Nat} {J : Int} (h0 : 0 ≤ J) : qx n (J + 2 ^ n) = 2 * qx n J := by
  have hp := two_pos n
  unfold qx
  have e1 : (J + 2 ^ n) / 2 ^ n = J / 2 ^ n + 1 := by
    rw [Int.add_ediv_of_dvd_right (Int.dvd_refl _), Int.ediv_self (by omega)]
  have e2 : (J + 2 ^ n) % 2 ^ n = J % 2 ^ n := by simp
  rw [e1, e2]
  have := Int.ediv_nonneg h0 (Int.le_of_lt hp)
  rw [show (J / 2 ^ n + 1).toNat = (J / 2 ^ n).toNat + 1 by omega, Int.pow_succ]
  grind
theorem alg_q {Q Q1 Q' t tn r b : Int} (h1 : 4611686018427387904 * Q1 = Q * t - r) (r0 : 0 ≤ r) (r1 : r ≤ Q) (t0 : 4611686018427387904 + 1 ≤ t) (t1 : t ≤ 6521908912666391106) (s1 : t * t ≤ 4611686018427387904 * tn) (s2 : 4611686018427387904 * tn ≤ t * t + 3 * 4611686018427387904)
    (hQ : 4611686018427387904 ≤ Q) (hb : -(b * Q) ≤ Q * tn - 4611686018427387904 * Q' ∧ Q * tn - 4611686018427387904 * Q' ≤ b * Q) (hb0 : 0 ≤ b) :
    -((b + 5) * Q1) ≤ Q1 * t - 4611686018427387904 * Q' ∧ Q1 * t - 4611686018427387904 * Q' ≤ (b + 5) * Q1 := by
  have hq1 : Q ≤ Q1 := by
    have := Int.mul_le_mul_of_nonneg_left t0 (show 0 ≤ Q by omega)
    omega
  have e1 : 4611686018427387904 * (Q1 * t - 4611686018427387904 * Q') = 4611686018427387904 * (Q * tn - 4611686018427387904 * Q') - Q * (4611686018427387904 * tn - t * t) - r * t := by grind
  have m1 := Int.mul_nonneg (show 0 ≤ Q by omega) (show 0 ≤ 4611686018427387904 * tn - t * t by omega)
  have m2 := Int.mul_le_mul_of_nonneg_left (show 4611686018427387904 * tn - t * t ≤ 3 * 4611686018427387904 by omega) (show 0 ≤ Q by omega)
  have m3 := Int.mul_nonneg r0 (show 0 ≤ t by omega)
  have m4 := Int.mul_le_mul r1 t1 (by omega) (by omega)
  have m5 := Int.mul_le_mul_of_nonneg_left hq1 hb0
  have e2 : (b + 5) * Q1 = b * Q1 + 5 * Q1 := by grind
  rw [e2]
  generalize Q * (4611686018427387904 * tn - t * t) = z1 at *
  generalize r * t = z2 at *
  generalize Q1 * t - 4611686018427387904 * Q' = z3 at *
  generalize Q * tn - 4611686018427387904 * Q' = z4 at *
  generalize b * Q = z5 at *
  generalize b * Q1 = z6 at *
  omega
theorem qx_step : ∀ (n : Nat), n ≤ 32 → ∀ J : Int, 0 ≤ J → -((5 * n + 1 : Int) * qx n J) ≤ qx n J * tt n - 4611686018427387904 * qx n (J + 1) ∧ qx n J * tt n - 4611686018427387904 * qx n (J + 1) ≤ (5 * n + 1 : Int) * qx n J
  | 0, _, J, h0 => by
    have e : ∀ J : Int, qx 0 J = 2 ^ J.toNat * 4611686018427387904 := by
      intro J
      unfold qx
      rw [show J / 2 ^ 0 = J by simp]; rfl
    rw [e, e, tt0, show (J + 1).toNat = J.toNat + 1 by omega, Int.pow_succ]
    have := two_pos J.toNat
    omega
  | n + 1, hn, J, h0 => by
    have hl := qx_low n (by omega) (J / 2)
    rcases Int.emod_two_eq J with h | h
    · obtain ⟨r, r0, r1, h1⟩ := qx_odd (n := n) (by omega) (J := J + 1) (by omega)
      rw [show (J + 1) / 2 = J / 2 by omega] at r1 h1
      rw [qx_even h, h1]
      have e : (5 * ((n + 1 : Nat) : Int) + 1) * qx n (J / 2) = 5 * n * qx n (J / 2) + 6 * qx n (J / 2) := by grind
      have := Int.mul_nonneg (show 0 ≤ 5 * (n : Int) by omega) (show 0 ≤ qx n (J / 2) by omega)
      omega
    · obtain ⟨r, r0, r1, h1⟩ := qx_odd (n := n) (by omega) h
      have ih := qx_step n (by omega) (J / 2) (by omega)
      rw [qx_even (n := n) (J := J + 1) (by omega), show (J + 1) / 2 = J / 2 + 1 by omega]
      have t := tt_in ⟨n + 1, by omega⟩
      have sq := tt_sq ⟨n, by omega⟩
      simp only at t sq
      have := alg_q h1 r0 r1 (by omega) (t.2.2 (by omega)) sq.1 sq.2 hl ih (by omega)
      rw [show (5 * ((n + 1 : Nat) : Int) + 1) = 5 * (n : Int) + 1 + 5 by omega]
      exact this
/-- it never falls. -/
theorem qx_rise {n : Nat} (hn : n ≤ 32) {J : Int} (h0 : 0 ≤ J) : qx n J ≤ qx n (J + 1) := by
  have h := (qx_step n hn J h0).2
  have t := (tt_in ⟨n, by omega⟩).1
  simp only at t
  have l := qx_low n hn J
  have m1 := Int.mul_le_mul_of_nonneg_left t (show 0 ≤ qx n J by omega)
  have m2 := Int.mul_le_mul_of_nonneg_right (show 5 * (n : Int) + 1 ≤ 161 by omega) (show 0 ≤ qx n J by omega)
  omega
theorem qx_mono {n : Nat} (hn : n ≤ 32) {J K : Int} (h0 : 0 ≤ J) (h : J ≤ K) : qx n J ≤ qx n K := by
  obtain ⟨k, hk⟩ := Int.eq_ofNat_of_zero_le (show 0 ≤ K - J by omega)
  have e : K = J + k := by omega
  subst e
  clear h hk
  induction k with
  | zero => simp
  | succ k ih =>
    have := qx_rise hn (J := J + k) (by omega)
    rw [show J + ((k + 1 : Nat) : Int) = J + k + 1 by omega]
    omega
theorem le_mul_one {a b : Int} (h : 0 ≤ b) (k : 1 ≤ a) : b ≤ a * b := by
  have := Int.mul_le_mul_of_nonneg_right k h
  omega
theorem alg_q10 {A B S A1 S1 t r q e : Int} (h1 : 4611686018427387904 * A1 = A * t - r) (r0 : 0 ≤ r) (r1 : r ≤ A) (g1 : 4611686018427387904 * S1 = S * t - q) (q0 : 0 ≤ q) (q1 : q ≤ S) (t0 : 4611686018427387904 + 1 ≤ t)
    (hA : 4611686018427387904 ≤ A) (hB : 4611686018427387904 ≤ B) (hS : 4611686018427387904 ≤ S) (hb : -(e * S) ≤ A * B - 4611686018427387904 * S ∧ A * B - 4611686018427387904 * S ≤ e * S) (he : 0 ≤ e) (he' : e ≤ 10000) :
    -((e + 3) * S1) ≤ A1 * B - 4611686018427387904 * S1 ∧ A1 * B - 4611686018427387904 * S1 ≤ (e + 3) * S1 := by
  have hS1 : S ≤ S1 := by
    have := Int.mul_le_mul_of_nonneg_left t0 (show 0 ≤ S by omega)
    omega
  have e1 : 4611686018427387904 * (A1 * B - 4611686018427387904 * S1) = (A * B - 4611686018427387904 * S) * t - r * B + 4611686018427387904 * q := by grind
  have m1 := Int.mul_nonneg r0 (show 0 ≤ B by omega)
  have m2 := Int.mul_le_mul_of_nonneg_right r1 (show 0 ≤ B by omega)
  have m3 := Int.mul_le_mul_of_nonneg_right hb.1 (show 0 ≤ t by omega)
  have m4 := Int.mul_le_mul_of_nonneg_right hb.2 (show 0 ≤ t by omega)
  have e2 : e * S * t = e * (4611686018427387904 * S1) + e * q := by
    have : S * t = 4611686018427387904 * S1 + q := by omega
    rw [Int.mul_assoc, this]; grind
  have e3 : -(e * S) * t = -(e * S * t) := by grind
  have m5 := Int.mul_le_mul_of_nonneg_left (show q ≤ S1 by omega) he
  have m6 := Int.mul_le_mul_of_nonneg_right he' (show 0 ≤ S by omega)
  have m7 := Int.mul_le_mul_of_nonneg_right he' (show 0 ≤ S1 by omega)
  have e4 : (e + 3) * S1 = e * S1 + 3 * S1 := by grind
  have e5 : e * (4611686018427387904 * S1) = 4611686018427387904 * (e * S1) := by grind
  rw [e4]
  rw [e5] at e2
  generalize (A * B - 4611686018427387904 * S) * t = z1 at *
  generalize A * B = z2 at *
  generalize r * B = z3 at *
  generalize e * S * t = z4 at *
  generalize e * S1 = z5 at *
  generalize e * S = z6 at *
  generalize e * q = z7 at *
  generalize A1 * B = z8 at *
  omega
theorem alg_q11 {A B S S2 A1 B1 t tn r q e b : Int} (h1 : 4611686018427387904 * A1 = A * t - r) (r0 : 0 ≤ r) (r1 : r ≤ A) (g1 : 4611686018427387904 * B1 = B * t - q) (q0 : 0 ≤ q) (q1 : q ≤ B) (t0 : 4611686018427387904 ≤ t) (t1 : t ≤ 6521908912666391106)
    (s1 : t * t ≤ 4611686018427387904 * tn) (s2 : 4611686018427387904 * tn ≤ t * t + 3 * 4611686018427387904) (n0 : 4611686018427387904 + 744261110 ≤ tn)
    (hA : 4611686018427387904 ≤ A) (hB : 4611686018427387904 ≤ B) (hS : 4611686018427387904 ≤ S) (hb : -(e * S) ≤ A * B - 4611686018427387904 * S ∧ A * B - 4611686018427387904 * S ≤ e * S) (he : 0 ≤ e) (he' : e ≤ 10000)
    (hs : -(b * S) ≤ S * tn - 4611686018427387904 * S2 ∧ S * tn - 4611686018427387904 * S2 ≤ b * S) (hb0 : 0 ≤ b) (hb' : b ≤ 1000) :
    -((e + b + 9) * S2) ≤ A1 * B1 - 4611686018427387904 * S2 ∧ A1 * B1 - 4611686018427387904 * S2 ≤ (e + b + 9) * S2 := by
  have mb := Int.mul_le_mul_of_nonneg_right hb' (show 0 ≤ S by omega)
  have me := Int.mul_le_mul_of_nonneg_right he' (show 0 ≤ S by omega)
  have mn := Int.mul_le_mul_of_nonneg_left n0 (show 0 ≤ S by omega)
  have hS2 : S ≤ S2 := by omega
  -- the exact difference
  have e1 : 4611686018427387904 * 4611686018427387904 * (A1 * B1 - 4611686018427387904 * S2) = 4611686018427387904 * 4611686018427387904 * (S * tn - 4611686018427387904 * S2) + 4611686018427387904 * ((A * B - 4611686018427387904 * S) * tn) - (A * B) * (4611686018427387904 * tn - t * t) - (r * B + q * A) * t + r * q := by
    have : 4611686018427387904 * 4611686018427387904 * (A1 * B1) = (A * t - r) * (B * t - q) := by rw [← h1, ← g1]; grind
    have e : 4611686018427387904 * 4611686018427387904 * (A1 * B1 - 4611686018427387904 * S2) = (A * t - r) * (B * t - q) - 4611686018427387904 * 4611686018427387904 * (4611686018427387904 * S2) := by rw [← this]; grind
    rw [e]; grind
  have hAB : 0 ≤ A * B := Int.mul_nonneg (by omega) (by omega)
  have p1 := Int.mul_nonneg hAB (show 0 ≤ 4611686018427387904 * tn - t * t by omega)
  have p2 := Int.mul_le_mul_of_nonneg_left (show 4611686018427387904 * tn - t * t ≤ 3 * 4611686018427387904 by omega) hAB
  have p3 := Int.mul_le_mul_of_nonneg_right r1 (show 0 ≤ B by omega)
  have p4 := Int.mul_le_mul_of_nonneg_right q1 (show 0 ≤ A by omega)
  have p3' := Int.mul_nonneg r0 (show 0 ≤ B by omega)
  have p4' := Int.mul_nonneg q0 (show 0 ≤ A by omega)
  have e2 : B * A = A * B := Int.mul_comm _ _
  rw [e2] at p4
  have p5 := Int.mul_le_mul (show r * B + q * A ≤ 2 * (A * B) by omega) t1 (by omega) (by omega)
  have p6 := Int.mul_nonneg (show 0 ≤ r * B + q * A by omega) (show 0 ≤ t by omega)
  have p7 := Int.mul_nonneg r0 q0
  have p8 := Int.mul_le_mul r1 q1 q0 (by omega)
  -- e times S times tn
  have m3 := Int.mul_le_mul_of_nonneg_right hb.1 (show 0 ≤ tn by omega)
  have m4 := Int.mul_le_mul_of_nonneg_right hb.2 (show 0 ≤ tn by omega)
  have e3 : e * S * tn = e * (S * tn) := Int.mul_assoc _ _ _
  have e4 : -(e * S) * tn = -(e * (S * tn)) := by grind
  have m5 := Int.mul_le_mul_of_nonneg_left (show S * tn ≤ 4611686018427387904 * S2 + 1000 * S2 by omega) he
  have e5 : e * (4611686018427387904 * S2 + 1000 * S2) = 4611686018427387904 * (e * S2) + 1000 * (e * S2) := by grind
  have m6 := Int.mul_le_mul_of_nonneg_right he' (show 0 ≤ S2 by omega)
  have m7 := Int.mul_le_mul_of_nonneg_left hS2 hb0
  have e6 : (e + b + 9) * S2 = e * S2 + b * S2 + 9 * S2 := by grind
  rw [e6]
  rw [e3] at m4
  rw [e4] at m3
  rw [e5] at m5
  generalize (A * B - 4611686018427387904 * S) * tn = z1 at *
  generalize (A * B) * (4611686018427387904 * tn - t * t) = z2 at *
  generalize (r * B + q * A) * t = z3 at *
  generalize r * q = z4 at *
  generalize A * B = z5 at *
  generalize A1 * B1 = z6 at *
  generalize e * (S * tn) = z7 at *
  generalize S * tn = z8 at *
  generalize e * S2 = z9 at *
  generalize b * S2 = z10 at *
  generalize e * S = z11 at *
  generalize b * S = z12 at *
  clear p3 p4 p3' p4' s1 s2 h1 g1
  constructor <;> omega
def offq : Nat → Int
  | 0 => 0
  | n + 1 => offq n + (5 * n + 1) + 9
theorem offq_in : ∀ i : Fin 33, 0 ≤ offq i ∧ offq i ≤ 2800 := by decide +kernel
theorem qx_sum : ∀ (n : Nat), n ≤ 32 → ∀ J K : Int, 0 ≤ J → 0 ≤ K → -(offq n * qx n (J + K)) ≤ qx n J * qx n K - 4611686018427387904 * qx n (J + K) ∧ qx n J * qx n K - 4611686018427387904 * qx n (J + K) ≤ offq n * qx n (J + K)
  | 0, _, J, K, h0, k0 => by
    have e : ∀ J : Int, qx 0 J = 2 ^ J.toNat * 4611686018427387904 := by
      intro J
      unfold qx
      rw [show J / 2 ^ 0 = J by simp]; rfl
    rw [e, e, e, show (J + K).toNat = J.toNat + K.toNat by omega, Int.pow_add]
    simp only [offq]
    have : (2 : Int) ^ J.toNat * 4611686018427387904 * (2 ^ K.toNat * 4611686018427387904) = 4611686018427387904 * (2 ^ J.toNat * 2 ^ K.toNat * 4611686018427387904) := by grind
    omega
  | n + 1, hn, J, K, h0, k0 => by
    have ih := qx_sum n (by omega) (J / 2) (K / 2) (by omega) (by omega)
    have o := offq_in ⟨n, by omega⟩
    have lJ := qx_low n (by omega) (J / 2)
    have lK := qx_low n (by omega) (K / 2)
    have lS := qx_low n (by omega) (J / 2 + K / 2)
    have t := tt_in ⟨n + 1, by omega⟩
    simp only at o t
    have tb := t.2.2 (by omega)
    have eo : offq (n + 1) = offq n + (5 * n + 1) + 9 := rfl
    have lS' := qx_low (n + 1) hn (J + K)
    have up : ∀ e : Int, 0 ≤ e → e ≤ offq (n + 1) → e * qx (n + 1) (J + K) ≤ offq (n + 1) * qx (n + 1) (J + K) := fun e _ h => Int.mul_le_mul_of_nonneg_right h (by omega)
    rcases Int.emod_two_eq J with h | h <;> rcases Int.emod_two_eq K with k | k
    · have e1 := qx_even (n := n) h
      have e2 := qx_even (n := n) k
      have e3 := qx_even (n := n) (J := J + K) (by omega)
      rw [show (J + K) / 2 = J / 2 + K / 2 by omega] at e3
      have := up (offq n) (by omega) (by omega)
      rw [e3] at this ⊢
      rw [e1, e2]
      omega
    · have e1 := qx_even (n := n) h
      obtain ⟨r, r0, r1, h1⟩ := qx_odd (n := n) (by omega) k
      obtain ⟨q, q0, q1, g1⟩ := qx_odd (n := n) (by omega) (J := J + K) (by omega)
      rw [show (J + K) / 2 = J / 2 + K / 2 by omega] at q1 g1
      have ec : qx n (J / 2) * qx n (K / 2) = qx n (K / 2) * qx n (J / 2) := Int.mul_comm _ _
      rw [ec] at ih
      have a := alg_q10 h1 r0 r1 g1 q0 q1 (by omega) lK lJ lS ih (by omega) (by omega)
      have := up (offq n + 3) (by omega) (by omega)
      rw [e1, Int.mul_comm (qx n (J / 2))]
      omega
    · have e2 := qx_even (n := n) k
      obtain ⟨r, r0, r1, h1⟩ := qx_odd (n := n) (by omega) h
      obtain ⟨q, q0, q1, g1⟩ := qx_odd (n := n) (by omega) (J := J + K) (by omega)
      rw [show (J + K) / 2 = J / 2 + K / 2 by omega] at q1 g1
      have a := alg_q10 h1 r0 r1 g1 q0 q1 (by omega) lJ lK lS ih (by omega) (by omega)
      have := up (offq n + 3) (by omega) (by omega)
      rw [e2]
      omega
    · obtain ⟨r, r0, r1, h1⟩ := qx_odd (n := n) (by omega) h
      obtain ⟨q, q0, q1, g1⟩ := qx_odd (n := n) (by omega) k
      have e3 := qx_even (n := n) (J := J + K) (by omega)
      rw [show (J + K) / 2 = J / 2 + K / 2 + 1 by omega] at e3
      have hs := qx_step n (by omega) (J / 2 + K / 2) (by omega)
      have sq := tt_sq ⟨n, by omega⟩
      have tn := (tt_in ⟨n, by omega⟩).1
      simp only at sq tn
      have a := alg_q11 h1 r0 r1 g1 q0 q1 (by omega) tb sq.1 sq.2 tn lJ lK lS ih (by omega) (by omega) hs (by omega) (by omega)
      rw [e3, eo]
      exact a
theorem qx32_zero : qx 32 0 = 4611686018427387904 := by decide +kernel
theorem qx32_up {J : Int} (h0 : 0 ≤ J) : qx 32 (J + 4294967296) = 2 * qx 32 J := qx_up h0
theorem qx32_lt {J : Int} (h0 : 0 ≤ J) (h1 : J < 4294967296) : qx 32 J = qn 32 J := qx_lt h0 h1
theorem qx32_le {J : Int} (h0 : 0 ≤ J) (h1 : J ≤ 4294967296) : 4611686018427387904 ≤ qx 32 J ∧ qx 32 J ≤ 2 * 4611686018427387904 := by
  refine ⟨qx_low 32 (Nat.le_refl _) J, ?_⟩
  have := qx_mono (Nat.le_refl 32) h0 h1
  have e := qx32_up (J := 0) (by omega)
  rw [qx32_zero, show (0 : Int) + 4294967296 = 4294967296 by omega] at e
  omega
theorem qn32_in (f : Int) : 4611686018427387904 ≤ qn 32 (f % 4294967296) ∧ qn 32 (f % 4294967296) ≤ 2 * 4611686018427387904 := by
  have h0 : 0 ≤ f % 4294967296 := by omega
  have h1 : f % 4294967296 < 4294967296 := by omega
  rw [← qx32_lt h0 h1]
  exact qx32_le h0 (by omega)
theorem pow_two_le {a b : Nat} (h : a ≤ b) : (2 : Int) ^ a ≤ 2 ^ b := by
  have := Nat.pow_le_pow_right (n := 2) (by omega) h
  have e1 : ((2 ^ a : Nat) : Int) = (2 : Int) ^ a := by simp
  have e2 : ((2 ^ b : Nat) : Int) = (2 : Int) ^ b := by simp
  omega
/-- rounded: so far above. -/
theorem half_up {p H y : Int} (hH : 0 < H) (hy : y = (p / H + 1) / 2) : -H ≤ 2 * H * y - p ∧ 2 * H * y - p ≤ H := by
  have h1 := Int.mul_ediv_add_emod p H
  have h2 := Int.emod_nonneg p (show H ≠ 0 by omega)
  have h3 := Int.emod_lt_of_pos p hH
  generalize p / H = m at *
  have h4 : 2 * y ≤ m + 1 := by omega
  have h5 : m ≤ 2 * y := by omega
  have m1 := Int.mul_le_mul_of_nonneg_left h4 (show 0 ≤ H by omega)
  have m2 := Int.mul_le_mul_of_nonneg_left h5 (show 0 ≤ H by omega)
  have e1 : H * (m + 1) = H * m + H := by grind
  have e2 : H * (2 * y) = 2 * H * y := by grind
  omega
theorem powF_raw {e : Int} (h0 : -17 ≤ e / 4294967296) (h1 : e / 4294967296 ≤ 14) : powF e = (qn 32 (e % 4294967296) / 2 ^ (45 - e / 4294967296).toNat + 1) / 2 ∧ (qn 32 (e % 4294967296) / 2 ^ (45 - e / 4294967296).toNat + 1) / 2 ≤ 2147483648 := by
  have hq := qn32_in e
  have hp : (2147483648 : Int) ≤ 2 ^ (45 - e / 4294967296).toNat := by
    have := pow_two_le (a := 31) (b := (45 - e / 4294967296).toNat) (by omega)
    have e' : (2 : Int) ^ 31 = 2147483648 := rfl
    omega
  have hb : qn 32 (e % 4294967296) / 2 ^ (45 - e / 4294967296).toNat ≤ 4294967296 := by
    have hx := Int.ediv_mul_le (qn 32 (e % 4294967296)) (show (2 : Int) ^ (45 - e / 4294967296).toNat ≠ 0 by omega)
    have hn : 0 ≤ qn 32 (e % 4294967296) / 2 ^ (45 - e / 4294967296).toNat := Int.ediv_nonneg (by omega) (by omega)
    have := Int.mul_le_mul_of_nonneg_left hp hn
    omega
  unfold powF
  rw [if_neg (by omega), if_neg (by omega)]
  generalize qn 32 (e % 4294967296) / 2 ^ (45 - e / 4294967296).toNat = z at *
  omega
/-- what is told is no farther than half of one from what is meant. -/
theorem pow_near {v o : Int} (h0 : 0 ≤ o) (h1 : v * 4294967296 + o ≤ 15 * 4294967296) : -(2 ^ (45 - v).toNat) ≤ powF (v * 4294967296 + o) * (2 * 2 ^ (45 - v).toNat) - qx 32 o ∧ powF (v * 4294967296 + o) * (2 * 2 ^ (45 - v).toNat) - qx 32 o ≤ 2 ^ (45 - v).toNat := by
  have ed : (v * 4294967296 + o) / 4294967296 = v + o / 4294967296 := by omega
  have em : (v * 4294967296 + o) % 4294967296 = o % 4294967296 := by omega
  have hd : 0 ≤ o / 4294967296 := by omega
  have hqx : qx 32 o = 2 ^ (o / 4294967296).toNat * qn 32 (o % 4294967296) := rfl
  have hq := qn32_in o
  have hc := two_pos (o / 4294967296).toNat
  have hsplit : ∀ k : Nat, (k : Int) = 45 - (v + o / 4294967296) → (2 : Int) ^ (45 - v).toNat = 2 ^ (o / 4294967296).toNat * 2 ^ k := by
    intro k hk
    rw [← Int.pow_add]; congr 1; omega
  rcases Int.lt_or_le (v + o / 4294967296) 15 with hw | hw
  · obtain ⟨k, hk⟩ := Int.eq_ofNat_of_zero_le (show 0 ≤ 45 - (v + o / 4294967296) by omega)
    have hs := hsplit k hk.symm
    have hH := two_pos k
    have key : -(2 ^ k) ≤ 2 * 2 ^ k * powF (v * 4294967296 + o) - qn 32 (o % 4294967296) ∧ 2 * 2 ^ k * powF (v * 4294967296 + o) - qn 32 (o % 4294967296) ≤ 2 ^ k := by
      rcases Int.lt_or_le (v + o / 4294967296) (-17) with hz | hz
      · have hp0 : powF (v * 4294967296 + o) = 0 := by
          unfold powF
          rw [ed, if_neg (by omega), if_pos hz]
        have := pow_two_le (a := 63) (b := k) (by omega)
        have e' : (2 : Int) ^ 63 = 9223372036854775808 := rfl
        rw [hp0]
        omega
      · have hr := (powF_raw (e := v * 4294967296 + o) (by omega) (by omega)).1
        rw [ed, em] at hr
        have ek : (45 - (v + o / 4294967296)).toNat = k := by omega
        rw [ek] at hr
        exact half_up hH hr
    rw [hqx, hs]
    generalize powF (v * 4294967296 + o) = y at *
    generalize (2 : Int) ^ (o / 4294967296).toNat = c at *
    generalize (2 : Int) ^ k = H at *
    generalize qn 32 (o % 4294967296) = p at *
    have m1 := Int.mul_le_mul_of_nonneg_left key.1 (show 0 ≤ c by omega)
    have m2 := Int.mul_le_mul_of_nonneg_left key.2 (show 0 ≤ c by omega)
    have e1 : c * (2 * H * y - p) = y * (2 * (c * H)) - c * p := by grind
    have e2 : c * -H = -(c * H) := by grind
    omega
  · have h15 : v + o / 4294967296 = 15 := by omega
    have hf : o % 4294967296 = 0 := by omega
    have hp : powF (v * 4294967296 + o) = 2147483648 := by
      unfold powF
      rw [ed, h15, if_pos (by omega)]
    have hs := hsplit 30 (by omega)
    rw [hqx, hf, hp, hs]
    have : qn 32 0 = 4611686018427387904 := qn_zero 32
    rw [this]
    have e' : (2 : Int) ^ 30 = 1073741824 := rfl
    rw [e']
    omega
theorem powF_in (e : Int) : 0 ≤ powF e ∧ powF e ≤ 2147483648 := by
  unfold powF
  split
  · omega
  · split
    · omega
    · have hq := qn32_in e
      have : 0 ≤ qn 32 (e % 4294967296) / 2 ^ (45 - e / 4294967296).toNat := Int.ediv_nonneg (by omega) (Int.le_of_lt (two_pos _))
      omega
theorem powF_mono {a b : Int} (h : a ≤ b) : powF a ≤ powF b := by
  have ia := powF_in a
  have ib := powF_in b
  rcases Int.lt_or_le (b / 4294967296) 15 with hb | hb
  · rcases Int.lt_or_le (a / 4294967296) (-17) with ha | ha
    · have : powF a = 0 := by
        unfold powF
        rw [if_neg (by omega), if_pos ha]
      omega
    · have ra := (powF_raw (e := a) (by omega) (by omega)).1
      have rb := (powF_raw (e := b) (by omega) (by omega)).1
      rw [ra, rb]
      have qa := qn32_in a
      have qb := qn32_in b
      have key : qn 32 (a % 4294967296) / 2 ^ (45 - a / 4294967296).toNat ≤ qn 32 (b % 4294967296) / 2 ^ (45 - b / 4294967296).toNat := by
        rcases Int.lt_or_eq_of_le (show a / 4294967296 ≤ b / 4294967296 by omega) with hw | hw
        · obtain ⟨k, hk⟩ := Int.eq_ofNat_of_zero_le (show 0 ≤ 45 - b / 4294967296 by omega)
          have ek : (45 - b / 4294967296).toNat = k := by omega
          obtain ⟨j, hj⟩ := Int.eq_ofNat_of_zero_le (show 0 ≤ b / 4294967296 - a / 4294967296 - 1 by omega)
          have ej : (45 - a / 4294967296).toNat = k + 1 + j := by omega
          rw [ek, ej, Int.pow_add, Int.pow_succ]
          have p1 := two_pos k
          have p2 := two_pos j
          rw [← Int.ediv_ediv_of_nonneg (Int.le_of_lt (show (0 : Int) < 2 ^ k * 2 by omega))]
          have h1 : qn 32 (a % 4294967296) / (2 ^ k * 2) ≤ 2 * 4611686018427387904 / (2 ^ k * 2) := Int.ediv_le_ediv (by omega) qa.2
          have h2 : (2 * 4611686018427387904 : Int) / (2 ^ k * 2) = 4611686018427387904 / 2 ^ k := by
            rw [show (2 * 4611686018427387904 : Int) = 4611686018427387904 * 2 by omega, Int.mul_ediv_mul_of_pos_left _ _ (by omega)]
          have h3 : (4611686018427387904 : Int) / 2 ^ k ≤ qn 32 (b % 4294967296) / 2 ^ k := Int.ediv_le_ediv p1 qb.1
          have h4 : qn 32 (a % 4294967296) / (2 ^ k * 2) / 2 ^ j ≤ qn 32 (a % 4294967296) / (2 ^ k * 2) := Int.ediv_le_self _ (Int.ediv_nonneg (by omega) (by omega))
          omega
        · rw [hw]
          refine Int.ediv_le_ediv (two_pos _) ?_
          have f1 : a % 4294967296 ≤ b % 4294967296 := by omega
          rw [← qx32_lt (J := a % 4294967296) (by omega) (by omega), ← qx32_lt (J := b % 4294967296) (by omega) (by omega)]
          exact qx_mono (Nat.le_refl 32) (by omega) f1
      omega
  · have : powF b = 2147483648 := by
      unfold powF
      rw [if_pos hb]
    omega
theorem sq_in {y : Int} (h0 : 4611686018427387904 ≤ y) (h1 : y < 9223372036854775808) : 4611686018427387904 ≤ y * y / 4611686018427387904 ∧ y * y / 4611686018427387904 < 4 * 4611686018427387904 := by
  have a := Int.mul_le_mul h0 h0 (by omega) (by omega)
  have b := Int.mul_le_mul (show y ≤ 9223372036854775807 by omega) (show y ≤ 9223372036854775807 by omega) (by omega) (by omega)
  generalize y * y = z at *
  omega
theorem ll_in {y0 : Int} (h0 : 4611686018427387904 ≤ y0) (h1 : y0 < 9223372036854775808) : ∀ n : Nat, (4611686018427387904 ≤ (ll y0 n).1 ∧ (ll y0 n).1 < 9223372036854775808) ∧ 0 ≤ (ll y0 n).2 ∧ (ll y0 n).2 < 2 ^ n
  | 0 => ⟨⟨h0, h1⟩, by simp [ll], by simp [ll]⟩
  | n + 1 => by
    obtain ⟨⟨a, b⟩, c, d⟩ := ll_in h0 h1 n
    have s := sq_in a b
    simp only [ll]
    rw [Int.pow_succ]
    split
    · exact ⟨⟨by simp only; omega, by simp only; omega⟩, by simp only; omega, by simp only; omega⟩
    · exact ⟨⟨by simp only; omega, by simp only; omega⟩, by simp only; omega, by simp only; omega⟩
/-- the first bit, and what is behind it. -/
theorem ll_first (y0 : Int) : ∀ n : Nat, (ll y0 (n + 1)).1 = (ll (ll y0 1).1 n).1 ∧ (ll y0 (n + 1)).2 = (ll y0 1).2 * 2 ^ n + (ll (ll y0 1).1 n).2
  | 0 => by simp [ll]
  | n + 1 => by
    obtain ⟨a, b⟩ := ll_first y0 n
    have e1 : ll y0 (n + 1 + 1) = if 9223372036854775808 ≤ (ll y0 (n + 1)).1 * (ll y0 (n + 1)).1 / 4611686018427387904 then ((ll y0 (n + 1)).1 * (ll y0 (n + 1)).1 / 4611686018427387904 / 2, 2 * (ll y0 (n + 1)).2 + 1) else ((ll y0 (n + 1)).1 * (ll y0 (n + 1)).1 / 4611686018427387904, 2 * (ll y0 (n + 1)).2) := rfl
    have e2 : ll (ll y0 1).1 (n + 1) = if 9223372036854775808 ≤ (ll (ll y0 1).1 n).1 * (ll (ll y0 1).1 n).1 / 4611686018427387904 then ((ll (ll y0 1).1 n).1 * (ll (ll y0 1).1 n).1 / 4611686018427387904 / 2, 2 * (ll (ll y0 1).1 n).2 + 1) else ((ll (ll y0 1).1 n).1 * (ll (ll y0 1).1 n).1 / 4611686018427387904, 2 * (ll (ll y0 1).1 n).2) := rfl
    rw [e1, e2, a, b, Int.pow_succ]
    split
    · refine ⟨rfl, ?_⟩
      simp only
      grind
    · refine ⟨rfl, ?_⟩
      simp only
      grind
/-- the greater one is never behind. -/
theorem ll_mono {y z : Int} (h0 : 0 ≤ y) (h : y ≤ z) : ∀ n : Nat, (ll y n).2 < (ll z n).2 ∨ ((ll y n).2 = (ll z n).2 ∧ 0 ≤ (ll y n).1 ∧ (ll y n).1 ≤ (ll z n).1)
  | 0 => Or.inr ⟨rfl, h0, h⟩
  | n + 1 => by
    have ih := ll_mono h0 h n
    simp only [ll]
    rcases ih with ih | ⟨ih, p0, p1⟩
    · left
      split <;> split <;> (simp only; omega)
    · have m := Int.mul_le_mul p1 p1 p0 (by omega)
      have m0 := Int.mul_nonneg p0 p0
      have d : (ll y n).1 * (ll y n).1 / 4611686018427387904 ≤ (ll z n).1 * (ll z n).1 / 4611686018427387904 := Int.ediv_le_ediv (by omega) m
      have d0 : 0 ≤ (ll y n).1 * (ll y n).1 / 4611686018427387904 := Int.ediv_nonneg m0 (by omega)
      generalize (ll y n).1 * (ll y n).1 / 4611686018427387904 = a at *
      generalize (ll z n).1 * (ll z n).1 / 4611686018427387904 = b at *
      split <;> split <;> (simp only; omega)
theorem ll_more (y : Int) (n : Nat) : ∀ k : Nat, (ll y (n + k)).2 / 2 ^ k = (ll y n).2
  | 0 => by simp
  | k + 1 => by
    have ih := ll_more y n k
    have hp := two_pos k
    have e : (ll y (n + (k + 1))).2 / 2 = (ll y (n + k)).2 := by
      show (ll y (n + k + 1)).2 / 2 = _
      simp only [ll]
      split
      · simp only; omega
      · simp only; omega
    rw [Int.pow_succ, Int.mul_comm, ← Int.ediv_ediv_of_nonneg (by omega), e, ih]
/-- of two squares. -/
theorem le_of_sq {a b : Int} (hb : 0 ≤ b) (h : a * a ≤ b * b) : a ≤ b := by
  rcases Int.lt_or_le b a with z | z
  · have h1 := Int.mul_lt_mul_of_pos_right z (show 0 < a by omega)
    have h2 := Int.mul_le_mul_of_nonneg_left (show b ≤ a by omega) hb
    omega
  · exact z
theorem qx_top {n : Nat} (hn : n ≤ 32) {J : Int} (h0 : 0 ≤ J) (h1 : J ≤ 2 ^ n) : qx n J ≤ 2 * 4611686018427387904 := by
  have := qx_mono hn h0 h1
  have e := qx_up (n := n) (J := 0) (by omega)
  have z : qx n 0 = 4611686018427387904 := by rw [qx_lt (by omega) (two_pos n), qn_zero]
  rw [z, show (0 : Int) + 2 ^ n = 2 ^ n by omega] at e
  omega
theorem alg_lower {P y y1 S e b : Int} (hb : b = 1 ∨ b = 2) (hy : 4611686018427387904 ≤ y) (hy' : y < 9223372036854775808) (h1 : b * (4611686018427387904 * y1) ≤ y * y) (h2 : b = 2 → 2 * (4611686018427387904 * 4611686018427387904) ≤ y * y) (h3 : b = 1 → y * y ≤ 2 * (4611686018427387904 * 4611686018427387904))
    (hS : S ≤ y1 + 20000) (hP : P * P ≤ b * ((4611686018427387904 + e) * S)) (he : 0 ≤ e) (he' : e ≤ 2800) : P ≤ y + 20000 := by
  refine le_of_sq (by omega) ?_
  have e1 : (y + 20000) * (y + 20000) = y * y + 40000 * y + 400000000 := by grind
  rw [e1]
  have m1 := Int.mul_le_mul_of_nonneg_left hS (show 0 ≤ 4611686018427387904 + e by omega)
  have e2 : (4611686018427387904 + e) * (y1 + 20000) = 4611686018427387904 * y1 + e * y1 + 20000 * 4611686018427387904 + 20000 * e := by grind
  rcases hb with rfl | rfl
  · have yb := h3 rfl
    have m2 := Int.mul_le_mul he' (show y1 ≤ 2 * 4611686018427387904 by omega)
    rcases Int.lt_or_le y1 0 with q | q
    · have : e * y1 ≤ 0 := Int.mul_nonpos_of_nonneg_of_nonpos he (by omega)
      omega
    · have := m2 q (by omega)
      omega
  · have yb := h2 rfl
    have yl : 6456360425798343065 ≤ y := by
      apply Classical.byContradiction
      intro hc
      have := Int.mul_le_mul (show y ≤ 6456360425798343065 by omega) (show y ≤ 6456360425798343065 by omega) (by omega) (by omega)
      omega
    have yu := Int.mul_le_mul (show y ≤ 9223372036854775808 by omega) (show y ≤ 9223372036854775808 by omega) (by omega) (by omega)
    have m2 := Int.mul_le_mul he' (show y1 ≤ 2 * 4611686018427387904 by omega)
    rcases Int.lt_or_le y1 0 with q | q
    · have : e * y1 ≤ 0 := Int.mul_nonpos_of_nonneg_of_nonpos he (by omega)
      omega
    · have := m2 q (by omega)
      omega
theorem alg_upper {Q y y1 S Q2 e b : Int} (hb : b = 1 ∨ b = 2) (hy : 4611686018427387904 ≤ y) (h1 : y * y ≤ b * (4611686018427387904 * y1) + 2 * 4611686018427387904)
    (hS : y1 ≤ S + 20000) (hQ2 : Q2 = b * S) (hQ : 4611686018427387904 * Q2 - e * Q2 ≤ Q * Q) (q0 : 4611686018427387904 ≤ Q) (hq : Q2 ≤ b * (2 * 4611686018427387904)) (hq' : b = 2 → 2 * 4611686018427387904 ≤ Q2) (he : 0 ≤ e) (he' : e ≤ 2800) (hS0 : 0 ≤ S) : y ≤ Q + 20000 := by
  refine le_of_sq (by omega) ?_
  have e1 : (Q + 20000) * (Q + 20000) = Q * Q + 40000 * Q + 400000000 := by grind
  rw [e1]
  have m1 := Int.mul_le_mul he' hq (by rcases hb with rfl | rfl <;> omega) (by omega)
  rcases hb with rfl | rfl
  · omega
  · have q2 := hq' rfl
    have ql : 6456360425798343065 ≤ Q := by
      apply Classical.byContradiction
      intro hc
      have := Int.mul_le_mul (show Q ≤ 6456360425798343065 by omega) (show Q ≤ 6456360425798343065 by omega) (by omega) (by omega)
      omega
    omega
/-- the bits lead back to the number. -/
theorem log_near : ∀ (n : Nat), n ≤ 32 → ∀ y : Int, 4611686018427387904 ≤ y → y < 9223372036854775808 → qx n (ll y n).2 ≤ y + 20000 ∧ y ≤ qx n ((ll y n).2 + 1) + 20000
  | 0, _, y, h0, h1 => by
    have e0 : qx 0 0 = 4611686018427387904 := by decide
    have e1 : qx 0 1 = 9223372036854775808 := by decide
    show qx 0 0 ≤ y + 20000 ∧ y ≤ qx 0 (0 + 1) + 20000
    rw [e0, show (0 : Int) + 1 = 1 by omega, e1]
    omega
  | n + 1, hn, y, h0, h1 => by
    have hp := two_pos n
    have s := sq_in h0 h1
    have l1 := ll_in h0 h1 1
    have ih := log_near n (by omega) (ll y 1).1 l1.1.1 l1.1.2
    have li := (ll_in l1.1.1 l1.1.2 n).2
    obtain ⟨f1, f2⟩ := ll_first y n
    have l1e : ll y 1 = if 9223372036854775808 ≤ y * y / 4611686018427387904 then (y * y / 4611686018427387904 / 2, 1) else (y * y / 4611686018427387904, 0) := rfl
    have o := offq_in ⟨n + 1, by omega⟩
    simp only at o
    generalize hM : (ll (ll y 1).1 n).2 = M at *
    -- the first bit
    have hbit : ((ll y 1).2 = 0 ∧ (ll y 1).1 = y * y / 4611686018427387904 ∧ y * y / 4611686018427387904 < 9223372036854775808) ∨ ((ll y 1).2 = 1 ∧ (ll y 1).1 = y * y / 4611686018427387904 / 2 ∧ 9223372036854775808 ≤ y * y / 4611686018427387904) := by
      rw [l1e]
      split
      · rename_i h; exact Or.inr ⟨rfl, rfl, h⟩
      · rename_i h; exact Or.inl ⟨rfl, rfl, by omega⟩
    rw [f2]
    have sum := qx_sum (n + 1) hn
    rcases hbit with ⟨b1, b2, b3⟩ | ⟨b1, b2, b3⟩
    · rw [b1]
      rw [b2] at ih
      rw [show 0 * 2 ^ n + M = M by omega]
      constructor
      · have sm := (sum M M li.1 li.1).2
        have ev := qx_even (n := n) (J := M + M) (by omega)
        rw [show (M + M) / 2 = M by omega] at ev
        rw [ev] at sm
        refine alg_lower (b := 1) (e := offq (n + 1)) (Or.inl rfl) h0 h1 (y1 := y * y / 4611686018427387904) (by omega) (by omega) (fun _ => by omega) ih.1 ?_ o.1 o.2
        have e1 : 1 * ((4611686018427387904 + offq (n + 1)) * qx n M) = 4611686018427387904 * qx n M + offq (n + 1) * qx n M := by grind
        omega
      · have sm := (sum (M + 1) (M + 1) (by omega) (by omega)).1
        have ev := qx_even (n := n) (J := M + 1 + (M + 1)) (by omega)
        rw [show (M + 1 + (M + 1)) / 2 = M + 1 by omega] at ev
        rw [ev] at sm
        have tp := qx_top (n := n) (by omega) (J := M + 1) (by omega) (by omega)
        have lo := qx_low n (by omega) (M + 1)
        refine alg_upper (b := 1) (S := qx n (M + 1)) (e := offq (n + 1)) (Q2 := qx n (M + 1)) (Or.inl rfl) h0 (y1 := y * y / 4611686018427387904) (by omega) ih.2 (by omega) (by omega) (qx_low (n + 1) hn (M + 1)) (by omega) (by omega) o.1 o.2 (by omega)
    · rw [b1]
      rw [b2] at ih
      rw [show 1 * 2 ^ n + M = M + 2 ^ n by omega]
      constructor
      · have sm := (sum (M + 2 ^ n) (M + 2 ^ n) (by omega) (by omega)).2
        have ev := qx_even (n := n) (J := M + 2 ^ n + (M + 2 ^ n)) (by omega)
        rw [show (M + 2 ^ n + (M + 2 ^ n)) / 2 = M + 2 ^ n by omega, qx_up li.1] at ev
        rw [ev] at sm
        refine alg_lower (b := 2) (e := offq (n + 1)) (Or.inr rfl) h0 h1 (y1 := y * y / 4611686018427387904 / 2) (by omega) (fun _ => by omega) (by omega) ih.1 ?_ o.1 o.2
        have e1 : 2 * ((4611686018427387904 + offq (n + 1)) * qx n M) = 4611686018427387904 * (2 * qx n M) + offq (n + 1) * (2 * qx n M) := by grind
        omega
      · have sm := (sum (M + 2 ^ n + 1) (M + 2 ^ n + 1) (by omega) (by omega)).1
        have ev := qx_even (n := n) (J := M + 2 ^ n + 1 + (M + 2 ^ n + 1)) (by omega)
        rw [show (M + 2 ^ n + 1 + (M + 2 ^ n + 1)) / 2 = M + 1 + 2 ^ n by omega, qx_up (show 0 ≤ M + 1 by omega)] at ev
        rw [ev] at sm
        have tp := qx_top (n := n) (by omega) (J := M + 1) (by omega) (by omega)
        have lo := qx_low n (by omega) (M + 1)
        refine alg_upper (b := 2) (S := qx n (M + 1)) (e := offq (n + 1)) (Q2 := 2 * qx n (M + 1)) (Or.inr rfl) h0 (y1 := y * y / 4611686018427387904 / 2) (by omega) ih.2 rfl (by omega) (qx_low (n + 1) hn (M + 2 ^ n + 1)) (by omega) (fun _ => by omega) o.1 o.2 (by omega)
theorem lg_in {x : Int} (h0 : 1 ≤ x) (h1 : x ≤ 2147483648) : Nat.log2 x.toNat ≤ 31 ∧ (2 : Int) ^ Nat.log2 x.toNat ≤ x ∧ x < 2 * 2 ^ Nat.log2 x.toNat := by
  have h : x.toNat ≠ 0 := by omega
  have a := Nat.log2_self_le h
  have b := @Nat.lt_log2_self x.toNat
  have e : ((2 ^ Nat.log2 x.toNat : Nat) : Int) = (2 : Int) ^ Nat.log2 x.toNat := by simp
  rw [Nat.pow_succ] at b
  have l : Nat.log2 x.toNat < 32 := (Nat.log2_lt h).2 (by omega)
  omega
/-- what a long log tells of its number. -/
structure LogOf (x w o H : Int) : Prop where
  w0 : -16 ≤ w
  w1 : w ≤ 15
  hH : H = 2 ^ (45 - w).toNat
  y0 : 4611686018427387904 ≤ x * (2 * H)
  y1 : x * (2 * H) < 9223372036854775808
  o0 : 0 ≤ o
  o1 : o < 4294967296
  l : longF x / 256 = w * 4294967296 + o
  lo : qx 32 o ≤ x * (2 * H) + 20000
  hi : x * (2 * H) ≤ qx 32 (o + 1) + 20000
theorem log_of {x : Int} (h0 : 1 ≤ x) (h1 : x ≤ 2147483648) : ∃ w o H, LogOf x w o H ∧ w = (Nat.log2 x.toNat : Int) - 16 ∧ longF x = w * 1099511627776 + (ll (y0F x) 40).2 ∧ 0 ≤ (ll (y0F x) 40).2 ∧ (ll (y0F x) 40).2 < 1099511627776 ∧ y0F x = x * (2 * H) := by
  obtain ⟨k31, p0, p1⟩ := lg_in h0 h1
  have hy : y0F x = x * (2 * 2 ^ (45 - ((Nat.log2 x.toNat : Int) - 16)).toNat) := by
    unfold y0F
    have : (45 - ((Nat.log2 x.toNat : Int) - 16)).toNat + 1 = 62 - Nat.log2 x.toNat := by omega
    rw [← this, Int.pow_succ]; grind
  have hp : (2 : Int) ^ Nat.log2 x.toNat * 2 ^ (62 - Nat.log2 x.toNat) = 4611686018427387904 := by
    rw [← Int.pow_add, Nat.add_sub_cancel' (by omega)]; rfl
  have hq := two_pos (62 - Nat.log2 x.toNat)
  have y0 : 4611686018427387904 ≤ y0F x := by
    unfold y0F
    have := Int.mul_le_mul_of_nonneg_right p0 (Int.le_of_lt hq)
    omega
  have y1 : y0F x < 9223372036854775808 := by
    unfold y0F
    have := Int.mul_lt_mul_of_pos_right p1 hq
    have e : 2 * 2 ^ Nat.log2 x.toNat * 2 ^ (62 - Nat.log2 x.toNat) = 2 * ((2 : Int) ^ Nat.log2 x.toNat * 2 ^ (62 - Nat.log2 x.toNat)) := by grind
    omega
  have l32 := (ll_in y0 y1 32).2
  have l40 := (ll_in y0 y1 40).2
  have hm := ll_more (y0F x) 32 8
  have ln := log_near 32 (Nat.le_refl _) (y0F x) y0 y1
  refine ⟨(Nat.log2 x.toNat : Int) - 16, (ll (y0F x) 32).2, 2 ^ (45 - ((Nat.log2 x.toNat : Int) - 16)).toNat, ⟨by omega, by omega, rfl, by rw [← hy]; exact y0, by rw [← hy]; exact y1, l32.1, l32.2, ?_, by rw [← hy]; exact ln.1, by rw [← hy]; exact ln.2⟩, rfl, rfl, l40.1, l40.2, hy⟩
  replace hm : (ll (y0F x) 40).2 / 256 = (ll (y0F x) 32).2 := hm
  unfold longF
  omega
theorem powF_clamp (e : Int) : powF (max (-1099511627776) (min 1099511627776 e)) = powF e := by
  rcases Int.lt_or_le e (-1099511627776) with h | h
  · rw [show max (-1099511627776) (min 1099511627776 e) = -1099511627776 by omega]
    unfold powF
    rw [if_neg (show ¬ 15 ≤ -1099511627776 / 4294967296 by omega), if_pos (show -1099511627776 / 4294967296 < -17 by omega), if_neg (show ¬ 15 ≤ e / 4294967296 by omega), if_pos (show e / 4294967296 < -17 by omega)]
  · rcases Int.lt_or_le 1099511627776 e with k | k
    · rw [show max (-1099511627776) (min 1099511627776 e) = 1099511627776 by omega]
      unfold powF
      rw [if_pos (show (15 : Int) ≤ 1099511627776 / 4294967296 by omega), if_pos (show 15 ≤ e / 4294967296 by omega)]
    · rw [show max (-1099511627776) (min 1099511627776 e) = e by omega]
/-- how far the next one is. -/
theorem gap {o : Int} (h0 : 0 ≤ o) : 4611686018427387904 * (qx 32 (o + 1) - qx 32 o) ≤ 744261278 * qx 32 o := by
  have h := (qx_step 32 (Nat.le_refl _) o h0).1
  have e : tt 32 = 4611686018427387904 + 744261117 := rfl
  rw [e] at h
  omega
theorem H_low {w H : Int} (h : H = 2 ^ (45 - w).toNat) {k : Nat} (hk : (k : Int) ≤ 45 - w) : (2 : Int) ^ k ≤ H := by
  rw [h]; exact pow_two_le (by omega)
theorem log_p2 : ∀ k : Fin 32, longF (2 ^ k.val) = ((k.val : Int) - 16) * 1099511627776 := by decide +kernel
theorem pow_p2 : ∀ k : Fin 31, powF (((k.val : Int) - 16) * 4294967296) = 2 ^ k.val := by decide +kernel
theorem eq_of_near {x y H : Int} (hH : 0 < H) (h1 : -(2 * H) < (y - x) * (2 * H)) (h2 : (y - x) * (2 * H) < 2 * H) : y = x := by
  have a : y - x < 1 := by
    apply Classical.byContradiction
    intro hc
    have := Int.mul_le_mul_of_nonneg_right (show 1 ≤ y - x by omega) (show 0 ≤ 2 * H by omega)
    omega
  have b : -1 < y - x := by
    apply Classical.byContradiction
    intro hc
    have := Int.mul_le_mul_of_nonneg_right (show y - x ≤ -1 by omega) (show 0 ≤ 2 * H by omega)
    omega
  omega
/-- a number to the power of 1. -/
theorem pow_one {x : Int} (h0 : 1 ≤ x) (h1 : x ≤ 2147483648) : powF (roundE x 65536) = x := by
  rcases Int.lt_or_eq_of_le h1 with hx | hx
  · obtain ⟨w, o, H, ⟨w0, w1, hH, y0, y1, o0, o1, l, lo, hi⟩, _⟩ := log_of h0 h1
    have he : roundE x 65536 = w * 4294967296 + o ∨ roundE x 65536 = w * 4294967296 + (o + 1) := by
      unfold roundE
      generalize longF x = L at *
      omega
    have w14 : w ≤ 14 := by
      apply Classical.byContradiction
      intro hc
      have : H = 1073741824 := by rw [hH, show (45 - w).toNat = 30 by omega]; rfl
      rw [this] at y0
      omega
    have h31 := H_low hH (k := 31) (by omega)
    have e31 : (2 : Int) ^ 31 = 2147483648 := rfl
    have g := gap o0
    have q1 := qx32_le o0 (by omega)
    have mono := qx_rise (Nat.le_refl 32) o0
    have fin : ∀ o' : Int, 0 ≤ o' → o' ≤ 4294967296 → qx 32 o ≤ qx 32 o' → qx 32 o' ≤ qx 32 (o + 1) → powF (w * 4294967296 + o') = x := by
      intro o' a1 a2 a3 a4
      have pn := pow_near (v := w) a1 (by omega)
      rw [← hH] at pn
      refine eq_of_near (H := H) (by omega) ?_ ?_ <;> rw [Int.sub_mul] <;> omega
    rcases he with he | he <;> rw [he]
    · exact fin o o0 (by omega) (Int.le_refl _) mono
    · exact fin (o + 1) (by omega) (by omega) mono (Int.le_refl _)
  · subst hx
    have e := log_p2 31
    replace e : longF 2147483648 = (((31 : Nat) : Int) - 16) * 1099511627776 := e
    unfold roundE
    rw [e]
    decide
theorem roundE_two (n : Int) : roundE 131072 n = n * 65536 := by
  have e := log_p2 17
  replace e : longF 131072 = (((17 : Nat) : Int) - 16) * 1099511627776 := e
  unfold roundE
  rw [e]
  omega
theorem roundE_one (n : Int) : roundE 65536 n = 0 := by
  have e := log_p2 16
  replace e : longF 65536 = (((16 : Nat) : Int) - 16) * 1099511627776 := e
  unfold roundE
  rw [e]
  omega
theorem lg_mono {x y : Int} (h0 : 1 ≤ x) (h : x ≤ y) : Nat.log2 x.toNat ≤ Nat.log2 y.toNat := by
  have a := Nat.log2_self_le (show x.toNat ≠ 0 by omega)
  exact (Nat.le_log2 (by omega)).2 (Nat.le_trans a (by omega))
theorem long_mono {x y : Int} (h0 : 1 ≤ x) (h : x ≤ y) (h1 : y ≤ 2147483648) : longF x ≤ longF y := by
  obtain ⟨w, o, H, l, hw, e, b0, b1, hy⟩ := log_of h0 (by omega)
  obtain ⟨w', o', H', l', hw', e', b0', b1', hy'⟩ := log_of (x := y) (by omega) h1
  have m := lg_mono h0 h
  rcases Nat.lt_or_eq_of_le m with z | z
  · omega
  · have ew : w = w' := by omega
    have eH : H = H' := by rw [l.hH, l'.hH, ew]
    have hp : 0 < H := by rw [l.hH]; exact two_pos _
    have hyy : y0F x ≤ y0F y := by
      rw [hy, hy', ← eH]
      exact Int.mul_le_mul_of_nonneg_right h (by omega)
    have := ll_mono (y := y0F x) (z := y0F y) (by rw [hy]; have := l.y0; omega) hyy 40
    omega
theorem lg_double {x : Int} (h0 : 1 ≤ x) : Nat.log2 (2 * x).toNat = Nat.log2 x.toNat + 1 := by
  have h : x.toNat ≠ 0 := by omega
  have e : (2 * x).toNat = 2 * x.toNat := by omega
  rw [e]
  have a := Nat.log2_self_le h
  have b := @Nat.lt_log2_self x.toNat
  refine (Nat.log2_eq_iff (by omega)).2 ⟨?_, ?_⟩
  · rw [Nat.pow_succ]; omega
  · rw [Nat.pow_succ]; omega
theorem long_double {x : Int} (h0 : 1 ≤ x) (h1 : x ≤ 1073741824) : longF (2 * x) = longF x + 1099511627776 := by
  have k := (lg_in h0 (by omega)).1
  have k2 := (lg_in (x := 2 * x) (by omega) (by omega)).1
  have e := lg_double h0
  have ey : y0F (2 * x) = y0F x := by
    unfold y0F
    rw [e]
    have : 62 - Nat.log2 x.toNat = (62 - (Nat.log2 x.toNat + 1)) + 1 := by omega
    rw [this, Int.pow_succ]; grind
  unfold longF
  rw [ey, e]
  omega
theorem near24_mono {a b : Int} (h : a ≤ b) : near24 a ≤ near24 b := by unfold near24; omega
theorem round_mono {x y n : Int} (h0 : 1 ≤ x) (h : x ≤ y) (h1 : y ≤ 2147483648) : (0 ≤ n → roundE x n ≤ roundE y n) ∧ (n ≤ 0 → roundE y n ≤ roundE x n) := by
  have l := long_mono h0 h h1
  unfold roundE
  constructor
  · intro hn
    have := Int.mul_le_mul_of_nonneg_right l hn
    omega
  · intro hn
    have := Int.mul_le_mul_of_nonpos_right l hn
    omega
theorem R_1 : qx 32 32768 = 4611710406440186475 := by decide +kernel
theorem R_2 : qx 32 32769 = 4611710407184451527 := by decide +kernel
theorem R_3 : qx 32 98304 = 4611759182852698216 := by decide +kernel
theorem offq32 : offq 32 = 2800 := by decide +kernel
theorem H_next {w H : Int} (hw : w ≤ 45) (h : H = 2 ^ (45 - w).toNat) : (2 : Int) ^ (45 - (w - 1)).toNat = 2 * H := by
  rw [h, show (45 - (w - 1)).toNat = (45 - w).toNat + 1 by omega, Int.pow_succ]; omega
/-- 2 to the power of a number's log. -/
theorem back_exp {x : Int} (h0 : 1 ≤ x) (h1 : x ≤ 2147483647) : -(6 * x + 589824) ≤ 1048576 * (powF (near24 (longF x) * 65536) - x) ∧ 1048576 * (powF (near24 (longF x) * 65536) - x) ≤ 6 * x + 589824 := by
  obtain ⟨w, o, H, ⟨w0, w1, hH, y0, y1, o0, o1, l, lo, hi⟩, _, hL, b0, b1, _⟩ := log_of h0 (by omega)
  have w14 : w ≤ 14 := by
    apply Classical.byContradiction
    intro hc
    have : H = 1073741824 := by rw [hH, show (45 - w).toNat = 30 by omega]; rfl
    rw [this] at y0
    omega
  have h31 := H_low hH (k := 31) (by omega)
  have e31 : (2 : Int) ^ 31 = 2147483648 := rfl
  have hn := H_next (by omega) hH
  have hD : ∃ D, near24 (longF x) * 65536 = (w - 1) * 4294967296 + (o + 4294967296 + D) ∧ -32768 ≤ D ∧ D ≤ 32768 := by
    refine ⟨near24 (longF x) * 65536 - ((w - 1) * 4294967296 + (o + 4294967296)), by omega, ?_⟩
    unfold near24
    generalize longF x = L at *
    omega
  obtain ⟨D, hD, d0, d1⟩ := hD
  have htop : near24 (longF x) ≤ 983040 := by
    unfold near24
    generalize longF x = L at *
    omega
  rw [hD]
  have pn := pow_near (v := w - 1) (o := o + 4294967296 + D) (by omega) (by rw [← hD]; omega)
  rw [hn] at pn
  -- above
  have s1 := (qx_sum 32 (Nat.le_refl _) (o + 4294967296) 32768 (by omega) (by omega)).1
  rw [R_1, offq32, qx32_up o0] at s1
  have m1 := qx_mono (Nat.le_refl 32) (J := o + 4294967296 + D) (K := o + 4294967296 + 32768) (by omega) (by omega)
  -- below
  have s2 := (qx_sum 32 (Nat.le_refl _) (o + 1 + 4294967296 - 32769) 32769 (by omega) (by omega)).1
  rw [show o + 1 + 4294967296 - 32769 + 32769 = o + 1 + 4294967296 by omega, R_2, offq32, qx32_up (show 0 ≤ o + 1 by omega)] at s2
  have m2 := qx_mono (Nat.le_refl 32) (J := o + 1 + 4294967296 - 32769) (K := o + 4294967296 + D) (by omega) (by omega)
  generalize powF ((w - 1) * 4294967296 + (o + 4294967296 + D)) = y at *
  generalize qx 32 (o + 4294967296 + D) = S at *
  generalize qx 32 (o + 4294967296 + 32768) = S1 at *
  generalize qx 32 (o + 1 + 4294967296 - 32769) = S2 at *
  generalize qx 32 (o + 1) = q1 at *
  generalize qx 32 o = q0 at *
  have ey : y * (2 * (2 * H)) = 2 * (y * (2 * H)) := by grind
  rw [ey] at pn
  have k1 : -((6 * x + 589824) * (2 * H)) ≤ 1048576 * (y - x) * (2 * H) ∧ 1048576 * (y - x) * (2 * H) ≤ (6 * x + 589824) * (2 * H) := by
    have a1 : (6 * x + 589824) * (2 * H) = 6 * (x * (2 * H)) + 1179648 * H := by grind
    have a2 : 1048576 * (y - x) * (2 * H) = 1048576 * (y * (2 * H) - x * (2 * H)) := by grind
    rw [a1, a2]
    generalize y * (2 * H) = Y at *
    generalize x * (2 * H) = X at *
    omega
  constructor
  · refine Int.le_of_mul_le_mul_right (a := 2 * H) ?_ (by omega)
    rw [Int.neg_mul]; exact k1.1
  · exact Int.le_of_mul_le_mul_right (a := 2 * H) k1.2 (by omega)
theorem qx_times {d o : Int} (hd : 0 ≤ d) (ho : 0 ≤ o) : qx 32 (o + d * 4294967296) = 2 ^ d.toNat * qx 32 o := by
  obtain ⟨k, rfl⟩ := Int.eq_ofNat_of_zero_le hd
  induction k with
  | zero => simp
  | succ k ih =>
    have := ih (by omega)
    rw [show o + ((k + 1 : Nat) : Int) * 4294967296 = o + (k : Int) * 4294967296 + 4294967296 by omega, qx32_up (by omega), this]
    rw [show (((k + 1 : Nat) : Int)).toNat = k + 1 by omega, show ((k : Nat) : Int).toNat = k by omega, Int.pow_succ]
    grind
theorem H_times {w v H G : Int} (hw : H = 2 ^ (45 - w).toNat) (hv : G = 2 ^ (45 - v).toNat) (h : v ≤ w) (h' : w ≤ 45) : G = 2 ^ (w - v).toNat * H := by
  rw [hw, hv, ← Int.pow_add]
  congr 1
  omega
/-- the log of 2 to the power of a number. -/
theorem back_log {x y : Int} (h0 : 0 ≤ x) (hy : y = powF (x * 65536)) (h1 : y ≤ 2147483646) : 1 ≤ y ∧ x - 1 ≤ near24 (longF y) ∧ near24 (longF y) ≤ x + 1 := by
  have yl : 65536 ≤ y := by
    have := powF_mono (show (0 : Int) ≤ x * 65536 by omega)
    have e : powF 0 = 65536 := by decide +kernel
    omega
  have hx : x * 65536 / 4294967296 < 15 := by
    apply Classical.byContradiction
    intro hc
    have : powF (x * 65536) = 2147483648 := by
      unfold powF
      rw [if_pos (by omega)]
    omega
  obtain ⟨w, hw⟩ : ∃ w, w = x / 65536 := ⟨_, rfl⟩
  obtain ⟨f, hf⟩ : ∃ f, f = x % 65536 * 65536 := ⟨_, rfl⟩
  have he : x * 65536 = w * 4294967296 + f := by omega
  have pn := pow_near (v := w) (o := f) (by omega) (by omega)
  rw [← he, ← hy] at pn
  obtain ⟨Hx, hHx⟩ : ∃ Hx : Int, Hx = 2 ^ (45 - w).toNat := ⟨_, rfl⟩
  rw [← hHx] at pn
  obtain ⟨w', o', H', ⟨w0, w1, hH, y0, y1, o0, o1, l, lo, hi⟩, _⟩ := log_of (x := y) (by omega) (by omega)
  have hx0 := two_pos (45 - w).toNat
  rw [← hHx] at hx0
  have hp0 := two_pos (45 - w').toNat
  rw [← hH] at hp0
  have h30 := H_low hH (k := 30) (by omega)
  have e30 : (2 : Int) ^ 30 = 1073741824 := rfl
  have hx45 : Hx ≤ 35184372088832 := by
    rw [hHx]
    have := pow_two_le (a := (45 - w).toNat) (b := 45) (by omega)
    have e : (2 : Int) ^ 45 = 35184372088832 := rfl
    omega
  have hq := qx32_le (J := f) (by omega) (by omega)
  have lowY := Int.mul_le_mul_of_nonneg_right yl (show 0 ≤ 2 * H' by omega)
  have key1 : w * 4294967296 + f - 98304 ≤ w' * 4294967296 + o' := by
    apply Classical.byContradiction
    intro hc
    have hd : 0 ≤ w - w' := by omega
    have eF := qx_times hd (show 0 ≤ f by omega)
    have eH := H_times hHx hH (show w' ≤ w by omega) (by omega)
    have s := (qx_sum 32 (Nat.le_refl _) (f + (w - w') * 4294967296 - 98304) 98304 (by omega) (by omega)).2
    rw [show f + (w - w') * 4294967296 - 98304 + 98304 = f + (w - w') * 4294967296 by omega, R_3, offq32] at s
    have m := qx_mono (Nat.le_refl 32) (J := o' + 1) (K := f + (w - w') * 4294967296 - 98304) (by omega) (by omega)
    have hd2 := two_pos (w - w').toNat
    generalize (2 : Int) ^ (w - w').toNat = c at *
    have p1 := Int.mul_le_mul_of_nonneg_left pn.1 (show 0 ≤ c by omega)
    have a1 : c * (y * (2 * Hx) - qx 32 f) = y * (2 * H') - qx 32 (f + (w - w') * 4294967296) := by rw [eF, eH]; grind
    have a2 : c * -Hx = -H' := by rw [eH]; grind
    rw [a1, a2] at p1
    generalize qx 32 (f + (w - w') * 4294967296 - 98304) = S3 at *
    generalize qx 32 (f + (w - w') * 4294967296) = F at *
    generalize qx 32 (o' + 1) = q1 at *
    generalize y * (2 * H') = Y at *
    omega
  have key2 : w' * 4294967296 + o' < w * 4294967296 + f + 98304 := by
    apply Classical.byContradiction
    intro hc
    have hd : 0 ≤ w' - w := by omega
    have eF := qx_times hd o0
    have eH := H_times hH hHx (show w ≤ w' by omega) (by omega)
    have s := (qx_sum 32 (Nat.le_refl _) f 98304 (by omega) (by omega)).2
    rw [R_3, offq32] at s
    have m := qx_mono (Nat.le_refl 32) (J := f + 98304) (K := o' + (w' - w) * 4294967296) (by omega) (by omega)
    have hd2 := two_pos (w' - w).toNat
    have hd3 : (2 : Int) ^ (w' - w).toNat ≤ 32768 := by
      have := pow_two_le (a := (w' - w).toNat) (b := 15) (by omega)
      have e : (2 : Int) ^ 15 = 32768 := rfl
      omega
    generalize (2 : Int) ^ (w' - w).toNat = c at *
    have p1 := Int.mul_le_mul_of_nonneg_left lo (show 0 ≤ c by omega)
    have a1 : c * (y * (2 * H') + 20000) = y * (2 * Hx) + 20000 * c := by rw [eH]; grind
    rw [← eF, a1] at p1
    generalize qx 32 (o' + (w' - w) * 4294967296) = S3 at *
    generalize qx 32 (f + 98304) = S4 at *
    generalize y * (2 * Hx) = Y at *
    omega
  refine ⟨by omega, ?_, ?_⟩
  · unfold near24
    generalize longF y = L at *
    omega
  · unfold near24
    generalize longF y = L at *
    omega
theorem exp_sum {a b : Int} (ha : a < 983040) (hb : b < 983040) (hs : a + b < 983040) :
    -(9 * (65536 + powF (a * 65536) + powF (b * 65536)) + 16) ≤ 16 * (powF ((a + b) * 65536) * 65536 - powF (a * 65536) * powF (b * 65536)) ∧ 16 * (powF ((a + b) * 65536) * 65536 - powF (a * 65536) * powF (b * 65536)) ≤ 9 * (65536 + powF (a * 65536) + powF (b * 65536)) + 16 := by
  obtain ⟨w, hw⟩ : ∃ w, w = a / 65536 := ⟨_, rfl⟩
  obtain ⟨f, hf⟩ : ∃ f, f = a % 65536 * 65536 := ⟨_, rfl⟩
  obtain ⟨v, hv⟩ : ∃ v, v = b / 65536 := ⟨_, rfl⟩
  obtain ⟨g, hg⟩ : ∃ g, g = b % 65536 * 65536 := ⟨_, rfl⟩
  have ea : a * 65536 = w * 4294967296 + f := by omega
  have eb : b * 65536 = v * 4294967296 + g := by omega
  have es : (a + b) * 65536 = (w + v) * 4294967296 + (f + g) := by omega
  have pa := pow_near (v := w) (o := f) (by omega) (by omega)
  have pb := pow_near (v := v) (o := g) (by omega) (by omega)
  have ps := pow_near (v := w + v) (o := f + g) (by omega) (by omega)
  rw [← ea] at pa
  rw [← eb] at pb
  rw [← es] at ps
  have qa := qx32_le (J := f) (by omega) (by omega)
  have qb := qx32_le (J := g) (by omega) (by omega)
  have sm := qx_sum 32 (Nat.le_refl _) f g (by omega) (by omega)
  rw [offq32] at sm
  have qs : qx 32 (f + g) ≤ 4 * 4611686018427387904 := by
    have m := qx_mono (Nat.le_refl 32) (J := f + g) (K := 4294967296 + 4294967296) (by omega) (by omega)
    have e := qx32_up (J := 4294967296) (by omega)
    have := (qx32_le (J := 4294967296) (by omega) (by omega)).2
    omega
  have qs0 := qx_low 32 (Nat.le_refl _) (f + g)
  have na := (powF_in (a * 65536)).1
  have nb := (powF_in (b * 65536)).1
  -- the scales
  have hA := two_pos (45 - w).toNat
  have hB := two_pos (45 - v).toNat
  have hS : (2 : Int) ^ (45 - w).toNat * 2 ^ (45 - v).toNat = 35184372088832 * 2 ^ (45 - (w + v)).toNat := by
    have e : (2 : Int) ^ 45 = 35184372088832 := rfl
    rw [← e, ← Int.pow_add, ← Int.pow_add]
    congr 1
    omega
  have hS31 : (2147483648 : Int) ≤ 2 ^ (45 - (w + v)).toNat := by
    have := pow_two_le (a := 31) (b := (45 - (w + v)).toNat) (by omega)
    have e' : (2 : Int) ^ 31 = 2147483648 := rfl
    omega
  generalize powF (a * 65536) = x at *
  generalize powF (b * 65536) = y at *
  generalize powF ((a + b) * 65536) = z at *
  generalize qx 32 f = P at *
  generalize qx 32 g = Q at *
  generalize qx 32 (f + g) = R at *
  generalize (2 : Int) ^ (45 - w).toNat = A at *
  generalize (2 : Int) ^ (45 - v).toNat = B at *
  generalize (2 : Int) ^ (45 - (w + v)).toNat = S at *
  -- what both miss together
  have k1 := Int.mul_le_mul_of_nonneg_right pa.1 (show 0 ≤ y * (2 * B) from Int.mul_nonneg nb (by omega))
  have k2 := Int.mul_le_mul_of_nonneg_right pa.2 (show 0 ≤ y * (2 * B) from Int.mul_nonneg nb (by omega))
  have k3 := Int.mul_le_mul_of_nonneg_right pb.1 (show 0 ≤ P by omega)
  have k4 := Int.mul_le_mul_of_nonneg_right pb.2 (show 0 ≤ P by omega)
  have k5 := Int.mul_le_mul_of_nonneg_right (show P ≤ x * (2 * A) + A by omega) (show 0 ≤ B by omega)
  have e1 : (x * (2 * A) - P) * (y * (2 * B)) = (x * y) * (4 * (A * B)) - P * (y * (2 * B)) := by grind
  have e2 : (y * (2 * B) - Q) * P = P * (y * (2 * B)) - P * Q := by grind
  have e3 : A * (y * (2 * B)) = y * (2 * (A * B)) := by grind
  have e4 : B * P = P * B := Int.mul_comm _ _
  have e5 : (x * (2 * A) + A) * B = x * (2 * (A * B)) + A * B := by grind
  have e6 : -A * (y * (2 * B)) = -(y * (2 * (A * B))) := by rw [Int.neg_mul, e3]
  have e7 : -B * P = -(P * B) := by rw [Int.neg_mul, e4]
  rw [e1, e6] at k1
  rw [e1, e3] at k2
  rw [e2, e7] at k3
  rw [e2, e4] at k4
  rw [e5] at k5
  have hAB : 0 < A * B := Int.mul_pos hA hB
  have n1 := Int.mul_nonneg na (show 0 ≤ 2 * (A * B) by omega)
  have n2 := Int.mul_nonneg nb (show 0 ≤ 2 * (A * B) by omega)
  -- all by 4 A B
  have key : ∀ t : Int, t = 16 * (z * 65536 - x * y) * (4 * (A * B)) → -((9 * (65536 + x + y) + 16) * (4 * (A * B))) ≤ t ∧ t ≤ (9 * (65536 + x + y) + 16) * (4 * (A * B)) := by
    intro t ht
    have a1 : 16 * (z * 65536 - x * y) * (4 * (A * B)) = 16 * (65536 * (z * (4 * (A * B))) - (x * y) * (4 * (A * B))) := by grind
    have a2 : (9 * (65536 + x + y) + 16) * (4 * (A * B)) = 2359360 * (A * B) + 18 * (x * (2 * (A * B))) + 18 * (y * (2 * (A * B))) := by grind
    have a3 : z * (4 * (A * B)) = 70368744177664 * (z * (2 * S)) := by rw [hS]; grind
    rw [a1, a3] at ht
    rw [a2]
    generalize P * (y * (2 * B)) = g1 at *
    generalize x * y * (4 * (A * B)) = g2 at *
    generalize P * Q = g3 at *
    generalize P * B = g4 at *
    generalize x * (2 * (A * B)) = g5 at *
    generalize y * (2 * (A * B)) = g6 at *
    generalize z * (2 * S) = g7 at *
    generalize A * B = g8 at *
    clear a1 a2 a3 e1 e2 e3 e4 e5 e6 e7 qa qb pa pb
    omega
  have kk := key _ rfl
  constructor
  · refine Int.le_of_mul_le_mul_right (a := 4 * (A * B)) ?_ (by omega)
    rw [Int.neg_mul]; exact kk.1
  · exact Int.le_of_mul_le_mul_right (a := 4 * (A * B)) kk.2 (by omega)
/-- one more doubles. -/
theorem exp_next {a : Int} (ha : a < 917504) : -1 ≤ powF ((a + 65536) * 65536) - 2 * powF (a * 65536) ∧ powF ((a + 65536) * 65536) - 2 * powF (a * 65536) ≤ 1 := by
  obtain ⟨w, hw⟩ : ∃ w, w = a / 65536 := ⟨_, rfl⟩
  obtain ⟨f, hf⟩ : ∃ f, f = a % 65536 * 65536 := ⟨_, rfl⟩
  have ea : a * 65536 = w * 4294967296 + f := by omega
  have eb : (a + 65536) * 65536 = (w + 1) * 4294967296 + f := by omega
  have pa := pow_near (v := w) (o := f) (by omega) (by omega)
  have pb := pow_near (v := w + 1) (o := f) (by omega) (by omega)
  rw [← ea] at pa
  rw [← eb] at pb
  have hn := H_next (w := w + 1) (H := 2 ^ (45 - (w + 1)).toNat) (by omega) rfl
  rw [show w + 1 - 1 = w by omega] at hn
  rw [hn] at pa
  have hA := two_pos (45 - (w + 1)).toNat
  generalize (2 : Int) ^ (45 - (w + 1)).toNat = A at *
  generalize powF (a * 65536) = x at *
  generalize powF ((a + 65536) * 65536) = y at *
  generalize qx 32 f = P at *
  have e1 : x * (2 * (2 * A)) = 2 * x * (2 * A) := by grind
  have e2 : (y - 2 * x) * (2 * A) = y * (2 * A) - 2 * x * (2 * A) := by grind
  rw [e1] at pa
  have k1 : (y - 2 * x) * (2 * A) ≤ 3 * A := by omega
  have k2 : -(3 * A) ≤ (y - 2 * x) * (2 * A) := by omega
  constructor
  · apply Classical.byContradiction
    intro hc
    have := Int.mul_le_mul_of_nonneg_right (show y - 2 * x ≤ -2 by omega) (show 0 ≤ 2 * A by omega)
    omega
  · apply Classical.byContradiction
    intro hc
    have := Int.mul_le_mul_of_nonneg_right (show 2 ≤ y - 2 * x by omega) (show 0 ≤ 2 * A by omega)
    omega
theorem gap2 {o : Int} (h0 : 0 ≤ o) : 4611686018427387904 * (qx 32 (o + 2) - qx 32 o) ≤ 2 * (744261278 * qx 32 (o + 2)) := by
  have g1 := gap h0
  have g2 := gap (o := o + 1) (by omega)
  rw [show o + 1 + 1 = o + 2 by omega] at g2
  have m1 := qx_rise (Nat.le_refl 32) h0
  have m2 := qx_rise (Nat.le_refl 32) (J := o + 1) (by omega)
  rw [show o + 1 + 1 = o + 2 by omega] at m2
  omega

end Go.Proofs.YtogcbmadcgjljaaDoor.Sx
