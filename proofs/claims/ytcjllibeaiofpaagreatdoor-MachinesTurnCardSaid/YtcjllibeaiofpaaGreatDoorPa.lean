/-
  Plain laws of powers.
-/
import Derived.Test.YtcjllibeaiofpaaGreatDoorRq
import Derived.Test.YtcjllibeaiofpaaGreatDoorRxh
set_option linter.all false
set_option maxRecDepth 100000
namespace Go.Proofs.YtcjllibeaiofpaaGreatDoor.Sx
open Go Go.RowKit
theorem root_valP {h l x e : Int} (H L C : Int) (hp : (h < 0 -> x = 0 /\ e = 1) /\ (0 <= h -> e = 0 /\ isRoot (w128 h l) x)) (eh : h = H) (el : l = L) (hH : 0 <= H) (h1 : C * C <= H * 18446744073709551616 + L) (h2 : H * 18446744073709551616 + L < (C + 1) * (C + 1)) (x0 : 0 <= x) (c0 : 0 <= C) : x = C := by
 subst eh el
 exact root_uniq (hp.2 hH).2 ⟨h1, h2⟩ x0 c0
def okP (X R : Int) : Bool := decide (0 <= X) && decide (X <= 18446744073709551615) && decide (R * R <= X * 4611686018427387904) && decide (X * 4611686018427387904 < (R + 1) * (R + 1)) && decide (0 <= R)
theorem pmadeT_of {X : Int} {K : Int -> Prop} (R : Int) (h : okP X R = true) (k : K R) : pmadeT X K := by
 simp only [okP, Bool.and_eq_true, decide_eq_true_eq] at h
 obtain ⟨⟨⟨⟨h1, h2⟩, h3⟩, h4⟩, h5⟩ := h
 have e : X * 4611686018427387904 = X / 4 * 18446744073709551616 + X % 4 * 4611686018427387904 := by omega
 rw [e] at h3 h4
 unfold pmadeT
 intro m2 e2 l2 u2 m3 e3 l3 u3
 have v3 : m3 = X % 4 * 4611686018427387904 := by rw [e3, wrap_u64]; omega
 refine ⟨trivial, ?_⟩
 intro m4 l4 u4 m5 l5 u5 g
 replace g : ((m2 < 0 -> m4 = 0 /\ m5 = 1) /\ (0 <= m2 -> m5 = 0 /\ isRoot (w128 m2 m3) m4)) := g
 have v4 : m4 = R := root_valP (X / 4) (X % 4 * 4611686018427387904) R g e2 v3 (by omega) h3 h4 l4 h5
 subst v4
 exact k
theorem pmadeE_of {x : Int} {K : Int -> Prop} (k : ∀ b, K b) : pmadeE x x K := ⟨Int.le_refl _, Int.le_refl _, fun b _ _ _ => k b⟩
theorem p_pmade : P_pmade := by
 unfold P_pmade
 intro hpre b b1
 refine ⟨trivial, ?_⟩
 intro n l_n u_n n1 l_n1 u_n1 h
 replace h : (((2305843009213693952 : Int) < 0 -> n = 0 /\ n1 = 1) /\ (0 <= (2305843009213693952 : Int) -> n1 = 0 /\ isRoot (w128 (2305843009213693952 : Int) (0 : Int)) n)) := h
 have v_n : n = 6521908912666391106 := root_valP 2305843009213693952 0 6521908912666391106 h rfl rfl (by decide) (by decide) (by decide) l_n (by decide)
 subst v_n
 refine pmadeT_of 5484249825272419511 (by decide +kernel) ?_
 refine pmadeT_of 5029079263719320435 (by decide +kernel) ?_
 refine pmadeT_of 4815862801830788490 (by decide +kernel) ?_
 refine pmadeT_of 4712668792719003883 (by decide +kernel) ?_
 refine pmadeT_of 4661903986662671289 (by decide +kernel) ?_
 refine pmadeT_of 4636727017470743989 (by decide +kernel) ?_
 refine pmadeT_of 4624189567668517719 (by decide +kernel) ?_
 refine pmadeT_of 4617933561212708775 (by decide +kernel) ?_
 refine pmadeT_of 4614808732577250067 (by decide +kernel) ?_
 refine pmadeT_of 4613247111281068007 (by decide +kernel) ?_
 refine pmadeT_of 4612466498810092973 (by decide +kernel) ?_
 refine pmadeT_of 4612076242109103706 (by decide +kernel) ?_
 refine pmadeT_of 4611881126141011235 (by decide +kernel) ?_
 refine pmadeT_of 4611783571252412753 (by decide +kernel) ?_
 refine pmadeT_of 4611734794581956352 (by decide +kernel) ?_
 refine pmadeT_of 4611710406440186475 (by decide +kernel) ?_
 refine pmadeT_of 4611698212417665818 (by decide +kernel) ?_
 refine pmadeT_of 4611692115418496523 (by decide +kernel) ?_
 refine pmadeT_of 4611689066921934629 (by decide +kernel) ?_
 refine pmadeT_of 4611687542674409370 (by decide +kernel) ?_
 refine pmadeT_of 4611686780550835663 (by decide +kernel) ?_
 refine pmadeT_of 4611686399489096040 (by decide +kernel) ?_
 refine pmadeT_of 4611686208958238036 (by decide +kernel) ?_
 refine pmadeT_of 4611686113692811986 (by decide +kernel) ?_
 refine pmadeT_of 4611686066060099699 (by decide +kernel) ?_
 refine pmadeT_of 4611686042243743740 (by decide +kernel) ?_
 refine pmadeT_of 4611686030335565806 (by decide +kernel) ?_
 refine pmadeT_of 4611686024381476851 (by decide +kernel) ?_
 refine pmadeT_of 4611686021404432376 (by decide +kernel) ?_
 refine pmadeT_of 4611686019915910139 (by decide +kernel) ?_
 refine pmadeT_of 4611686019171649021 (by decide +kernel) ?_
 iterate 32 refine pmadeE_of fun _ => ?_
 trivial
theorem tt_sq : ∀ i : Fin 32, tt (i + 1) * tt (i + 1) <= 4611686018427387904 * tt i /\ 4611686018427387904 * tt i <= tt (i + 1) * tt (i + 1) + 3 * 4611686018427387904 := by decide +kernel
theorem tt_in : ∀ i : Fin 33, 4611686018427387904 + 744261110 <= tt i /\ tt i <= 9223372036854775808 /\ (1 <= i.val -> tt i <= 6521908912666391106) := by decide +kernel
theorem tt0 : tt 0 = 9223372036854775808 := rfl
def qx (n : Nat) (J : Int) : Int := 2 ^ (J / 2 ^ n).toNat * qn n (J % 2 ^ n)
theorem two_pos (n : Nat) : (0 : Int) < 2 ^ n := Int.pow_pos (by decide)
theorem qn_zero : ∀ n, qn n 0 = 4611686018427387904
 | 0 => rfl
 | n + 1 => by
  show (if (0 : Int) % 2 = 1 then _ else qn n (0 / 2)) = _
  rw [if_neg (by omega)]; exact qn_zero n
theorem qn_low : ∀ (n : Nat), n <= 32 -> ∀ k, 4611686018427387904 <= qn n k
 | 0, _, k => Int.le_refl _
 | n + 1, hn, k => by
  have ih := qn_low n (by omega) (k / 2)
  have e : qn (n + 1) k = if k % 2 = 1 then qn n (k / 2) * tt (n + 1) / 4611686018427387904 else qn n (k / 2) := rfl
  rw [e]
  split
  ·have t := (tt_in ⟨n + 1, by omega⟩).1
   simp only at t
   have := Int.mul_le_mul ih (show 4611686018427387904 <= tt (n + 1) by omega) (by omega) (by omega)
   rw [Int.le_ediv_iff_mul_le (by omega)]
   omega
  ·exact ih
theorem half_ix (n : Nat) (J : Int) : J / 2 ^ (n + 1) = (J / 2) / 2 ^ n /\ (J % 2 ^ (n + 1)) / 2 = (J / 2) % 2 ^ n /\ (J % 2 ^ (n + 1)) % 2 = J % 2 := by
 have hp : (0 : Int) < 2 ^ n := Int.pow_pos (by decide)
 rw [Int.pow_succ]
 generalize (2 : Int) ^ n = P at *
 have h1 := Int.mul_ediv_add_emod J (P * 2)
 have h2 := Int.emod_nonneg J (show P * 2 ≠ 0 by omega)
 have h3 := Int.emod_lt_of_pos J (show 0 < P * 2 by omega)
 generalize J / (P * 2) = q at *
 generalize J % (P * 2) = r at *
 have e : P * 2 * q = 2 * (P * q) := by grind
 have h4 : J / 2 = P * q + r / 2 := by omega
 have h5 : J % 2 = r % 2 := by omega
 have h6 : (J / 2) / P = q /\ (J / 2) % P = r / 2 := (Int.ediv_emod_unique hp).2 ⟨by omega, by omega, by omega⟩
 exact ⟨h6.1.symm, h6.2.symm, h5.symm⟩
theorem qx_even {n : Nat} {J : Int} (h : J % 2 = 0) : qx (n + 1) J = qx n (J / 2) := by
 obtain ⟨h1, h2, h3⟩ := half_ix n J
 unfold qx
 rw [h1]
 congr 1
 show (if (J % 2 ^ (n + 1)) % 2 = 1 then _ else _) = _
 rw [if_neg (by omega), h2]
theorem qx_odd {n : Nat} (hn : n <= 32) {J : Int} (h : J % 2 = 1) : ∃ r : Int, 0 <= r /\ r <= qx n (J / 2) /\ 4611686018427387904 * qx (n + 1) J = qx n (J / 2) * tt (n + 1) - r := by
 obtain ⟨h1, h2, h3⟩ := half_ix n J
 unfold qx
 rw [h1]
 have e : qn (n + 1) (J % 2 ^ (n + 1)) = qn n ((J / 2) % 2 ^ n) * tt (n + 1) / 4611686018427387904 := by
  show (if (J % 2 ^ (n + 1)) % 2 = 1 then _ else _) = _
  rw [if_pos (by omega), h2]
 rw [e]
 have hc := two_pos (J / 2 / 2 ^ n).toNat
 generalize (2 : Int) ^ (J / 2 / 2 ^ n).toNat = c at *
 have hl := qn_low n hn ((J / 2) % 2 ^ n)
 generalize qn n ((J / 2) % 2 ^ n) = p at *
 have d1 := Int.mul_ediv_add_emod (p * tt (n + 1)) 4611686018427387904
 have d2 := Int.emod_nonneg (p * tt (n + 1)) (show (4611686018427387904 : Int) ≠ 0 by omega)
 have d3 := Int.emod_lt_of_pos (p * tt (n + 1)) (show (0 : Int) < 4611686018427387904 by omega)
 generalize p * tt (n + 1) / 4611686018427387904 = q at *
 generalize hr : p * tt (n + 1) % 4611686018427387904 = r at *
 refine ⟨c * r, Int.mul_nonneg (by omega) d2, Int.mul_le_mul_of_nonneg_left (by omega) (by omega), ?_⟩
 have e2 : c * p * tt (n + 1) = c * (p * tt (n + 1)) := by grind
 rw [e2, <- d1]; grind
theorem qx_low (n : Nat) (hn : n <= 32) (J : Int) : 4611686018427387904 <= qx n J := by
 unfold qx
 have hc := two_pos (J / 2 ^ n).toNat
 have := Int.mul_le_mul (show 1 <= (2 : Int) ^ (J / 2 ^ n).toNat by omega) (qn_low n hn (J % 2 ^ n)) (by omega) (by omega)
 omega
theorem qx_lt {n : Nat} {J : Int} (h0 : 0 <= J) (h1 : J < 2 ^ n) : qx n J = qn n J := by
 unfold qx
 rw [Int.ediv_eq_zero_of_lt h0 h1, Int.emod_eq_of_lt h0 h1]
 simp
theorem qx_up {n : Nat} {J : Int} (h0 : 0 <= J) : qx n (J + 2 ^ n) = 2 * qx n J := by
 have hp := two_pos n
 unfold qx
 have e1 : (J + 2 ^ n) / 2 ^ n = J / 2 ^ n + 1 := by
  rw [Int.add_ediv_of_dvd_right (Int.dvd_refl _), Int.ediv_self (by omega)]
 have e2 : (J + 2 ^ n) % 2 ^ n = J % 2 ^ n := by simp
 rw [e1, e2]
 have := Int.ediv_nonneg h0 (Int.le_of_lt hp)
 rw [show (J / 2 ^ n + 1).toNat = (J / 2 ^ n).toNat + 1 by omega, Int.pow_succ]
 grind
theorem alg_q {Q Q1 Q' t tn r b : Int} (h1 : 4611686018427387904 * Q1 = Q * t - r) (r0 : 0 <= r) (r1 : r <= Q) (t0 : 4611686018427387904 + 1 <= t) (t1 : t <= 6521908912666391106) (s1 : t * t <= 4611686018427387904 * tn) (s2 : 4611686018427387904 * tn <= t * t + 3 * 4611686018427387904)
  (hQ : 4611686018427387904 <= Q) (hb : -(b * Q) <= Q * tn - 4611686018427387904 * Q' /\ Q * tn - 4611686018427387904 * Q' <= b * Q) (hb0 : 0 <= b) :
  -((b + 5) * Q1) <= Q1 * t - 4611686018427387904 * Q' /\ Q1 * t - 4611686018427387904 * Q' <= (b + 5) * Q1 := by
 have hq1 : Q <= Q1 := by
  have := Int.mul_le_mul_of_nonneg_left t0 (show 0 <= Q by omega)
  omega
 have e1 : 4611686018427387904 * (Q1 * t - 4611686018427387904 * Q') = 4611686018427387904 * (Q * tn - 4611686018427387904 * Q') - Q * (4611686018427387904 * tn - t * t) - r * t := by grind
 have m1 := Int.mul_nonneg (show 0 <= Q by omega) (show 0 <= 4611686018427387904 * tn - t * t by omega)
 have m2 := Int.mul_le_mul_of_nonneg_left (show 4611686018427387904 * tn - t * t <= 3 * 4611686018427387904 by omega) (show 0 <= Q by omega)
 have m3 := Int.mul_nonneg r0 (show 0 <= t by omega)
 have m4 := Int.mul_le_mul r1 t1 (by omega) (by omega)
 have m5 := Int.mul_le_mul_of_nonneg_left hq1 hb0
 have e2 : (b + 5) * Q1 = b * Q1 + 5 * Q1 := by grind
 rw [e2]
 generalize Q * (4611686018427387904 * tn - t * t) = z1 at *
 generalize r * t = z2 at *
 generalize Q1 * t - 4611686018427387904 * Q' = z3 at *
 generalize Q * tn - 4611686018427387904 * Q' = z4 at *
 generalize b * Q = z5 at *
 generalize b * Q1 = z6 at *
 omega
theorem qx_step : ∀ (n : Nat), n <= 32 -> ∀ J : Int, 0 <= J -> -((5 * n + 1 : Int) * qx n J) <= qx n J * tt n - 4611686018427387904 * qx n (J + 1) /\ qx n J * tt n - 4611686018427387904 * qx n (J + 1) <= (5 * n + 1 : Int) * qx n J
 | 0, _, J, h0 => by
  have e : ∀ J : Int, qx 0 J = 2 ^ J.toNat * 4611686018427387904 := by
   intro J
   unfold qx
   rw [show J / 2 ^ 0 = J by simp]; rfl
  rw [e, e, tt0, show (J + 1).toNat = J.toNat + 1 by omega, Int.pow_succ]
  have := two_pos J.toNat
  omega
 | n + 1, hn, J, h0 => by
  have hl := qx_low n (by omega) (J / 2)
  rcases Int.emod_two_eq J with h | h
  ·obtain ⟨r, r0, r1, h1⟩ := qx_odd (n := n) (by omega) (J := J + 1) (by omega)
   rw [show (J + 1) / 2 = J / 2 by omega] at r1 h1
   rw [qx_even h, h1]
   have e : (5 * ((n + 1 : Nat) : Int) + 1) * qx n (J / 2) = 5 * n * qx n (J / 2) + 6 * qx n (J / 2) := by grind
   have := Int.mul_nonneg (show 0 <= 5 * (n : Int) by omega) (show 0 <= qx n (J / 2) by omega)
   omega
  ·obtain ⟨r, r0, r1, h1⟩ := qx_odd (n := n) (by omega) h
   have ih := qx_step n (by omega) (J / 2) (by omega)
   rw [qx_even (n := n) (J := J + 1) (by omega), show (J + 1) / 2 = J / 2 + 1 by omega]
   have t := tt_in ⟨n + 1, by omega⟩
   have sq := tt_sq ⟨n, by omega⟩
   simp only at t sq
   have := alg_q h1 r0 r1 (by omega) (t.2.2 (by omega)) sq.1 sq.2 hl ih (by omega)
   rw [show (5 * ((n + 1 : Nat) : Int) + 1) = 5 * (n : Int) + 1 + 5 by omega]
   exact this
theorem qx_rise {n : Nat} (hn : n <= 32) {J : Int} (h0 : 0 <= J) : qx n J <= qx n (J + 1) := by
 have h := (qx_step n hn J h0).2
 have t := (tt_in ⟨n, by omega⟩).1
 simp only at t
 have l := qx_low n hn J
 have m1 := Int.mul_le_mul_of_nonneg_left t (show 0 <= qx n J by omega)
 have m2 := Int.mul_le_mul_of_nonneg_right (show 5 * (n : Int) + 1 <= 161 by omega) (show 0 <= qx n J by omega)
 omega
theorem qx_mono {n : Nat} (hn : n <= 32) {J K : Int} (h0 : 0 <= J) (h : J <= K) : qx n J <= qx n K := by
 obtain ⟨k, hk⟩ := Int.eq_ofNat_of_zero_le (show 0 <= K - J by omega)
 have e : K = J + k := by omega
 subst e
 clear h hk
 induction k with
 | zero => simp
 | succ k ih =>
  have := qx_rise hn (J := J + k) (by omega)
  rw [show J + ((k + 1 : Nat) : Int) = J + k + 1 by omega]
  omega
theorem alg_q10 {A B S A1 S1 t r q e : Int} (h1 : 4611686018427387904 * A1 = A * t - r) (r0 : 0 <= r) (r1 : r <= A) (g1 : 4611686018427387904 * S1 = S * t - q) (q0 : 0 <= q) (q1 : q <= S) (t0 : 4611686018427387904 + 1 <= t)
  (hA : 4611686018427387904 <= A) (hB : 4611686018427387904 <= B) (hS : 4611686018427387904 <= S) (hb : -(e * S) <= A * B - 4611686018427387904 * S /\ A * B - 4611686018427387904 * S <= e * S) (he : 0 <= e) (he' : e <= 10000) :
  -((e + 3) * S1) <= A1 * B - 4611686018427387904 * S1 /\ A1 * B - 4611686018427387904 * S1 <= (e + 3) * S1 := by
 have hS1 : S <= S1 := by
  have := Int.mul_le_mul_of_nonneg_left t0 (show 0 <= S by omega)
  omega
 have e1 : 4611686018427387904 * (A1 * B - 4611686018427387904 * S1) = (A * B - 4611686018427387904 * S) * t - r * B + 4611686018427387904 * q := by grind
 have m1 := Int.mul_nonneg r0 (show 0 <= B by omega)
 have m2 := Int.mul_le_mul_of_nonneg_right r1 (show 0 <= B by omega)
 have m3 := Int.mul_le_mul_of_nonneg_right hb.1 (show 0 <= t by omega)
 have m4 := Int.mul_le_mul_of_nonneg_right hb.2 (show 0 <= t by omega)
 have e2 : e * S * t = e * (4611686018427387904 * S1) + e * q := by
  have : S * t = 4611686018427387904 * S1 + q := by omega
  rw [Int.mul_assoc, this]; grind
 have e3 : -(e * S) * t = -(e * S * t) := by grind
 have m5 := Int.mul_le_mul_of_nonneg_left (show q <= S1 by omega) he
 have m6 := Int.mul_le_mul_of_nonneg_right he' (show 0 <= S by omega)
 have m7 := Int.mul_le_mul_of_nonneg_right he' (show 0 <= S1 by omega)
 have e4 : (e + 3) * S1 = e * S1 + 3 * S1 := by grind
 have e5 : e * (4611686018427387904 * S1) = 4611686018427387904 * (e * S1) := by grind
 rw [e4]
 rw [e5] at e2
 generalize (A * B - 4611686018427387904 * S) * t = z1 at *
 generalize A * B = z2 at *
 generalize r * B = z3 at *
 generalize e * S * t = z4 at *
 generalize e * S1 = z5 at *
 generalize e * S = z6 at *
 generalize e * q = z7 at *
 generalize A1 * B = z8 at *
 omega
theorem alg_q11 {A B S S2 A1 B1 t tn r q e b : Int} (h1 : 4611686018427387904 * A1 = A * t - r) (r0 : 0 <= r) (r1 : r <= A) (g1 : 4611686018427387904 * B1 = B * t - q) (q0 : 0 <= q) (q1 : q <= B) (t0 : 4611686018427387904 <= t) (t1 : t <= 6521908912666391106)
  (s1 : t * t <= 4611686018427387904 * tn) (s2 : 4611686018427387904 * tn <= t * t + 3 * 4611686018427387904) (n0 : 4611686018427387904 + 744261110 <= tn)
  (hA : 4611686018427387904 <= A) (hB : 4611686018427387904 <= B) (hS : 4611686018427387904 <= S) (hb : -(e * S) <= A * B - 4611686018427387904 * S /\ A * B - 4611686018427387904 * S <= e * S) (he : 0 <= e) (he' : e <= 10000)
  (hs : -(b * S) <= S * tn - 4611686018427387904 * S2 /\ S * tn - 4611686018427387904 * S2 <= b * S) (hb0 : 0 <= b) (hb' : b <= 1000) :
  -((e + b + 9) * S2) <= A1 * B1 - 4611686018427387904 * S2 /\ A1 * B1 - 4611686018427387904 * S2 <= (e + b + 9) * S2 := by
 have mb := Int.mul_le_mul_of_nonneg_right hb' (show 0 <= S by omega)
 have me := Int.mul_le_mul_of_nonneg_right he' (show 0 <= S by omega)
 have mn := Int.mul_le_mul_of_nonneg_left n0 (show 0 <= S by omega)
 have hS2 : S <= S2 := by omega
 have e1 : 4611686018427387904 * 4611686018427387904 * (A1 * B1 - 4611686018427387904 * S2) = 4611686018427387904 * 4611686018427387904 * (S * tn - 4611686018427387904 * S2) + 4611686018427387904 * ((A * B - 4611686018427387904 * S) * tn) - (A * B) * (4611686018427387904 * tn - t * t) - (r * B + q * A) * t + r * q := by
  have : 4611686018427387904 * 4611686018427387904 * (A1 * B1) = (A * t - r) * (B * t - q) := by rw [<- h1, <- g1]; grind
  have e : 4611686018427387904 * 4611686018427387904 * (A1 * B1 - 4611686018427387904 * S2) = (A * t - r) * (B * t - q) - 4611686018427387904 * 4611686018427387904 * (4611686018427387904 * S2) := by rw [<- this]; grind
  rw [e]; grind
 have hAB : 0 <= A * B := Int.mul_nonneg (by omega) (by omega)
 have p1 := Int.mul_nonneg hAB (show 0 <= 4611686018427387904 * tn - t * t by omega)
 have p2 := Int.mul_le_mul_of_nonneg_left (show 4611686018427387904 * tn - t * t <= 3 * 4611686018427387904 by omega) hAB
 have p3 := Int.mul_le_mul_of_nonneg_right r1 (show 0 <= B by omega)
 have p4 := Int.mul_le_mul_of_nonneg_right q1 (show 0 <= A by omega)
 have p3' := Int.mul_nonneg r0 (show 0 <= B by omega)
 have p4' := Int.mul_nonneg q0 (show 0 <= A by omega)
 have e2 : B * A = A * B := Int.mul_comm _ _
 rw [e2] at p4
 have p5 := Int.mul_le_mul (show r * B + q * A <= 2 * (A * B) by omega) t1 (by omega) (by omega)
 have p6 := Int.mul_nonneg (show 0 <= r * B + q * A by omega) (show 0 <= t by omega)
 have p7 := Int.mul_nonneg r0 q0
 have p8 := Int.mul_le_mul r1 q1 q0 (by omega)
 have m3 := Int.mul_le_mul_of_nonneg_right hb.1 (show 0 <= tn by omega)
 have m4 := Int.mul_le_mul_of_nonneg_right hb.2 (show 0 <= tn by omega)
 have e3 : e * S * tn = e * (S * tn) := Int.mul_assoc _ _ _
 have e4 : -(e * S) * tn = -(e * (S * tn)) := by grind
 have m5 := Int.mul_le_mul_of_nonneg_left (show S * tn <= 4611686018427387904 * S2 + 1000 * S2 by omega) he
 have e5 : e * (4611686018427387904 * S2 + 1000 * S2) = 4611686018427387904 * (e * S2) + 1000 * (e * S2) := by grind
 have m6 := Int.mul_le_mul_of_nonneg_right he' (show 0 <= S2 by omega)
 have m7 := Int.mul_le_mul_of_nonneg_left hS2 hb0
 have e6 : (e + b + 9) * S2 = e * S2 + b * S2 + 9 * S2 := by grind
 rw [e6]
 rw [e3] at m4
 rw [e4] at m3
 rw [e5] at m5
 generalize (A * B - 4611686018427387904 * S) * tn = z1 at *
 generalize (A * B) * (4611686018427387904 * tn - t * t) = z2 at *
 generalize (r * B + q * A) * t = z3 at *
 generalize r * q = z4 at *
 generalize A * B = z5 at *
 generalize A1 * B1 = z6 at *
 generalize e * (S * tn) = z7 at *
 generalize S * tn = z8 at *
 generalize e * S2 = z9 at *
 generalize b * S2 = z10 at *
 generalize e * S = z11 at *
 generalize b * S = z12 at *
 clear p3 p4 p3' p4' s1 s2 h1 g1
 constructor <;> omega
def offq : Nat -> Int
 | 0 => 0
 | n + 1 => offq n + (5 * n + 1) + 9
theorem offq_in : ∀ i : Fin 33, 0 <= offq i /\ offq i <= 2800 := by decide +kernel
theorem qx_sum : ∀ (n : Nat), n <= 32 -> ∀ J K : Int, 0 <= J -> 0 <= K -> -(offq n * qx n (J + K)) <= qx n J * qx n K - 4611686018427387904 * qx n (J + K) /\ qx n J * qx n K - 4611686018427387904 * qx n (J + K) <= offq n * qx n (J + K)
 | 0, _, J, K, h0, k0 => by
  have e : ∀ J : Int, qx 0 J = 2 ^ J.toNat * 4611686018427387904 := by
   intro J
   unfold qx
   rw [show J / 2 ^ 0 = J by simp]; rfl
  rw [e, e, e, show (J + K).toNat = J.toNat + K.toNat by omega, Int.pow_add]
  simp only [offq]
  have : (2 : Int) ^ J.toNat * 4611686018427387904 * (2 ^ K.toNat * 4611686018427387904) = 4611686018427387904 * (2 ^ J.toNat * 2 ^ K.toNat * 4611686018427387904) := by grind
  omega
 | n + 1, hn, J, K, h0, k0 => by
  have ih := qx_sum n (by omega) (J / 2) (K / 2) (by omega) (by omega)
  have o := offq_in ⟨n, by omega⟩
  have lJ := qx_low n (by omega) (J / 2)
  have lK := qx_low n (by omega) (K / 2)
  have lS := qx_low n (by omega) (J / 2 + K / 2)
  have t := tt_in ⟨n + 1, by omega⟩
  simp only at o t
  have tb := t.2.2 (by omega)
  have eo : offq (n + 1) = offq n + (5 * n + 1) + 9 := rfl
  have lS' := qx_low (n + 1) hn (J + K)
  have up : ∀ e : Int, 0 <= e -> e <= offq (n + 1) -> e * qx (n + 1) (J + K) <= offq (n + 1) * qx (n + 1) (J + K) := fun e _ h => Int.mul_le_mul_of_nonneg_right h (by omega)
  rcases Int.emod_two_eq J with h | h <;> rcases Int.emod_two_eq K with k | k
  ·have e1 := qx_even (n := n) h
   have e2 := qx_even (n := n) k
   have e3 := qx_even (n := n) (J := J + K) (by omega)
   rw [show (J + K) / 2 = J / 2 + K / 2 by omega] at e3
   have := up (offq n) (by omega) (by omega)
   rw [e3] at this ⊢
   rw [e1, e2]
   omega
  ·have e1 := qx_even (n := n) h
   obtain ⟨r, r0, r1, h1⟩ := qx_odd (n := n) (by omega) k
   obtain ⟨q, q0, q1, g1⟩ := qx_odd (n := n) (by omega) (J := J + K) (by omega)
   rw [show (J + K) / 2 = J / 2 + K / 2 by omega] at q1 g1
   have ec : qx n (J / 2) * qx n (K / 2) = qx n (K / 2) * qx n (J / 2) := Int.mul_comm _ _
   rw [ec] at ih
   have a := alg_q10 h1 r0 r1 g1 q0 q1 (by omega) lK lJ lS ih (by omega) (by omega)
   have := up (offq n + 3) (by omega) (by omega)
   rw [e1, Int.mul_comm (qx n (J / 2))]
   omega
  ·have e2 := qx_even (n := n) k
   obtain ⟨r, r0, r1, h1⟩ := qx_odd (n := n) (by omega) h
   obtain ⟨q, q0, q1, g1⟩ := qx_odd (n := n) (by omega) (J := J + K) (by omega)
   rw [show (J + K) / 2 = J / 2 + K / 2 by omega] at q1 g1
   have a := alg_q10 h1 r0 r1 g1 q0 q1 (by omega) lJ lK lS ih (by omega) (by omega)
   have := up (offq n + 3) (by omega) (by omega)
   rw [e2]
   omega
  ·obtain ⟨r, r0, r1, h1⟩ := qx_odd (n := n) (by omega) h
   obtain ⟨q, q0, q1, g1⟩ := qx_odd (n := n) (by omega) k
   have e3 := qx_even (n := n) (J := J + K) (by omega)
   rw [show (J + K) / 2 = J / 2 + K / 2 + 1 by omega] at e3
   have hs := qx_step n (by omega) (J / 2 + K / 2) (by omega)
   have sq := tt_sq ⟨n, by omega⟩
   have tn := (tt_in ⟨n, by omega⟩).1
   simp only at sq tn
   have a := alg_q11 h1 r0 r1 g1 q0 q1 (by omega) tb sq.1 sq.2 tn lJ lK lS ih (by omega) (by omega) hs (by omega) (by omega)
   rw [e3, eo]
   exact a
theorem qx32_zero : qx 32 0 = 4611686018427387904 := by decide +kernel
theorem qx32_up {J : Int} (h0 : 0 <= J) : qx 32 (J + 4294967296) = 2 * qx 32 J := qx_up h0
theorem qx32_lt {J : Int} (h0 : 0 <= J) (h1 : J < 4294967296) : qx 32 J = qn 32 J := qx_lt h0 h1
theorem qx32_le {J : Int} (h0 : 0 <= J) (h1 : J <= 4294967296) : 4611686018427387904 <= qx 32 J /\ qx 32 J <= 2 * 4611686018427387904 := by
 refine ⟨qx_low 32 (Nat.le_refl _) J, ?_⟩
 have := qx_mono (Nat.le_refl 32) h0 h1
 have e := qx32_up (J := 0) (by omega)
 rw [qx32_zero, show (0 : Int) + 4294967296 = 4294967296 by omega] at e
 omega
theorem qn32_in (f : Int) : 4611686018427387904 <= qn 32 (f % 4294967296) /\ qn 32 (f % 4294967296) <= 2 * 4611686018427387904 := by
 have h0 : 0 <= f % 4294967296 := by omega
 have h1 : f % 4294967296 < 4294967296 := by omega
 rw [<- qx32_lt h0 h1]
 exact qx32_le h0 (by omega)
theorem pow_two_le {a b : Nat} (h : a <= b) : (2 : Int) ^ a <= 2 ^ b := by
 have := Nat.pow_le_pow_right (n := 2) (by omega) h
 have e1 : ((2 ^ a : Nat) : Int) = (2 : Int) ^ a := by simp
 have e2 : ((2 ^ b : Nat) : Int) = (2 : Int) ^ b := by simp
 omega
theorem powF_in (e : Int) : 0 <= powF e /\ powF e <= 2147483648 := by
 unfold powF
 split
 ·omega
 ·split
  ·omega
  ·have hq := qn32_in e
   have : 0 <= qn 32 (e % 4294967296) / 2 ^ (45 - e / 4294967296).toNat := Int.ediv_nonneg (by omega) (Int.le_of_lt (two_pos _))
   omega
theorem sq_in {y : Int} (h0 : 4611686018427387904 <= y) (h1 : y < 9223372036854775808) : 4611686018427387904 <= y * y / 4611686018427387904 /\ y * y / 4611686018427387904 < 4 * 4611686018427387904 := by
 have a := Int.mul_le_mul h0 h0 (by omega) (by omega)
 have b := Int.mul_le_mul (show y <= 9223372036854775807 by omega) (show y <= 9223372036854775807 by omega) (by omega) (by omega)
 generalize y * y = z at *
 omega
theorem ll_in {y0 : Int} (h0 : 4611686018427387904 <= y0) (h1 : y0 < 9223372036854775808) : ∀ n : Nat, (4611686018427387904 <= (ll y0 n).1 /\ (ll y0 n).1 < 9223372036854775808) /\ 0 <= (ll y0 n).2 /\ (ll y0 n).2 < 2 ^ n
 | 0 => ⟨⟨h0, h1⟩, by simp [ll], by simp [ll]⟩
 | n + 1 => by
  obtain ⟨⟨a, b⟩, c, d⟩ := ll_in h0 h1 n
  have s := sq_in a b
  simp only [ll]
  rw [Int.pow_succ]
  split
  ·exact ⟨⟨by simp only; omega, by simp only; omega⟩, by simp only; omega, by simp only; omega⟩
  ·exact ⟨⟨by simp only; omega, by simp only; omega⟩, by simp only; omega, by simp only; omega⟩
theorem ll_first (y0 : Int) : ∀ n : Nat, (ll y0 (n + 1)).1 = (ll (ll y0 1).1 n).1 /\ (ll y0 (n + 1)).2 = (ll y0 1).2 * 2 ^ n + (ll (ll y0 1).1 n).2
 | 0 => by simp [ll]
 | n + 1 => by
  obtain ⟨a, b⟩ := ll_first y0 n
  have e1 : ll y0 (n + 1 + 1) = if 9223372036854775808 <= (ll y0 (n + 1)).1 * (ll y0 (n + 1)).1 / 4611686018427387904 then ((ll y0 (n + 1)).1 * (ll y0 (n + 1)).1 / 4611686018427387904 / 2, 2 * (ll y0 (n + 1)).2 + 1) else ((ll y0 (n + 1)).1 * (ll y0 (n + 1)).1 / 4611686018427387904, 2 * (ll y0 (n + 1)).2) := rfl
  have e2 : ll (ll y0 1).1 (n + 1) = if 9223372036854775808 <= (ll (ll y0 1).1 n).1 * (ll (ll y0 1).1 n).1 / 4611686018427387904 then ((ll (ll y0 1).1 n).1 * (ll (ll y0 1).1 n).1 / 4611686018427387904 / 2, 2 * (ll (ll y0 1).1 n).2 + 1) else ((ll (ll y0 1).1 n).1 * (ll (ll y0 1).1 n).1 / 4611686018427387904, 2 * (ll (ll y0 1).1 n).2) := rfl
  rw [e1, e2, a, b, Int.pow_succ]
  split
  ·refine ⟨rfl, ?_⟩
   simp only
   grind
  ·refine ⟨rfl, ?_⟩
   simp only
   grind
theorem ll_more (y : Int) (n : Nat) : ∀ k : Nat, (ll y (n + k)).2 / 2 ^ k = (ll y n).2
 | 0 => by simp
 | k + 1 => by
  have ih := ll_more y n k
  have hp := two_pos k
  have e : (ll y (n + (k + 1))).2 / 2 = (ll y (n + k)).2 := by
   show (ll y (n + k + 1)).2 / 2 = _
   simp only [ll]
   split
   ·simp only; omega
   ·simp only; omega
  rw [Int.pow_succ, Int.mul_comm, <- Int.ediv_ediv_of_nonneg (by omega), e, ih]
theorem le_of_sq {a b : Int} (hb : 0 <= b) (h : a * a <= b * b) : a <= b := by
 rcases Int.lt_or_le b a with z | z
 ·have h1 := Int.mul_lt_mul_of_pos_right z (show 0 < a by omega)
  have h2 := Int.mul_le_mul_of_nonneg_left (show b <= a by omega) hb
  omega
 ·exact z
theorem qx_top {n : Nat} (hn : n <= 32) {J : Int} (h0 : 0 <= J) (h1 : J <= 2 ^ n) : qx n J <= 2 * 4611686018427387904 := by
 have := qx_mono hn h0 h1
 have e := qx_up (n := n) (J := 0) (by omega)
 have z : qx n 0 = 4611686018427387904 := by rw [qx_lt (by omega) (two_pos n), qn_zero]
 rw [z, show (0 : Int) + 2 ^ n = 2 ^ n by omega] at e
 omega
theorem alg_lower {P y y1 S e b : Int} (hb : b = 1 \/ b = 2) (hy : 4611686018427387904 <= y) (hy' : y < 9223372036854775808) (h1 : b * (4611686018427387904 * y1) <= y * y) (h2 : b = 2 -> 2 * (4611686018427387904 * 4611686018427387904) <= y * y) (h3 : b = 1 -> y * y <= 2 * (4611686018427387904 * 4611686018427387904))
  (hS : S <= y1 + 20000) (hP : P * P <= b * ((4611686018427387904 + e) * S)) (he : 0 <= e) (he' : e <= 2800) : P <= y + 20000 := by
 refine le_of_sq (by omega) ?_
 have e1 : (y + 20000) * (y + 20000) = y * y + 40000 * y + 400000000 := by grind
 rw [e1]
 have m1 := Int.mul_le_mul_of_nonneg_left hS (show 0 <= 4611686018427387904 + e by omega)
 have e2 : (4611686018427387904 + e) * (y1 + 20000) = 4611686018427387904 * y1 + e * y1 + 20000 * 4611686018427387904 + 20000 * e := by grind
 rcases hb with rfl | rfl
 ·have yb := h3 rfl
  have m2 := Int.mul_le_mul he' (show y1 <= 2 * 4611686018427387904 by omega)
  rcases Int.lt_or_le y1 0 with q | q
  ·have : e * y1 <= 0 := Int.mul_nonpos_of_nonneg_of_nonpos he (by omega)
   omega
  ·have := m2 q (by omega)
   omega
 ·have yb := h2 rfl
  have yl : 6456360425798343065 <= y := by
   apply Classical.byContradiction
   intro hc
   have := Int.mul_le_mul (show y <= 6456360425798343065 by omega) (show y <= 6456360425798343065 by omega) (by omega) (by omega)
   omega
  have yu := Int.mul_le_mul (show y <= 9223372036854775808 by omega) (show y <= 9223372036854775808 by omega) (by omega) (by omega)
  have m2 := Int.mul_le_mul he' (show y1 <= 2 * 4611686018427387904 by omega)
  rcases Int.lt_or_le y1 0 with q | q
  ·have : e * y1 <= 0 := Int.mul_nonpos_of_nonneg_of_nonpos he (by omega)
   omega
  ·have := m2 q (by omega)
   omega
theorem alg_upper {Q y y1 S Q2 e b : Int} (hb : b = 1 \/ b = 2) (hy : 4611686018427387904 <= y) (h1 : y * y <= b * (4611686018427387904 * y1) + 2 * 4611686018427387904)
  (hS : y1 <= S + 20000) (hQ2 : Q2 = b * S) (hQ : 4611686018427387904 * Q2 - e * Q2 <= Q * Q) (q0 : 4611686018427387904 <= Q) (hq : Q2 <= b * (2 * 4611686018427387904)) (hq' : b = 2 -> 2 * 4611686018427387904 <= Q2) (he : 0 <= e) (he' : e <= 2800) (hS0 : 0 <= S) : y <= Q + 20000 := by
 refine le_of_sq (by omega) ?_
 have e1 : (Q + 20000) * (Q + 20000) = Q * Q + 40000 * Q + 400000000 := by grind
 rw [e1]
 have m1 := Int.mul_le_mul he' hq (by rcases hb with rfl | rfl <;> omega) (by omega)
 rcases hb with rfl | rfl
 ·omega
 ·have q2 := hq' rfl
  have ql : 6456360425798343065 <= Q := by
   apply Classical.byContradiction
   intro hc
   have := Int.mul_le_mul (show Q <= 6456360425798343065 by omega) (show Q <= 6456360425798343065 by omega) (by omega) (by omega)
   omega
  omega
theorem log_near : ∀ (n : Nat), n <= 32 -> ∀ y : Int, 4611686018427387904 <= y -> y < 9223372036854775808 -> qx n (ll y n).2 <= y + 20000 /\ y <= qx n ((ll y n).2 + 1) + 20000
 | 0, _, y, h0, h1 => by
  have e0 : qx 0 0 = 4611686018427387904 := by decide
  have e1 : qx 0 1 = 9223372036854775808 := by decide
  show qx 0 0 <= y + 20000 /\ y <= qx 0 (0 + 1) + 20000
  rw [e0, show (0 : Int) + 1 = 1 by omega, e1]
  omega
 | n + 1, hn, y, h0, h1 => by
  have hp := two_pos n
  have s := sq_in h0 h1
  have l1 := ll_in h0 h1 1
  have ih := log_near n (by omega) (ll y 1).1 l1.1.1 l1.1.2
  have li := (ll_in l1.1.1 l1.1.2 n).2
  obtain ⟨f1, f2⟩ := ll_first y n
  have l1e : ll y 1 = if 9223372036854775808 <= y * y / 4611686018427387904 then (y * y / 4611686018427387904 / 2, 1) else (y * y / 4611686018427387904, 0) := rfl
  have o := offq_in ⟨n + 1, by omega⟩
  simp only at o
  generalize hM : (ll (ll y 1).1 n).2 = M at *
  have hbit : ((ll y 1).2 = 0 /\ (ll y 1).1 = y * y / 4611686018427387904 /\ y * y / 4611686018427387904 < 9223372036854775808) \/ ((ll y 1).2 = 1 /\ (ll y 1).1 = y * y / 4611686018427387904 / 2 /\ 9223372036854775808 <= y * y / 4611686018427387904) := by
   rw [l1e]
   split
   ·rename_i h; exact Or.inr ⟨rfl, rfl, h⟩
   ·rename_i h; exact Or.inl ⟨rfl, rfl, by omega⟩
  rw [f2]
  have sum := qx_sum (n + 1) hn
  rcases hbit with ⟨b1, b2, b3⟩ | ⟨b1, b2, b3⟩
  ·rw [b1]
   rw [b2] at ih
   rw [show 0 * 2 ^ n + M = M by omega]
   constructor
   ·have sm := (sum M M li.1 li.1).2
    have ev := qx_even (n := n) (J := M + M) (by omega)
    rw [show (M + M) / 2 = M by omega] at ev
    rw [ev] at sm
    refine alg_lower (b := 1) (e := offq (n + 1)) (Or.inl rfl) h0 h1 (y1 := y * y / 4611686018427387904) (by omega) (by omega) (fun _ => by omega) ih.1 ?_ o.1 o.2
    have e1 : 1 * ((4611686018427387904 + offq (n + 1)) * qx n M) = 4611686018427387904 * qx n M + offq (n + 1) * qx n M := by grind
    omega
   ·have sm := (sum (M + 1) (M + 1) (by omega) (by omega)).1
    have ev := qx_even (n := n) (J := M + 1 + (M + 1)) (by omega)
    rw [show (M + 1 + (M + 1)) / 2 = M + 1 by omega] at ev
    rw [ev] at sm
    have tp := qx_top (n := n) (by omega) (J := M + 1) (by omega) (by omega)
    have lo := qx_low n (by omega) (M + 1)
    refine alg_upper (b := 1) (S := qx n (M + 1)) (e := offq (n + 1)) (Q2 := qx n (M + 1)) (Or.inl rfl) h0 (y1 := y * y / 4611686018427387904) (by omega) ih.2 (by omega) (by omega) (qx_low (n + 1) hn (M + 1)) (by omega) (by omega) o.1 o.2 (by omega)
  ·rw [b1]
   rw [b2] at ih
   rw [show 1 * 2 ^ n + M = M + 2 ^ n by omega]
   constructor
   ·have sm := (sum (M + 2 ^ n) (M + 2 ^ n) (by omega) (by omega)).2
    have ev := qx_even (n := n) (J := M + 2 ^ n + (M + 2 ^ n)) (by omega)
    rw [show (M + 2 ^ n + (M + 2 ^ n)) / 2 = M + 2 ^ n by omega, qx_up li.1] at ev
    rw [ev] at sm
    refine alg_lower (b := 2) (e := offq (n + 1)) (Or.inr rfl) h0 h1 (y1 := y * y / 4611686018427387904 / 2) (by omega) (fun _ => by omega) (by omega) ih.1 ?_ o.1 o.2
    have e1 : 2 * ((4611686018427387904 + offq (n + 1)) * qx n M) = 4611686018427387904 * (2 * qx n M) + offq (n + 1) * (2 * qx n M) := by grind
    omega
   ·have sm := (sum (M + 2 ^ n + 1) (M + 2 ^ n + 1) (by omega) (by omega)).1
    have ev := qx_even (n := n) (J := M + 2 ^ n + 1 + (M + 2 ^ n + 1)) (by omega)
    rw [show (M + 2 ^ n + 1 + (M + 2 ^ n + 1)) / 2 = M + 1 + 2 ^ n by omega, qx_up (show 0 <= M + 1 by omega)] at ev
    rw [ev] at sm
    have tp := qx_top (n := n) (by omega) (J := M + 1) (by omega) (by omega)
    have lo := qx_low n (by omega) (M + 1)
    refine alg_upper (b := 2) (S := qx n (M + 1)) (e := offq (n + 1)) (Q2 := 2 * qx n (M + 1)) (Or.inr rfl) h0 (y1 := y * y / 4611686018427387904 / 2) (by omega) ih.2 rfl (by omega) (qx_low (n + 1) hn (M + 2 ^ n + 1)) (by omega) (fun _ => by omega) o.1 o.2 (by omega)
theorem lg_in {x : Int} (h0 : 1 <= x) (h1 : x <= 2147483648) : Nat.log2 x.toNat <= 31 /\ (2 : Int) ^ Nat.log2 x.toNat <= x /\ x < 2 * 2 ^ Nat.log2 x.toNat := by
 have h : x.toNat ≠ 0 := by omega
 have a := Nat.log2_self_le h
 have b := @Nat.lt_log2_self x.toNat
 have e : ((2 ^ Nat.log2 x.toNat : Nat) : Int) = (2 : Int) ^ Nat.log2 x.toNat := by simp
 rw [Nat.pow_succ] at b
 have l : Nat.log2 x.toNat < 32 := (Nat.log2_lt h).2 (by omega)
 omega
structure LogOf (x w o H : Int) : Prop where
 w0 : -16 <= w
 w1 : w <= 15
 hH : H = 2 ^ (45 - w).toNat
 y0 : 4611686018427387904 <= x * (2 * H)
 y1 : x * (2 * H) < 9223372036854775808
 o0 : 0 <= o
 o1 : o < 4294967296
 l : longF x / 256 = w * 4294967296 + o
 lo : qx 32 o <= x * (2 * H) + 20000
 hi : x * (2 * H) <= qx 32 (o + 1) + 20000
theorem log_of {x : Int} (h0 : 1 <= x) (h1 : x <= 2147483648) : ∃ w o H, LogOf x w o H /\ w = (Nat.log2 x.toNat : Int) - 16 /\ longF x = w * 1099511627776 + (ll (y0F x) 40).2 /\ 0 <= (ll (y0F x) 40).2 /\ (ll (y0F x) 40).2 < 1099511627776 /\ y0F x = x * (2 * H) := by
 obtain ⟨k31, p0, p1⟩ := lg_in h0 h1
 have hy : y0F x = x * (2 * 2 ^ (45 - ((Nat.log2 x.toNat : Int) - 16)).toNat) := by
  unfold y0F
  have : (45 - ((Nat.log2 x.toNat : Int) - 16)).toNat + 1 = 62 - Nat.log2 x.toNat := by omega
  rw [<- this, Int.pow_succ]; grind
 have hp : (2 : Int) ^ Nat.log2 x.toNat * 2 ^ (62 - Nat.log2 x.toNat) = 4611686018427387904 := by
  rw [<- Int.pow_add, Nat.add_sub_cancel' (by omega)]; rfl
 have hq := two_pos (62 - Nat.log2 x.toNat)
 have y0 : 4611686018427387904 <= y0F x := by
  unfold y0F
  have := Int.mul_le_mul_of_nonneg_right p0 (Int.le_of_lt hq)
  omega
 have y1 : y0F x < 9223372036854775808 := by
  unfold y0F
  have := Int.mul_lt_mul_of_pos_right p1 hq
  have e : 2 * 2 ^ Nat.log2 x.toNat * 2 ^ (62 - Nat.log2 x.toNat) = 2 * ((2 : Int) ^ Nat.log2 x.toNat * 2 ^ (62 - Nat.log2 x.toNat)) := by grind
  omega
 have l32 := (ll_in y0 y1 32).2
 have l40 := (ll_in y0 y1 40).2
 have hm := ll_more (y0F x) 32 8
 have ln := log_near 32 (Nat.le_refl _) (y0F x) y0 y1
 refine ⟨(Nat.log2 x.toNat : Int) - 16, (ll (y0F x) 32).2, 2 ^ (45 - ((Nat.log2 x.toNat : Int) - 16)).toNat, ⟨by omega, by omega, rfl, by rw [<- hy]; exact y0, by rw [<- hy]; exact y1, l32.1, l32.2, ?_, by rw [<- hy]; exact ln.1, by rw [<- hy]; exact ln.2⟩, rfl, rfl, l40.1, l40.2, hy⟩
 replace hm : (ll (y0F x) 40).2 / 256 = (ll (y0F x) 32).2 := hm
 unfold longF
 omega
theorem log_p2 : ∀ k : Fin 32, longF (2 ^ k.val) = ((k.val : Int) - 16) * 1099511627776 := by decide +kernel
theorem p_ptimes : P_ptimes := by
 unfold P_ptimes
 intro n l_n u_n n1 l_n1 u_n1 hpre
 replace hpre : n * n1 < 85070591730234615865843651857942052864 := hpre
 refine ⟨trivial, ?_⟩
 intro n2 l_n2 u_n2 n3 l_n3 u_n3 h_mul64
 replace h_mul64 : n2 * 18446744073709551616 + n3 = n * n1 := h_mul64
 have hp := hpre
 have nn := Int.mul_nonneg l_n l_n1
 have n2b : n2 < 4611686018427387904 := by omega
 intro n4 e_n4 l_n4 u_n4
 rw [wrap_u64, show n2 * 4 % 18446744073709551616 = n2 * 2 ^ 2 by omega, or_add (c := n2) (i := 2) (y := n3 / 4611686018427387904) (by omega) (by omega) (by omega) (by omega) (by omega)] at e_n4
 show n4 = n * n1 / 4611686018427387904
 rw [e_n4, <- h_mul64]
 omega
theorem and1_i64 (x : Int) : bitsI .and .i64 x 1 = x % 2 := by
 have h : (BitVec.ofInt 64 x &&& 1#64) = BitVec.ofNat 64 (x % 2).toNat := by
  apply BitVec.eq_of_toNat_eq
  rw [BitVec.toNat_and]
  have : (1#64 : BitVec 64).toNat = 2 ^ 1 - 1 := rfl
  rw [this, Nat.and_two_pow_sub_one_eq_mod, BitVec.toNat_ofInt, BitVec.toNat_ofNat]
  omega
 have e : bitsI .and .i64 x 1 = IntKind.wrap .i64 (((BitVec.ofInt 64 x &&& 1#64).toNat : Nat) : Int) := rfl
 rw [e, h, wrap_i64, BitVec.toNat_ofNat]
 omega
theorem shr_k {k : IntKind} {l i : Int} (hk : k.bits = 64) (h0 : 0 <= i) (h1 : i <= 64) : shI .shr k l i = l / 2 ^ i.toNat := by
 simp only [shI, hk]
 rw [show Min.min i.toNat 64 = i.toNat by omega]
 exact Int.fdiv_eq_ediv_of_nonneg _ (Int.le_of_lt (Int.pow_pos (by decide)))
theorem qn_next {n : Nat} {f : Int} (hn : n < 32) : qn (n + 1) (f / 2 ^ (32 - (n + 1))) = if (f / 2 ^ (32 - (n + 1))) % 2 = 1 then qn n (f / 2 ^ (32 - n)) * tt (n + 1) / 4611686018427387904 else qn n (f / 2 ^ (32 - n)) := by
 have e : f / 2 ^ (32 - (n + 1)) / 2 = f / 2 ^ (32 - n) := by
  rw [Int.ediv_ediv_of_nonneg (Int.le_of_lt (Int.pow_pos (by decide))), show 32 - n = (32 - (n + 1)) + 1 by omega, Int.pow_succ]
 rw [<- e]
 rfl
theorem qn_high : ∀ (n : Nat), n <= 32 -> ∀ k : Int, 0 <= k -> k < 2 ^ n -> qn n k <= 9223372036854775808 := by
 intro n hn k h0 h1
 have := qx_top (n := n) hn h0 (Int.le_of_lt h1)
 rw [qx_lt h0 h1] at this
 omega
theorem bit_low {e : Int} {j : Nat} (hj : j < 32) : e / 2 ^ j % 2 = e % 4294967296 / 2 ^ j % 2 := by
 obtain ⟨i, hi⟩ : ∃ i : Nat, 32 = j + 1 + i := ⟨31 - j, by omega⟩
 have hp : (0 : Int) < 2 ^ j := Int.pow_pos (by decide)
 have hq : (0 : Int) < 2 ^ i := Int.pow_pos (by decide)
 have e32 : (4294967296 : Int) = 2 ^ j * (2 * 2 ^ i) := by
  have : (2 : Int) ^ (j + 1 + i) = 2 ^ j * 2 * 2 ^ i := by rw [Int.pow_add, Int.pow_succ]
  rw [<- hi] at this
  have e' : (2 : Int) ^ 32 = 4294967296 := rfl
  rw [e'] at this
  rw [this]; grind
 have h := Int.mul_ediv_add_emod e 4294967296
 generalize e / 4294967296 = q at *
 generalize hr : e % 4294967296 = r at *
 have : e = r + 2 ^ j * (2 * (2 ^ i * q)) := by rw [<- h]; rw [e32]; grind
 rw [this, Int.add_mul_ediv_left _ _ (by omega)]
 omega
theorem pw_step {e i p t : Int} (h1 : 1 <= i) (h2 : i < 33) (hp : p = qn (i - 1).toNat (e % 4294967296 / 2 ^ (33 - i).toNat)) (ht : t = tP.getD i.toNat 0) :
  (p * t < 85070591730234615865843651857942052864) /\ (bitsI .and .i64 (shI .shr .i64 e (32 - i)) 1 = 1 -> p * t / 4611686018427387904 = qn i.toNat (e % 4294967296 / 2 ^ (32 - i).toNat)) /\ (¬ bitsI .and .i64 (shI .shr .i64 e (32 - i)) 1 = 1 -> p = qn i.toNat (e % 4294967296 / 2 ^ (32 - i).toNat)) /\ 4611686018427387904 <= qn i.toNat (e % 4294967296 / 2 ^ (32 - i).toNat) /\ qn i.toNat (e % 4294967296 / 2 ^ (32 - i).toNat) <= 9223372036854775808 := by
 rw [and1_i64, shr_k rfl (by omega) (by omega)]
 obtain ⟨n, hn⟩ : ∃ n : Nat, i = n + 1 := ⟨(i - 1).toNat, by omega⟩
 have e1 : (i - 1).toNat = n := by omega
 have e2 : i.toNat = n + 1 := by omega
 have e3 : (33 - i).toNat = 32 - n := by omega
 have e4 : (32 - i).toNat = 32 - (n + 1) := by omega
 rw [e1, e3] at hp
 rw [e2] at ht ⊢
 rw [e4]
 have key := qn_next (n := n) (f := e % 4294967296) (by omega)
 have tab : ∀ k : Fin 33, 1 <= k.val -> tP.getD k.val 0 = tt k.val := by decide +kernel
 have htt : t = tt (n + 1) := by rw [ht]; exact tab ⟨n + 1, by omega⟩ (by simp)
 have hf : 0 <= e % 4294967296 /\ e % 4294967296 < 4294967296 := by omega
 have small : ∀ k : Nat, k <= 32 -> 0 <= e % 4294967296 / 2 ^ (32 - k) /\ e % 4294967296 / 2 ^ (32 - k) < 2 ^ k := by
  intro k hk
  have hp := two_pos (32 - k)
  have e' : (2 : Int) ^ k * 2 ^ (32 - k) = 4294967296 := by rw [<- Int.pow_add, Nat.add_sub_cancel' hk]; rfl
  exact ⟨Int.ediv_nonneg hf.1 (Int.le_of_lt hp), Int.ediv_lt_of_lt_mul hp (by rw [e']; exact hf.2)⟩
 have s1 := small n (by omega)
 have s2 := small (n + 1) (by omega)
 have l1 := qn_low n (by omega) (e % 4294967296 / 2 ^ (32 - n))
 have u1 := qn_high n (by omega) _ s1.1 s1.2
 have tb := tt_in ⟨n + 1, by omega⟩
 simp only at tb
 have tb2 := tb.2.2 (by omega)
 refine ⟨?_, fun z => ?_, fun z => ?_, qn_low (n + 1) (by omega) _, qn_high (n + 1) (by omega) _ s2.1 s2.2⟩
 ·rw [hp, htt]
  have := Int.mul_le_mul u1 tb2 (by omega) (by omega)
  omega
 ·rw [bit_low (by omega)] at z
  rw [key, if_pos z, hp, htt]
 ·rw [bit_low (by omega)] at z
  rw [key, if_neg z, hp]
theorem pw_end {e w d p : Int} (hw : w = e / 4294967296) (h1 : ¬ 15 <= w) (h2 : ¬ 63 < 46 - w) (hd : d = 46 - w - 1) (hp : p = qn 32 (e % 4294967296)) (hp0 : 0 <= p) (hp1 : p <= 9223372036854775808) : min ((shI .shr .u64 p d + 1) % 18446744073709551616 / 2) 2147483648 = powF e := by
 rw [shr_k rfl (by omega) (by omega)]
 unfold powF
 rw [<- hw, if_neg h1, if_neg (by omega), hd, hp, show (46 - w - 1).toNat = (45 - w).toNat by omega]
 rw [hp] at hp0 hp1
 have h := two_pos (45 - w).toNat
 have a := Int.ediv_nonneg hp0 (Int.le_of_lt h)
 have b := Int.ediv_le_self (2 ^ (45 - w).toNat) hp0
 generalize qn 32 (e % 4294967296) / 2 ^ (45 - w).toNat = z at *
 omega
set_option maxHeartbeats 2000000 in
theorem p_power : P_power := by
  unfold P_power
  intro n l_n u_n hpre
  replace hpre : True := hpre
  intro n1 e_n1 l_n1 u_n1
  refine ⟨fun c0 => ?_, fun c0 => ?_⟩
  · show (2147483648 : Int) = powF n
    unfold powF; rw [if_pos (by omega)]
  · intro n2 e_n2 l_n2 u_n2
    refine ⟨fun c1 => ?_, fun c1 => ?_⟩
    · show (0 : Int) = powF n
      unfold powF; rw [if_neg (by omega), if_pos (by omega)]
    · refine ⟨trivial, ?_⟩
      intro h_pmade
      replace h_pmade : True := h_pmade
      intro b
      refine ⟨?_, ?_⟩
      · show (4611686018427387904 : Int) = qn ((0 : Int) - 1).toNat (n % 4294967296 / 2 ^ (33 - (0 : Int)).toNat)
        show (4611686018427387904 : Int) = qn 0 _
        rfl
      intro n3 l_n3 u_n3 n4 l_n4 u_n4 hi_pw
      replace hi_pw : n4 = qn (n3 - 1).toNat (n % 4294967296 / 2 ^ (33 - n3).toNat) := hi_pw
      intro vs lv_vs
      refine ⟨fun c2 => ?_, fun c2 => ?_⟩
      · refine ⟨fun c3 => ?_, fun c3 => ?_⟩
        · refine ⟨by omega, ?_⟩
          intro n5 e_n5 l_n5 u_n5
          refine ⟨?_, ?_⟩
          · show n4 = qn (n5 - 1).toNat (n % 4294967296 / 2 ^ (33 - n5).toNat)
            first
              | (have h0 : n3 = 0 := by assumption
                 rw [h0] at hi_pw
                 rw [show (n5 - 1).toNat = 0 by omega]
                 replace hi_pw : n4 = 4611686018427387904 := hi_pw
                 rw [hi_pw]; rfl)
              | (have ps := pw_step (t := tP.getD n3.toNat 0) (show 1 <= n3 by omega) (by omega) hi_pw rfl
                 rw [<- e_n5] at ps
                 rw [show (n5 - 1).toNat = n3.toNat by omega, show (33 - n5).toNat = n5.toNat by omega]
                 exact ps.2.2.1 (by assumption))
          · show (33 - n5).toNat < (33 - n3).toNat
            omega
        · refine ⟨fun c4 => ?_, fun c4 => ?_⟩
          · simp only [wrap_u64, wrap_i64, wrap_i32, wrap_u32, wrap_u8] at c4
            refine ⟨by omega, ?_⟩
            intro n5 e_n5 l_n5 u_n5 n6 e_n6 l_n6 u_n6
            simp only [wrap_u64, wrap_i64, wrap_i32, wrap_u32, wrap_u8] at e_n6
            show n6 = powF n
            have hq : n4 = qn 32 (n % 4294967296) := by
              first
                | (have h33 : n3 = 33 := by omega
                   rw [h33] at hi_pw
                   replace hi_pw : n4 = qn 32 (n % 4294967296 / 2 ^ 0) := hi_pw
                   rw [show n % 4294967296 / 2 ^ 0 = n % 4294967296 by simp] at hi_pw
                   exact hi_pw)
                | (have hz : n % 4294967296 = 0 := by omega
                   rw [hz, Int.zero_ediv, qn_zero] at hi_pw
                   rw [hz, qn_zero]; exact hi_pw)
            have pe := pw_end (p := n4) (d := n5) e_n1 (by assumption) (by omega) (by omega) hq (by omega) u_n4
            rw [e_n6]; exact pe
          · simp only [wrap_u64, wrap_i64, wrap_i32, wrap_u32, wrap_u8] at c4
            refine ⟨by omega, ?_⟩
            intro n5 e_n5 l_n5 u_n5
            refine ⟨fun c5 => ?_, fun c5 => ?_⟩
            · refine ⟨by omega, ?_⟩
              intro n6 e_n6 l_n6 u_n6
              refine ⟨?_, ?_⟩
              · show n4 * n6 < 85070591730234615865843651857942052864
                exact (pw_step (show 1 <= n3 by omega) (by omega) hi_pw e_n6).1
              intro n7 l_n7 u_n7 h_ptimes
              replace h_ptimes : n7 = n4 * n6 / 4611686018427387904 := h_ptimes
              have ps := pw_step (show 1 <= n3 by omega) (by omega) hi_pw e_n6
              rw [<- e_n5] at ps
              have ps2 := ps.2.1 (by assumption)
              rw [<- h_ptimes] at ps2
              have ps3 := ps.2.2.2
              rw [<- ps2] at ps3
              refine ⟨by omega, ?_⟩
              intro n8 e_n8 l_n8 u_n8
              refine ⟨by omega, ?_⟩
              refine ⟨by omega, ?_⟩
              intro n9 e_n9 l_n9 u_n9
              refine ⟨?_, ?_⟩
              · show n9 = qn (n8 - 1).toNat (n % 4294967296 / 2 ^ (33 - n8).toNat)
                rw [e_n9, show (n8 - 1).toNat = n3.toNat by omega, show (33 - n8).toNat = n5.toNat by omega]
                exact ps2
              · show (33 - n8).toNat < (33 - n3).toNat
                omega
            · refine ⟨by omega, ?_⟩
              intro n6 e_n6 l_n6 u_n6
              refine ⟨?_, ?_⟩
              · show n4 = qn (n6 - 1).toNat (n % 4294967296 / 2 ^ (33 - n6).toNat)
                first
                  | (have h0 : n3 = 0 := by assumption
                     rw [h0] at hi_pw
                     rw [show (n6 - 1).toNat = 0 by omega]
                     replace hi_pw : n4 = 4611686018427387904 := hi_pw
                     rw [hi_pw]; rfl)
                  | (have ps := pw_step (t := tP.getD n3.toNat 0) (show 1 <= n3 by omega) (by omega) hi_pw rfl
                     rw [<- e_n5] at ps
                     rw [show (n6 - 1).toNat = n3.toNat by omega, show (33 - n6).toNat = n5.toNat by omega]
                     exact ps.2.2.1 (by assumption))
              · show (33 - n6).toNat < (33 - n3).toNat
                omega
      · refine ⟨by omega, ?_⟩
        intro n5 e_n5 l_n5 u_n5 n6 e_n6 l_n6 u_n6
        simp only [wrap_u64, wrap_i64, wrap_i32, wrap_u32, wrap_u8] at e_n6
        show n6 = powF n
        have hq : n4 = qn 32 (n % 4294967296) := by
          first
            | (have h33 : n3 = 33 := by omega
               rw [h33] at hi_pw
               replace hi_pw : n4 = qn 32 (n % 4294967296 / 2 ^ 0) := hi_pw
               rw [show n % 4294967296 / 2 ^ 0 = n % 4294967296 by simp] at hi_pw
               exact hi_pw)
            | (have hz : n % 4294967296 = 0 := by omega
               rw [hz, Int.zero_ediv, qn_zero] at hi_pw
               rw [hz, qn_zero]; exact hi_pw)
        have pe := pw_end (p := n4) (d := n5) e_n1 (by assumption) (by omega) (by omega) hq (by omega) u_n4
        rw [e_n6]; exact pe
theorem lg_is {m k : Int} (h : (m = 0 -> k = -1) /\ (0 < m -> 0 <= k /\ k <= 63 /\ 2 ^ k.toNat <= m /\ m < 2 * 2 ^ k.toNat)) (h1 : 1 <= m) : k = (Nat.log2 m.toNat : Int) := by
 obtain ⟨a1, a2, a3, a4⟩ := h.2 (by omega)
 have e : Nat.log2 m.toNat = k.toNat := by
  refine (Nat.log2_eq_iff (by omega)).2 ⟨?_, ?_⟩
  ·have : ((2 ^ k.toNat : Nat) : Int) = (2 : Int) ^ k.toNat := by simp
   omega
  ·have : ((2 ^ (k.toNat + 1) : Nat) : Int) = 2 * (2 : Int) ^ k.toNat := by rw [Nat.pow_succ]; simp; omega
   omega
 omega
theorem long_top {x : Int} (h0 : 1 <= x) (h1 : x <= 2147483648) : -17592186044416 <= longF x /\ longF x <= 16492674416640 := by
 rcases Int.lt_or_eq_of_le h1 with hx | hx
 ·obtain ⟨w, o, H, ⟨w0, w1, hH, y0, y1, o0, o1, l, lo, hi⟩, _, e, b0, b1, _⟩ := log_of h0 h1
  have w14 : w <= 14 := by
   apply Classical.byContradiction
   intro hc
   have : H = 1073741824 := by rw [hH, show (45 - w).toNat = 30 by omega]; rfl
   rw [this] at y0
   omega
  omega
 ·subst hx
  have e := log_p2 31
  replace e : longF 2147483648 = (((31 : Nat) : Int) - 16) * 1099511627776 := e
  rw [e]; omega
theorem lng_start {x k s : Int} (h0 : 1 <= x) (h1 : x <= 2147483648) (hk : k = (Nat.log2 x.toNat : Int)) (hs : s = 62 - k) : 0 <= k /\ k <= 31 /\ shI .shl .u64 x s = y0F x /\ 4611686018427387904 <= y0F x /\ y0F x <= 9223372036854775807 := by
 have l := (lg_in h0 h1).1
 obtain ⟨w, o, H, h, _, _, _, _, e⟩ := log_of h0 h1
 have a := h.y0
 have b := h.y1
 rw [<- e] at a b
 refine ⟨by omega, by omega, ?_, a, by omega⟩
 simp only [shI, IntKind.bits]
 rw [show Min.min s.toNat 64 = 62 - Nat.log2 x.toNat by omega, wrap_u64]
 show y0F x % 18446744073709551616 = y0F x
 omega
theorem lng_step {y0 o0 i y o z h y' o' : Int} (i0 : 0 <= i) (i1 : i < 40) (hy : y = (ll y0 i.toNat).1) (ho : o = o0 * 2 ^ i.toNat + (ll y0 i.toNat).2) (a0 : 4611686018427387904 <= y0) (a1 : y0 <= 9223372036854775807) (k0 : -16 <= o0) (k1 : o0 <= 15)
  (hz : z = y * y / 4611686018427387904) (hh : h = z / 9223372036854775808) (hy' : y' = shI .shr .u64 z h) (ho' : o' = 2 * o + h) :
  y * y < 85070591730234615865843651857942052864 /\ y' = (ll y0 (i.toNat + 1)).1 /\ o' = o0 * 2 ^ (i.toNat + 1) + (ll y0 (i.toNat + 1)).2 /\ 4611686018427387904 <= y' /\ y' <= 9223372036854775807 /\ -17592186044416 <= o' /\ o' <= 17592186044416 := by
 obtain ⟨⟨b0, b1⟩, b2, b3⟩ := ll_in a0 (show y0 < 9223372036854775808 by omega) i.toNat
 obtain ⟨⟨c0, c1⟩, c2, c3⟩ := ll_in a0 (show y0 < 9223372036854775808 by omega) (i.toNat + 1)
 rw [<- hy] at b0 b1
 have s := sq_in b0 b1
 rw [<- hz] at s
 have hh' : h = 0 \/ h = 1 := by omega
 have e : ll y0 (i.toNat + 1) = if 9223372036854775808 <= z then (z / 2, 2 * (ll y0 i.toNat).2 + 1) else (z, 2 * (ll y0 i.toNat).2) := by rw [hz, hy]; rfl
 have ep : o0 * 2 ^ (i.toNat + 1) = 2 * (o0 * 2 ^ i.toNat) := by rw [Int.pow_succ]; grind
 have sh : y' = z / 2 ^ h.toNat := by rw [hy', shr_k rfl (by omega) (by omega)]
 have main : y' = (ll y0 (i.toNat + 1)).1 /\ o' = o0 * 2 ^ (i.toNat + 1) + (ll y0 (i.toNat + 1)).2 := by
  rw [e, ep, sh, ho', ho]
  rcases hh' with z0 | z0
  ·rw [if_neg (by omega), z0]
   refine ⟨by simp, by simp only; omega⟩
  ·rw [if_pos (by omega), z0]
   refine ⟨rfl, by simp only; omega⟩
 have hp : (2 : Int) ^ (i.toNat + 1) <= 1099511627776 := by
  have := pow_two_le (a := i.toNat + 1) (b := 40) (by omega)
  have e' : (2 : Int) ^ 40 = 1099511627776 := rfl
  omega
 have hp0 := two_pos (i.toNat + 1)
 have u1 := Int.mul_le_mul_of_nonneg_right k1 (Int.le_of_lt hp0)
 have u2 := Int.mul_le_mul_of_nonneg_right k0 (Int.le_of_lt hp0)
 refine ⟨?_, main.1, main.2, by rw [main.1]; exact c0, by rw [main.1]; omega, ?_, ?_⟩
 ·have := Int.mul_le_mul (show y <= 9223372036854775807 by omega) (show y <= 9223372036854775807 by omega) (by omega) (by omega)
  omega
 ·rw [main.2]; omega
 ·rw [main.2]; omega
theorem expo_is {L n v : Int} (hv : isNear (L * n) 16777216 v) : v = (2 * (L * n) + 16777216) / 33554432 := by
 obtain ⟨h1, h2⟩ := hv
 omega
theorem tm65 (n : Int) : (n.tmod 65536 = 0 <-> n % 65536 = 0) := by
 rcases Int.le_total 0 n with z | z
 ·rw [Int.tmod_eq_emod_of_nonneg z]
 ·obtain ⟨m, rfl⟩ : ∃ m, n = -m := ⟨-n, by omega⟩
  rw [Int.neg_tmod, Int.tmod_eq_emod_of_nonneg (show 0 <= m by omega)]
  omega
theorem td65 {n : Int} (h0 : -2147483648 <= n) (h1 : n <= 2147483647) : IntKind.wrap .i32 (n.tdiv 65536) = n.tdiv 65536 := by
 have : (n.tdiv 65536).natAbs <= n.natAbs := by rw [Int.natAbs_tdiv]; exact Nat.div_le_self _ _
 have h2 : n.tdiv 65536 ≠ 2147483648 := by
  intro hc
  have h := Int.mul_tdiv_add_tmod n 65536
  have e : (n.tmod 65536).natAbs <= n.natAbs := by rw [Int.natAbs_tmod]; exact Nat.mod_le _ _
  omega
 rw [wrap_i32]
 omega
set_option maxHeartbeats 2000000 in
theorem p_plong : P_plong := by
 unfold P_plong
 intro n l_n u_n hpre
 replace hpre : True := hpre
 refine ⟨trivial, ?_⟩
 intro n1 l_n1 u_n1 h_log
 replace h_log : ((n = 0 -> n1 = -1) /\ (0 < n -> 0 <= n1 /\ n1 <= 63 /\ 2 ^ n1.toNat <= n /\ n < 2 * 2 ^ n1.toNat)) := h_log
 refine ⟨by have := (lg_in l_n u_n).1; have := lg_is h_log l_n; rw [wrap_i64]; omega, ?_⟩
 intro n2 e_n2 l_n2 u_n2
 simp only [wrap_u64, wrap_i64, wrap_i32, wrap_u32, wrap_u8] at e_n2
 intro n3 e_n3 l_n3 u_n3
 have hls := lng_start l_n u_n (lg_is h_log l_n) (show n2 = 62 - n1 by have := (lg_in l_n u_n).1; have := lg_is h_log l_n; omega)
 rw [hls.2.2.1] at e_n3
 intro n4 e_n4 l_n4 u_n4
 simp only [wrap_u64, wrap_i64, wrap_i32, wrap_u32, wrap_u8] at e_n4
 refine ⟨by omega, ?_⟩
 refine ⟨by omega, ?_⟩
 intro n5 e_n5 l_n5 u_n5
 refine ⟨by omega, ?_⟩
 refine ⟨by omega, ?_⟩
 intro n6 e_n6 l_n6 u_n6
 refine ⟨?_, ?_⟩
 ·show (n5 = (ll n5 (0 : Int).toNat).1 /\ n6 = n6 * 2 ^ (0 : Int).toNat + (ll n5 (0 : Int).toNat).2)
  exact ⟨rfl, by show n6 = n6 * 2 ^ 0 + 0; omega⟩
 intro n7 l_n7 u_n7 n8 l_n8 u_n8 n9 l_n9 u_n9 hi_lng
 replace hi_lng : (n8 = (ll n5 n7.toNat).1 /\ n9 = n6 * 2 ^ n7.toNat + (ll n5 n7.toNat).2) := hi_lng
 intro vs lv_vs
 refine ⟨fun c0 => ?_, fun c0 => ?_⟩
 ·refine ⟨by have h40 : longF n = n9 := (by rw [hi_lng.2, c0, e_n5, e_n6]; unfold longF; rw [e_n3, show n4 = (Nat.log2 n.toNat : Int) - 16 by (have := lg_is h_log l_n; omega)]; rfl); have := (long_top l_n u_n).2; omega, ?_⟩
  intro n10 e_n10 l_n10 u_n10
  show n10 = longF n
  rw [e_n10, hi_lng.2, c0, e_n5, e_n6]; unfold longF; rw [e_n3, show n4 = (Nat.log2 n.toNat : Int) - 16 by (have := lg_is h_log l_n; omega)]; rfl
 ·refine ⟨?_, ?_⟩
  ·show n8 * n8 < 85070591730234615865843651857942052864
   exact (lng_step (i := n7) (o := n9) l_n7 (by omega) hi_lng.1 hi_lng.2 l_n5 u_n5 (by omega) (by omega) rfl rfl rfl rfl).1
  intro n10 l_n10 u_n10 h_ptimes
  replace h_ptimes : n10 = n8 * n8 / 4611686018427387904 := h_ptimes
  intro n11 e_n11 l_n11 u_n11 n12 e_n12 l_n12 u_n12
  have hst := lng_step (i := n7) (o := n9) l_n7 (by omega) hi_lng.1 hi_lng.2 l_n5 u_n5 (by omega) (by omega) h_ptimes e_n11 e_n12 rfl
  intro n13 e_n13 l_n13 u_n13
  rw [<- e_n13] at hst
  intro n14 e_n14 l_n14 u_n14
  refine ⟨by omega, ?_⟩
  intro n15 e_n15 l_n15 u_n15
  refine ⟨by omega, ?_⟩
  refine ⟨by omega, ?_⟩
  intro n16 e_n16 l_n16 u_n16
  refine ⟨by omega, ?_⟩
  refine ⟨by omega, ?_⟩
  intro n17 e_n17 l_n17 u_n17
  refine ⟨?_, ?_⟩
  ·show (n16 = (ll n5 n15.toNat).1 /\ n17 = n6 * 2 ^ n15.toNat + (ll n5 n15.toNat).2)
   rw [e_n16, e_n17, show n15.toNat = n7.toNat + 1 by omega]
   exact ⟨hst.2.1, hst.2.2.1⟩
  ·show (40 - n15).toNat < (40 - n7).toNat
   omega
theorem p_pnear : P_pnear := by
 unfold P_pnear
 intro n l_n u_n hpre
 replace hpre : True := hpre
 intro n1 e_n1 l_n1 u_n1
 show n1 = near24 n
 first | exact e_n1 | (unfold near24; omega)
theorem p_sat : P_sat := by
 unfold P_sat
 intro n l_n u_n hpre
 replace hpre : True := hpre
 intro n1 e_n1 l_n1 u_n1
 show n1 = clamp32 n
 exact e_n1
theorem p_pexpo : P_pexpo := by
 unfold P_pexpo
 intro n l_n u_n n1 l_n1 u_n1 hpre
 replace hpre : True := hpre
 refine ⟨trivial, ?_⟩
 intro n2 l_n2 u_n2 h_plong
 replace h_plong : n2 = longF n := h_plong
 refine ⟨trivial, ?_⟩
 intro n3 l_n3 u_n3 n4 l_n4 u_n4 h_wmul
 replace h_wmul : w128 n3 n4 = n2 * n1 := h_wmul
 rw [h_plong] at h_wmul
 refine ⟨trivial, ?_⟩
 intro n5 l_n5 u_n5 n6 l_n6 u_n6 n7 l_n7 u_n7 h_wnear
 replace h_wnear : (((16777216 : Int) < 1 -> n5 = 0 /\ n6 = 0 /\ n7 = 1) /\ (1 <= (16777216 : Int) -> n7 = 0 /\ isNear (w128 n3 n4) (16777216 : Int) (w128 n5 n6))) := h_wnear
 have hw := (h_wnear.2 (by omega)).2
 rw [h_wmul] at hw
 have hx := expo_is hw
 have hb := mul_in (a := longF n) (b := n1) (l1 := -17592186044416) (h1 := 16492674416640) (l2 := -2147483648) (h2 := 2147483647) (long_top l_n u_n) ⟨l_n1, u_n1⟩
 simp only [mn, mx] at hb
 simp at hb
 intro b
 refine ⟨trivial, ?_⟩
 intro n8 l_n8 u_n8 t h_wint
 replace h_wint : isInt (w128 n5 n6) n8 (b2i t) := h_wint
 have hi2 := (h_wint.1 (by simp only [isI64]; generalize longF n * n1 = z at *; omega)).2
 intro n9 e_n9 l_n9 u_n9
 show n9 = expoF n n1
 unfold expoF roundE
 rw [<- hx, <- hi2]
 omega
theorem p_held : P_held := by
 unfold P_held
 intro n l_n u_n n1 l_n1 u_n1 n2 l_n2 u_n2 hpre
 replace hpre : 1 <= n2 := hpre
 intro b
 refine ⟨trivial, ?_⟩
 intro n3 l_n3 u_n3 n4 l_n4 u_n4 n5 l_n5 u_n5 h_wnear
 replace h_wnear : ((n2 < 1 -> n3 = 0 /\ n4 = 0 /\ n5 = 1) /\ (1 <= n2 -> n5 = 0 /\ isNear (w128 n n1) n2 (w128 n3 n4))) := h_wnear
 have hw := (h_wnear.2 hpre).2
 intro b1
 refine ⟨trivial, ?_⟩
 intro n6 l_n6 u_n6 t h_wint
 replace h_wint : isInt (w128 n3 n4) n6 (b2i t) := h_wint
 have w1 : w128 n3 n4 = n3 * 18446744073709551616 + n4 := rfl
 simp only [isInt, isI64] at h_wint
 refine ⟨fun c0 => ?_, fun c0 => ?_⟩
 ·have q0 := (b2i_one t).2 c0
  refine ⟨trivial, ?_⟩
  intro n7 l_n7 u_n7 h_sat
  replace h_sat : n7 = clamp32 n6 := h_sat
  show (∃ x, isNear (w128 n n1) n2 x /\ n7 = clamp32 x)
  refine ⟨w128 n3 n4, hw, ?_⟩
  first
   | (rw [h_sat]; congr 1; clear hw h_wnear; omega)
   | (simp only [clamp32]; clear hw h_wnear; omega)
 ·have q0 := (b2i_zero t).2 c0
  refine ⟨fun c1 => ?_, fun c1 => ?_⟩
  ·show (∃ x, isNear (w128 n n1) n2 x /\ (-2147483648 : Int) = clamp32 x)
   refine ⟨w128 n3 n4, hw, ?_⟩
   first
    | (rw [h_sat]; congr 1; clear hw h_wnear; omega)
    | (simp only [clamp32]; clear hw h_wnear; omega)
  ·show (∃ x, isNear (w128 n n1) n2 x /\ (2147483647 : Int) = clamp32 x)
   refine ⟨w128 n3 n4, hw, ?_⟩
   first
    | (rw [h_sat]; congr 1; clear hw h_wnear; omega)
    | (simp only [clamp32]; clear hw h_wnear; omega)
theorem p_fmul : P_fmul := by
 unfold P_fmul
 intro n l_n u_n n1 l_n1 u_n1 hpre
 replace hpre : True := hpre
 refine ⟨trivial, ?_⟩
 intro n2 l_n2 u_n2 n3 l_n3 u_n3 h_wmul
 replace h_wmul : w128 n2 n3 = n * n1 := h_wmul
 refine ⟨?_, ?_⟩
 ·show 1 <= (65536 : Int)
  omega
 intro n4 l_n4 u_n4 h_held
 replace h_held : (∃ x, isNear (w128 n2 n3) (65536 : Int) x /\ n4 = clamp32 x) := h_held
 show (∃ x, isNear (n * n1) 65536 x /\ n4 = clamp32 x)
 rw [h_wmul] at h_held; exact h_held
theorem p_fby : P_fby := by
 unfold P_fby
 intro n l_n u_n n1 l_n1 u_n1 hpre
 replace hpre : True := hpre
 intro b
 refine ⟨fun c0 => ?_, fun c0 => ?_⟩
 ·show ((n1 = 0 -> (12 : Int) = 12 /\ (0 : Int) = 0 /\ (0 : Int) = 0 /\ (0 : Int) = 0) /\ (0 < n1 -> (12 : Int) = 0 /\ w128 (0 : Int) (0 : Int) = n * 65536 /\ (0 : Int) = n1) /\ (n1 < 0 -> (12 : Int) = 0 /\ w128 (0 : Int) (0 : Int) = n * -65536 /\ (0 : Int) = -n1))
  refine ⟨fun h => ?_, fun h => ?_, fun h => ?_⟩ <;> first | omega | exact ⟨rfl, rfl, rfl, rfl⟩ | exact ⟨rfl, h_wmul, rfl⟩ | exact ⟨rfl, h_wmul, by omega⟩
 ·refine ⟨fun c1 => ?_, fun c1 => ?_⟩
  ·refine ⟨trivial, ?_⟩
   intro n2 l_n2 u_n2 n3 l_n3 u_n3 h_wmul
   replace h_wmul : w128 n2 n3 = n * (-65536 : Int) := h_wmul
   intro n4 e_n4 l_n4 u_n4
   show ((n1 = 0 -> (0 : Int) = 12 /\ n2 = 0 /\ n3 = 0 /\ n4 = 0) /\ (0 < n1 -> (0 : Int) = 0 /\ w128 n2 n3 = n * 65536 /\ n4 = n1) /\ (n1 < 0 -> (0 : Int) = 0 /\ w128 n2 n3 = n * -65536 /\ n4 = -n1))
   refine ⟨fun h => ?_, fun h => ?_, fun h => ?_⟩ <;> first | omega | exact ⟨rfl, rfl, rfl, rfl⟩ | exact ⟨rfl, h_wmul, rfl⟩ | exact ⟨rfl, h_wmul, by omega⟩
  ·refine ⟨trivial, ?_⟩
   intro n2 l_n2 u_n2 n3 l_n3 u_n3 h_wmul
   replace h_wmul : w128 n2 n3 = n * (65536 : Int) := h_wmul
   show ((n1 = 0 -> (0 : Int) = 12 /\ n2 = 0 /\ n3 = 0 /\ n1 = 0) /\ (0 < n1 -> (0 : Int) = 0 /\ w128 n2 n3 = n * 65536 /\ n1 = n1) /\ (n1 < 0 -> (0 : Int) = 0 /\ w128 n2 n3 = n * -65536 /\ n1 = -n1))
   refine ⟨fun h => ?_, fun h => ?_, fun h => ?_⟩ <;> first | omega | exact ⟨rfl, rfl, rfl, rfl⟩ | exact ⟨rfl, h_wmul, rfl⟩ | exact ⟨rfl, h_wmul, by omega⟩
theorem p_fratio : P_fratio := by
  unfold P_fratio
  intro n l_n u_n n1 l_n1 u_n1 hpre
  replace hpre : True := hpre
  refine ⟨trivial, ?_⟩
  intro n2 l_n2 u_n2 n3 l_n3 u_n3 n4 l_n4 u_n4 n5 l_n5 u_n5 h_fby
  replace h_fby : ((n1 = 0 -> n5 = 12 /\ n2 = 0 /\ n3 = 0 /\ n4 = 0) /\ (0 < n1 -> n5 = 0 /\ w128 n2 n3 = n * 65536 /\ n4 = n1) /\ (n1 < 0 -> n5 = 0 /\ w128 n2 n3 = n * -65536 /\ n4 = -n1)) := h_fby
  intro b
  refine ⟨fun c0 => ?_, fun c0 => ?_⟩
  · show ((n1 = 0 -> (0 : Int) = 0 /\ n5 = 12) /\ (0 < n1 -> n5 = 0 /\ ∃ x, isNear (n * 65536) n1 x /\ (0 : Int) = clamp32 x) /\ (n1 < 0 -> n5 = 0 /\ ∃ x, isNear (n * -65536) (-n1) x /\ (0 : Int) = clamp32 x))
    refine ⟨fun h => ?_, fun h => ?_, fun h => ?_⟩
    · have := h_fby.1 h; omega
    · have k := h_fby.2.1 h
      first
        | omega
        | (refine ⟨rfl, ?_⟩
           rw [k.2.1, k.2.2] at h_held; exact h_held)
    · have k := h_fby.2.2 h
      first
        | omega
        | (refine ⟨rfl, ?_⟩
           rw [k.2.1, k.2.2] at h_held; exact h_held)
  · refine ⟨?_, ?_⟩
    · show 1 <= n4
      rcases Int.lt_trichotomy n1 0 with z | z | z
      · have := h_fby.2.2 z; omega
      · have := h_fby.1 z; omega
      · have := h_fby.2.1 z; omega
    intro n6 l_n6 u_n6 h_held
    replace h_held : (∃ x, isNear (w128 n2 n3) n4 x /\ n6 = clamp32 x) := h_held
    show ((n1 = 0 -> n6 = 0 /\ (0 : Int) = 12) /\ (0 < n1 -> (0 : Int) = 0 /\ ∃ x, isNear (n * 65536) n1 x /\ n6 = clamp32 x) /\ (n1 < 0 -> (0 : Int) = 0 /\ ∃ x, isNear (n * -65536) (-n1) x /\ n6 = clamp32 x))
    refine ⟨fun h => ?_, fun h => ?_, fun h => ?_⟩
    · have := h_fby.1 h; omega
    · have k := h_fby.2.1 h
      first
        | omega
        | (refine ⟨rfl, ?_⟩
           rw [k.2.1, k.2.2] at h_held; exact h_held)
    · have k := h_fby.2.2 h
      first
        | omega
        | (refine ⟨rfl, ?_⟩
           rw [k.2.1, k.2.2] at h_held; exact h_held)
theorem p_log2 : P_log2 := by
  unfold P_log2
  intro n l_n u_n hpre
  replace hpre : True := hpre
  refine ⟨fun c0 => ?_, fun c0 => ?_⟩
  · show ((n <= 0 -> (0 : Int) = 0 /\ (1 : Int) = 1) /\ (0 < n -> (1 : Int) = 0 /\ (0 : Int) = near24 (longF n)))
    refine ⟨fun h => ?_, fun h => ?_⟩
    · first | omega | exact ⟨rfl, rfl⟩
    · first
        | omega
        | (refine ⟨rfl, ?_⟩
           have : n2 = n := by omega
           rw [this] at h_plong
           rw [<- h_plong, <- h_pnear]
           omega)
  · intro n1 e_n1 l_n1 u_n1
    simp only [wrap_u64, wrap_i64, wrap_i32, wrap_u32, wrap_u8] at e_n1
    refine ⟨by omega, ?_⟩
    refine ⟨by omega, ?_⟩
    intro n2 e_n2 l_n2 u_n2
    refine ⟨trivial, ?_⟩
    intro n3 l_n3 u_n3 h_plong
    replace h_plong : n3 = longF n2 := h_plong
    refine ⟨trivial, ?_⟩
    intro n4 l_n4 u_n4 h_pnear
    replace h_pnear : n4 = near24 n3 := h_pnear
    refine ⟨trivial, ?_⟩
    intro n5 l_n5 u_n5 h_sat
    replace h_sat : n5 = clamp32 n4 := h_sat
    have hcl := h_sat
    simp only [clamp32] at hcl
    refine ⟨by omega, ?_⟩
    refine ⟨by omega, ?_⟩
    intro n6 e_n6 l_n6 u_n6
    show ((n <= 0 -> n6 = 0 /\ (0 : Int) = 1) /\ (0 < n -> (0 : Int) = 0 /\ n6 = near24 (longF n)))
    refine ⟨fun h => ?_, fun h => ?_⟩
    · first | omega | exact ⟨rfl, rfl⟩
    · first
        | omega
        | (refine ⟨rfl, ?_⟩
           have : n2 = n := by omega
           rw [this] at h_plong
           rw [<- h_plong, <- h_pnear]
           omega)
theorem p_pow : P_pow := by
 unfold P_pow
 intro n l_n u_n n1 l_n1 u_n1 hpre
 replace hpre : True := hpre
 have tm := tm65 n1
 have td := td65 l_n1 u_n1
 refine ⟨fun c0 => ?_, fun c0 => ?_⟩
 ·show powTo n n1 (65536 : Int) (0 : Int)
  unfold powTo
  refine ⟨fun h => ?_, fun h1 h2 h3 => ?_, fun h1 h2 h3 => ?_, fun h1 h2 h3 => ?_, fun h1 h2 h3 => ?_⟩ <;> first | omega | exact ⟨rfl, rfl⟩
 ·refine ⟨fun c1 => ?_, fun c1 => ?_⟩
  ·refine ⟨fun c2 => ?_, fun c2 => ?_⟩
   ·show powTo n n1 (0 : Int) (12 : Int)
    unfold powTo
    refine ⟨fun h => ?_, fun h1 h2 h3 => ?_, fun h1 h2 h3 => ?_, fun h1 h2 h3 => ?_, fun h1 h2 h3 => ?_⟩ <;> first | omega | exact ⟨rfl, rfl⟩
   ·refine ⟨fun c3 => ?_, fun c3 => ?_⟩
    ·show powTo n n1 (0 : Int) (0 : Int)
     unfold powTo
     refine ⟨fun h => ?_, fun h1 h2 h3 => ?_, fun h1 h2 h3 => ?_, fun h1 h2 h3 => ?_, fun h1 h2 h3 => ?_⟩ <;> first | omega | exact ⟨rfl, rfl⟩
    ·refine ⟨fun c4 => ?_, fun c4 => ?_⟩
     ·refine ⟨fun c5 => ?_, fun c5 => ?_⟩
      ·show powTo n n1 (0 : Int) (1 : Int)
       unfold powTo
       refine ⟨fun h => ?_, fun h1 h2 h3 => ?_, fun h1 h2 h3 => ?_, fun h1 h2 h3 => ?_, fun h1 h2 h3 => ?_⟩ <;> first | omega | exact ⟨rfl, rfl⟩
      ·intro n2 e_n2 l_n2 u_n2
       intro n3 e_n3 l_n3 u_n3
       simp only [wrap_u64, wrap_i64, wrap_i32, wrap_u32, wrap_u8] at e_n3
       refine ⟨by omega, ?_⟩
       refine ⟨by omega, ?_⟩
       intro n4 e_n4 l_n4 u_n4
       refine ⟨trivial, ?_⟩
       intro n5 l_n5 u_n5 h_pexpo
       replace h_pexpo : n5 = expoF n4 n1 := h_pexpo
       refine ⟨trivial, ?_⟩
       intro n6 l_n6 u_n6 h_power
       replace h_power : n6 = powF n5 := h_power
       refine ⟨fun c6 => ?_, fun c6 => ?_⟩
       ·refine ⟨fun c7 => ?_, fun c7 => ?_⟩
        ·rw [td] at c7
         intro n7 e_n7 l_n7 u_n7
         refine ⟨trivial, ?_⟩
         intro n8 l_n8 u_n8 h_sat
         replace h_sat : n8 = clamp32 n7 := h_sat
         show powTo n n1 n8 (0 : Int)
         unfold powTo
         refine ⟨fun h => by omega, fun h1 h2 h3 => by omega, fun h1 h2 h3 => by omega, fun h1 h2 h3 => by omega, fun h1 h2 h3 => ⟨rfl, ?_⟩⟩
         have hm : n4 = max n (-n) := by omega
         rw [hm] at h_pexpo
         rw [h_pexpo] at h_power
         have hpi := powF_in (expoF (max n (-n)) n1)
         rw [<- h_power] at hpi
         rw [h_sat]
         unfold powA
         first
          | (rw [if_pos ⟨by omega, by omega⟩, <- h_power]; congr 1; omega)
          | (rw [if_neg (by omega), <- h_power])
        ·rw [td] at c7
         refine ⟨trivial, ?_⟩
         intro n7 l_n7 u_n7 h_sat
         replace h_sat : n7 = clamp32 n6 := h_sat
         show powTo n n1 n7 (0 : Int)
         unfold powTo
         refine ⟨fun h => by omega, fun h1 h2 h3 => by omega, fun h1 h2 h3 => by omega, fun h1 h2 h3 => by omega, fun h1 h2 h3 => ⟨rfl, ?_⟩⟩
         have hm : n4 = max n (-n) := by omega
         rw [hm] at h_pexpo
         rw [h_pexpo] at h_power
         have hpi := powF_in (expoF (max n (-n)) n1)
         rw [<- h_power] at hpi
         rw [h_sat]
         unfold powA
         first
          | (rw [if_pos ⟨by omega, by omega⟩, <- h_power]; congr 1; omega)
          | (rw [if_neg (by omega), <- h_power])
       ·refine ⟨trivial, ?_⟩
        intro n7 l_n7 u_n7 h_sat
        replace h_sat : n7 = clamp32 n6 := h_sat
        show powTo n n1 n7 (0 : Int)
        unfold powTo
        refine ⟨fun h => by omega, fun h1 h2 h3 => by omega, fun h1 h2 h3 => by omega, fun h1 h2 h3 => by omega, fun h1 h2 h3 => ⟨rfl, ?_⟩⟩
        have hm : n4 = max n (-n) := by omega
        rw [hm] at h_pexpo
        rw [h_pexpo] at h_power
        have hpi := powF_in (expoF (max n (-n)) n1)
        rw [<- h_power] at hpi
        rw [h_sat]
        unfold powA
        first
         | (rw [if_pos ⟨by omega, by omega⟩, <- h_power]; congr 1; omega)
         | (rw [if_neg (by omega), <- h_power])
     ·intro n2 e_n2 l_n2 u_n2
      intro n3 e_n3 l_n3 u_n3
      simp only [wrap_u64, wrap_i64, wrap_i32, wrap_u32, wrap_u8] at e_n3
      refine ⟨by omega, ?_⟩
      refine ⟨by omega, ?_⟩
      intro n4 e_n4 l_n4 u_n4
      refine ⟨trivial, ?_⟩
      intro n5 l_n5 u_n5 h_pexpo
      replace h_pexpo : n5 = expoF n4 n1 := h_pexpo
      refine ⟨trivial, ?_⟩
      intro n6 l_n6 u_n6 h_power
      replace h_power : n6 = powF n5 := h_power
      refine ⟨fun c5 => ?_, fun c5 => ?_⟩
      ·refine ⟨fun c6 => ?_, fun c6 => ?_⟩
       ·rw [td] at c6
        intro n7 e_n7 l_n7 u_n7
        refine ⟨trivial, ?_⟩
        intro n8 l_n8 u_n8 h_sat
        replace h_sat : n8 = clamp32 n7 := h_sat
        show powTo n n1 n8 (0 : Int)
        unfold powTo
        refine ⟨fun h => by omega, fun h1 h2 h3 => by omega, fun h1 h2 h3 => by omega, fun h1 h2 h3 => by omega, fun h1 h2 h3 => ⟨rfl, ?_⟩⟩
        have hm : n4 = max n (-n) := by omega
        rw [hm] at h_pexpo
        rw [h_pexpo] at h_power
        have hpi := powF_in (expoF (max n (-n)) n1)
        rw [<- h_power] at hpi
        rw [h_sat]
        unfold powA
        first
         | (rw [if_pos ⟨by omega, by omega⟩, <- h_power]; congr 1; omega)
         | (rw [if_neg (by omega), <- h_power])
       ·rw [td] at c6
        refine ⟨trivial, ?_⟩
        intro n7 l_n7 u_n7 h_sat
        replace h_sat : n7 = clamp32 n6 := h_sat
        show powTo n n1 n7 (0 : Int)
        unfold powTo
        refine ⟨fun h => by omega, fun h1 h2 h3 => by omega, fun h1 h2 h3 => by omega, fun h1 h2 h3 => by omega, fun h1 h2 h3 => ⟨rfl, ?_⟩⟩
        have hm : n4 = max n (-n) := by omega
        rw [hm] at h_pexpo
        rw [h_pexpo] at h_power
        have hpi := powF_in (expoF (max n (-n)) n1)
        rw [<- h_power] at hpi
        rw [h_sat]
        unfold powA
        first
         | (rw [if_pos ⟨by omega, by omega⟩, <- h_power]; congr 1; omega)
         | (rw [if_neg (by omega), <- h_power])
      ·refine ⟨trivial, ?_⟩
       intro n7 l_n7 u_n7 h_sat
       replace h_sat : n7 = clamp32 n6 := h_sat
       show powTo n n1 n7 (0 : Int)
       unfold powTo
       refine ⟨fun h => by omega, fun h1 h2 h3 => by omega, fun h1 h2 h3 => by omega, fun h1 h2 h3 => by omega, fun h1 h2 h3 => ⟨rfl, ?_⟩⟩
       have hm : n4 = max n (-n) := by omega
       rw [hm] at h_pexpo
       rw [h_pexpo] at h_power
       have hpi := powF_in (expoF (max n (-n)) n1)
       rw [<- h_power] at hpi
       rw [h_sat]
       unfold powA
       first
        | (rw [if_pos ⟨by omega, by omega⟩, <- h_power]; congr 1; omega)
        | (rw [if_neg (by omega), <- h_power])
  ·refine ⟨fun c2 => ?_, fun c2 => ?_⟩
   ·show powTo n n1 (0 : Int) (0 : Int)
    unfold powTo
    refine ⟨fun h => ?_, fun h1 h2 h3 => ?_, fun h1 h2 h3 => ?_, fun h1 h2 h3 => ?_, fun h1 h2 h3 => ?_⟩ <;> first | omega | exact ⟨rfl, rfl⟩
   ·refine ⟨fun c3 => ?_, fun c3 => ?_⟩
    ·refine ⟨fun c4 => ?_, fun c4 => ?_⟩
     ·show powTo n n1 (0 : Int) (1 : Int)
      unfold powTo
      refine ⟨fun h => ?_, fun h1 h2 h3 => ?_, fun h1 h2 h3 => ?_, fun h1 h2 h3 => ?_, fun h1 h2 h3 => ?_⟩ <;> first | omega | exact ⟨rfl, rfl⟩
     ·intro n2 e_n2 l_n2 u_n2
      intro n3 e_n3 l_n3 u_n3
      simp only [wrap_u64, wrap_i64, wrap_i32, wrap_u32, wrap_u8] at e_n3
      refine ⟨by omega, ?_⟩
      refine ⟨by omega, ?_⟩
      intro n4 e_n4 l_n4 u_n4
      refine ⟨trivial, ?_⟩
      intro n5 l_n5 u_n5 h_pexpo
      replace h_pexpo : n5 = expoF n4 n1 := h_pexpo
      refine ⟨trivial, ?_⟩
      intro n6 l_n6 u_n6 h_power
      replace h_power : n6 = powF n5 := h_power
      refine ⟨fun c5 => ?_, fun c5 => ?_⟩
      ·refine ⟨fun c6 => ?_, fun c6 => ?_⟩
       ·rw [td] at c6
        intro n7 e_n7 l_n7 u_n7
        refine ⟨trivial, ?_⟩
        intro n8 l_n8 u_n8 h_sat
        replace h_sat : n8 = clamp32 n7 := h_sat
        show powTo n n1 n8 (0 : Int)
        unfold powTo
        refine ⟨fun h => by omega, fun h1 h2 h3 => by omega, fun h1 h2 h3 => by omega, fun h1 h2 h3 => by omega, fun h1 h2 h3 => ⟨rfl, ?_⟩⟩
        have hm : n4 = max n (-n) := by omega
        rw [hm] at h_pexpo
        rw [h_pexpo] at h_power
        have hpi := powF_in (expoF (max n (-n)) n1)
        rw [<- h_power] at hpi
        rw [h_sat]
        unfold powA
        first
         | (rw [if_pos ⟨by omega, by omega⟩, <- h_power]; congr 1; omega)
         | (rw [if_neg (by omega), <- h_power])
       ·rw [td] at c6
        refine ⟨trivial, ?_⟩
        intro n7 l_n7 u_n7 h_sat
        replace h_sat : n7 = clamp32 n6 := h_sat
        show powTo n n1 n7 (0 : Int)
        unfold powTo
        refine ⟨fun h => by omega, fun h1 h2 h3 => by omega, fun h1 h2 h3 => by omega, fun h1 h2 h3 => by omega, fun h1 h2 h3 => ⟨rfl, ?_⟩⟩
        have hm : n4 = max n (-n) := by omega
        rw [hm] at h_pexpo
        rw [h_pexpo] at h_power
        have hpi := powF_in (expoF (max n (-n)) n1)
        rw [<- h_power] at hpi
        rw [h_sat]
        unfold powA
        first
         | (rw [if_pos ⟨by omega, by omega⟩, <- h_power]; congr 1; omega)
         | (rw [if_neg (by omega), <- h_power])
      ·refine ⟨trivial, ?_⟩
       intro n7 l_n7 u_n7 h_sat
       replace h_sat : n7 = clamp32 n6 := h_sat
       show powTo n n1 n7 (0 : Int)
       unfold powTo
       refine ⟨fun h => by omega, fun h1 h2 h3 => by omega, fun h1 h2 h3 => by omega, fun h1 h2 h3 => by omega, fun h1 h2 h3 => ⟨rfl, ?_⟩⟩
       have hm : n4 = max n (-n) := by omega
       rw [hm] at h_pexpo
       rw [h_pexpo] at h_power
       have hpi := powF_in (expoF (max n (-n)) n1)
       rw [<- h_power] at hpi
       rw [h_sat]
       unfold powA
       first
        | (rw [if_pos ⟨by omega, by omega⟩, <- h_power]; congr 1; omega)
        | (rw [if_neg (by omega), <- h_power])
    ·intro n2 e_n2 l_n2 u_n2
     intro n3 e_n3 l_n3 u_n3
     simp only [wrap_u64, wrap_i64, wrap_i32, wrap_u32, wrap_u8] at e_n3
     refine ⟨by omega, ?_⟩
     refine ⟨by omega, ?_⟩
     intro n4 e_n4 l_n4 u_n4
     refine ⟨trivial, ?_⟩
     intro n5 l_n5 u_n5 h_pexpo
     replace h_pexpo : n5 = expoF n4 n1 := h_pexpo
     refine ⟨trivial, ?_⟩
     intro n6 l_n6 u_n6 h_power
     replace h_power : n6 = powF n5 := h_power
     refine ⟨fun c4 => ?_, fun c4 => ?_⟩
     ·refine ⟨fun c5 => ?_, fun c5 => ?_⟩
      ·rw [td] at c5
       intro n7 e_n7 l_n7 u_n7
       refine ⟨trivial, ?_⟩
       intro n8 l_n8 u_n8 h_sat
       replace h_sat : n8 = clamp32 n7 := h_sat
       show powTo n n1 n8 (0 : Int)
       unfold powTo
       refine ⟨fun h => by omega, fun h1 h2 h3 => by omega, fun h1 h2 h3 => by omega, fun h1 h2 h3 => by omega, fun h1 h2 h3 => ⟨rfl, ?_⟩⟩
       have hm : n4 = max n (-n) := by omega
       rw [hm] at h_pexpo
       rw [h_pexpo] at h_power
       have hpi := powF_in (expoF (max n (-n)) n1)
       rw [<- h_power] at hpi
       rw [h_sat]
       unfold powA
       first
        | (rw [if_pos ⟨by omega, by omega⟩, <- h_power]; congr 1; omega)
        | (rw [if_neg (by omega), <- h_power])
      ·rw [td] at c5
       refine ⟨trivial, ?_⟩
       intro n7 l_n7 u_n7 h_sat
       replace h_sat : n7 = clamp32 n6 := h_sat
       show powTo n n1 n7 (0 : Int)
       unfold powTo
       refine ⟨fun h => by omega, fun h1 h2 h3 => by omega, fun h1 h2 h3 => by omega, fun h1 h2 h3 => by omega, fun h1 h2 h3 => ⟨rfl, ?_⟩⟩
       have hm : n4 = max n (-n) := by omega
       rw [hm] at h_pexpo
       rw [h_pexpo] at h_power
       have hpi := powF_in (expoF (max n (-n)) n1)
       rw [<- h_power] at hpi
       rw [h_sat]
       unfold powA
       first
        | (rw [if_pos ⟨by omega, by omega⟩, <- h_power]; congr 1; omega)
        | (rw [if_neg (by omega), <- h_power])
     ·refine ⟨trivial, ?_⟩
      intro n7 l_n7 u_n7 h_sat
      replace h_sat : n7 = clamp32 n6 := h_sat
      show powTo n n1 n7 (0 : Int)
      unfold powTo
      refine ⟨fun h => by omega, fun h1 h2 h3 => by omega, fun h1 h2 h3 => by omega, fun h1 h2 h3 => by omega, fun h1 h2 h3 => ⟨rfl, ?_⟩⟩
      have hm : n4 = max n (-n) := by omega
      rw [hm] at h_pexpo
      rw [h_pexpo] at h_power
      have hpi := powF_in (expoF (max n (-n)) n1)
      rw [<- h_power] at hpi
      rw [h_sat]
      unfold powA
      first
       | (rw [if_pos ⟨by omega, by omega⟩, <- h_power]; congr 1; omega)
       | (rw [if_neg (by omega), <- h_power])
theorem p_fadd : P_fadd := by
 unfold P_fadd
 intro n l_n u_n n1 l_n1 u_n1 hpre
 replace hpre : True := hpre
 intro n2 e_n2 l_n2 u_n2
 refine ⟨trivial, ?_⟩
 intro n3 l_n3 u_n3 h_sat
 replace h_sat : n3 = clamp32 n2 := h_sat
 show n3 = clamp32 (n + n1)
 rw [h_sat, e_n2]
theorem p_fsub : P_fsub := by
 unfold P_fsub
 intro n l_n u_n n1 l_n1 u_n1 hpre
 replace hpre : True := hpre
 intro n2 e_n2 l_n2 u_n2
 refine ⟨trivial, ?_⟩
 intro n3 l_n3 u_n3 h_sat
 replace h_sat : n3 = clamp32 n2 := h_sat
 show n3 = clamp32 (n - n1)
 rw [h_sat, e_n2]
theorem p_fdiv : P_fdiv := by
 unfold P_fdiv
 intro n l_n u_n n1 l_n1 u_n1 hpre
 replace hpre : True := hpre
 refine ⟨trivial, ?_⟩
 intro n2 l_n2 u_n2 n3 l_n3 u_n3 h_fratio
 replace h_fratio : ((n1 = 0 -> n2 = 0 /\ n3 = 12) /\ (0 < n1 -> n3 = 0 /\ ∃ x, isNear (n * 65536) n1 x /\ n2 = clamp32 x) /\ (n1 < 0 -> n3 = 0 /\ ∃ x, isNear (n * -65536) (-n1) x /\ n2 = clamp32 x)) := h_fratio
 show ((n1 = 0 -> n2 = 0 /\ n3 = 12) /\ (0 < n1 -> n3 = 0 /\ ∃ x, isNear (n * 65536) n1 x /\ n2 = clamp32 x) /\ (n1 < 0 -> n3 = 0 /\ ∃ x, isNear (n * -65536) (-n1) x /\ n2 = clamp32 x))
 exact h_fratio
theorem p_fof : P_fof := by
 unfold P_fof
 intro n l_n u_n hpre
 replace hpre : True := hpre
 refine ⟨trivial, ?_⟩
 intro n1 l_n1 u_n1 n2 l_n2 u_n2 h_wmul
 replace h_wmul : w128 n1 n2 = n * (65536 : Int) := h_wmul
 refine ⟨?_, ?_⟩
 ·show 1 <= (1 : Int)
  omega
 intro n3 l_n3 u_n3 h_held
 replace h_held : (∃ x, isNear (w128 n1 n2) (1 : Int) x /\ n3 = clamp32 x) := h_held
 show n3 = clamp32 (n * 65536)
 obtain ⟨x, hx, hv⟩ := h_held
 rw [h_wmul] at hx
 rw [hv]
 congr 1
 unfold isNear at hx
 omega
end Go.Proofs.YtcjllibeaiofpaaGreatDoor.Sx
