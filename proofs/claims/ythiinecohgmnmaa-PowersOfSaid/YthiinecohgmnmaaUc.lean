/-
  The document's powers: 2 to the power of a number.
-/
import Derived.Test.YthiinecohgmnmaaUb
set_option linter.all false
set_option maxRecDepth 100000
namespace Go.Proofs.Ythiinecohgmnmaa.Sx
open Go Go.RowKit

theorem rt_tab : ∀ k : Fin 33, 1 ≤ k.val → tP.getD k.val 0 = rT.getD (k.val - 1) 0 := by decide +kernel
theorem tmod2 (x : Int) : x.tmod 2 = 0 ↔ x % 2 = 0 := by
  rcases Int.le_total 0 x with z | z
  · rw [Int.tmod_eq_emod_of_nonneg z]
  · obtain ⟨m, rfl⟩ : ∃ m, x = -m := ⟨-x, by omega⟩
    rw [Int.neg_tmod, Int.tmod_eq_emod_of_nonneg (show 0 ≤ m by omega)]
    omega
theorem tw_step {e i j p t : Int} (h1 : 1 ≤ i) (h2 : i < 33) (hp : p = qn (i - 1).toNat (e % 4294967296 / 2 ^ (33 - i).toNat)) (hj : j = 32 - i) (ht : t = rT.getD (i - 1).toNat 0) :
    (p * t < 85070591730234615865843651857942052864) ∧ (¬ (shI .shr .i64 e j).tmod 2 = 0 → p * t / 4611686018427387904 = qn i.toNat (e % 4294967296 / 2 ^ (32 - i).toNat)) ∧ (¬ ¬ (shI .shr .i64 e j).tmod 2 = 0 → p = qn i.toNat (e % 4294967296 / 2 ^ (32 - i).toNat)) ∧ 4611686018427387904 ≤ qn i.toNat (e % 4294967296 / 2 ^ (32 - i).toNat) ∧ qn i.toNat (e % 4294967296 / 2 ^ (32 - i).toNat) ≤ 9223372036854775808 := by
  subst hj
  have ht' : t = tP.getD i.toNat 0 := by
    have := rt_tab ⟨i.toNat, by omega⟩ (by show 1 ≤ i.toNat; omega)
    simp only at this
    rw [this, ht, show (i - 1).toNat = i.toNat - 1 by omega]
  have h := pw_step h1 h2 hp ht'
  rw [and1_i64] at h
  have k := tmod2 (shI .shr .i64 e (32 - i))
  exact ⟨h.1, fun z => h.2.1 (by omega), fun z => h.2.2.1 (by omega), h.2.2.2⟩
theorem qn_last : qx 32 4294967295 < 9223372036854775808 := by decide +kernel
theorem qn_top {f : Int} (h0 : 0 ≤ f) (h1 : f < 4294967296) : qn 32 f < 9223372036854775808 := by
  have := qx_mono (n := 32) (by omega) h0 (show f ≤ 4294967295 by omega)
  rw [qx32_lt h0 h1] at this
  have := qn_last
  omega
theorem powF_hi {e : Int} (h : 15 ≤ e / 4294967296) : powF e = 2147483648 := by unfold powF; rw [if_pos h]
theorem powF_lo {e : Int} (h : e / 4294967296 < -17) : powF e = 0 := by unfold powF; rw [if_neg (by omega), if_pos h]
theorem two_hi {e x : Int} (h : 15 ≤ e / 4294967296) (hx : 2147483648 ≤ x) : clamp32 x = clamp32 (powF e) ∧ clamp32 (-x) = clamp32 (-powF e) := by
  rw [powF_hi h]
  simp only [clamp32]
  omega
/-- nearest to a fraction whose numbers bear one factor. -/
theorem near_cut {q G A x U D : Int} (hA : 0 < A) (hG : 0 < G) (hU : U = q * A) (hD : D = 2 * G * A) (h : isNear U D x) : 2 * G * x ≤ q + G ∧ q + G < 2 * G * (x + 1) := by
  subst hU hD
  obtain ⟨h1, h2⟩ := h
  constructor
  · refine Int.not_lt.1 ?_
    intro z
    have := Int.mul_lt_mul_of_pos_right z hA
    have e1 : (q + G) * A = q * A + G * A := by grind
    have e2 : 2 * G * x * A = 2 * G * A * x := by grind
    have e3 : 2 * (2 * G * A) * x = 2 * (2 * G * A * x) := by grind
    have e4 : 2 * G * A = 2 * (G * A) := by grind
    rw [e1, e2] at this
    rw [e3] at h1
    omega
  · refine Int.not_le.1 ?_
    intro z
    have := Int.mul_le_mul_of_nonneg_right z (Int.le_of_lt hA)
    have e1 : (q + G) * A = q * A + G * A := by grind
    have e2 : 2 * G * (x + 1) * A = 2 * G * A * (x + 1) := by grind
    have e3 : 2 * (2 * G * A) * (x + 1) = 2 * (2 * G * A * (x + 1)) := by grind
    have e4 : 2 * G * A = 2 * (G * A) := by grind
    rw [e1, e2] at this
    rw [e3] at h2
    omega
theorem half_is {q G x : Int} (hG : 0 < G) (h1 : 2 * G * x ≤ q + G) (h2 : q + G < 2 * G * (x + 1)) : (q / G + 1) / 2 = x := by
  have a1 := Int.mul_ediv_add_emod q G
  have a2 := Int.emod_nonneg q (show G ≠ 0 by omega)
  have a3 := Int.emod_lt_of_pos q hG
  generalize q / G = d at *
  generalize q % G = r at *
  subst a1
  have b1 : 2 * x < d + 2 := by
    refine Int.not_le.1 ?_
    intro z
    have := Int.mul_le_mul_of_nonneg_left z (Int.le_of_lt hG)
    have e1 : G * (d + 2) = G * d + 2 * G := by grind
    have e2 : G * (2 * x) = 2 * G * x := by grind
    omega
  have b2 : d + 1 < 2 * x + 2 := by
    refine Int.not_le.1 ?_
    intro z
    have := Int.mul_le_mul_of_nonneg_left z (Int.le_of_lt hG)
    have e1 : G * (d + 1) = G * d + G := by grind
    have e2 : G * (2 * x + 2) = 2 * G * (x + 1) := by grind
    omega
  omega
theorem two_is {e w x U D : Int} (hw : w = e / 4294967296) (w0 : -40 ≤ w) (w1 : w ≤ 20) (hU : U = qn 32 (e % 4294967296) * 65536 * 2 ^ (max w 0).toNat) (hD : D = 4611686018427387904 * 2 ^ (max (-w) 0).toNat) (hx : isNear U D x) :
    0 ≤ x ∧ x ≤ 1099511627776 ∧ clamp32 x = clamp32 (powF e) ∧ clamp32 (-x) = clamp32 (-powF e) := by
  have hf : 0 ≤ e % 4294967296 ∧ e % 4294967296 < 4294967296 := by omega
  have q0 := (qn32_in e).1
  have q1 := qn_top hf.1 hf.2
  have hG : (0 : Int) < 2 ^ (45 - w).toNat := Int.pow_pos (by decide)
  have hP : (0 : Int) < 2 ^ (max w 0).toNat := Int.pow_pos (by decide)
  have eD : D = 2 * 2 ^ (45 - w).toNat * (65536 * 2 ^ (max w 0).toNat) := by
    rw [hD]
    have h1 : (2 : Int) ^ (45 - w).toNat * 2 ^ (max w 0).toNat = 35184372088832 * 2 ^ (max (-w) 0).toNat := by
      have e1 : (2 : Int) ^ 45 = 35184372088832 := rfl
      rw [← e1, ← Int.pow_add, ← Int.pow_add]
      congr 1
      omega
    have e2 : (2 : Int) * 2 ^ (45 - w).toNat * (65536 * 2 ^ (max w 0).toNat) = 131072 * (2 ^ (45 - w).toNat * 2 ^ (max w 0).toNat) := by grind
    rw [e2, h1]
    omega
  obtain ⟨k1, k2⟩ := near_cut (q := qn 32 (e % 4294967296)) (G := 2 ^ (45 - w).toNat) (A := 65536 * 2 ^ (max w 0).toNat) (by omega) hG (by rw [hU]; grind) eD hx
  have G25 : (33554432 : Int) ≤ 2 ^ (45 - w).toNat := by
    have := pow_two_le (show 25 ≤ (45 - w).toNat by omega)
    exact this
  have hx0 : 0 ≤ x := by
    refine Int.not_lt.1 ?_
    intro z
    have := Int.mul_le_mul_of_nonneg_left (show x + 1 ≤ 0 by omega) (show 0 ≤ 2 * (2 : Int) ^ (45 - w).toNat by omega)
    omega
  have hx1 : x ≤ 1099511627776 := by
    refine Int.not_lt.1 ?_
    intro z
    have a := Int.mul_le_mul_of_nonneg_left (show 1099511627777 ≤ x by omega) (show 0 ≤ 2 * (2 : Int) ^ (45 - w).toNat by omega)
    omega
  refine ⟨hx0, hx1, ?_⟩
  rcases Int.lt_or_le w 15 with c | c
  · rcases Int.lt_or_le w (-17) with d | d
    · rw [powF_lo (by omega)]
      have G63 : (9223372036854775808 : Int) ≤ 2 ^ (45 - w).toNat := by
        have := pow_two_le (show 63 ≤ (45 - w).toNat by omega)
        exact this
      have : x = 0 := by
        have : x < 1 := by
          refine Int.not_le.1 ?_
          intro z
          have := Int.mul_le_mul_of_nonneg_left z (show 0 ≤ 2 * (2 : Int) ^ (45 - w).toNat by omega)
          omega
        omega
      rw [this]
      exact ⟨rfl, rfl⟩
    · have hr := (powF_raw (e := e) (by omega) (by omega)).1
      rw [← hw, half_is hG k1 k2] at hr
      rw [hr]
      exact ⟨rfl, rfl⟩
  · have G30 : (2 : Int) ^ (45 - w).toNat ≤ 1073741824 := by
      have := pow_two_le (show (45 - w).toNat ≤ 30 by omega)
      exact this
    refine two_hi (by omega) ?_
    refine Int.not_lt.1 ?_
    intro z
    have := Int.mul_le_mul_of_nonneg_left (show x + 1 ≤ 2147483648 by omega) (show 0 ≤ 2 * (2 : Int) ^ (45 - w).toNat by omega)
    omega
theorem two_start {x e : Int} (h : x = 0 ∨ x = 1099511627776) (h1 : x = 0 → e / 4294967296 < -17) (h2 : x = 1099511627776 → 15 ≤ e / 4294967296) : 0 ≤ x ∧ x ≤ 1099511627776 ∧ clamp32 x = clamp32 (powF e) ∧ clamp32 (-x) = clamp32 (-powF e) := by
  rcases h with rfl | rfl
  · rw [powF_lo (h1 rfl)]; exact ⟨by omega, by omega, rfl, rfl⟩
  · exact ⟨by omega, by omega, two_hi (h2 rfl) (by omega)⟩
theorem pow_next {a b : Int} (h : b = a + 1) (h0 : 0 ≤ a) : (2 : Int) ^ b.toNat = 2 * 2 ^ a.toNat := by
  rw [show b.toNat = a.toNat + 1 by omega, Int.pow_succ]
  omega
theorem pow_small {a : Int} (h : a ≤ 40) : (1 : Int) ≤ 2 ^ a.toNat ∧ (2 : Int) ^ a.toNat ≤ 1099511627776 := by
  refine ⟨Int.pow_pos (by decide), ?_⟩
  have := pow_two_le (show a.toNat ≤ 40 by omega)
  exact this
theorem pow_small20 {a : Int} (h : a ≤ 20) : (2 : Int) ^ a.toNat ≤ 1048576 := by
  have := pow_two_le (show a.toNat ≤ 20 by omega)
  exact this

set_option maxHeartbeats 4000000 in
theorem p_rtwo : P_rtwo := by
  unfold P_rtwo
  intro n l_n u_n
  intro hpre
  replace hpre : True := hpre
  intro b
  intro n1 e_n1 l_n1 u_n1
  refine ⟨fun c0 => ?_, fun c0 => ?_⟩
  · refine ⟨trivial, ?_⟩
    intro t
    intro n2 l_n2 u_n2
    intro n3 l_n3 u_n3
    intro n4 l_n4 u_n4
    intro n5 l_n5 u_n5
    intro n6 l_n6 u_n6
    intro n7 l_n7 u_n7
    intro n8 l_n8 u_n8
    intro n9 l_n9 u_n9
    intro n10 l_n10 u_n10
    intro n11 l_n11 u_n11
    intro n12 l_n12 u_n12
    intro n13 l_n13 u_n13
    intro h_small
    replace h_small : (vd [n2, n3, n4, n5, n6, n7, n8, n9, n10, n11, n12, n13] ≤ 9223372036854775808 ∧ sv [b2i t, n2, n3, n4, n5, n6, n7, n8, n9, n10, n11, n12, n13] = (1099511627776 : Int) ∧ ((b2i t) = 1 ↔ (1099511627776 : Int) < 0)) := h_small
    show (0 ≤ sv [b2i t, n2, n3, n4, n5, n6, n7, n8, n9, n10, n11, n12, n13] ∧ sv [b2i t, n2, n3, n4, n5, n6, n7, n8, n9, n10, n11, n12, n13] ≤ 1099511627776 ∧ vd [n2, n3, n4, n5, n6, n7, n8, n9, n10, n11, n12, n13] ≤ 1267650600228229401496703205376 ∧ clamp32 (sv [b2i t, n2, n3, n4, n5, n6, n7, n8, n9, n10, n11, n12, n13]) = clamp32 (powF n) ∧ clamp32 (-(sv [b2i t, n2, n3, n4, n5, n6, n7, n8, n9, n10, n11, n12, n13])) = clamp32 (-(powF n)))
    have tw := two_start (x := sv [b2i t, n2, n3, n4, n5, n6, n7, n8, n9, n10, n11, n12, n13]) (e := n) (by omega) (by omega) (by omega)
    exact ⟨tw.1, tw.2.1, by omega, tw.2.2.1, tw.2.2.2⟩
  · refine ⟨fun c1 => ?_, fun c1 => ?_⟩
    · refine ⟨trivial, ?_⟩
      intro t
      intro n2 l_n2 u_n2
      intro n3 l_n3 u_n3
      intro n4 l_n4 u_n4
      intro n5 l_n5 u_n5
      intro n6 l_n6 u_n6
      intro n7 l_n7 u_n7
      intro n8 l_n8 u_n8
      intro n9 l_n9 u_n9
      intro n10 l_n10 u_n10
      intro n11 l_n11 u_n11
      intro n12 l_n12 u_n12
      intro n13 l_n13 u_n13
      intro h_small
      replace h_small : (vd [n2, n3, n4, n5, n6, n7, n8, n9, n10, n11, n12, n13] ≤ 9223372036854775808 ∧ sv [b2i t, n2, n3, n4, n5, n6, n7, n8, n9, n10, n11, n12, n13] = (0 : Int) ∧ ((b2i t) = 1 ↔ (0 : Int) < 0)) := h_small
      show (0 ≤ sv [b2i t, n2, n3, n4, n5, n6, n7, n8, n9, n10, n11, n12, n13] ∧ sv [b2i t, n2, n3, n4, n5, n6, n7, n8, n9, n10, n11, n12, n13] ≤ 1099511627776 ∧ vd [n2, n3, n4, n5, n6, n7, n8, n9, n10, n11, n12, n13] ≤ 1267650600228229401496703205376 ∧ clamp32 (sv [b2i t, n2, n3, n4, n5, n6, n7, n8, n9, n10, n11, n12, n13]) = clamp32 (powF n) ∧ clamp32 (-(sv [b2i t, n2, n3, n4, n5, n6, n7, n8, n9, n10, n11, n12, n13])) = clamp32 (-(powF n)))
      have tw := two_start (x := sv [b2i t, n2, n3, n4, n5, n6, n7, n8, n9, n10, n11, n12, n13]) (e := n) (by omega) (by omega) (by omega)
      exact ⟨tw.1, tw.2.1, by omega, tw.2.2.1, tw.2.2.2⟩
    · intro b1
      intro b2
      refine ⟨?_, ?_⟩
      · show (4611686018427387904 : Int) = qn ((1 : Int) - 1).toNat (n % 4294967296 / 2 ^ (33 - (1 : Int)).toNat)
        rw [show ((1 : Int) - 1).toNat = 0 from rfl]
        rfl
      intro n2 l_n2 u_n2
      intro n3 l_n3 u_n3
      intro hi_tw0
      replace hi_tw0 : n3 = qn (n2 - 1).toNat (n % 4294967296 / 2 ^ (33 - n2).toNat) := hi_tw0
      intro vs lv_vs
      refine ⟨fun c2 => ?_, fun c2 => ?_⟩
      · refine ⟨by omega, ?_⟩
        intro n4 e_n4 l_n4 u_n4
        refine ⟨fun c3 => ?_, fun c3 => ?_⟩
        · refine ⟨by omega, ?_⟩
          intro n5 e_n5 l_n5 u_n5
          have hst := tw_step (p := n3) l_n2 (by omega) hi_tw0 e_n4 e_n5
          refine ⟨?_, ?_⟩
          · show n3 * n5 < 85070591730234615865843651857942052864
            exact hst.1
          intro n6 l_n6 u_n6
          intro h_rprod4
          replace h_rprod4 : n6 = n3 * n5 / 4611686018427387904 := h_rprod4
          have h3 := hst.2.2.2
          rw [← hst.2.1 (by assumption), ← h_rprod4] at h3
          intro n7 e_n7 l_n7 u_n7
          refine ⟨by omega, ?_⟩
          intro n8 e_n8 l_n8 u_n8
          refine ⟨by omega, ?_⟩
          refine ⟨by omega, ?_⟩
          intro n9 e_n9 l_n9 u_n9
          refine ⟨?_, ?_⟩
          · show n9 = qn (n8 - 1).toNat (n % 4294967296 / 2 ^ (33 - n8).toNat)
            rw [show (n8 - 1).toNat = n2.toNat by omega, show (33 - n8).toNat = (32 - n2).toNat by omega]
            rw [← hst.2.1 (by assumption), ← h_rprod4, e_n9]
          · show (33 - n8).toNat < (33 - n2).toNat
            omega
        · intro n5 e_n5 l_n5 u_n5
          refine ⟨by omega, ?_⟩
          intro n6 e_n6 l_n6 u_n6
          refine ⟨?_, ?_⟩
          · show n3 = qn (n6 - 1).toNat (n % 4294967296 / 2 ^ (33 - n6).toNat)
            rw [show (n6 - 1).toNat = n2.toNat by omega, show (33 - n6).toNat = (32 - n2).toNat by omega]
            have hst := tw_step (t := rT.getD (n2 - 1).toNat 0) (p := n3) l_n2 (by omega) hi_tw0 e_n4 rfl
            exact hst.2.2.1 (by assumption)
          · show (33 - n6).toNat < (33 - n2).toNat
            omega
      · refine ⟨trivial, ?_⟩
        intro t
        intro n4 l_n4 u_n4
        intro n5 l_n5 u_n5
        intro n6 l_n6 u_n6
        intro n7 l_n7 u_n7
        intro n8 l_n8 u_n8
        intro n9 l_n9 u_n9
        intro n10 l_n10 u_n10
        intro n11 l_n11 u_n11
        intro n12 l_n12 u_n12
        intro n13 l_n13 u_n13
        intro n14 l_n14 u_n14
        intro n15 l_n15 u_n15
        intro h_rn4
        replace h_rn4 : ((b2i t) = 0 ∧ vd [n4, n5, n6, n7, n8, n9, n10, n11, n12, n13, n14, n15] = n3) := h_rn4
        have h33 : n2 = 33 := by omega
        rw [h33] at hi_tw0
        replace hi_tw0 : n3 = qn 32 (n % 4294967296 / 1) := hi_tw0
        rw [show n % 4294967296 / 1 = n % 4294967296 by omega] at hi_tw0
        refine ⟨trivial, ?_⟩
        intro t1
        intro n16 l_n16 u_n16
        intro n17 l_n17 u_n17
        intro n18 l_n18 u_n18
        intro n19 l_n19 u_n19
        intro n20 l_n20 u_n20
        intro n21 l_n21 u_n21
        intro n22 l_n22 u_n22
        intro n23 l_n23 u_n23
        intro n24 l_n24 u_n24
        intro n25 l_n25 u_n25
        intro n26 l_n26 u_n26
        intro n27 l_n27 u_n27
        intro h_small
        replace h_small : (vd [n16, n17, n18, n19, n20, n21, n22, n23, n24, n25, n26, n27] ≤ 9223372036854775808 ∧ sv [b2i t1, n16, n17, n18, n19, n20, n21, n22, n23, n24, n25, n26, n27] = (65536 : Int) ∧ ((b2i t1) = 1 ↔ (65536 : Int) < 0)) := h_small
        refine ⟨trivial, ?_⟩
        intro t2
        intro n28 l_n28 u_n28
        intro n29 l_n29 u_n29
        intro n30 l_n30 u_n30
        intro n31 l_n31 u_n31
        intro n32 l_n32 u_n32
        intro n33 l_n33 u_n33
        intro n34 l_n34 u_n34
        intro n35 l_n35 u_n35
        intro n36 l_n36 u_n36
        intro n37 l_n37 u_n37
        intro n38 l_n38 u_n38
        intro n39 l_n39 u_n39
        intro h_product
        replace h_product : (((b2i t2) = 1 ↔ (b2i t) ≠ (b2i t1)) ∧ vd [n28, n29, n30, n31, n32, n33, n34, n35, n36, n37, n38, n39] = (vd [n4, n5, n6, n7, n8, n9, n10, n11, n12, n13, n14, n15] * vd [n16, n17, n18, n19, n20, n21, n22, n23, n24, n25, n26, n27]) % top12) := h_product
        have hp := prod_pos h_product h_rn4 (show b2i t1 = 0 ∧ _ from ⟨by have := sv_nn h_small.2.1 h_small.2.2 (by omega); rw [this.1]; rfl, (sv_nn h_small.2.1 h_small.2.2 (by omega)).2⟩) (by omega) (by simp only [top12]; omega)
        obtain ⟨hp1, hp2⟩ := hp
        intro b3
        refine ⟨trivial, ?_⟩
        intro t3
        intro n40 l_n40 u_n40
        intro n41 l_n41 u_n41
        intro n42 l_n42 u_n42
        intro n43 l_n43 u_n43
        intro n44 l_n44 u_n44
        intro n45 l_n45 u_n45
        intro n46 l_n46 u_n46
        intro n47 l_n47 u_n47
        intro n48 l_n48 u_n48
        intro n49 l_n49 u_n49
        intro n50 l_n50 u_n50
        intro n51 l_n51 u_n51
        intro h_rn41
        replace h_rn41 : ((b2i t3) = 0 ∧ vd [n40, n41, n42, n43, n44, n45, n46, n47, n48, n49, n50, n51] = (4611686018427387904 : Int)) := h_rn41
        intro b4
        refine ⟨by omega, ?_⟩
        refine ⟨by omega, ?_⟩
        intro n52 e_n52 l_n52 u_n52
        refine ⟨?_, ?_⟩
        · show (sv [b2i t2, n28, n29, n30, n31, n32, n33, n34, n35, n36, n37, n38, n39] = n3 * 65536 * 2 ^ (n52 - n52).toNat ∧ vd [n28, n29, n30, n31, n32, n33, n34, n35, n36, n37, n38, n39] ≤ 604462909807314587353088 * 2 ^ (n52 - n52).toNat ∧ n52 ≤ n52 ∧ (0 < n52 → 0 ≤ n52) ∧ (n52 ≤ 0 → n52 = n52))
          have z : (n52 - n52).toNat = 0 := by omega
          rw [z, Int.pow_zero, hp1, sv_false, hp2]
          refine ⟨by omega, by omega, by omega, by omega, by omega⟩
        intro n53 l_n53 u_n53
        intro t4
        intro n54 l_n54 u_n54
        intro n55 l_n55 u_n55
        intro n56 l_n56 u_n56
        intro n57 l_n57 u_n57
        intro n58 l_n58 u_n58
        intro n59 l_n59 u_n59
        intro n60 l_n60 u_n60
        intro n61 l_n61 u_n61
        intro n62 l_n62 u_n62
        intro n63 l_n63 u_n63
        intro n64 l_n64 u_n64
        intro n65 l_n65 u_n65
        intro hi_tw1
        replace hi_tw1 : (sv [b2i t4, n54, n55, n56, n57, n58, n59, n60, n61, n62, n63, n64, n65] = n3 * 65536 * 2 ^ (n52 - n53).toNat ∧ vd [n54, n55, n56, n57, n58, n59, n60, n61, n62, n63, n64, n65] ≤ 604462909807314587353088 * 2 ^ (n52 - n53).toNat ∧ n53 ≤ n52 ∧ (0 < n52 → 0 ≤ n53) ∧ (n52 ≤ 0 → n53 = n52)) := hi_tw1
        have ru := vd12 n54 n55 n56 n57 n58 n59 n60 n61 n62 n63 n64 n65 ⟨l_n54, u_n54⟩ ⟨l_n55, u_n55⟩ ⟨l_n56, u_n56⟩ ⟨l_n57, u_n57⟩ ⟨l_n58, u_n58⟩ ⟨l_n59, u_n59⟩ ⟨l_n60, u_n60⟩ ⟨l_n61, u_n61⟩ ⟨l_n62, u_n62⟩ ⟨l_n63, u_n63⟩ ⟨l_n64, u_n64⟩ ⟨l_n65, u_n65⟩
        have ps := pow_small20 (a := n52 - n53) (by omega)
        intro vs1 lv_vs1
        refine ⟨fun c3 => ?_, fun c3 => ?_⟩
        · refine ⟨?_, ?_⟩
          · show vd [n54, n55, n56, n57, n58, n59, n60, n61, n62, n63, n64, n65] + vd [n54, n55, n56, n57, n58, n59, n60, n61, n62, n63, n64, n65] < top12
            simp only [top12]; omega
          intro t5
          intro n66 l_n66 u_n66
          intro n67 l_n67 u_n67
          intro n68 l_n68 u_n68
          intro n69 l_n69 u_n69
          intro n70 l_n70 u_n70
          intro n71 l_n71 u_n71
          intro n72 l_n72 u_n72
          intro n73 l_n73 u_n73
          intro n74 l_n74 u_n74
          intro n75 l_n75 u_n75
          intro n76 l_n76 u_n76
          intro n77 l_n77 u_n77
          intro h_sum
          replace h_sum : (sv [b2i t5, n66, n67, n68, n69, n70, n71, n72, n73, n74, n75, n76, n77] = sv [b2i t4, n54, n55, n56, n57, n58, n59, n60, n61, n62, n63, n64, n65] + sv [b2i t4, n54, n55, n56, n57, n58, n59, n60, n61, n62, n63, n64, n65] ∧ vd [n66, n67, n68, n69, n70, n71, n72, n73, n74, n75, n76, n77] ≤ vd [n54, n55, n56, n57, n58, n59, n60, n61, n62, n63, n64, n65] + vd [n54, n55, n56, n57, n58, n59, n60, n61, n62, n63, n64, n65]) := h_sum
          intro n78 e_n78 l_n78 u_n78
          refine ⟨by omega, ?_⟩
          intro n79 e_n79 l_n79 u_n79
          refine ⟨?_, ?_⟩
          · show (sv [b2i t5, n66, n67, n68, n69, n70, n71, n72, n73, n74, n75, n76, n77] = n3 * 65536 * 2 ^ (n52 - n79).toNat ∧ vd [n66, n67, n68, n69, n70, n71, n72, n73, n74, n75, n76, n77] ≤ 604462909807314587353088 * 2 ^ (n52 - n79).toNat ∧ n79 ≤ n52 ∧ (0 < n52 → 0 ≤ n79) ∧ (n52 ≤ 0 → n79 = n52))
            have hn := pow_next (a := n52 - n53) (b := n52 - n79) (by omega) (by omega)
            have e1 : n3 * 65536 * (2 * 2 ^ (n52 - n53).toNat) = 2 * (n3 * 65536 * 2 ^ (n52 - n53).toNat) := by grind
            rw [hn, e1]
            refine ⟨by omega, by omega, by omega, by omega, by omega⟩
          · show n79.toNat < n53.toNat
            omega
        · refine ⟨?_, ?_⟩
          · show (sv [b2i t3, n40, n41, n42, n43, n44, n45, n46, n47, n48, n49, n50, n51] = 4611686018427387904 * 2 ^ (n53 - n53).toNat ∧ vd [n40, n41, n42, n43, n44, n45, n46, n47, n48, n49, n50, n51] = 4611686018427387904 * 2 ^ (n53 - n53).toNat ∧ n53 ≤ n53 ∧ (n53 < 0 → n53 ≤ 0) ∧ (0 ≤ n53 → n53 = n53))
            have z : (n53 - n53).toNat = 0 := by omega
            have hz := sv_zero (l := [n40, n41, n42, n43, n44, n45, n46, n47, n48, n49, n50, n51]) h_rn41.1
            rw [z, Int.pow_zero, hz.2]
            refine ⟨by omega, by omega, by omega, by omega, by omega⟩
          intro n66 l_n66 u_n66
          intro t5
          intro n67 l_n67 u_n67
          intro n68 l_n68 u_n68
          intro n69 l_n69 u_n69
          intro n70 l_n70 u_n70
          intro n71 l_n71 u_n71
          intro n72 l_n72 u_n72
          intro n73 l_n73 u_n73
          intro n74 l_n74 u_n74
          intro n75 l_n75 u_n75
          intro n76 l_n76 u_n76
          intro n77 l_n77 u_n77
          intro n78 l_n78 u_n78
          intro hi_tw2
          replace hi_tw2 : (sv [b2i t5, n67, n68, n69, n70, n71, n72, n73, n74, n75, n76, n77, n78] = 4611686018427387904 * 2 ^ (n66 - n53).toNat ∧ vd [n67, n68, n69, n70, n71, n72, n73, n74, n75, n76, n77, n78] = 4611686018427387904 * 2 ^ (n66 - n53).toNat ∧ n53 ≤ n66 ∧ (n53 < 0 → n66 ≤ 0) ∧ (0 ≤ n53 → n66 = n53)) := hi_tw2
          have rd := vd12 n67 n68 n69 n70 n71 n72 n73 n74 n75 n76 n77 n78 ⟨l_n67, u_n67⟩ ⟨l_n68, u_n68⟩ ⟨l_n69, u_n69⟩ ⟨l_n70, u_n70⟩ ⟨l_n71, u_n71⟩ ⟨l_n72, u_n72⟩ ⟨l_n73, u_n73⟩ ⟨l_n74, u_n74⟩ ⟨l_n75, u_n75⟩ ⟨l_n76, u_n76⟩ ⟨l_n77, u_n77⟩ ⟨l_n78, u_n78⟩
          have pd := pow_small (a := n66 - n53) (by omega)
          have eu : (n52 - n53).toNat = (max n1 0).toNat := by omega
          intro vs2 lv_vs2
          refine ⟨fun c4 => ?_, fun c4 => ?_⟩
          · refine ⟨?_, ?_⟩
            · show vd [n67, n68, n69, n70, n71, n72, n73, n74, n75, n76, n77, n78] + vd [n67, n68, n69, n70, n71, n72, n73, n74, n75, n76, n77, n78] < top12
              simp only [top12]; omega
            intro t6
            intro n79 l_n79 u_n79
            intro n80 l_n80 u_n80
            intro n81 l_n81 u_n81
            intro n82 l_n82 u_n82
            intro n83 l_n83 u_n83
            intro n84 l_n84 u_n84
            intro n85 l_n85 u_n85
            intro n86 l_n86 u_n86
            intro n87 l_n87 u_n87
            intro n88 l_n88 u_n88
            intro n89 l_n89 u_n89
            intro n90 l_n90 u_n90
            intro h_sum
            replace h_sum : (sv [b2i t6, n79, n80, n81, n82, n83, n84, n85, n86, n87, n88, n89, n90] = sv [b2i t5, n67, n68, n69, n70, n71, n72, n73, n74, n75, n76, n77, n78] + sv [b2i t5, n67, n68, n69, n70, n71, n72, n73, n74, n75, n76, n77, n78] ∧ vd [n79, n80, n81, n82, n83, n84, n85, n86, n87, n88, n89, n90] ≤ vd [n67, n68, n69, n70, n71, n72, n73, n74, n75, n76, n77, n78] + vd [n67, n68, n69, n70, n71, n72, n73, n74, n75, n76, n77, n78]) := h_sum
            intro n91 e_n91 l_n91 u_n91
            refine ⟨by omega, ?_⟩
            intro n92 e_n92 l_n92 u_n92
            refine ⟨?_, ?_⟩
            · show (sv [b2i t6, n79, n80, n81, n82, n83, n84, n85, n86, n87, n88, n89, n90] = 4611686018427387904 * 2 ^ (n92 - n53).toNat ∧ vd [n79, n80, n81, n82, n83, n84, n85, n86, n87, n88, n89, n90] = 4611686018427387904 * 2 ^ (n92 - n53).toNat ∧ n53 ≤ n92 ∧ (n53 < 0 → n92 ≤ 0) ∧ (0 ≤ n53 → n92 = n53))
              have hn := pow_next (a := n66 - n53) (b := n92 - n53) (by omega) (by omega)
              rw [hn]
              have rr := vd12 n79 n80 n81 n82 n83 n84 n85 n86 n87 n88 n89 n90 ⟨l_n79, u_n79⟩ ⟨l_n80, u_n80⟩ ⟨l_n81, u_n81⟩ ⟨l_n82, u_n82⟩ ⟨l_n83, u_n83⟩ ⟨l_n84, u_n84⟩ ⟨l_n85, u_n85⟩ ⟨l_n86, u_n86⟩ ⟨l_n87, u_n87⟩ ⟨l_n88, u_n88⟩ ⟨l_n89, u_n89⟩ ⟨l_n90, u_n90⟩
              have hs : sv [b2i t6, n79, n80, n81, n82, n83, n84, n85, n86, n87, n88, n89, n90] = 4611686018427387904 * (2 * 2 ^ (n66 - n53).toNat) := by omega
              have hv := sv_pos hs (by omega) rr.1
              refine ⟨hs, hv, by omega, by omega, by omega⟩
            · show (-n92).toNat < (-n66).toNat
              omega
          · refine ⟨?_, ?_⟩
            · show (0 < vd [n67, n68, n69, n70, n71, n72, n73, n74, n75, n76, n77, n78] ∧ 2 * vd [n54, n55, n56, n57, n58, n59, n60, n61, n62, n63, n64, n65] + vd [n67, n68, n69, n70, n71, n72, n73, n74, n75, n76, n77, n78] < top12 ∧ 4 * vd [n67, n68, n69, n70, n71, n72, n73, n74, n75, n76, n77, n78] ≤ top12)
              simp only [top12]; omega
            intro t6
            intro n79 l_n79 u_n79
            intro n80 l_n80 u_n80
            intro n81 l_n81 u_n81
            intro n82 l_n82 u_n82
            intro n83 l_n83 u_n83
            intro n84 l_n84 u_n84
            intro n85 l_n85 u_n85
            intro n86 l_n86 u_n86
            intro n87 l_n87 u_n87
            intro n88 l_n88 u_n88
            intro n89 l_n89 u_n89
            intro n90 l_n90 u_n90
            intro h_nearest
            replace h_nearest : (nearest (sv [b2i t4, n54, n55, n56, n57, n58, n59, n60, n61, n62, n63, n64, n65]) (sv [b2i t5, n67, n68, n69, n70, n71, n72, n73, n74, n75, n76, n77, n78]) (sv [b2i t6, n79, n80, n81, n82, n83, n84, n85, n86, n87, n88, n89, n90]) ∧ vd [n79, n80, n81, n82, n83, n84, n85, n86, n87, n88, n89, n90] ≤ 2 * vd [n54, n55, n56, n57, n58, n59, n60, n61, n62, n63, n64, n65] + 2) := h_nearest
            have ed : (n66 - n53).toNat = (max (-n1) 0).toNat := by omega
            have hn := h_nearest.1.1 (by omega)
            have tw := two_is (e := n) e_n1 (by omega) (by omega) (by rw [hi_tw1.1, eu, hi_tw0]) (by rw [hi_tw2.1, ed]) hn
            have rr := vd12 n79 n80 n81 n82 n83 n84 n85 n86 n87 n88 n89 n90 ⟨l_n79, u_n79⟩ ⟨l_n80, u_n80⟩ ⟨l_n81, u_n81⟩ ⟨l_n82, u_n82⟩ ⟨l_n83, u_n83⟩ ⟨l_n84, u_n84⟩ ⟨l_n85, u_n85⟩ ⟨l_n86, u_n86⟩ ⟨l_n87, u_n87⟩ ⟨l_n88, u_n88⟩ ⟨l_n89, u_n89⟩ ⟨l_n90, u_n90⟩
            have sr := sv_of t6 [n79, n80, n81, n82, n83, n84, n85, n86, n87, n88, n89, n90]
            show (0 ≤ sv [b2i t6, n79, n80, n81, n82, n83, n84, n85, n86, n87, n88, n89, n90] ∧ sv [b2i t6, n79, n80, n81, n82, n83, n84, n85, n86, n87, n88, n89, n90] ≤ 1099511627776 ∧ vd [n79, n80, n81, n82, n83, n84, n85, n86, n87, n88, n89, n90] ≤ 1267650600228229401496703205376 ∧ clamp32 (sv [b2i t6, n79, n80, n81, n82, n83, n84, n85, n86, n87, n88, n89, n90]) = clamp32 (powF n) ∧ clamp32 (-(sv [b2i t6, n79, n80, n81, n82, n83, n84, n85, n86, n87, n88, n89, n90])) = clamp32 (-(powF n)))
            exact ⟨tw.1, tw.2.1, by omega, tw.2.2.1, tw.2.2.2⟩

end Go.Proofs.Ythiinecohgmnmaa.Sx
