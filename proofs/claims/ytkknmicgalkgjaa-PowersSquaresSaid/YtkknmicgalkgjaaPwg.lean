/-
  The laws of powers, part g: squares.
-/
import Derived.Test.YtkknmicgalkgjaaPwf
set_option linter.all false
set_option maxRecDepth 100000
namespace Go.Proofs.Ytkknmicgalkgjaa.Sx
open Go Go.RowKit

/-- a quotient of 1. -/
theorem inv_near {x q : Int} (h0 : 2 ≤ x) (h1 : x ≤ 2147483648) (h2 : -x ≤ 2 * (q * x - 4294967296)) (h3 : 2 * (q * x - 4294967296) ≤ x) : -1 ≤ powF (roundE x (-65536)) - q ∧ powF (roundE x (-65536)) - q ≤ 1 := by
  obtain ⟨w, o, H, ⟨w0, w1, hH, y0, y1, o0, o1, l, lo, hi⟩, hw, _⟩ := log_of (x := x) (by omega) h1
  have w15 : -15 ≤ w := by
    have := lg_mono (x := 2) (y := x) (by omega) h0
    have e : Nat.log2 (2 : Int).toNat = 1 := by decide
    omega
  obtain ⟨d, he, d0, d1⟩ : ∃ d, roundE x (-65536) = (-w - 1) * 4294967296 + (4294967296 - o - d) ∧ 0 ≤ d ∧ d ≤ 1 := by
    refine ⟨(-w - 1) * 4294967296 + 4294967296 - o - roundE x (-65536), by omega, ?_⟩
    unfold roundE
    generalize longF x = L at *
    omega
  rw [he]
  have pn := pow_near (v := -w - 1) (o := 4294967296 - o - d) (by omega) (by omega)
  have hG := two_pos (45 - (-w - 1)).toNat
  have hHG : H * 2 ^ (45 - (-w - 1)).toNat = 2475880078570760549798248448 := by
    have e : (2 : Int) ^ 91 = 2475880078570760549798248448 := rfl
    rw [← e, hH, ← Int.pow_add]
    congr 1
    omega
  have hG31 : (2147483648 : Int) ≤ 2 ^ (45 - (-w - 1)).toNat := by
    have := pow_two_le (a := 31) (b := (45 - (-w - 1)).toNat) (by omega)
    have e' : (2 : Int) ^ 31 = 2147483648 := rfl
    omega
  have top : qx 32 4294967296 = 9223372036854775808 := by
    have := qx32_up (J := 0) (by omega)
    rw [qx32_zero, show (0 : Int) + 4294967296 = 4294967296 by omega] at this
    exact this
  have s1 := qx_sum 32 (Nat.le_refl _) (4294967296 - o) o (by omega) o0
  have s2 := qx_sum 32 (Nat.le_refl _) (4294967296 - o - 1) (o + 1) (by omega) (by omega)
  rw [offq32, show 4294967296 - o + o = 4294967296 by omega, top] at s1
  rw [offq32, show 4294967296 - o - 1 + (o + 1) = 4294967296 by omega, top] at s2
  have g := gap o0
  have q0 := qx32_le o0 (by omega)
  have a0 := qx32_le (J := 4294967296 - o) (by omega) (by omega)
  have b0 := qx32_le (J := 4294967296 - o - 1) (by omega) (by omega)
  have m0 := qx_rise (Nat.le_refl 32) o0
  have mA := qx_mono (Nat.le_refl 32) (J := 4294967296 - o - d) (K := 4294967296 - o) (by omega) (by omega)
  have mB := qx_mono (Nat.le_refl 32) (J := 4294967296 - o - 1) (K := 4294967296 - o - d) (by omega) (by omega)
  have lS := qx_low 32 (Nat.le_refl _) (4294967296 - o - d)
  generalize powF ((-w - 1) * 4294967296 + (4294967296 - o - d)) = p at *
  generalize qx 32 (4294967296 - o - d) = S at *
  generalize qx 32 (4294967296 - o - 1) = B at *
  generalize qx 32 (4294967296 - o) = A at *
  generalize qx 32 (o + 1) = Q1 at *
  generalize qx 32 o = Q at *
  obtain ⟨Y, hY⟩ : ∃ Y, Y = x * (2 * H) := ⟨_, rfl⟩
  rw [← hY] at y0 y1 lo hi
  -- S times Y
  have u1 := Int.mul_le_mul mA hi (by omega) (by omega)
  have u2 := Int.mul_le_mul_of_nonneg_left (show 4611686018427387904 * (Q1 - Q) ≤ 744261278 * Q from g) (show 0 ≤ A by omega)
  have u3 : A * (4611686018427387904 * (Q1 - Q)) = 4611686018427387904 * (A * Q1 - A * Q) := by grind
  have u4 : A * (744261278 * Q) = 744261278 * (A * Q) := by grind
  have u5 : A * (Q1 + 20000) = A * Q1 + 20000 * A := by grind
  have v1 := Int.mul_le_mul mB (show Q - 20000 ≤ Y by omega) (by omega) (by omega)
  have v2 := Int.mul_le_mul_of_nonneg_left (show 4611686018427387904 * (Q1 - Q) ≤ 744261278 * Q from g) (show 0 ≤ B by omega)
  have v3 : B * (4611686018427387904 * (Q1 - Q)) = 4611686018427387904 * (B * Q1 - B * Q) := by grind
  have v4 : B * (744261278 * Q) = 744261278 * (B * Q) := by grind
  have v5 : B * (Q - 20000) = B * Q - 20000 * B := by grind
  have v6 := Int.mul_le_mul_of_nonneg_left m0 (show 0 ≤ B by omega)
  rw [u3, u4] at u2
  rw [v3, v4] at v2
  rw [u5] at u1
  rw [v5] at v1
  -- p times Y
  have p1 := Int.mul_le_mul_of_nonneg_right pn.1 (show 0 ≤ Y by omega)
  have p2 := Int.mul_le_mul_of_nonneg_right pn.2 (show 0 ≤ Y by omega)
  have e1 : (p * (2 * 2 ^ (45 - (-w - 1)).toNat) - S) * Y = p * x * (4 * (H * 2 ^ (45 - (-w - 1)).toNat)) - S * Y := by rw [hY]; grind
  have e2 : (2 : Int) ^ (45 - (-w - 1)).toNat * Y = 2 * x * (H * 2 ^ (45 - (-w - 1)).toNat) := by rw [hY]; grind
  have e3 : -((2 : Int) ^ (45 - (-w - 1)).toNat) * Y = -(2 * x * (H * 2 ^ (45 - (-w - 1)).toNat)) := by rw [Int.neg_mul, e2]
  rw [e1, e3, hHG] at p1
  rw [e1, e2, hHG] at p2
  clear e1 e2 e3 hHG hG hG31 pn u3 u4 u5 v3 v4 v5 hY y0 y1 lo hi g
  generalize S * Y = SY at *
  generalize A * Q1 = AQ1 at *
  generalize A * Q = AQ at *
  generalize B * Q1 = BQ1 at *
  generalize B * Q = BQ at *
  have k1 : 2 * (p * x - 4294967296) ≤ x + 1 := by
    generalize p * x = px at *
    omega
  have k2 : -(x + 1) ≤ 2 * (p * x - 4294967296) := by
    generalize p * x = px at *
    omega
  have e4 : (p - q) * x = p * x - q * x := by grind
  constructor
  · apply Classical.byContradiction
    intro hc
    have := Int.mul_le_mul_of_nonneg_right (show p - q ≤ -2 by omega) (show 0 ≤ x by omega)
    omega
  · apply Classical.byContradiction
    intro hc
    have := Int.mul_le_mul_of_nonneg_right (show 2 ≤ p - q by omega) (show 0 ≤ x by omega)
    omega

/-- a square. -/
theorem sq_near {x m : Int} (h0 : 1 ≤ x) (h1 : x ≤ 2147483648) (h2 : 2 * 65536 * m ≤ 2 * (x * x) + 65536) (h3 : 2 * (x * x) + 65536 < 2 * 65536 * (m + 1)) : -1 ≤ clamp32 (powF (roundE x 131072)) - clamp32 m ∧ clamp32 (powF (roundE x 131072)) - clamp32 m ≤ 1 := by
  obtain ⟨w, o, H, ⟨w0, w1, hH, y0, y1, o0, o1, l, lo, hi⟩, hw, _⟩ := log_of (x := x) (by omega) h1
  obtain ⟨d, he, d0, d1⟩ : ∃ d, roundE x 131072 = (2 * w) * 4294967296 + (2 * o + d) ∧ 0 ≤ d ∧ d ≤ 2 := by
    refine ⟨roundE x 131072 - ((2 * w) * 4294967296 + 2 * o), by omega, ?_⟩
    unfold roundE
    generalize longF x = L at *
    omega
  have xx : 0 ≤ x * x := Int.mul_nonneg (by omega) (by omega)
  rw [he]
  have pin := powF_in ((2 * w) * 4294967296 + (2 * o + d))
  by_cases hbig : 15 * 4294967296 < (2 * w) * 4294967296 + (2 * o + d)
  · have hp : powF ((2 * w) * 4294967296 + (2 * o + d)) = 2147483648 := by
      unfold powF
      rw [if_pos (by omega)]
    have hx : 11863284 ≤ x := by
      apply Classical.byContradiction
      intro hc
      have := lg_mono (x := x) (y := 11863283) (by omega) (by omega)
      have e : Nat.log2 (11863283 : Int).toNat = 23 := by decide
      have ew : w = 7 := by omega
      subst ew
      have eH : H = 274877906944 := hH
      subst eH
      have q := qx_mono (Nat.le_refl 32) (J := 2147483648) (K := o) (by omega) (by omega)
      have eq : (6521908912666391000 : Int) ≤ qx 32 2147483648 := by decide +kernel
      omega
    have := Int.mul_le_mul hx hx (by omega) (by omega)
    rw [hp]
    simp only [clamp32]
    omega
  have pn := pow_near (v := 2 * w) (o := 2 * o + d) (by omega) (by omega)
  have hG := two_pos (45 - 2 * w).toNat
  have hHG : H * H = 35184372088832 * 2 ^ (45 - 2 * w).toNat := by
    have e : (2 : Int) ^ 45 = 35184372088832 := rfl
    rw [← e, hH, ← Int.pow_add, ← Int.pow_add]
    congr 1
    omega
  have s1 := qx_sum 32 (Nat.le_refl _) o o (by omega) o0
  have s2 := qx_sum 32 (Nat.le_refl _) (o + 1) (o + 1) (by omega) (by omega)
  rw [offq32, show o + o = 2 * o by omega] at s1
  rw [offq32, show o + 1 + (o + 1) = 2 * o + 2 by omega] at s2
  have g := gap o0
  have q0 := qx32_le o0 (by omega)
  have m0 := qx_rise (Nat.le_refl 32) o0
  have mA := qx_mono (Nat.le_refl 32) (J := 2 * o) (K := 2 * o + d) (by omega) (by omega)
  have mB := qx_mono (Nat.le_refl 32) (J := 2 * o + d) (K := 2 * o + 2) (by omega) (by omega)
  generalize powF ((2 * w) * 4294967296 + (2 * o + d)) = p at *
  generalize qx 32 (2 * o + d) = S at *
  generalize qx 32 (2 * o + 2) = S2 at *
  generalize qx 32 (2 * o) = S0 at *
  generalize qx 32 (o + 1) = Q1 at *
  generalize qx 32 o = Q at *
  generalize (2 : Int) ^ (45 - 2 * w).toNat = G at *
  obtain ⟨Y, hY⟩ : ∃ Y, Y = x * (2 * H) := ⟨_, rfl⟩
  rw [← hY] at y0 y1 lo hi
  have hYY : Y * Y = 140737488355328 * (x * x * G) := by
    have : Y * Y = 4 * (x * x) * (H * H) := by rw [hY]; grind
    rw [this, hHG]; grind
  -- above
  have u1 : Q1 * 4611686018427387904 ≤ Y * 4611686019171669183 := by omega
  have u2 := Int.mul_le_mul u1 u1 (by omega) (by omega)
  have u3 : Q1 * 4611686018427387904 * (Q1 * 4611686018427387904) = 21267647932558653966460912964485513216 * (Q1 * Q1) := by grind
  have u4 : Y * 4611686019171669183 * (Y * 4611686019171669183) = 4611686019171669183 * 4611686019171669183 * (Y * Y) := by grind
  have v1 : Y * 4611686018427367904 ≤ Q * 4611686019171649182 := by omega
  have v2 := Int.mul_le_mul v1 v1 (by omega) (by omega)
  have v3 : Y * 4611686018427367904 * (Y * 4611686018427367904) = 4611686018427367904 * 4611686018427367904 * (Y * Y) := by grind
  have v4 : Q * 4611686019171649182 * (Q * 4611686019171649182) = 4611686019171649182 * 4611686019171649182 * (Q * Q) := by grind
  rw [u3, u4, hYY] at u2
  rw [v3, v4, hYY] at v2
  generalize Q1 * Q1 = QQ1 at *
  generalize Q * Q = QQ at *
  have e1 : p * (2 * G) = 2 * (p * G) := by grind
  rw [e1] at pn
  clear u1 v1 u3 u4 v3 v4 hYY hHG e1 g y0 y1 lo hi hY he hbig
  constructor
  · apply Classical.byContradiction
    intro hc
    obtain ⟨v, hv⟩ : ∃ v, v = clamp32 m := ⟨_, rfl⟩
    have hv1 : v ≤ 2147483647 ∧ v ≤ m ∧ p ≤ v - 2 := by
      revert hc; rw [hv]; simp only [clamp32]; omega
    have k1 := Int.mul_le_mul_of_nonneg_right hv1.1 (show 0 ≤ G by omega)
    have k2 := Int.mul_le_mul_of_nonneg_right (show 131072 * v ≤ 2 * (x * x) + 65536 by omega) (show 0 ≤ G by omega)
    have k3 := Int.mul_le_mul_of_nonneg_right hv1.2.2 (show 0 ≤ G by omega)
    have k4 : 131072 * v * G = 131072 * (v * G) := by grind
    have k5 : (2 * (x * x) + 65536) * G = 2 * (x * x * G) + 65536 * G := by grind
    have k6 : (v - 2) * G = v * G - 2 * G := by grind
    rw [k4, k5] at k2
    rw [k6] at k3
    clear k4 k5 k6 hv hc hv1 h2 h3 u2 s2
    generalize x * x * G = XG at *
    generalize v * G = vG at *
    generalize p * G = pG at *
    omega
  · apply Classical.byContradiction
    intro hc
    have hv1 : m + 2 ≤ p := by
      revert hc; simp only [clamp32]; omega
    have hX : x * x ≤ 140737488355328 := by omega
    have k1 := Int.mul_le_mul_of_nonneg_right hX (show 0 ≤ G by omega)
    have k2 := Int.mul_le_mul_of_nonneg_right (show 2 * (x * x) + 65536 ≤ 131072 * (m + 1) by omega) (show 0 ≤ G by omega)
    have k3 := Int.mul_le_mul_of_nonneg_right hv1 (show 0 ≤ G by omega)
    have k4 : 131072 * (m + 1) * G = 131072 * (m * G) + 131072 * G := by grind
    have k5 : (2 * (x * x) + 65536) * G = 2 * (x * x * G) + 65536 * G := by grind
    have k6 : (m + 2) * G = m * G + 2 * G := by grind
    rw [k4, k5] at k2
    rw [k6] at k3
    clear k4 k5 k6 hc hv1 h2 h3 v2 s1 hX
    generalize x * x * G = XG at *
    generalize m * G = mG at *
    generalize p * G = pG at *
    omega

theorem near_off2 {c x q : Int} (h : isNear c x q) : -x ≤ 2 * (q * x - c) ∧ 2 * (q * x - c) ≤ x := by
  obtain ⟨h1, h2⟩ := h
  have e1 : 2 * x * q = 2 * (q * x) := by grind
  have e2 : 2 * x * (q + 1) = 2 * (q * x) + 2 * x := by grind
  omega
theorem inv_up {x q : Int} (h0 : 1 ≤ x) (h1 : x ≤ 2147483648) (h : isNear 4294967296 x q) : -1 ≤ clamp32 (powF (roundE x (-65536))) - clamp32 q ∧ clamp32 (powF (roundE x (-65536))) - clamp32 q ≤ 1 := by
  rcases Int.lt_or_eq_of_le h0 with z | z
  · have a := near_off2 h
    have := inv_near (q := q) (by omega) h1 (by omega) (by omega)
    simp only [clamp32]; omega
  · subst z
    obtain ⟨h1, h2⟩ := h
    have e : powF (roundE 1 (-65536)) = 2147483648 := by decide +kernel
    rw [e]; simp only [clamp32]; omega
theorem inv_down {x q : Int} (h0 : 1 ≤ x) (h1 : x ≤ 2147483648) (h : isNear (-4294967296) x q) : -1 ≤ clamp32 (-powF (roundE x (-65536))) - clamp32 q ∧ clamp32 (-powF (roundE x (-65536))) - clamp32 q ≤ 1 := by
  rcases Int.lt_or_eq_of_le h0 with z | z
  · have a := near_off2 h
    have e : (-q) * x = -(q * x) := Int.neg_mul _ _
    have := inv_near (q := -q) (by omega) h1 (by omega) (by omega)
    simp only [clamp32]; omega
  · subst z
    obtain ⟨h1, h2⟩ := h
    have e : powF (roundE 1 (-65536)) = 2147483648 := by decide +kernel
    rw [e]; simp only [clamp32]; omega
theorem sq_all {a v m e : Int} (h : powTo a 131072 v e) (ha : a ≠ 0) (h0 : -2147483648 ≤ a) (h1 : a ≤ 2147483647) (hm : isNear (a * a) 65536 m) : e = 0 ∧ -1 ≤ v - clamp32 m ∧ v - clamp32 m ≤ 1 := by
  obtain ⟨a1, _, a3⟩ := pow_gen h (by omega) ha (by omega)
  have hv := a3 (fun z => z.2 (by decide))
  obtain ⟨m1, m2⟩ := hm
  have e : max a (-a) * max a (-a) = a * a := by
    rcases Int.le_total a 0 with z | z
    · rw [show max a (-a) = -a by omega]; grind
    · rw [show max a (-a) = a by omega]
  have := sq_near (x := max a (-a)) (m := m) (by omega) (by omega) (by rw [e]; omega) (by rw [e]; omega)
  refine ⟨a1, ?_⟩
  rw [hv]
  exact this
theorem inv_all {a v q e f : Int} (h : powTo a (-65536) v e) (ha : a ≠ 0) (h0 : -2147483648 ≤ a) (h1 : a ≤ 2147483647) (hq : (a = 0 → q = 0 ∧ f = 12) ∧ (0 < a → f = 0 ∧ ∃ x, isNear (65536 * 65536) a x ∧ q = clamp32 x) ∧ (a < 0 → f = 0 ∧ ∃ x, isNear (65536 * -65536) (-a) x ∧ q = clamp32 x)) : e = 0 ∧ f = 0 ∧ -1 ≤ v - q ∧ v - q ≤ 1 := by
  obtain ⟨a1, a2, a3⟩ := pow_gen h (by omega) ha (by omega)
  rcases Int.lt_trichotomy a 0 with z | z | z
  · obtain ⟨b1, x, b2, b3⟩ := hq.2.2 z
    have hv := a2 ⟨z, by decide⟩
    rw [show max a (-a) = -a by omega] at hv
    have := inv_down (x := -a) (q := x) (by omega) (by omega) b2
    rw [hv, b3]
    exact ⟨a1, b1, this⟩
  · exact absurd z ha
  · obtain ⟨b1, x, b2, b3⟩ := hq.2.1 z
    have hv := a3 (by omega)
    rw [show max a (-a) = a by omega] at hv
    have := inv_up (x := a) (q := x) (by omega) (by omega) b2
    rw [hv, b3]
    exact ⟨a1, b1, this⟩
theorem sign_all {a b n k v w e f : Int} (h : powTo a n v e) (g : powTo b n w f) (hn : n = k * 65536) (hb : b = -a) (ha : a ≠ 0) : e = 0 ∧ f = 0 ∧ (k.tmod 2 = 0 → v = w) ∧ (k.tmod 2 ≠ 0 → (v = -w ∧ -2147483647 ≤ w ∧ w ≤ 2147483647) ∨ (v = -2147483648 ∧ w = 2147483647) ∨ (v = 2147483647 ∧ w = -2147483648)) := by
  subst hb
  by_cases hk : k = 0
  · subst hk
    rw [show n = 0 by omega] at h g
    have h1 := pw0 h
    have g1 := pw0 g
    exact ⟨h1.1, g1.1, fun _ => by omega, fun z => absurd rfl z⟩
  · obtain ⟨h1, h2, h3⟩ := pow_gen h (by omega) ha (by omega)
    obtain ⟨g1, g2, g3⟩ := pow_gen g (by omega) (by omega) (by omega)
    have ed : n.tdiv 65536 = k := by rw [hn]; exact Int.mul_tdiv_cancel _ (by omega)
    rw [ed] at h2 h3 g2 g3
    rw [show max (-a) (- -a) = max a (-a) by omega] at g2 g3
    have hp := powF_in (roundE (max a (-a)) n)
    generalize powF (roundE (max a (-a)) n) = P at *
    refine ⟨h1, g1, fun z => ?_, fun z => ?_⟩
    · rw [h3 (fun y => y.2 z), g3 (fun y => y.2 z)]
    · rcases Int.lt_or_lt_of_ne ha with y | y
      · have a1 := h2 ⟨y, z⟩
        have a2 := g3 (by omega)
        simp only [clamp32] at a1 a2
        omega
      · have a1 := h3 (by omega)
        have a2 := g2 ⟨by omega, z⟩
        simp only [clamp32] at a1 a2
        omega

theorem p_lsquares : P_lsquares := by
  unfold P_lsquares
  intro n l_n u_n
  intro n1 l_n1 u_n1
  intro hpre
  replace hpre : True := hpre
  refine ⟨fun c0 => ?_, fun c0 => ?_⟩
  · refine ⟨trivial, ?_⟩
    intro t
    intro h_lives
    replace h_lives : (b2i t) = 1 := h_lives
    show (b2i t) = 1
    assumption
  · refine ⟨trivial, ?_⟩
    intro n2 l_n2 u_n2
    intro n3 l_n3 u_n3
    intro h_pow
    replace h_pow : powTo n (131072 : Int) n2 n3 := h_pow
    refine ⟨trivial, ?_⟩
    intro n4 l_n4 u_n4
    intro n5 l_n5 u_n5
    intro h_pow1
    replace h_pow1 : powTo n (-65536 : Int) n4 n5 := h_pow1
    refine ⟨trivial, ?_⟩
    intro n6 l_n6 u_n6
    intro n7 l_n7 u_n7
    intro h_fratio
    replace h_fratio : ((n = 0 → n6 = 0 ∧ n7 = 12) ∧ (0 < n → n7 = 0 ∧ ∃ x, isNear ((65536 : Int) * 65536) n x ∧ n6 = clamp32 x) ∧ (n < 0 → n7 = 0 ∧ ∃ x, isNear ((65536 : Int) * -65536) (-n) x ∧ n6 = clamp32 x)) := h_fratio
    have z1 := inv_all h_pow1 (by omega) l_n u_n h_fratio
    clear h_pow1 h_fratio
    refine ⟨trivial, ?_⟩
    intro n8 l_n8 u_n8
    intro h_fmul
    replace h_fmul : (∃ x, isNear (n * n) 65536 x ∧ n8 = clamp32 x) := h_fmul
    obtain ⟨m, m1, m2⟩ := h_fmul
    have z2 := sq_all h_pow (by omega) l_n u_n m1
    rw [← m2] at z2
    clear h_pow
    intro n9 e_n9 l_n9 u_n9
    intro n10 e_n10 l_n10 u_n10
    refine ⟨fun c1 => ?_, fun c1 => ?_⟩
    · show (b2i false) = 1
      exfalso; first | omega | (simp only [Classical.not_iff] at *; omega)
    · refine ⟨fun c2 => ?_, fun c2 => ?_⟩
      · show (b2i false) = 1
        exfalso; first | omega | (simp only [Classical.not_iff] at *; omega)
      · refine ⟨fun c3 => ?_, fun c3 => ?_⟩
        · show (b2i false) = 1
          exfalso; first | omega | (simp only [Classical.not_iff] at *; omega)
        · refine ⟨fun c4 => ?_, fun c4 => ?_⟩
          · show (b2i false) = 1
            exfalso; first | omega | (simp only [Classical.not_iff] at *; omega)
          · refine ⟨fun c5 => ?_, fun c5 => ?_⟩
            · show (b2i false) = 1
              exfalso; first | omega | (simp only [Classical.not_iff] at *; omega)
            · refine ⟨fun c6 => ?_, fun c6 => ?_⟩
              · show (b2i false) = 1
                exfalso; first | omega | (simp only [Classical.not_iff] at *; omega)
              · refine ⟨fun c7 => ?_, fun c7 => ?_⟩
                · show (b2i false) = 1
                  exfalso; first | omega | (simp only [Classical.not_iff] at *; omega)
                · intro n11 e_n11 l_n11 u_n11
                  refine ⟨fun c8 => ?_, fun c8 => ?_⟩
                  · refine ⟨trivial, ?_⟩
                    intro t
                    intro h_lives
                    replace h_lives : (b2i t) = 1 := h_lives
                    show (b2i t) = 1
                    assumption
                  · refine ⟨trivial, ?_⟩
                    intro n12 l_n12 u_n12
                    intro n13 l_n13 u_n13
                    intro h_pow2
                    replace h_pow2 : powTo n n11 n12 n13 := h_pow2
                    intro n14 e_n14 l_n14 u_n14
                    simp only [wrap_u64, wrap_i64, wrap_i32, wrap_u32, wrap_u8] at e_n14
                    refine ⟨trivial, ?_⟩
                    intro n15 l_n15 u_n15
                    intro n16 l_n16 u_n16
                    intro h_pow3
                    replace h_pow3 : powTo n14 n11 n15 n16 := h_pow3
                    have z3 := sign_all (k := n1) h_pow2 h_pow3 (by omega) (by omega) (by omega)
                    clear h_pow2 h_pow3
                    refine ⟨fun c9 => ?_, fun c9 => ?_⟩
                    · show (b2i false) = 1
                      exfalso; first | omega | (simp only [Classical.not_iff] at *; omega)
                    · refine ⟨fun c10 => ?_, fun c10 => ?_⟩
                      · show (b2i false) = 1
                        exfalso; first | omega | (simp only [Classical.not_iff] at *; omega)
                      · refine ⟨fun c11 => ?_, fun c11 => ?_⟩
                        · refine ⟨fun c12 => ?_, fun c12 => ?_⟩
                          · refine ⟨trivial, ?_⟩
                            intro t
                            intro h_lives
                            replace h_lives : (b2i t) = 1 := h_lives
                            show (b2i t) = 1
                            assumption
                          · show (b2i false) = 1
                            exfalso; first | omega | (simp only [Classical.not_iff] at *; omega)
                        · refine ⟨fun c12 => ?_, fun c12 => ?_⟩
                          · simp only [wrap_u64, wrap_i64, wrap_i32, wrap_u32, wrap_u8] at c12
                            refine ⟨trivial, ?_⟩
                            intro t
                            intro h_lives
                            replace h_lives : (b2i t) = 1 := h_lives
                            show (b2i t) = 1
                            assumption
                          · simp only [wrap_u64, wrap_i64, wrap_i32, wrap_u32, wrap_u8] at c12
                            refine ⟨fun c13 => ?_, fun c13 => ?_⟩
                            · refine ⟨fun c14 => ?_, fun c14 => ?_⟩
                              · refine ⟨trivial, ?_⟩
                                intro t
                                intro h_lives
                                replace h_lives : (b2i t) = 1 := h_lives
                                show (b2i t) = 1
                                assumption
                              · refine ⟨fun c15 => ?_, fun c15 => ?_⟩
                                · refine ⟨fun c16 => ?_, fun c16 => ?_⟩
                                  · refine ⟨trivial, ?_⟩
                                    intro t
                                    intro h_lives
                                    replace h_lives : (b2i t) = 1 := h_lives
                                    show (b2i t) = 1
                                    assumption
                                  · show (b2i false) = 1
                                    exfalso; first | omega | (simp only [Classical.not_iff] at *; omega)
                                · show (b2i false) = 1
                                  exfalso; first | omega | (simp only [Classical.not_iff] at *; omega)
                            · refine ⟨fun c14 => ?_, fun c14 => ?_⟩
                              · refine ⟨fun c15 => ?_, fun c15 => ?_⟩
                                · refine ⟨trivial, ?_⟩
                                  intro t
                                  intro h_lives
                                  replace h_lives : (b2i t) = 1 := h_lives
                                  show (b2i t) = 1
                                  assumption
                                · show (b2i false) = 1
                                  exfalso; first | omega | (simp only [Classical.not_iff] at *; omega)
                              · show (b2i false) = 1
                                exfalso; first | omega | (simp only [Classical.not_iff] at *; omega)

end Go.Proofs.Ytkknmicgalkgjaa.Sx
