/-
  Plain laws of places, part a.
-/
import Derived.Test.YtndfeckmfhiniaaGreatDoorWpf
import Derived.Test.YtndfeckmfhiniaaGreatDoorWpg
import Derived.Test.YtndfeckmfhiniaaGreatDoorWz
set_option linter.all false
set_option maxRecDepth 100000
namespace Go.Proofs.YtndfeckmfhiniaaGreatDoor.Sx
open Go Go.RowKit

theorem mul_bP {a b A B : Int} (h1 : -A ≤ a) (h2 : a ≤ A) (h3 : -B ≤ b) (h4 : b ≤ B) (hA : 0 ≤ A) (hB : 0 ≤ B) : -(A * B) ≤ a * b ∧ a * b ≤ A * B := by
  have := mul_in (a := a) (b := b) ⟨h1, h2⟩ ⟨h3, h4⟩
  have e1 : -A * -B = A * B := by grind
  have e2 : -A * B = -(A * B) := by grind
  have e3 : A * -B = -(A * B) := by grind
  have e4 : 0 ≤ A * B := Int.mul_nonneg hA hB
  rw [e1, e2, e3] at this
  generalize A * B = x at *
  generalize a * b = y at *
  unfold mn mx at this
  constructor
  · have := this.1; (repeat' split at this) <;> omega
  · have := this.2; (repeat' split at this) <;> omega
theorem tell_in {v h l e : Int} (t : tellW v h l e) (h1 : -half128 ≤ v) (h2 : v < half128) : w128 h l = v := (t.1 ⟨h1, h2⟩).2
theorem sml_mul {X a : Int} (h : sml X) (h1 : -2147483648 ≤ a) (h2 : a ≤ 2147483648) : -158456325028528675187087900672 ≤ X * a ∧ X * a ≤ 158456325028528675187087900672 := by
  have := mul_bP (A := 73786976294838206464) (B := 2147483648) h.1 h.2 h1 h2 (by omega) (by omega)
  omega
theorem one_mul' {D e : Int} (h1 : 1 ≤ D) (h2 : D ≤ 4294967295) (h3 : -2147483648 ≤ e) (h4 : e ≤ 2147483648) : -158456325028528675187087900672 ≤ D * 65536 * e ∧ D * 65536 * e ≤ 158456325028528675187087900672 := by
  have := mul_bP (a := D * 65536) (b := e) (A := 281474976710656) (B := 2147483648) (by omega) (by omega) h3 h4 (by omega) (by omega)
  omega
/-- three products, one added to the other. -/
theorem three {X Y D O a c e p1 q1 r1 p2 q2 r2 p3 q3 r3 p4 q4 r4 p5 q5 r5 p6 q6 r6 : Int}
    (t1 : tellW (X * a) p1 q1 r1) (t2 : tellW (w128 0 0 + w128 p1 q1) p2 q2 r2) (t3 : tellW (Y * c) p3 q3 r3) (t4 : tellW (w128 p2 q2 + w128 p3 q3) p4 q4 r4) (t5 : tellW (O * e) p5 q5 r5) (t6 : tellW (w128 p4 q4 + w128 p5 q5) p6 q6 r6)
    (hX : sml X) (hY : sml Y) (hD : 1 ≤ D) (hD' : D ≤ 4294967295) (hO : O = D * 65536) (ha : -2147483648 ≤ a) (ha' : a ≤ 2147483647) (hc : -2147483648 ≤ c) (hc' : c ≤ 2147483647) (he : -2147483648 ≤ e) (he' : e ≤ 2147483647) :
    w128 p6 q6 = linN a c e X Y D := by
  subst hO
  have b1 := sml_mul hX ha (by omega)
  have b2 := sml_mul hY hc (by omega)
  have b3 := one_mul' hD hD' he (by omega)
  have e1 := tell_in t1 (by simp only [half128]; omega) (by simp only [half128]; omega)
  have z : w128 0 0 = 0 := rfl
  have e2 := tell_in t2 (by simp only [half128]; omega) (by simp only [half128]; omega)
  have e3 := tell_in t3 (by simp only [half128]; omega) (by simp only [half128]; omega)
  have e4 := tell_in t4 (by simp only [half128]; omega) (by simp only [half128]; omega)
  have e5 := tell_in t5 (by simp only [half128]; omega) (by simp only [half128]; omega)
  have e6 := tell_in t6 (by simp only [half128]; omega) (by simp only [half128]; omega)
  rw [e6, e4, e2, e1, e3, e5, z]
  simp only [linN]
  omega
theorem lin_b {a c e X Y D : Int} (hX : sml X) (hY : sml Y) (hD : 1 ≤ D) (hD' : D ≤ 4294967295) (ha : -2147483648 ≤ a) (ha' : a ≤ 2147483647) (hc : -2147483648 ≤ c) (hc' : c ≤ 2147483647) (he : -2147483648 ≤ e) (he' : e ≤ 2147483647) : -475368975085586025561263702016 ≤ linN a c e X Y D ∧ linN a c e X Y D ≤ 475368975085586025561263702016 := by
  have b1 := sml_mul hX ha (by omega)
  have b2 := sml_mul hY hc (by omega)
  have b3 := one_mul' hD hD' he (by omega)
  simp only [linN]
  omega
theorem near_ex (a : Int) {d : Int} (hd : 0 < d) : ∃ q, isNear a d q := by
  refine ⟨(2 * a + d) / (2 * d), ?_, ?_⟩
  · exact Int.mul_ediv_self_le (by omega)
  · have := Int.lt_mul_ediv_self_add (x := 2 * a + d) (k := 2 * d) (by omega)
    have e : 2 * d * ((2 * a + d) / (2 * d) + 1) = 2 * d * ((2 * a + d) / (2 * d)) + 2 * d := by grind
    omega
theorem not_far {parts v : Int} (h : inFar parts v) (h1 : 0 ≤ parts) (h2 : parts ≤ 65536) : isI64 v := by
  simp only [inFar, isI64] at *; omega
theorem far_int {parts w n t : Int} (h : isInt w n t) (ht : ¬ t = 1) (h1 : 0 ≤ parts) (h2 : parts ≤ 65536) : ¬ inFar parts w := fun hf => ht (h.1 (not_far hf h1 h2)).1
theorem int_is {w n t : Int} (h : isInt w n t) (ht : t = 1) : n = w := by
  by_cases z : isI64 w
  · exact (h.1 z).2
  · have := (h.2 z).1; omega
section
variable {k parts a b c d e f X xd Y yd : Int}
theorem placed_arg (h : ¬ may20 X xd Y yd) : placed k parts a b c d e f X xd Y yd 0 0 1 := ⟨fun _ => ⟨rfl, rfl, rfl⟩, fun z => absurd z h⟩
theorem placed_far (h : may20 X xd Y yd) (hk : 1 ≤ k) {p : Int} (hp : isNear (linN a c e X Y xd) (xd * k) p ∨ isNear (linN b d f X Y xd) (xd * k) p) (hn : ¬ inFar parts p) : placed k parts a b c d e f X xd Y yd 0 0 8 := by
  have hd : 1 ≤ xd * k := by
    have := Int.mul_le_mul h.2.1 hk (by omega) (by have := h.2.1; omega)
    omega
  obtain ⟨p', hp'⟩ := near_ex (linN a c e X Y xd) (show 0 < xd * k by omega)
  obtain ⟨q', hq'⟩ := near_ex (linN b d f X Y xd) (show 0 < xd * k by omega)
  refine ⟨fun z => absurd h z, fun _ => ⟨p', q', hp', hq', fun z => ?_, fun _ => ⟨rfl, rfl, rfl⟩⟩⟩
  rcases hp with hp | hp
  · rw [near_uniq hd hp hp'] at hn; exact absurd z.1 hn
  · rw [near_uniq hd hp hq'] at hn; exact absurd z.2 hn
theorem placed_ok (h : may20 X xd Y yd) {p q : Int} (hp : isNear (linN a c e X Y xd) (xd * k) p) (hq : isNear (linN b d f X Y xd) (xd * k) q) (hp' : inFar parts p) (hq' : inFar parts q) : placed k parts a b c d e f X xd Y yd p q 0 :=
  ⟨fun z => absurd h z, fun _ => ⟨p, q, hp, hq, fun _ => ⟨rfl, rfl, rfl⟩, fun z => absurd ⟨hp', hq'⟩ z⟩⟩
theorem placed_or {px py er : Int} (t : placed k parts a b c d e f X xd Y yd px py er) :
    (¬ may20 X xd Y yd ∧ er = 1 ∧ px = 0 ∧ py = 0) ∨ (may20 X xd Y yd ∧ ∃ p q, isNear (linN a c e X Y xd) (xd * k) p ∧ isNear (linN b d f X Y xd) (xd * k) q ∧ ((inFar parts p ∧ inFar parts q ∧ er = 0 ∧ px = p ∧ py = q) ∨ (¬ (inFar parts p ∧ inFar parts q) ∧ er = 8 ∧ px = 0 ∧ py = 0))) := by
  by_cases h : may20 X xd Y yd
  · obtain ⟨p, q, hp, hq, h1, h2⟩ := t.2 h
    refine Or.inr ⟨h, p, q, hp, hq, ?_⟩
    by_cases z : inFar parts p ∧ inFar parts q
    · obtain ⟨a1, a2, a3⟩ := h1 z; exact Or.inl ⟨z.1, z.2, a1, a2, a3⟩
    · obtain ⟨a1, a2, a3⟩ := h2 z; exact Or.inr ⟨z, a1, a2, a3⟩
  · exact Or.inl ⟨h, t.1 h⟩
theorem xk_pos (h : may20 X xd Y yd) (hk : 1 ≤ k) : 1 ≤ xd * k := by
  have := Int.mul_le_mul h.2.1 hk (by omega) (by have := h.2.1; omega)
  omega
theorem placed_uniq (hk : 1 ≤ k) {px py er qx qy es : Int} (t : placed k parts a b c d e f X xd Y yd px py er) (u : placed k parts a b c d e f X xd Y yd qx qy es) : px = qx ∧ py = qy ∧ er = es := by
  rcases placed_or t with ⟨a1, a2, a3, a4⟩ | ⟨a1, p, q, a2, a3, a4⟩ <;> rcases placed_or u with ⟨b1, b2, b3, b4⟩ | ⟨b1, p', q', b2, b3, b4⟩
  · omega
  · exact absurd b1 a1
  · exact absurd a1 b1
  · have e1 := near_uniq (xk_pos a1 hk) a2 b2
    have e2 := near_uniq (xk_pos a1 hk) a3 b3
    subst e1; subst e2
    rcases a4 with ⟨c1, c2, c3, c4, c5⟩ | ⟨c1, c2, c3, c4⟩ <;> rcases b4 with ⟨d1, d2, d3, d4, d5⟩ | ⟨d1, d2, d3, d4⟩
    · omega
    · exact absurd ⟨c1, c2⟩ d1
    · exact absurd ⟨d1, d2⟩ c1
    · omega
end
theorem lineTo_int {k parts a c e X Y D w n t : Int} (hp : isNear (linN a c e X Y D) (D * k) w) (hi : isInt w n t) (h1 : 0 ≤ parts) (h2 : parts ≤ 65536) :
    (t = 1 → inFar parts n → lineTo k parts a c e X Y D n 1) ∧ ((¬ t = 1 ∨ ¬ inFar parts n) → lineTo k parts a c e X Y D n 0) := by
  refine ⟨fun ht hf => ?_, fun h => ?_⟩
  · rw [int_is hi ht] at hf ⊢
    exact ⟨w, hp, fun _ => ⟨rfl, rfl⟩, fun z => absurd hf z⟩
  · refine ⟨w, hp, fun z => ?_, fun _ => rfl⟩
    have := hi.1 (not_far z h1 h2)
    rcases h with h | h
    · exact absurd this.1 h
    · rw [this.2] at h; exact absurd z h
theorem near_scale {a d q : Int} (s : Int) (hs : 1 ≤ s) (h : isNear (a * s) (d * s) q) : isNear a d q := by
  obtain ⟨h1, h2⟩ := h
  have e1 : 2 * (d * s) * q = (2 * d * q) * s := by grind
  have e2 : 2 * (a * s) + d * s = (2 * a + d) * s := by grind
  have e3 : 2 * (d * s) * (q + 1) = (2 * d * (q + 1)) * s := by grind
  rw [e1, e2] at h1
  rw [e2, e3] at h2
  exact ⟨Int.le_of_mul_le_mul_right h1 (by omega), Int.lt_of_mul_lt_mul_right h2 (by omega)⟩

theorem p_psmall : P_psmall := by
  unfold P_psmall
  intro n l_n u_n
  intro n1 l_n1 u_n1
  intro hpre
  replace hpre : True := hpre
  intro b
  intro b1
  refine ⟨trivial, ?_⟩
  intro n2 l_n2 u_n2
  intro n3 l_n3 u_n3
  intro h_wof
  replace h_wof : w128 n2 n3 = (0 : Int) := h_wof
  simp only [w128] at h_wof
  refine ⟨trivial, ?_⟩
  intro n4 l_n4 u_n4
  intro n5 l_n5 u_n5
  intro n6 l_n6 u_n6
  intro h_wsub
  replace h_wsub : tellW (w128 n2 n3 - w128 (4 : Int) (0 : Int)) n4 n5 n6 := h_wsub
  have hs := tell_in h_wsub (by simp only [w128, half128] at *; omega) (by simp only [w128, half128] at *; omega)
  simp only [w128] at hs
  intro b2
  refine ⟨trivial, ?_⟩
  intro n7 l_n7 u_n7
  intro h_wcmp
  replace h_wcmp : ((w128 n n1 < w128 (4 : Int) (0 : Int) → n7 = -1) ∧ (w128 n n1 = w128 (4 : Int) (0 : Int) → n7 = 0) ∧ (w128 (4 : Int) (0 : Int) < w128 n n1 → n7 = 1)) := h_wcmp
  simp only [w128] at h_wcmp
  refine ⟨fun c0 => ?_, fun c0 => ?_⟩
  · refine ⟨trivial, ?_⟩
    intro n8 l_n8 u_n8
    intro h_wcmp1
    replace h_wcmp1 : ((w128 n n1 < w128 n4 n5 → n8 = -1) ∧ (w128 n n1 = w128 n4 n5 → n8 = 0) ∧ (w128 n4 n5 < w128 n n1 → n8 = 1)) := h_wcmp1
    simp only [w128] at h_wcmp1
    show ((sml (w128 n n1) → (b2i (decide (0 ≤ n8))) = 1) ∧ (¬ sml (w128 n n1) → (b2i (decide (0 ≤ n8))) = 0))
    simp only [sml, w128, b2i, decide_eq_true_eq, Bool.false_eq_true, if_false]; constructor <;> intro hh <;> omega
  · show ((sml (w128 n n1) → (b2i false) = 1) ∧ (¬ sml (w128 n n1) → (b2i false) = 0))
    simp only [sml, w128, b2i, decide_eq_true_eq, Bool.false_eq_true, if_false]; constructor <;> intro hh <;> omega

theorem p_rmay : P_rmay := by
  unfold P_rmay
  intro n l_n u_n
  intro n1 l_n1 u_n1
  intro n2 l_n2 u_n2
  intro hpre
  replace hpre : True := hpre
  intro b
  refine ⟨trivial, ?_⟩
  intro n3 l_n3 u_n3
  intro n4 l_n4 u_n4
  intro h_rmul
  replace h_rmul : w128 n3 n4 = (8589934592 : Int) * (8589934592 : Int) := h_rmul
  simp only [w128] at h_rmul
  intro b1
  refine ⟨trivial, ?_⟩
  intro n5 l_n5 u_n5
  intro n6 l_n6 u_n6
  intro h_rmul1
  replace h_rmul1 : w128 n5 n6 = (-8589934592 : Int) * (8589934592 : Int) := h_rmul1
  simp only [w128] at h_rmul1
  intro b2
  refine ⟨fun c0 => ?_, fun c0 => ?_⟩
  · refine ⟨fun c1 => ?_, fun c1 => ?_⟩
    · refine ⟨trivial, ?_⟩
      intro n7 l_n7 u_n7
      intro h_rcmp
      replace h_rcmp : ((w128 n n1 < w128 n3 n4 → n7 = -1) ∧ (w128 n n1 = w128 n3 n4 → n7 = 0) ∧ (w128 n3 n4 < w128 n n1 → n7 = 1)) := h_rcmp
      simp only [w128] at h_rcmp
      refine ⟨fun c2 => ?_, fun c2 => ?_⟩
      · refine ⟨trivial, ?_⟩
        intro n8 l_n8 u_n8
        intro h_rcmp1
        replace h_rcmp1 : ((w128 n n1 < w128 n5 n6 → n8 = -1) ∧ (w128 n n1 = w128 n5 n6 → n8 = 0) ∧ (w128 n5 n6 < w128 n n1 → n8 = 1)) := h_rcmp1
        simp only [w128] at h_rcmp1
        show ((1 ≤ n2 ∧ n2 ≤ 4294967295 ∧ sml (w128 n n1) → (b2i (decide (0 ≤ n8))) = 1) ∧ (¬ (1 ≤ n2 ∧ n2 ≤ 4294967295 ∧ sml (w128 n n1)) → (b2i (decide (0 ≤ n8))) = 0))
        simp only [sml, w128, b2i, decide_eq_true_eq, Bool.false_eq_true, if_false]; constructor <;> intro hh <;> omega
      · show ((1 ≤ n2 ∧ n2 ≤ 4294967295 ∧ sml (w128 n n1) → (b2i false) = 1) ∧ (¬ (1 ≤ n2 ∧ n2 ≤ 4294967295 ∧ sml (w128 n n1)) → (b2i false) = 0))
        simp only [sml, w128, b2i, decide_eq_true_eq, Bool.false_eq_true, if_false]; constructor <;> intro hh <;> omega
    · show ((1 ≤ n2 ∧ n2 ≤ 4294967295 ∧ sml (w128 n n1) → (b2i false) = 1) ∧ (¬ (1 ≤ n2 ∧ n2 ≤ 4294967295 ∧ sml (w128 n n1)) → (b2i false) = 0))
      simp only [sml, w128, b2i, decide_eq_true_eq, Bool.false_eq_true, if_false]; constructor <;> intro hh <;> omega
  · show ((1 ≤ n2 ∧ n2 ≤ 4294967295 ∧ sml (w128 n n1) → (b2i false) = 1) ∧ (¬ (1 ≤ n2 ∧ n2 ≤ 4294967295 ∧ sml (w128 n n1)) → (b2i false) = 0))
    simp only [sml, w128, b2i, decide_eq_true_eq, Bool.false_eq_true, if_false]; constructor <;> intro hh <;> omega

theorem p_rline : P_rline := by
  unfold P_rline
  intro n l_n u_n
  intro n1 l_n1 u_n1
  intro n2 l_n2 u_n2
  intro n3 l_n3 u_n3
  intro n4 l_n4 u_n4
  intro n5 l_n5 u_n5
  intro n6 l_n6 u_n6
  intro n7 l_n7 u_n7
  intro n8 l_n8 u_n8
  intro n9 l_n9 u_n9
  intro hpre
  replace hpre : (may20 (w128 n3 n4) n5 (w128 n6 n7) n8 ∧ (n9 = 256 ∨ n9 = 65536)) := hpre
  intro b
  intro b1
  refine ⟨trivial, ?_⟩
  intro n10 l_n10 u_n10
  intro n11 l_n11 u_n11
  intro n12 l_n12 u_n12
  intro h_rtms
  replace h_rtms : tellW (w128 n3 n4 * n) n10 n11 n12 := h_rtms
  intro b2
  refine ⟨trivial, ?_⟩
  intro n13 l_n13 u_n13
  intro n14 l_n14 u_n14
  intro n15 l_n15 u_n15
  intro h_rtms1
  replace h_rtms1 : tellW (w128 n6 n7 * n1) n13 n14 n15 := h_rtms1
  intro b3
  refine ⟨trivial, ?_⟩
  intro n16 l_n16 u_n16
  intro n17 l_n17 u_n17
  intro h_rmul
  replace h_rmul : w128 n16 n17 = n2 * (65536 : Int) := h_rmul
  refine ⟨trivial, ?_⟩
  intro n18 l_n18 u_n18
  intro n19 l_n19 u_n19
  intro n20 l_n20 u_n20
  intro h_rtms2
  replace h_rtms2 : tellW (w128 n16 n17 * n5) n18 n19 n20 := h_rtms2
  intro b4
  refine ⟨trivial, ?_⟩
  intro n21 l_n21 u_n21
  intro n22 l_n22 u_n22
  intro n23 l_n23 u_n23
  intro h_radd
  replace h_radd : tellW (w128 n10 n11 + w128 n13 n14) n21 n22 n23 := h_radd
  intro b5
  refine ⟨trivial, ?_⟩
  intro n24 l_n24 u_n24
  intro n25 l_n25 u_n25
  intro n26 l_n26 u_n26
  intro h_radd1
  replace h_radd1 : tellW (w128 n21 n22 + w128 n18 n19) n24 n25 n26 := h_radd1
  intro n27 e_n27 l_n27 u_n27
  refine ⟨trivial, ?_⟩
  intro n28 l_n28 u_n28
  intro n29 l_n29 u_n29
  intro n30 l_n30 u_n30
  intro h_rtms3
  replace h_rtms3 : tellW (w128 n24 n25 * n27) n28 n29 n30 := h_rtms3
  intro n31 e_n31 l_n31 u_n31
  refine ⟨trivial, ?_⟩
  intro n32 l_n32 u_n32
  intro n33 l_n33 u_n33
  intro n34 l_n34 u_n34
  intro h_rnear
  replace h_rnear : ((n31 < 1 → n32 = 0 ∧ n33 = 0 ∧ n34 = 1) ∧ (1 ≤ n31 → n34 = 0 ∧ isNear (w128 n28 n29) n31 (w128 n32 n33))) := h_rnear
  refine ⟨trivial, ?_⟩
  intro n35 l_n35 u_n35
  intro t
  intro h_rint
  replace h_rint : isInt (w128 n32 n33) n35 (b2i t) := h_rint
  obtain ⟨⟨hd1, hd2, hd3, hsX, hsY⟩, hpp⟩ := hpre
  have b1 := sml_mul hsX l_n (by omega)
  have b2 := sml_mul hsY l_n1 (by omega)
  have b3 := one_mul' hd2 hd3 l_n2 (by omega)
  have b0 := lin_b hsX hsY hd2 hd3 l_n u_n l_n1 u_n1 l_n2 u_n2
  have e1 := tell_in h_rtms (by simp only [half128]; omega) (by simp only [half128]; omega)
  have e2 := tell_in h_rtms1 (by simp only [half128]; omega) (by simp only [half128]; omega)
  have e4 : n2 * 65536 * n5 = n5 * 65536 * n2 := by grind
  rw [h_rmul, e4] at h_rtms2
  have e3 := tell_in h_rtms2 (by simp only [half128]; omega) (by simp only [half128]; omega)
  have e5 := tell_in h_radd (by simp only [half128]; omega) (by simp only [half128]; omega)
  have e6 := tell_in h_radd1 (by simp only [half128]; omega) (by simp only [half128]; omega)
  have e7 : w128 n24 n25 = linN n n1 n2 (w128 n3 n4) (w128 n6 n7) n5 := by rw [e6, e5, e1, e2, e3]; rfl
  rw [e7] at h_rtms3
  have e8 : w128 n28 n29 = linN n n1 n2 (w128 n3 n4) (w128 n6 n7) n5 * n27 := by
    rcases hpp with q | q <;> subst q
    · rw [show n27 = 1 by omega] at h_rtms3 ⊢
      exact tell_in h_rtms3 (by simp only [half128]; omega) (by simp only [half128]; omega)
    · rw [show n27 = 256 by omega] at h_rtms3 ⊢
      exact tell_in h_rtms3 (by simp only [half128]; omega) (by simp only [half128]; omega)
  simp only [wrap_i64] at e_n31
  have e9 : n31 = n5 * 16777216 := by omega
  have e10 := (h_rnear.2 (by omega)).2
  rw [e8, e9] at e10
  have e11 : isNear (linN n n1 n2 (w128 n3 n4) (w128 n6 n7) n5) (n5 * (4294967296 / n9)) (w128 n32 n33) := by
    rcases hpp with q | q <;> subst q
    · rw [show n27 = 1 by omega, Int.mul_one] at e10
      exact e10
    · rw [show n27 = 256 by omega] at e10
      refine near_scale 256 (by omega) ?_
      rw [show n5 * (4294967296 / 65536) * 256 = n5 * 16777216 by omega]
      exact e10
  have e12 := lineTo_int e11 h_rint (parts := n9) (by omega) (by omega)
  refine ⟨fun c0 => ?_, fun c0 => ?_⟩
  · have q0 := (b2i_one t).2 c0
    refine ⟨fun c1 => ?_, fun c1 => ?_⟩
    · show lineTo (4294967296 / n9) n9 n n1 n2 (w128 n3 n4) (w128 n6 n7) n5 n35 (b2i (decide (((-1048576) * n9) ≤ n35)))
      first
        | (have hq : b2i (decide ((-1048576) * n9 ≤ n35)) = 1 ∨ b2i (decide ((-1048576) * n9 ≤ n35)) = 0 := by simp only [b2i]; split <;> simp
           rcases hq with hq | hq
           · rw [hq]
             rw [b2i_one, decide_eq_true_eq] at hq
             exact e12.1 (by omega) ⟨by omega, by omega⟩
           · rw [hq]
             rw [b2i_zero, decide_eq_true_eq] at hq
             exact e12.2 (Or.inr (fun z => hq (by have := z.1; omega))))
        | exact e12.2 (Or.inr (fun z => by have := z.2; omega))
        | exact e12.2 (Or.inl (by omega))
    · show lineTo (4294967296 / n9) n9 n n1 n2 (w128 n3 n4) (w128 n6 n7) n5 n35 (b2i false)
      first
        | (have hq : b2i (decide ((-1048576) * n9 ≤ n35)) = 1 ∨ b2i (decide ((-1048576) * n9 ≤ n35)) = 0 := by simp only [b2i]; split <;> simp
           rcases hq with hq | hq
           · rw [hq]
             rw [b2i_one, decide_eq_true_eq] at hq
             exact e12.1 (by omega) ⟨by omega, by omega⟩
           · rw [hq]
             rw [b2i_zero, decide_eq_true_eq] at hq
             exact e12.2 (Or.inr (fun z => hq (by have := z.1; omega))))
        | exact e12.2 (Or.inr (fun z => by have := z.2; omega))
        | exact e12.2 (Or.inl (by omega))
  · have q0 := (b2i_zero t).2 c0
    show lineTo (4294967296 / n9) n9 n n1 n2 (w128 n3 n4) (w128 n6 n7) n5 n35 (b2i false)
    first
      | (have hq : b2i (decide ((-1048576) * n9 ≤ n35)) = 1 ∨ b2i (decide ((-1048576) * n9 ≤ n35)) = 0 := by simp only [b2i]; split <;> simp
         rcases hq with hq | hq
         · rw [hq]
           rw [b2i_one, decide_eq_true_eq] at hq
           exact e12.1 (by omega) ⟨by omega, by omega⟩
         · rw [hq]
           rw [b2i_zero, decide_eq_true_eq] at hq
           exact e12.2 (Or.inr (fun z => hq (by have := z.1; omega))))
      | exact e12.2 (Or.inr (fun z => by have := z.2; omega))
      | exact e12.2 (Or.inl (by omega))

set_option maxHeartbeats 4000000 in
theorem p_pplace : P_pplace := by
  unfold P_pplace
  intro n l_n u_n
  intro n1 l_n1 u_n1
  intro n2 l_n2 u_n2
  intro n3 l_n3 u_n3
  intro n4 l_n4 u_n4
  intro n5 l_n5 u_n5
  intro n6 l_n6 u_n6
  intro n7 l_n7 u_n7
  intro n8 l_n8 u_n8
  intro n9 l_n9 u_n9
  intro n10 l_n10 u_n10
  intro n11 l_n11 u_n11
  intro hpre
  replace hpre : True := hpre
  intro b
  intro b1
  intro b2
  intro b3
  intro b4
  intro b5
  intro b6
  intro b7
  intro b8
  intro b9
  refine ⟨fun c0 => ?_, fun c0 => ?_⟩
  · intro b10
    intro b11
    show placed 65536 65536 n n1 n2 n3 n4 n5 (w128 n6 n7) n8 (w128 n9 n10) n11 (0 : Int) (0 : Int) (1 : Int)
    exact placed_arg (fun z => by obtain ⟨z1, z2, z3, z4, z5⟩ := z; first | omega | exact absurd z4 (by assumption) | exact absurd z5 (by assumption))
  · refine ⟨fun c1 => ?_, fun c1 => ?_⟩
    · intro b10
      intro b11
      show placed 65536 65536 n n1 n2 n3 n4 n5 (w128 n6 n7) n8 (w128 n9 n10) n11 (0 : Int) (0 : Int) (1 : Int)
      exact placed_arg (fun z => by obtain ⟨z1, z2, z3, z4, z5⟩ := z; first | omega | exact absurd z4 (by assumption) | exact absurd z5 (by assumption))
    · refine ⟨fun c2 => ?_, fun c2 => ?_⟩
      · intro b10
        intro b11
        show placed 65536 65536 n n1 n2 n3 n4 n5 (w128 n6 n7) n8 (w128 n9 n10) n11 (0 : Int) (0 : Int) (1 : Int)
        exact placed_arg (fun z => by obtain ⟨z1, z2, z3, z4, z5⟩ := z; first | omega | exact absurd z4 (by assumption) | exact absurd z5 (by assumption))
      · refine ⟨trivial, ?_⟩
        intro t
        intro h_psmall
        replace h_psmall : ((sml (w128 n6 n7) → (b2i t) = 1) ∧ (¬ sml (w128 n6 n7) → (b2i t) = 0)) := h_psmall
        have hs0 : t = true → sml (w128 n6 n7) := fun z => Classical.byContradiction fun y => by have := h_psmall.2 y; rw [z] at this; cases this
        refine ⟨fun c3 => ?_, fun c3 => ?_⟩
        · have q3 := (b2i_zero t).2 c3
          have hns0 : ¬ sml (w128 n6 n7) := fun y => c3 ((b2i_one _).1 (h_psmall.1 y))
          intro b10
          intro b11
          show placed 65536 65536 n n1 n2 n3 n4 n5 (w128 n6 n7) n8 (w128 n9 n10) n11 (0 : Int) (0 : Int) (1 : Int)
          exact placed_arg (fun z => by obtain ⟨z1, z2, z3, z4, z5⟩ := z; first | omega | exact absurd z4 (by assumption) | exact absurd z5 (by assumption))
        · have q3 := (b2i_one t).2 (Classical.not_not.1 c3)
          replace hs0 := hs0 (Classical.not_not.1 c3)
          refine ⟨trivial, ?_⟩
          intro t1
          intro h_psmall1
          replace h_psmall1 : ((sml (w128 n9 n10) → (b2i t1) = 1) ∧ (¬ sml (w128 n9 n10) → (b2i t1) = 0)) := h_psmall1
          have hs1 : t1 = true → sml (w128 n9 n10) := fun z => Classical.byContradiction fun y => by have := h_psmall1.2 y; rw [z] at this; cases this
          refine ⟨fun c4 => ?_, fun c4 => ?_⟩
          · have q4 := (b2i_zero t1).2 c4
            have hns1 : ¬ sml (w128 n9 n10) := fun y => c4 ((b2i_one _).1 (h_psmall1.1 y))
            intro b10
            intro b11
            show placed 65536 65536 n n1 n2 n3 n4 n5 (w128 n6 n7) n8 (w128 n9 n10) n11 (0 : Int) (0 : Int) (1 : Int)
            exact placed_arg (fun z => by obtain ⟨z1, z2, z3, z4, z5⟩ := z; first | omega | exact absurd z4 (by assumption) | exact absurd z5 (by assumption))
          · have q4 := (b2i_one t1).2 (Classical.not_not.1 c4)
            replace hs1 := hs1 (Classical.not_not.1 c4)
            intro n12 e_n12 l_n12 u_n12
            refine ⟨trivial, ?_⟩
            intro n13 l_n13 u_n13
            intro n14 l_n14 u_n14
            intro h_wof
            replace h_wof : w128 n13 n14 = n12 := h_wof
            intro b10
            intro b11
            intro b12
            intro b13
            intro b14
            refine ⟨trivial, ?_⟩
            intro n15 l_n15 u_n15
            intro n16 l_n16 u_n16
            intro n17 l_n17 u_n17
            intro h_wtms
            replace h_wtms : tellW (w128 n6 n7 * n) n15 n16 n17 := h_wtms
            intro b15
            refine ⟨trivial, ?_⟩
            intro n18 l_n18 u_n18
            intro n19 l_n19 u_n19
            intro n20 l_n20 u_n20
            intro h_wadd
            replace h_wadd : tellW (w128 (0 : Int) (0 : Int) + w128 n15 n16) n18 n19 n20 := h_wadd
            intro b16
            refine ⟨trivial, ?_⟩
            intro n21 l_n21 u_n21
            intro n22 l_n22 u_n22
            intro n23 l_n23 u_n23
            intro h_wtms1
            replace h_wtms1 : tellW (w128 n9 n10 * n2) n21 n22 n23 := h_wtms1
            intro b17
            refine ⟨trivial, ?_⟩
            intro n24 l_n24 u_n24
            intro n25 l_n25 u_n25
            intro n26 l_n26 u_n26
            intro h_wadd1
            replace h_wadd1 : tellW (w128 n18 n19 + w128 n21 n22) n24 n25 n26 := h_wadd1
            intro b18
            refine ⟨trivial, ?_⟩
            intro n27 l_n27 u_n27
            intro n28 l_n28 u_n28
            intro n29 l_n29 u_n29
            intro h_wtms2
            replace h_wtms2 : tellW (w128 n13 n14 * n4) n27 n28 n29 := h_wtms2
            intro b19
            refine ⟨trivial, ?_⟩
            intro n30 l_n30 u_n30
            intro n31 l_n31 u_n31
            intro n32 l_n32 u_n32
            intro h_wadd2
            replace h_wadd2 : tellW (w128 n24 n25 + w128 n27 n28) n30 n31 n32 := h_wadd2
            intro b20
            intro n33 e_n33 l_n33 u_n33
            refine ⟨trivial, ?_⟩
            intro n34 l_n34 u_n34
            intro n35 l_n35 u_n35
            intro n36 l_n36 u_n36
            intro h_wnear
            replace h_wnear : ((n33 < 1 → n34 = 0 ∧ n35 = 0 ∧ n36 = 1) ∧ (1 ≤ n33 → n36 = 0 ∧ isNear (w128 n30 n31) n33 (w128 n34 n35))) := h_wnear
            simp only [wrap_i64] at e_n12 e_n33
            have hmay : may20 (w128 n6 n7) n8 (w128 n9 n10) n11 := ⟨by omega, by omega, by omega, hs0, hs1⟩
            have z0 := three h_wtms h_wadd h_wtms1 h_wadd1 h_wtms2 h_wadd2 hs0 hs1 hmay.2.1 hmay.2.2.1 (h_wof.trans (by omega)) l_n u_n l_n2 u_n2 l_n4 u_n4
            have z1 := (h_wnear.2 (by omega)).2
            rw [z0, show n33 = n8 * 65536 by omega] at z1
            clear h_wnear
            intro b21
            refine ⟨trivial, ?_⟩
            intro n37 l_n37 u_n37
            intro t2
            intro h_wint
            replace h_wint : isInt (w128 n34 n35) n37 (b2i t2) := h_wint
            refine ⟨fun c5 => ?_, fun c5 => ?_⟩
            · have q5 := (b2i_zero t2).2 c5
              intro b22
              intro b23
              show placed 65536 65536 n n1 n2 n3 n4 n5 (w128 n6 n7) n8 (w128 n9 n10) n11 (0 : Int) (0 : Int) (8 : Int)
              exact placed_far hmay (by omega) (Or.inl z1) (by first | exact far_int h_wint (by omega) (by omega) (by omega) | (rw [← int_is h_wint (by omega)]; simp only [inFar]; omega))
            · have q5 := (b2i_one t2).2 (Classical.not_not.1 c5)
              refine ⟨fun c6 => ?_, fun c6 => ?_⟩
              · intro b22
                intro b23
                show placed 65536 65536 n n1 n2 n3 n4 n5 (w128 n6 n7) n8 (w128 n9 n10) n11 (0 : Int) (0 : Int) (8 : Int)
                exact placed_far hmay (by omega) (Or.inl z1) (by first | exact far_int h_wint (by omega) (by omega) (by omega) | (rw [← int_is h_wint (by omega)]; simp only [inFar]; omega))
              · refine ⟨fun c7 => ?_, fun c7 => ?_⟩
                · intro b22
                  intro b23
                  show placed 65536 65536 n n1 n2 n3 n4 n5 (w128 n6 n7) n8 (w128 n9 n10) n11 (0 : Int) (0 : Int) (8 : Int)
                  exact placed_far hmay (by omega) (Or.inl z1) (by first | exact far_int h_wint (by omega) (by omega) (by omega) | (rw [← int_is h_wint (by omega)]; simp only [inFar]; omega))
                · intro b22
                  intro b23
                  intro b24
                  refine ⟨trivial, ?_⟩
                  intro n38 l_n38 u_n38
                  intro n39 l_n39 u_n39
                  intro n40 l_n40 u_n40
                  intro h_wtms3
                  replace h_wtms3 : tellW (w128 n6 n7 * n1) n38 n39 n40 := h_wtms3
                  intro b25
                  refine ⟨trivial, ?_⟩
                  intro n41 l_n41 u_n41
                  intro n42 l_n42 u_n42
                  intro n43 l_n43 u_n43
                  intro h_wadd3
                  replace h_wadd3 : tellW (w128 (0 : Int) (0 : Int) + w128 n38 n39) n41 n42 n43 := h_wadd3
                  intro b26
                  refine ⟨trivial, ?_⟩
                  intro n44 l_n44 u_n44
                  intro n45 l_n45 u_n45
                  intro n46 l_n46 u_n46
                  intro h_wtms4
                  replace h_wtms4 : tellW (w128 n9 n10 * n3) n44 n45 n46 := h_wtms4
                  intro b27
                  refine ⟨trivial, ?_⟩
                  intro n47 l_n47 u_n47
                  intro n48 l_n48 u_n48
                  intro n49 l_n49 u_n49
                  intro h_wadd4
                  replace h_wadd4 : tellW (w128 n41 n42 + w128 n44 n45) n47 n48 n49 := h_wadd4
                  intro b28
                  refine ⟨trivial, ?_⟩
                  intro n50 l_n50 u_n50
                  intro n51 l_n51 u_n51
                  intro n52 l_n52 u_n52
                  intro h_wtms5
                  replace h_wtms5 : tellW (w128 n13 n14 * n5) n50 n51 n52 := h_wtms5
                  intro b29
                  refine ⟨trivial, ?_⟩
                  intro n53 l_n53 u_n53
                  intro n54 l_n54 u_n54
                  intro n55 l_n55 u_n55
                  intro h_wadd5
                  replace h_wadd5 : tellW (w128 n47 n48 + w128 n50 n51) n53 n54 n55 := h_wadd5
                  intro b30
                  intro n56 e_n56 l_n56 u_n56
                  refine ⟨trivial, ?_⟩
                  intro n57 l_n57 u_n57
                  intro n58 l_n58 u_n58
                  intro n59 l_n59 u_n59
                  intro h_wnear1
                  replace h_wnear1 : ((n56 < 1 → n57 = 0 ∧ n58 = 0 ∧ n59 = 1) ∧ (1 ≤ n56 → n59 = 0 ∧ isNear (w128 n53 n54) n56 (w128 n57 n58))) := h_wnear1
                  simp only [wrap_i64] at e_n56
                  have y0 := three h_wtms3 h_wadd3 h_wtms4 h_wadd4 h_wtms5 h_wadd5 hs0 hs1 hmay.2.1 hmay.2.2.1 (h_wof.trans (by omega)) l_n1 u_n1 l_n3 u_n3 l_n5 u_n5
                  have y1 := (h_wnear1.2 (by omega)).2
                  rw [y0, show n56 = n8 * 65536 by omega] at y1
                  clear h_wnear1
                  intro b31
                  refine ⟨trivial, ?_⟩
                  intro n60 l_n60 u_n60
                  intro t3
                  intro h_wint1
                  replace h_wint1 : isInt (w128 n57 n58) n60 (b2i t3) := h_wint1
                  refine ⟨fun c8 => ?_, fun c8 => ?_⟩
                  · have q8 := (b2i_zero t3).2 c8
                    intro b32
                    intro b33
                    show placed 65536 65536 n n1 n2 n3 n4 n5 (w128 n6 n7) n8 (w128 n9 n10) n11 (0 : Int) (0 : Int) (8 : Int)
                    exact placed_far hmay (by omega) (Or.inr y1) (by first | exact far_int h_wint1 (by omega) (by omega) (by omega) | (rw [← int_is h_wint1 (by omega)]; simp only [inFar]; omega))
                  · have q8 := (b2i_one t3).2 (Classical.not_not.1 c8)
                    refine ⟨fun c9 => ?_, fun c9 => ?_⟩
                    · intro b32
                      intro b33
                      show placed 65536 65536 n n1 n2 n3 n4 n5 (w128 n6 n7) n8 (w128 n9 n10) n11 (0 : Int) (0 : Int) (8 : Int)
                      exact placed_far hmay (by omega) (Or.inr y1) (by first | exact far_int h_wint1 (by omega) (by omega) (by omega) | (rw [← int_is h_wint1 (by omega)]; simp only [inFar]; omega))
                    · refine ⟨fun c10 => ?_, fun c10 => ?_⟩
                      · intro b32
                        intro b33
                        show placed 65536 65536 n n1 n2 n3 n4 n5 (w128 n6 n7) n8 (w128 n9 n10) n11 (0 : Int) (0 : Int) (8 : Int)
                        exact placed_far hmay (by omega) (Or.inr y1) (by first | exact far_int h_wint1 (by omega) (by omega) (by omega) | (rw [← int_is h_wint1 (by omega)]; simp only [inFar]; omega))
                      · intro b32
                        intro b33
                        refine ⟨by omega, ?_⟩
                        refine ⟨by omega, ?_⟩
                        intro n61 e_n61 l_n61 u_n61
                        refine ⟨by omega, ?_⟩
                        refine ⟨by omega, ?_⟩
                        intro n62 e_n62 l_n62 u_n62
                        show placed 65536 65536 n n1 n2 n3 n4 n5 (w128 n6 n7) n8 (w128 n9 n10) n11 n61 n62 (0 : Int)
                        have i0 := int_is h_wint (by omega)
                        have i1 := int_is h_wint1 (by omega)
                        rw [← i0] at z1
                        rw [← i1] at y1
                        first | subst e_n61 | skip
                        first | subst e_n62 | skip
                        exact placed_ok hmay z1 y1 (by simp only [inFar]; omega) (by simp only [inFar]; omega)

theorem p_rplace : P_rplace := by
  unfold P_rplace
  intro n l_n u_n
  intro n1 l_n1 u_n1
  intro n2 l_n2 u_n2
  intro n3 l_n3 u_n3
  intro n4 l_n4 u_n4
  intro n5 l_n5 u_n5
  intro n6 l_n6 u_n6
  intro n7 l_n7 u_n7
  intro n8 l_n8 u_n8
  intro n9 l_n9 u_n9
  intro n10 l_n10 u_n10
  intro n11 l_n11 u_n11
  intro hpre
  replace hpre : True := hpre
  intro b
  intro b1
  intro b2
  intro b3
  intro b4
  intro b5
  intro b6
  intro b7
  refine ⟨fun c0 => ?_, fun c0 => ?_⟩
  · show placed 65536 65536 n n1 n2 n3 n4 n5 (w128 n6 n7) n8 (w128 n9 n10) n11 (0 : Int) (0 : Int) (1 : Int)
    refine placed_arg (fun z => ?_)
    obtain ⟨z1, z2, z3, z4, z5⟩ := z
    first | omega | exact hns0 ⟨z2, z3, z4⟩ | exact hns1 ⟨by omega, by omega, z5⟩
  · refine ⟨trivial, ?_⟩
    intro t
    intro h_rmay
    replace h_rmay : ((1 ≤ n8 ∧ n8 ≤ 4294967295 ∧ sml (w128 n6 n7) → (b2i t) = 1) ∧ (¬ (1 ≤ n8 ∧ n8 ≤ 4294967295 ∧ sml (w128 n6 n7)) → (b2i t) = 0)) := h_rmay
    have hm0 : t = true → sml (w128 n6 n7) ∧ 1 ≤ n8 ∧ n8 ≤ 4294967295 := fun z => Classical.byContradiction fun y => by have := h_rmay.2 (fun w => y ⟨w.2.2, w.1, w.2.1⟩); rw [z] at this; cases this
    refine ⟨fun c1 => ?_, fun c1 => ?_⟩
    · have q1 := (b2i_zero t).2 c1
      have hns0 : ¬ (1 ≤ n8 ∧ n8 ≤ 4294967295 ∧ sml (w128 n6 n7)) := fun y => c1 ((b2i_one _).1 (h_rmay.1 y))
      show placed 65536 65536 n n1 n2 n3 n4 n5 (w128 n6 n7) n8 (w128 n9 n10) n11 (0 : Int) (0 : Int) (1 : Int)
      refine placed_arg (fun z => ?_)
      obtain ⟨z1, z2, z3, z4, z5⟩ := z
      first | omega | exact hns0 ⟨z2, z3, z4⟩ | exact hns1 ⟨by omega, by omega, z5⟩
    · have q1 := (b2i_one t).2 (Classical.not_not.1 c1)
      replace hm0 := hm0 (Classical.not_not.1 c1)
      refine ⟨trivial, ?_⟩
      intro t1
      intro h_rmay1
      replace h_rmay1 : ((1 ≤ n11 ∧ n11 ≤ 4294967295 ∧ sml (w128 n9 n10) → (b2i t1) = 1) ∧ (¬ (1 ≤ n11 ∧ n11 ≤ 4294967295 ∧ sml (w128 n9 n10)) → (b2i t1) = 0)) := h_rmay1
      have hm1 : t1 = true → sml (w128 n9 n10) ∧ 1 ≤ n11 ∧ n11 ≤ 4294967295 := fun z => Classical.byContradiction fun y => by have := h_rmay1.2 (fun w => y ⟨w.2.2, w.1, w.2.1⟩); rw [z] at this; cases this
      refine ⟨fun c2 => ?_, fun c2 => ?_⟩
      · have q2 := (b2i_zero t1).2 c2
        have hns1 : ¬ (1 ≤ n11 ∧ n11 ≤ 4294967295 ∧ sml (w128 n9 n10)) := fun y => c2 ((b2i_one _).1 (h_rmay1.1 y))
        show placed 65536 65536 n n1 n2 n3 n4 n5 (w128 n6 n7) n8 (w128 n9 n10) n11 (0 : Int) (0 : Int) (1 : Int)
        refine placed_arg (fun z => ?_)
        obtain ⟨z1, z2, z3, z4, z5⟩ := z
        first | omega | exact hns0 ⟨z2, z3, z4⟩ | exact hns1 ⟨by omega, by omega, z5⟩
      · have q2 := (b2i_one t1).2 (Classical.not_not.1 c2)
        replace hm1 := hm1 (Classical.not_not.1 c2)
        have hmay : may20 (w128 n6 n7) n8 (w128 n9 n10) n11 := ⟨by omega, by omega, by omega, hm0.1, hm1.1⟩
        refine ⟨?_, ?_⟩
        · show (may20 (w128 n6 n7) n8 (w128 n9 n10) n11 ∧ ((65536 : Int) = 256 ∨ (65536 : Int) = 65536))
          exact ⟨hmay, by omega⟩
        intro n12 l_n12 u_n12
        intro t2
        intro h_rline
        replace h_rline : lineTo (4294967296 / (65536 : Int)) (65536 : Int) n n2 n4 (w128 n6 n7) (w128 n9 n10) n8 n12 (b2i t2) := h_rline
        refine ⟨?_, ?_⟩
        · show (may20 (w128 n6 n7) n8 (w128 n9 n10) n11 ∧ ((65536 : Int) = 256 ∨ (65536 : Int) = 65536))
          exact ⟨hmay, by omega⟩
        intro n13 l_n13 u_n13
        intro t3
        intro h_rline1
        replace h_rline1 : lineTo (4294967296 / (65536 : Int)) (65536 : Int) n1 n3 n5 (w128 n6 n7) (w128 n9 n10) n8 n13 (b2i t3) := h_rline1
        refine ⟨fun c3 => ?_, fun c3 => ?_⟩
        · have q3 := (b2i_zero t2).2 c3
          show placed 65536 65536 n n1 n2 n3 n4 n5 (w128 n6 n7) n8 (w128 n9 n10) n11 (0 : Int) (0 : Int) (8 : Int)
          obtain ⟨p, p1, p2, p3⟩ := h_rline
          obtain ⟨q, q1, q2, q3⟩ := h_rline1
          first
            | exact placed_far hmay (by omega) (Or.inl p1) (fun z => by have := (p2 z).1; rw [b2i_one] at this; contradiction)
            | exact placed_far hmay (by omega) (Or.inr q1) (fun z => by have := (q2 z).1; rw [b2i_one] at this; contradiction)
        · have q3 := (b2i_one t2).2 (Classical.not_not.1 c3)
          refine ⟨fun c4 => ?_, fun c4 => ?_⟩
          · have q4 := (b2i_zero t3).2 c4
            show placed 65536 65536 n n1 n2 n3 n4 n5 (w128 n6 n7) n8 (w128 n9 n10) n11 (0 : Int) (0 : Int) (8 : Int)
            obtain ⟨p, p1, p2, p3⟩ := h_rline
            obtain ⟨q, q1, q2, q3⟩ := h_rline1
            first
              | exact placed_far hmay (by omega) (Or.inl p1) (fun z => by have := (p2 z).1; rw [b2i_one] at this; contradiction)
              | exact placed_far hmay (by omega) (Or.inr q1) (fun z => by have := (q2 z).1; rw [b2i_one] at this; contradiction)
          · have q4 := (b2i_one t3).2 (Classical.not_not.1 c4)
            obtain ⟨p, p1, p2, p3⟩ := h_rline
            obtain ⟨q, q1, q2, q3⟩ := h_rline1
            have f1 : inFar 65536 p := Classical.byContradiction fun z => by have := p3 z; rw [b2i_zero] at this; contradiction
            have f2 : inFar 65536 q := Classical.byContradiction fun z => by have := q3 z; rw [b2i_zero] at this; contradiction
            have g1 := f1
            have g2 := f2
            simp only [inFar] at g1 g2
            have v1 : n12 = p := (p2 f1).2
            have v2 : n13 = q := (q2 f2).2
            refine ⟨by omega, ?_⟩
            refine ⟨by omega, ?_⟩
            intro n14 e_n14 l_n14 u_n14
            refine ⟨by omega, ?_⟩
            refine ⟨by omega, ?_⟩
            intro n15 e_n15 l_n15 u_n15
            show placed 65536 65536 n n1 n2 n3 n4 n5 (w128 n6 n7) n8 (w128 n9 n10) n11 n14 n15 (0 : Int)
            rw [e_n14, v1, e_n15, v2]
            exact placed_ok hmay p1 q1 f1 f2

end Go.Proofs.YtndfeckmfhiniaaGreatDoor.Sx
