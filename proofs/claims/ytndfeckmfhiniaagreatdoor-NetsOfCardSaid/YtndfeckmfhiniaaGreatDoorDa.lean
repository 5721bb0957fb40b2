/-
  Plain laws of decodes, part a.
-/
import Derived.Test.YtndfeckmfhiniaaGreatDoorWpf
import Derived.Test.YtndfeckmfhiniaaGreatDoorWpg
import Derived.Test.YtndfeckmfhiniaaGreatDoorWh
import Derived.Test.YtndfeckmfhiniaaGreatDoorWz
set_option linter.all false
set_option maxRecDepth 100000
namespace Go.Proofs.YtndfeckmfhiniaaGreatDoor.Sx
open Go Go.RowKit

theorem gr_tab : ∀ k : Fin 33, 1 ≤ k.val → IntKind.wrap .i64 (shI .shl .i64 1 (k.val : Int) - 1) = (2 : Int) ^ k.val - 1 ∧ IntKind.wrap .u32 (shI .shl .u32 1 (k.val : Int) - 1) = (2 : Int) ^ k.val - 1 ∧ (1 : Int) ≤ (2 : Int) ^ k.val - 1 ∧ (2 : Int) ^ k.val - 1 ≤ 4294967295 := by decide +kernel
theorem gr_in {b : Int} (h1 : 1 ≤ b) (h2 : b ≤ 32) : gr b = 2 ^ b.toNat - 1 ∧ IntKind.wrap .i64 (shI .shl .i64 1 b - 1) = gr b ∧ IntKind.wrap .u32 (shI .shl .u32 1 b - 1) = gr b ∧ 1 ≤ gr b ∧ gr b ≤ 4294967295 := by
  have h := gr_tab ⟨b.toNat, by omega⟩ (by simp; omega)
  simp only at h
  rw [show ((b.toNat : Nat) : Int) = b by omega] at h
  have e : gr b = 2 ^ b.toNat - 1 := by simp [gr, h1, h2]
  rw [e]
  exact ⟨rfl, h.1, h.2.1, h.2.2.1, h.2.2.2⟩
theorem gr_out {b : Int} (h : ¬ (1 ≤ b ∧ b ≤ 32)) : gr b = 0 := by unfold gr; rw [if_neg h]
theorem gr_or (b : Int) : (1 ≤ b ∧ b ≤ 32 ∧ 1 ≤ gr b ∧ gr b ≤ 4294967295) ∨ (¬ (1 ≤ b ∧ b ≤ 32) ∧ gr b = 0) := by
  by_cases h : 1 ≤ b ∧ b ≤ 32
  · obtain ⟨_, _, _, h4, h5⟩ := gr_in h.1 h.2
    exact Or.inl ⟨h.1, h.2, h4, h5⟩
  · exact Or.inr ⟨h, gr_out h⟩
/-- a product between the ends' ones. -/
theorem mul_b {a b A B : Int} (h1 : -A ≤ a) (h2 : a ≤ A) (h3 : -B ≤ b) (h4 : b ≤ B) (hA : 0 ≤ A) (hB : 0 ≤ B) : -(A * B) ≤ a * b ∧ a * b ≤ A * B := by
  have := mul_in (a := a) (b := b) ⟨h1, h2⟩ ⟨h3, h4⟩
  have e1 : -A * -B = A * B := by grind
  have e2 : -A * B = -(A * B) := by grind
  have e3 : A * -B = -(A * B) := by grind
  have e4 : 0 ≤ A * B := Int.mul_nonneg hA hB
  rw [e1, e2, e3] at this
  generalize A * B = x at *
  generalize a * b = y at *
  unfold mn mx at this
  constructor
  · have := this.1; (repeat' split at this) <;> omega
  · have := this.2; (repeat' split at this) <;> omega

theorem p_width : P_width := by
  unfold P_width
  intro n l_n u_n
  intro n1 l_n1 u_n1
  intro hpre
  replace hpre : True := hpre
  intro b
  intro n2 e_n2 l_n2 u_n2
  show n2 = n1 - n
  exact e_n2

theorem p_greatest : P_greatest := by
  unfold P_greatest
  intro n l_n u_n
  intro hpre
  replace hpre : True := hpre
  refine ⟨fun c0 => ?_, fun c0 => ?_⟩
  · show (0 : Int) = gr n
    first | exact (gr_out (by omega)).symm | omega
  · refine ⟨fun c1 => ?_, fun c1 => ?_⟩
    · show (0 : Int) = gr n
      first | exact (gr_out (by omega)).symm | omega
    · refine ⟨by omega, ?_⟩
      intro n1 e_n1 l_n1 u_n1
      intro n2 e_n2 l_n2 u_n2
      rw [e_n1, (gr_in (b := n) (by omega) (by omega)).2.1] at e_n2
      have hgb := (gr_in (b := n) (by omega) (by omega)).2.2.2
      refine ⟨by omega, ?_⟩
      refine ⟨by omega, ?_⟩
      intro n3 e_n3 l_n3 u_n3
      show n3 = gr n
      first | exact (gr_out (by omega)).symm | omega

theorem p_rgreatest : P_rgreatest := by
  unfold P_rgreatest
  intro n l_n u_n
  intro hpre
  replace hpre : True := hpre
  refine ⟨fun c0 => ?_, fun c0 => ?_⟩
  · show (0 : Int) = gr n
    first | exact (gr_out (by omega)).symm | (obtain ⟨q1, q2, q3, q4⟩ := hi_rgr; rw [(gr_in q1 q2).1, q4, show n2 = n by omega])
  · refine ⟨fun c1 => ?_, fun c1 => ?_⟩
    · show (0 : Int) = gr n
      first | exact (gr_out (by omega)).symm | (obtain ⟨q1, q2, q3, q4⟩ := hi_rgr; rw [(gr_in q1 q2).1, q4, show n2 = n by omega])
    · refine ⟨?_, ?_⟩
      · show (1 ≤ n ∧ n ≤ 32 ∧ (0 : Int) ≤ n ∧ (0 : Int) = 2 ^ (0 : Int).toNat - 1)
        exact ⟨by omega, by omega, by omega, by simp⟩
      intro n1 l_n1 u_n1
      intro n2 l_n2 u_n2
      intro hi_rgr
      replace hi_rgr : (1 ≤ n ∧ n ≤ 32 ∧ n2 ≤ n ∧ n1 = 2 ^ n2.toNat - 1) := hi_rgr
      have hp := two_pow_pos' n2.toNat
      intro vs lv_vs
      refine ⟨fun c2 => ?_, fun c2 => ?_⟩
      · intro n3 e_n3 l_n3 u_n3
        have e2 : (2 : Int) ^ (n2 + 1).toNat = 2 * 2 ^ n2.toNat := by rw [show (n2 + 1).toNat = n2.toNat + 1 by omega, Int.pow_succ]; omega
        have hb2 := gr_tab ⟨(n2 + 1).toNat, by omega⟩ (by simp; omega)
        simp only at hb2
        have hb3 := hb2.2.2.2
        intro n4 e_n4 l_n4 u_n4
        refine ⟨by omega, ?_⟩
        intro n5 e_n5 l_n5 u_n5
        refine ⟨by omega, ?_⟩
        intro n6 e_n6 l_n6 u_n6
        refine ⟨?_, ?_⟩
        · show (1 ≤ n ∧ n ≤ 32 ∧ n6 ≤ n ∧ n5 = 2 ^ n6.toNat - 1)
          exact ⟨by omega, by omega, by omega, by rw [show n6 = n2 + 1 by omega, e2]; omega⟩
        · show (n - n6).toNat < (n - n2).toNat
          omega
      · show n1 = gr n
        first | exact (gr_out (by omega)).symm | (obtain ⟨q1, q2, q3, q4⟩ := hi_rgr; rw [(gr_in q1 q2).1, q4, show n2 = n by omega])

theorem p_led : P_led := by
  unfold P_led
  intro n l_n u_n
  intro n1 l_n1 u_n1
  intro n2 l_n2 u_n2
  intro n3 l_n3 u_n3
  intro hpre
  replace hpre : True := hpre
  intro b
  intro b1
  refine ⟨trivial, ?_⟩
  intro n4 l_n4 u_n4
  intro h_greatest
  replace h_greatest : n4 = gr n1 := h_greatest
  refine ⟨fun c0 => ?_, fun c0 => ?_⟩
  · refine ⟨fun c1 => ?_, fun c1 => ?_⟩
    · refine ⟨trivial, ?_⟩
      intro n5 l_n5 u_n5
      intro n6 l_n6 u_n6
      intro h_wmul
      replace h_wmul : w128 n5 n6 = n2 * n4 := h_wmul
      refine ⟨trivial, ?_⟩
      intro n7 l_n7 u_n7
      intro h_width
      replace h_width : n7 = n3 - n2 := h_width
      refine ⟨trivial, ?_⟩
      intro n8 l_n8 u_n8
      intro n9 l_n9 u_n9
      intro h_wmul1
      replace h_wmul1 : w128 n8 n9 = n * n7 := h_wmul1
      refine ⟨trivial, ?_⟩
      intro n10 l_n10 u_n10
      intro n11 l_n11 u_n11
      intro n12 l_n12 u_n12
      intro h_wadd
      replace h_wadd : tellW (w128 n5 n6 + w128 n8 n9) n10 n11 n12 := h_wadd
      intro b2
      show ledTo n n1 n2 n3 (0 : Int) (0 : Int) (0 : Int) (1 : Int)
      have p1 := mul_b (a := n2) (b := n4) (A := 2147483648) (B := 4294967295) (by omega) (by omega) (by omega) (by omega) (by omega) (by omega)
      have p2 := mul_b (a := n) (b := n3 - n2) (A := 4294967295) (B := 4294967295) (by omega) (by omega) (by omega) (by omega) (by omega) (by omega)
      have hg : n4 = gr n1 := h_greatest
      have hor := gr_or n1
      unfold ledTo
      rw [← hg] at hor ⊢
      have ha := tell_or h_wadd
      rw [h_wmul, h_wmul1, h_width] at ha
      generalize n2 * n4 = x at *
      generalize n * (n3 - n2) = y at *
      refine ⟨fun hh => ?_, fun hh => ?_⟩ <;> omega
    · refine ⟨trivial, ?_⟩
      intro n5 l_n5 u_n5
      intro n6 l_n6 u_n6
      intro h_wmul
      replace h_wmul : w128 n5 n6 = n2 * n4 := h_wmul
      refine ⟨trivial, ?_⟩
      intro n7 l_n7 u_n7
      intro h_width
      replace h_width : n7 = n3 - n2 := h_width
      refine ⟨trivial, ?_⟩
      intro n8 l_n8 u_n8
      intro n9 l_n9 u_n9
      intro h_wmul1
      replace h_wmul1 : w128 n8 n9 = n * n7 := h_wmul1
      refine ⟨trivial, ?_⟩
      intro n10 l_n10 u_n10
      intro n11 l_n11 u_n11
      intro n12 l_n12 u_n12
      intro h_wadd
      replace h_wadd : tellW (w128 n5 n6 + w128 n8 n9) n10 n11 n12 := h_wadd
      intro b2
      show ledTo n n1 n2 n3 n10 n11 n4 (0 : Int)
      have p1 := mul_b (a := n2) (b := n4) (A := 2147483648) (B := 4294967295) (by omega) (by omega) (by omega) (by omega) (by omega) (by omega)
      have p2 := mul_b (a := n) (b := n3 - n2) (A := 4294967295) (B := 4294967295) (by omega) (by omega) (by omega) (by omega) (by omega) (by omega)
      have hg : n4 = gr n1 := h_greatest
      have hor := gr_or n1
      unfold ledTo
      rw [← hg] at hor ⊢
      have ha := tell_or h_wadd
      rw [h_wmul, h_wmul1, h_width] at ha
      generalize n2 * n4 = x at *
      generalize n * (n3 - n2) = y at *
      refine ⟨fun hh => ?_, fun hh => ?_⟩ <;> omega
  · refine ⟨trivial, ?_⟩
    intro n5 l_n5 u_n5
    intro n6 l_n6 u_n6
    intro h_wmul
    replace h_wmul : w128 n5 n6 = n2 * n4 := h_wmul
    refine ⟨trivial, ?_⟩
    intro n7 l_n7 u_n7
    intro h_width
    replace h_width : n7 = n3 - n2 := h_width
    refine ⟨trivial, ?_⟩
    intro n8 l_n8 u_n8
    intro n9 l_n9 u_n9
    intro h_wmul1
    replace h_wmul1 : w128 n8 n9 = n * n7 := h_wmul1
    refine ⟨trivial, ?_⟩
    intro n10 l_n10 u_n10
    intro n11 l_n11 u_n11
    intro n12 l_n12 u_n12
    intro h_wadd
    replace h_wadd : tellW (w128 n5 n6 + w128 n8 n9) n10 n11 n12 := h_wadd
    intro b2
    show ledTo n n1 n2 n3 (0 : Int) (0 : Int) (0 : Int) (1 : Int)
    have p1 := mul_b (a := n2) (b := n4) (A := 2147483648) (B := 4294967295) (by omega) (by omega) (by omega) (by omega) (by omega) (by omega)
    have p2 := mul_b (a := n) (b := n3 - n2) (A := 4294967295) (B := 4294967295) (by omega) (by omega) (by omega) (by omega) (by omega) (by omega)
    have hg : n4 = gr n1 := h_greatest
    have hor := gr_or n1
    unfold ledTo
    rw [← hg] at hor ⊢
    have ha := tell_or h_wadd
    rw [h_wmul, h_wmul1, h_width] at ha
    generalize n2 * n4 = x at *
    generalize n * (n3 - n2) = y at *
    refine ⟨fun hh => ?_, fun hh => ?_⟩ <;> omega

theorem p_value : P_value := by
  unfold P_value
  intro n l_n u_n
  intro n1 l_n1 u_n1
  intro n2 l_n2 u_n2
  intro n3 l_n3 u_n3
  intro hpre
  replace hpre : True := hpre
  intro b
  intro b1
  refine ⟨trivial, ?_⟩
  intro n4 l_n4 u_n4
  intro n5 l_n5 u_n5
  intro n6 l_n6 u_n6
  intro n7 l_n7 u_n7
  intro h_led
  replace h_led : ledTo n n1 n2 n3 n4 n5 n6 n7 := h_led
  intro b2
  show ledTo n n1 n2 n3 n4 n5 n6 n7
  exact h_led

theorem p_rtimes7 : P_rtimes7 := by
  unfold P_rtimes7
  intro n l_n u_n
  intro n1 l_n1 u_n1
  intro hpre
  replace hpre : True := hpre
  intro b
  refine ⟨trivial, ?_⟩
  intro t
  intro n2 l_n2 u_n2
  intro n3 l_n3 u_n3
  intro n4 l_n4 u_n4
  intro n5 l_n5 u_n5
  intro n6 l_n6 u_n6
  intro n7 l_n7 u_n7
  intro n8 l_n8 u_n8
  intro n9 l_n9 u_n9
  intro n10 l_n10 u_n10
  intro n11 l_n11 u_n11
  intro n12 l_n12 u_n12
  intro n13 l_n13 u_n13
  intro h_small
  replace h_small : (vd [n2, n3, n4, n5, n6, n7, n8, n9, n10, n11, n12, n13] ≤ 9223372036854775808 ∧ sv [b2i t, n2, n3, n4, n5, n6, n7, n8, n9, n10, n11, n12, n13] = n ∧ ((b2i t) = 1 ↔ n < 0)) := h_small
  refine ⟨trivial, ?_⟩
  intro t1
  intro n14 l_n14 u_n14
  intro n15 l_n15 u_n15
  intro n16 l_n16 u_n16
  intro n17 l_n17 u_n17
  intro n18 l_n18 u_n18
  intro n19 l_n19 u_n19
  intro n20 l_n20 u_n20
  intro n21 l_n21 u_n21
  intro n22 l_n22 u_n22
  intro n23 l_n23 u_n23
  intro n24 l_n24 u_n24
  intro n25 l_n25 u_n25
  intro h_small1
  replace h_small1 : (vd [n14, n15, n16, n17, n18, n19, n20, n21, n22, n23, n24, n25] ≤ 9223372036854775808 ∧ sv [b2i t1, n14, n15, n16, n17, n18, n19, n20, n21, n22, n23, n24, n25] = n1 ∧ ((b2i t1) = 1 ↔ n1 < 0)) := h_small1
  refine ⟨trivial, ?_⟩
  intro t2
  intro n26 l_n26 u_n26
  intro n27 l_n27 u_n27
  intro n28 l_n28 u_n28
  intro n29 l_n29 u_n29
  intro n30 l_n30 u_n30
  intro n31 l_n31 u_n31
  intro n32 l_n32 u_n32
  intro n33 l_n33 u_n33
  intro n34 l_n34 u_n34
  intro n35 l_n35 u_n35
  intro n36 l_n36 u_n36
  intro n37 l_n37 u_n37
  intro h_product
  replace h_product : (((b2i t2) = 1 ↔ (b2i t) ≠ (b2i t1)) ∧ vd [n26, n27, n28, n29, n30, n31, n32, n33, n34, n35, n36, n37] = (vd [n2, n3, n4, n5, n6, n7, n8, n9, n10, n11, n12, n13] * vd [n14, n15, n16, n17, n18, n19, n20, n21, n22, n23, n24, n25]) % top12) := h_product
  have ha := vd12 n2 n3 n4 n5 n6 n7 n8 n9 n10 n11 n12 n13 ⟨l_n2, u_n2⟩ ⟨l_n3, u_n3⟩ ⟨l_n4, u_n4⟩ ⟨l_n5, u_n5⟩ ⟨l_n6, u_n6⟩ ⟨l_n7, u_n7⟩ ⟨l_n8, u_n8⟩ ⟨l_n9, u_n9⟩ ⟨l_n10, u_n10⟩ ⟨l_n11, u_n11⟩ ⟨l_n12, u_n12⟩ ⟨l_n13, u_n13⟩
  have hb := vd12 n14 n15 n16 n17 n18 n19 n20 n21 n22 n23 n24 n25 ⟨l_n14, u_n14⟩ ⟨l_n15, u_n15⟩ ⟨l_n16, u_n16⟩ ⟨l_n17, u_n17⟩ ⟨l_n18, u_n18⟩ ⟨l_n19, u_n19⟩ ⟨l_n20, u_n20⟩ ⟨l_n21, u_n21⟩ ⟨l_n22, u_n22⟩ ⟨l_n23, u_n23⟩ ⟨l_n24, u_n24⟩ ⟨l_n25, u_n25⟩
  have hm0 := Int.mul_nonneg ha.1 hb.1
  have hm1 := Int.mul_le_mul h_small.1 h_small1.1 hb.1 (by omega)
  have hs := sv_mul (b2i_cases _) (b2i_cases _) (b2i_cases _) h_product hm0 (by simp only [top12]; omega)
  rw [h_small.2.1, h_small1.2.1] at hs
  have hv := h_product.2
  rw [Int.emod_eq_of_lt hm0 (by simp only [top12]; omega)] at hv
  show (vd [n26, n27, n28, n29, n30, n31, n32, n33, n34, n35, n36, n37] ≤ 85070591730234615865843651857942052864 ∧ sv [b2i t2, n26, n27, n28, n29, n30, n31, n32, n33, n34, n35, n36, n37] = n * n1)
  exact ⟨by rw [hv]; omega, hs⟩

theorem p_rvalue : P_rvalue := by
  unfold P_rvalue
  intro n l_n u_n
  intro n1 l_n1 u_n1
  intro n2 l_n2 u_n2
  intro n3 l_n3 u_n3
  intro hpre
  replace hpre : True := hpre
  intro b
  intro b1
  refine ⟨trivial, ?_⟩
  intro n4 l_n4 u_n4
  intro h_rgreatest
  replace h_rgreatest : n4 = gr n1 := h_rgreatest
  refine ⟨fun c0 => ?_, fun c0 => ?_⟩
  · show ledTo n n1 n2 n3 (0 : Int) (0 : Int) (0 : Int) (1 : Int)
    have hg : n4 = gr n1 := h_rgreatest
    have hor := gr_or n1
    unfold ledTo
    rw [← hg] at hor ⊢
    first
      | omega
      | (have e1 : n2 * n5 + n3 * n = n2 * n4 + n * (n3 - n2) := by rw [e_n5]; grind
         have p1 := mul_b (a := n2) (b := n4) (A := 2147483648) (B := 4294967295) (by omega) (by omega) (by omega) (by omega) (by omega) (by omega)
         have p2 := mul_b (a := n) (b := n3 - n2) (A := 4294967295) (B := 4294967295) (by omega) (by omega) (by omega) (by omega) (by omega) (by omega)
         have q1 := h_rtimes7.2
         have q2 := h_rtimes71.2
         have q3 := h_sum.1
         rw [q1, q2, e1] at q3
         rw [q3] at h_tell
         clear q1 q2 e1
         generalize n2 * n4 = x at *
         generalize n * (n3 - n2) = y at *
         refine ⟨fun hh => ⟨rfl, rfl, ?_⟩, fun hh => by omega⟩
         omega)
  · refine ⟨fun c1 => ?_, fun c1 => ?_⟩
    · show ledTo n n1 n2 n3 (0 : Int) (0 : Int) (0 : Int) (1 : Int)
      have hg : n4 = gr n1 := h_rgreatest
      have hor := gr_or n1
      unfold ledTo
      rw [← hg] at hor ⊢
      first
        | omega
        | (have e1 : n2 * n5 + n3 * n = n2 * n4 + n * (n3 - n2) := by rw [e_n5]; grind
           have p1 := mul_b (a := n2) (b := n4) (A := 2147483648) (B := 4294967295) (by omega) (by omega) (by omega) (by omega) (by omega) (by omega)
           have p2 := mul_b (a := n) (b := n3 - n2) (A := 4294967295) (B := 4294967295) (by omega) (by omega) (by omega) (by omega) (by omega) (by omega)
           have q1 := h_rtimes7.2
           have q2 := h_rtimes71.2
           have q3 := h_sum.1
           rw [q1, q2, e1] at q3
           rw [q3] at h_tell
           clear q1 q2 e1
           generalize n2 * n4 = x at *
           generalize n * (n3 - n2) = y at *
           refine ⟨fun hh => ⟨rfl, rfl, ?_⟩, fun hh => by omega⟩
           omega)
    · intro n5 e_n5 l_n5 u_n5
      refine ⟨trivial, ?_⟩
      intro t
      intro n6 l_n6 u_n6
      intro n7 l_n7 u_n7
      intro n8 l_n8 u_n8
      intro n9 l_n9 u_n9
      intro n10 l_n10 u_n10
      intro n11 l_n11 u_n11
      intro n12 l_n12 u_n12
      intro n13 l_n13 u_n13
      intro n14 l_n14 u_n14
      intro n15 l_n15 u_n15
      intro n16 l_n16 u_n16
      intro n17 l_n17 u_n17
      intro h_rtimes7
      replace h_rtimes7 : (vd [n6, n7, n8, n9, n10, n11, n12, n13, n14, n15, n16, n17] ≤ 85070591730234615865843651857942052864 ∧ sv [b2i t, n6, n7, n8, n9, n10, n11, n12, n13, n14, n15, n16, n17] = n2 * n5) := h_rtimes7
      refine ⟨trivial, ?_⟩
      intro t1
      intro n18 l_n18 u_n18
      intro n19 l_n19 u_n19
      intro n20 l_n20 u_n20
      intro n21 l_n21 u_n21
      intro n22 l_n22 u_n22
      intro n23 l_n23 u_n23
      intro n24 l_n24 u_n24
      intro n25 l_n25 u_n25
      intro n26 l_n26 u_n26
      intro n27 l_n27 u_n27
      intro n28 l_n28 u_n28
      intro n29 l_n29 u_n29
      intro h_rtimes71
      replace h_rtimes71 : (vd [n18, n19, n20, n21, n22, n23, n24, n25, n26, n27, n28, n29] ≤ 85070591730234615865843651857942052864 ∧ sv [b2i t1, n18, n19, n20, n21, n22, n23, n24, n25, n26, n27, n28, n29] = n3 * n) := h_rtimes71
      refine ⟨?_, ?_⟩
      · show vd [n6, n7, n8, n9, n10, n11, n12, n13, n14, n15, n16, n17] + vd [n18, n19, n20, n21, n22, n23, n24, n25, n26, n27, n28, n29] < top12
        simp only [top12]; omega
      intro t2
      intro n30 l_n30 u_n30
      intro n31 l_n31 u_n31
      intro n32 l_n32 u_n32
      intro n33 l_n33 u_n33
      intro n34 l_n34 u_n34
      intro n35 l_n35 u_n35
      intro n36 l_n36 u_n36
      intro n37 l_n37 u_n37
      intro n38 l_n38 u_n38
      intro n39 l_n39 u_n39
      intro n40 l_n40 u_n40
      intro n41 l_n41 u_n41
      intro h_sum
      replace h_sum : (sv [b2i t2, n30, n31, n32, n33, n34, n35, n36, n37, n38, n39, n40, n41] = sv [b2i t, n6, n7, n8, n9, n10, n11, n12, n13, n14, n15, n16, n17] + sv [b2i t1, n18, n19, n20, n21, n22, n23, n24, n25, n26, n27, n28, n29] ∧ vd [n30, n31, n32, n33, n34, n35, n36, n37, n38, n39, n40, n41] ≤ vd [n6, n7, n8, n9, n10, n11, n12, n13, n14, n15, n16, n17] + vd [n18, n19, n20, n21, n22, n23, n24, n25, n26, n27, n28, n29]) := h_sum
      intro b2
      refine ⟨trivial, ?_⟩
      intro n42 l_n42 u_n42
      intro n43 l_n43 u_n43
      intro n44 l_n44 u_n44
      intro h_tell
      replace h_tell : tellW (sv [b2i t2, n30, n31, n32, n33, n34, n35, n36, n37, n38, n39, n40, n41]) n42 n43 n44 := h_tell
      replace h_tell := tell_or h_tell
      intro b3
      show ledTo n n1 n2 n3 n42 n43 n4 (0 : Int)
      have hg : n4 = gr n1 := h_rgreatest
      have hor := gr_or n1
      unfold ledTo
      rw [← hg] at hor ⊢
      first
        | omega
        | (have e1 : n2 * n5 + n3 * n = n2 * n4 + n * (n3 - n2) := by rw [e_n5]; grind
           have p1 := mul_b (a := n2) (b := n4) (A := 2147483648) (B := 4294967295) (by omega) (by omega) (by omega) (by omega) (by omega) (by omega)
           have p2 := mul_b (a := n) (b := n3 - n2) (A := 4294967295) (B := 4294967295) (by omega) (by omega) (by omega) (by omega) (by omega) (by omega)
           have q1 := h_rtimes7.2
           have q2 := h_rtimes71.2
           have q3 := h_sum.1
           rw [q1, q2, e1] at q3
           rw [q3] at h_tell
           clear q1 q2 e1
           generalize n2 * n4 = x at *
           generalize n * (n3 - n2) = y at *
           refine ⟨fun hh => ⟨rfl, rfl, ?_⟩, fun hh => by omega⟩
           omega)

end Go.Proofs.YtndfeckmfhiniaaGreatDoor.Sx
