/-
  Plain laws of decodes, part a.
-/
import Derived.Test.YtndfeckmfhiniaaDoorWpf
import Derived.Test.YtndfeckmfhiniaaDoorWpg
import Derived.Test.YtndfeckmfhiniaaDoorWh
import Derived.Test.YtndfeckmfhiniaaDoorWz
set_option linter.all false
set_option maxRecDepth 100000
namespace Go.Proofs.YtndfeckmfhiniaaDoor.Sx
open Go Go.RowKit

theorem gr_tab : ∀ k : Fin 33, 1 ≤ k.val → IntKind.wrap .i64 (shI .shl .i64 1 (k.val : Int) - 1) = (2 : Int) ^ k.val - 1 ∧ IntKind.wrap .u32 (shI .shl .u32 1 (k.val : Int) - 1) = (2 : Int) ^ k.val - 1 ∧ (1 : Int) ≤ (2 : Int) ^ k.val - 1 ∧ (2 : Int) ^ k.val - 1 ≤ 4294967295 := by decide +kernel
theorem gr_in {b : Int} (h1 : 1 ≤ b) (h2 : b ≤ 32) : gr b = 2 ^ b.toNat - 1 ∧ IntKind.wrap .i64 (shI .shl .i64 1 b - 1) = gr b ∧ IntKind.wrap .u32 (shI .shl .u32 1 b - 1) = gr b ∧ 1 ≤ gr b ∧ gr b ≤ 4294967295 := by
  have h := gr_tab ⟨b.toNat, by omega⟩ (by simp; omega)
  simp only at h
  rw [show ((b.toNat : Nat) : Int) = b by omega] at h
  have e : gr b = 2 ^ b.toNat - 1 := by simp [gr, h1, h2]
  rw [e]
  exact ⟨rfl, h.1, h.2.1, h.2.2.1, h.2.2.2⟩
theorem gr_out {b : Int} (h : ¬ (1 ≤ b ∧ b ≤ 32)) : gr b = 0 := by unfold gr; rw [if_neg h]
theorem gr_or (b : Int) : (1 ≤ b ∧ b ≤ 32 ∧ 1 ≤ gr b ∧ gr b ≤ 4294967295) ∨ (¬ (1 ≤ b ∧ b ≤ 32) ∧ gr b = 0) := by
  by_cases h : 1 ≤ b ∧ b ≤ 32
  · obtain ⟨_, _, _, h4, h5⟩ := gr_in h.1 h.2
    exact Or.inl ⟨h.1, h.2, h4, h5⟩
  · exact Or.inr ⟨h, gr_out h⟩
/-- a product between the ends' ones. -/
theorem mul_b {a b A B : Int} (h1 : -A ≤ a) (h2 : a ≤ A) (h3 : -B ≤ b) (h4 : b ≤ B) (hA : 0 ≤ A) (hB : 0 ≤ B) : -(A * B) ≤ a * b ∧ a * b ≤ A * B := by
  have := mul_in (a := a) (b := b) ⟨h1, h2⟩ ⟨h3, h4⟩
  have e1 : -A * -B = A * B := by grind
  have e2 : -A * B = -(A * B) := by grind
  have e3 : A * -B = -(A * B) := by grind
  have e4 : 0 ≤ A * B := Int.mul_nonneg hA hB
  rw [e1, e2, e3] at this
  generalize A * B = x at *
  generalize a * b = y at *
  unfold mn mx at this
  constructor
  · have := this.1; (repeat' split at this) <;> omega
  · have := this.2; (repeat' split at this) <;> omega

theorem p_width : P_width := by
  unfold P_width
  intro n l_n u_n
  intro n1 l_n1 u_n1
  intro hpre
  replace hpre : True := hpre
  intro b
  intro n2 e_n2 l_n2 u_n2
  show n2 = n1 - n
  exact e_n2

theorem p_greatest : P_greatest := by
  unfold P_greatest
  intro n l_n u_n
  intro hpre
  replace hpre : True := hpre
  refine ⟨fun c0 => ?_, fun c0 => ?_⟩
  · show (0 : Int) = gr n
    first | exact (gr_out (by omega)).symm | omega
  · refine ⟨fun c1 => ?_, fun c1 => ?_⟩
    · show (0 : Int) = gr n
      first | exact (gr_out (by omega)).symm | omega
    · refine ⟨by omega, ?_⟩
      intro n1 e_n1 l_n1 u_n1
      intro n2 e_n2 l_n2 u_n2
      rw [e_n1, (gr_in (b := n) (by omega) (by omega)).2.1] at e_n2
      have hgb := (gr_in (b := n) (by omega) (by omega)).2.2.2
      refine ⟨by omega, ?_⟩
      refine ⟨by omega, ?_⟩
      intro n3 e_n3 l_n3 u_n3
      show n3 = gr n
      first | exact (gr_out (by omega)).symm | omega

theorem p_led : P_led := by
  unfold P_led
  intro n l_n u_n
  intro n1 l_n1 u_n1
  intro n2 l_n2 u_n2
  intro n3 l_n3 u_n3
  intro hpre
  replace hpre : True := hpre
  intro b
  intro b1
  refine ⟨trivial, ?_⟩
  intro n4 l_n4 u_n4
  intro h_greatest
  replace h_greatest : n4 = gr n1 := h_greatest
  refine ⟨fun c0 => ?_, fun c0 => ?_⟩
  · refine ⟨fun c1 => ?_, fun c1 => ?_⟩
    · refine ⟨trivial, ?_⟩
      intro n5 l_n5 u_n5
      intro n6 l_n6 u_n6
      intro h_wmul
      replace h_wmul : w128 n5 n6 = n2 * n4 := h_wmul
      refine ⟨trivial, ?_⟩
      intro n7 l_n7 u_n7
      intro h_width
      replace h_width : n7 = n3 - n2 := h_width
      refine ⟨trivial, ?_⟩
      intro n8 l_n8 u_n8
      intro n9 l_n9 u_n9
      intro h_wmul1
      replace h_wmul1 : w128 n8 n9 = n * n7 := h_wmul1
      refine ⟨trivial, ?_⟩
      intro n10 l_n10 u_n10
      intro n11 l_n11 u_n11
      intro n12 l_n12 u_n12
      intro h_wadd
      replace h_wadd : tellW (w128 n5 n6 + w128 n8 n9) n10 n11 n12 := h_wadd
      intro b2
      show ledTo n n1 n2 n3 (0 : Int) (0 : Int) (0 : Int) (1 : Int)
      have p1 := mul_b (a := n2) (b := n4) (A := 2147483648) (B := 4294967295) (by omega) (by omega) (by omega) (by omega) (by omega) (by omega)
      have p2 := mul_b (a := n) (b := n3 - n2) (A := 4294967295) (B := 4294967295) (by omega) (by omega) (by omega) (by omega) (by omega) (by omega)
      have hg : n4 = gr n1 := h_greatest
      have hor := gr_or n1
      unfold ledTo
      rw [← hg] at hor ⊢
      have ha := tell_or h_wadd
      rw [h_wmul, h_wmul1, h_width] at ha
      generalize n2 * n4 = x at *
      generalize n * (n3 - n2) = y at *
      refine ⟨fun hh => ?_, fun hh => ?_⟩ <;> omega
    · refine ⟨trivial, ?_⟩
      intro n5 l_n5 u_n5
      intro n6 l_n6 u_n6
      intro h_wmul
      replace h_wmul : w128 n5 n6 = n2 * n4 := h_wmul
      refine ⟨trivial, ?_⟩
      intro n7 l_n7 u_n7
      intro h_width
      replace h_width : n7 = n3 - n2 := h_width
      refine ⟨trivial, ?_⟩
      intro n8 l_n8 u_n8
      intro n9 l_n9 u_n9
      intro h_wmul1
      replace h_wmul1 : w128 n8 n9 = n * n7 := h_wmul1
      refine ⟨trivial, ?_⟩
      intro n10 l_n10 u_n10
      intro n11 l_n11 u_n11
      intro n12 l_n12 u_n12
      intro h_wadd
      replace h_wadd : tellW (w128 n5 n6 + w128 n8 n9) n10 n11 n12 := h_wadd
      intro b2
      show ledTo n n1 n2 n3 n10 n11 n4 (0 : Int)
      have p1 := mul_b (a := n2) (b := n4) (A := 2147483648) (B := 4294967295) (by omega) (by omega) (by omega) (by omega) (by omega) (by omega)
      have p2 := mul_b (a := n) (b := n3 - n2) (A := 4294967295) (B := 4294967295) (by omega) (by omega) (by omega) (by omega) (by omega) (by omega)
      have hg : n4 = gr n1 := h_greatest
      have hor := gr_or n1
      unfold ledTo
      rw [← hg] at hor ⊢
      have ha := tell_or h_wadd
      rw [h_wmul, h_wmul1, h_width] at ha
      generalize n2 * n4 = x at *
      generalize n * (n3 - n2) = y at *
      refine ⟨fun hh => ?_, fun hh => ?_⟩ <;> omega
  · refine ⟨trivial, ?_⟩
    intro n5 l_n5 u_n5
    intro n6 l_n6 u_n6
    intro h_wmul
    replace h_wmul : w128 n5 n6 = n2 * n4 := h_wmul
    refine ⟨trivial, ?_⟩
    intro n7 l_n7 u_n7
    intro h_width
    replace h_width : n7 = n3 - n2 := h_width
    refine ⟨trivial, ?_⟩
    intro n8 l_n8 u_n8
    intro n9 l_n9 u_n9
    intro h_wmul1
    replace h_wmul1 : w128 n8 n9 = n * n7 := h_wmul1
    refine ⟨trivial, ?_⟩
    intro n10 l_n10 u_n10
    intro n11 l_n11 u_n11
    intro n12 l_n12 u_n12
    intro h_wadd
    replace h_wadd : tellW (w128 n5 n6 + w128 n8 n9) n10 n11 n12 := h_wadd
    intro b2
    show ledTo n n1 n2 n3 (0 : Int) (0 : Int) (0 : Int) (1 : Int)
    have p1 := mul_b (a := n2) (b := n4) (A := 2147483648) (B := 4294967295) (by omega) (by omega) (by omega) (by omega) (by omega) (by omega)
    have p2 := mul_b (a := n) (b := n3 - n2) (A := 4294967295) (B := 4294967295) (by omega) (by omega) (by omega) (by omega) (by omega) (by omega)
    have hg : n4 = gr n1 := h_greatest
    have hor := gr_or n1
    unfold ledTo
    rw [← hg] at hor ⊢
    have ha := tell_or h_wadd
    rw [h_wmul, h_wmul1, h_width] at ha
    generalize n2 * n4 = x at *
    generalize n * (n3 - n2) = y at *
    refine ⟨fun hh => ?_, fun hh => ?_⟩ <;> omega

theorem p_value : P_value := by
  unfold P_value
  intro n l_n u_n
  intro n1 l_n1 u_n1
  intro n2 l_n2 u_n2
  intro n3 l_n3 u_n3
  intro hpre
  replace hpre : True := hpre
  intro b
  intro b1
  refine ⟨trivial, ?_⟩
  intro n4 l_n4 u_n4
  intro n5 l_n5 u_n5
  intro n6 l_n6 u_n6
  intro n7 l_n7 u_n7
  intro h_led
  replace h_led : ledTo n n1 n2 n3 n4 n5 n6 n7 := h_led
  intro b2
  show ledTo n n1 n2 n3 n4 n5 n6 n7
  exact h_led

end Go.Proofs.YtndfeckmfhiniaaDoor.Sx
