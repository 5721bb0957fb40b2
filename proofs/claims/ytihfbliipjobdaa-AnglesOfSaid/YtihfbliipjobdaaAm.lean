/-
  Plain laws of angles: places turned, their sums; directions.
-/
import Derived.Test.YtihfbliipjobdaaRxh
set_option linter.all false
set_option maxRecDepth 100000
namespace Go.Proofs.Ytihfbliipjobdaa.Sx
open Go Go.RowKit

def tD : List Int := [6521908912666391107, 3529631669043774884, 1799390620744551094, 904048551248139760, 452569415305004281, 226352880908292031, 113184963073701958, 56593546894377864, 28296906617819880, 14148469955268186, 7074237058429791, 3537118789314387, 1768559427169631, 884279717648870, 442139859332441, 221069929729721, 110534964872798, 55267482437391, 27633741218820, 13816870609425, 6908435304714, 3454217652357, 1727108826179, 863554413090, 431777206545, 215888603273, 107944301637, 53972150819, 26986075410, 13493037705, 6746518853, 3373259427, 1686629714, 843314857, 421657429, 210828715, 105414358, 52707179, 26353590, 13176795, 6588398]
theorem sq_le {a b : Int} (hb : 0 ≤ b) (h : a * a ≤ b * b) : a ≤ b := by
  rcases Int.lt_or_le b a with z | z
  · have h1 := Int.mul_lt_mul_of_pos_right z (show 0 < a by omega)
    have h2 := Int.mul_le_mul_of_nonneg_left (show b ≤ a by omega) hb
    omega
  · exact z
theorem sq_nn (a : Int) : 0 ≤ a * a := by
  rcases Int.le_total 0 a with z | z
  · exact Int.mul_nonneg z z
  · have := Int.mul_nonneg (show 0 ≤ -a by omega) (show 0 ≤ -a by omega)
    have e : -a * -a = a * a := by grind
    omega
theorem nb_dot {x y u v e f : Int} (h : nb x y e) (k : nb u v f) : x * u + y * v ≤ e * f := by
  refine sq_le (Int.mul_nonneg h.1 k.1) ?_
  have h1 : (x * u + y * v) * (x * u + y * v) + (x * v - y * u) * (x * v - y * u) = (x * x + y * y) * (u * u + v * v) := by grind
  have h2 := sq_nn (x * v - y * u)
  have h3 : 0 ≤ u * u + v * v := by have := sq_nn u; have := sq_nn v; omega
  have h4 : (x * x + y * y) * (u * u + v * v) ≤ (e * e) * (f * f) := Int.mul_le_mul h.2 k.2 h3 (sq_nn e)
  have h5 : (e * f) * (e * f) = (e * e) * (f * f) := by grind
  omega
theorem nb_add {x y u v e f : Int} (h : nb x y e) (k : nb u v f) : nb (x + u) (y + v) (e + f) := by
  refine ⟨by have := h.1; have := k.1; omega, ?_⟩
  have h1 := nb_dot h k
  have h2 := h.2
  have h3 := k.2
  have e1 : (x + u) * (x + u) + (y + v) * (y + v) = (x * x + y * y) + (u * u + v * v) + 2 * (x * u + y * v) := by grind
  have e2 : (e + f) * (e + f) = e * e + f * f + 2 * (e * f) := by grind
  omega
theorem nb_neg {x y e : Int} (h : nb x y e) : nb (-x) (-y) e := by
  refine ⟨h.1, ?_⟩
  have e1 : -x * -x = x * x := by grind
  have e2 : -y * -y = y * y := by grind
  rw [e1, e2]; exact h.2
theorem nb_sub {x y u v e f : Int} (h : nb x y e) (k : nb u v f) : nb (x - u) (y - v) (e + f) := by
  have := nb_add h (nb_neg k)
  rwa [← Int.sub_eq_add_neg, ← Int.sub_eq_add_neg] at this
theorem nb_mul {x y u v e f : Int} (h : nb x y e) (k : nb u v f) : nb (x * u - y * v) (x * v + y * u) (e * f) := by
  refine ⟨Int.mul_nonneg h.1 k.1, ?_⟩
  have h1 : (x * u - y * v) * (x * u - y * v) + (x * v + y * u) * (x * v + y * u) = (x * x + y * y) * (u * u + v * v) := by grind
  have h3 : 0 ≤ u * u + v * v := by have := sq_nn u; have := sq_nn v; omega
  have h4 : (x * x + y * y) * (u * u + v * v) ≤ (e * e) * (f * f) := Int.mul_le_mul h.2 k.2 h3 (sq_nn e)
  have h5 : (e * f) * (e * f) = (e * e) * (f * f) := by grind
  omega
theorem nb_mono {x y e f : Int} (h : nb x y e) (k : e ≤ f) : nb x y f := by
  refine ⟨by have := h.1; omega, ?_⟩
  have := Int.mul_le_mul k k h.1 (by have := h.1; omega)
  have := h.2
  omega
theorem nb_x {x y e : Int} (h : nb x y e) : -e ≤ x ∧ x ≤ e := by
  have h1 := sq_nn y
  have h2 := h.2
  have h3 := sq_le h.1 (show x * x ≤ e * e by omega)
  have e1 : -x * -x = x * x := by grind
  have h4 := sq_le h.1 (show -x * -x ≤ e * e by omega)
  omega
theorem nb_swap {x y e : Int} (h : nb x y e) : nb y x e := ⟨h.1, by have := h.2; omega⟩
theorem nb_y {x y e : Int} (h : nb x y e) : -e ≤ y ∧ y ≤ e := nb_x (nb_swap h)
theorem nb_conj {x y e : Int} (h : nb x y e) : nb x (-y) e := by
  refine ⟨h.1, ?_⟩
  have e2 : -y * -y = y * y := by grind
  rw [e2]; exact h.2
theorem nb_scale {x y e k : Int} (hk : 0 ≤ k) (h : nb x y e) : nb (k * x) (k * y) (k * e) := by
  refine ⟨Int.mul_nonneg hk h.1, ?_⟩
  have e1 : k * x * (k * x) + k * y * (k * y) = (k * k) * (x * x + y * y) := by grind
  have e2 : k * e * (k * e) = (k * k) * (e * e) := by grind
  rw [e1, e2]
  exact Int.mul_le_mul_of_nonneg_left h.2 (sq_nn k)
theorem nb_unscale {x y e k : Int} (hk : 0 < k) (he : 0 ≤ e) (h : nb (k * x) (k * y) (k * e)) : nb x y e := by
  refine ⟨he, ?_⟩
  have e1 : k * x * (k * x) + k * y * (k * y) = (k * k) * (x * x + y * y) := by grind
  have e2 : k * e * (k * e) = (k * k) * (e * e) := by grind
  have h2 := h.2
  rw [e1, e2] at h2
  exact Int.le_of_mul_le_mul_left h2 (Int.mul_pos hk hk)
theorem mul_sq {a e : Int} (h1 : -e ≤ a) (h2 : a ≤ e) : a * a ≤ e * e := by
  rcases Int.le_total 0 a with z | z
  · exact Int.mul_le_mul h2 h2 z (by omega)
  · have := Int.mul_le_mul (show -a ≤ e by omega) (show -a ≤ e by omega) (by omega) (show 0 ≤ e by omega)
    have e1 : -a * -a = a * a := by grind
    omega
theorem nb_of {x y e : Int} (h1 : -e ≤ x) (h2 : x ≤ e) (h3 : -e ≤ y) (h4 : y ≤ e) : nb x y (2 * e) := by
  have hx : x * x ≤ e * e := by
    rcases Int.le_total 0 x with z | z
    · exact Int.mul_le_mul h2 h2 z (by omega)
    · have := Int.mul_le_mul (show -x ≤ e by omega) (show -x ≤ e by omega) (by omega) (show 0 ≤ e by omega)
      have e1 : -x * -x = x * x := by grind
      omega
  have hy : y * y ≤ e * e := by
    rcases Int.le_total 0 y with z | z
    · exact Int.mul_le_mul h4 h4 z (by omega)
    · have := Int.mul_le_mul (show -y ≤ e by omega) (show -y ≤ e by omega) (by omega) (show 0 ≤ e by omega)
      have e1 : -y * -y = y * y := by grind
      omega
  refine ⟨by omega, ?_⟩
  have e1 : 2 * e * (2 * e) = 4 * (e * e) := by grind
  have := sq_nn e
  omega
def rot (n : Nat) (J : Int) : Int × Int := qt (J / 2 ^ n) (pn n (J % 2 ^ n))
theorem tab_ok : ∀ i : Fin 41, nb (cx i) (sx i) 4611686018427387904 := by
  have h : ∀ i : Fin 41, 0 ≤ (4611686018427387904 : Int) ∧ cx i * cx i + sx i * sx i ≤ 4611686018427387904 * 4611686018427387904 := by decide +kernel
  exact h
theorem tab_sq : ∀ i : Fin 40, nb (cx (i + 1) * cx (i + 1) - sx (i + 1) * sx (i + 1) - 4611686018427387904 * cx i) (2 * cx (i + 1) * sx (i + 1) - 4611686018427387904 * sx i) (3 * 4611686018427387904) := by
  have h : ∀ i : Fin 40, 0 ≤ (3 * 4611686018427387904 : Int) ∧ (cx (i + 1) * cx (i + 1) - sx (i + 1) * sx (i + 1) - 4611686018427387904 * cx i) * (cx (i + 1) * cx (i + 1) - sx (i + 1) * sx (i + 1) - 4611686018427387904 * cx i) + (2 * cx (i + 1) * sx (i + 1) - 4611686018427387904 * sx i) * (2 * cx (i + 1) * sx (i + 1) - 4611686018427387904 * sx i) ≤ 3 * 4611686018427387904 * (3 * 4611686018427387904) := by decide +kernel
  exact h
theorem on_eq (x y c s : Int) : ∃ r1 r2 : Int, 0 ≤ r1 ∧ r1 < 4611686018427387904 ∧ 0 ≤ r2 ∧ r2 < 4611686018427387904 ∧ 4611686018427387904 * onX x y c s = x * c - y * s - r1 ∧ 4611686018427387904 * onY x y c s = x * s + y * c - r2 := by
  refine ⟨(x * c + -y * s) % 4611686018427387904, (y * c + x * s) % 4611686018427387904, Int.emod_nonneg _ (by omega), Int.emod_lt_of_pos _ (by omega), Int.emod_nonneg _ (by omega), Int.emod_lt_of_pos _ (by omega), ?_, ?_⟩
  · have e : -y * s = -(y * s) := by grind
    simp only [onX]; rw [e]; omega
  · simp only [onY]; omega
theorem qt_on (q x y c s : Int) : ∃ r1 r2 : Int, nb r1 r2 (2 * 4611686018427387904) ∧ 4611686018427387904 * (qt q (onX x y c s, onY x y c s)).1 = (qt q (x, y)).1 * c - (qt q (x, y)).2 * s - r1 ∧
    4611686018427387904 * (qt q (onX x y c s, onY x y c s)).2 = (qt q (x, y)).1 * s + (qt q (x, y)).2 * c - r2 := by
  obtain ⟨r1, r2, a1, a2, a3, a4, a5, a6⟩ := on_eq x y c s
  unfold qt
  split
  · exact ⟨r1, r2, nb_of (by omega) (by omega) (by omega) (by omega), a5, a6⟩
  · split
    · refine ⟨-r2, r1, nb_of (by omega) (by omega) (by omega) (by omega), ?_, ?_⟩ <;> simp only <;> grind
    · split
      · refine ⟨-r1, -r2, nb_of (by omega) (by omega) (by omega) (by omega), ?_, ?_⟩ <;> simp only <;> grind
      · refine ⟨r2, -r1, nb_of (by omega) (by omega) (by omega) (by omega), ?_, ?_⟩ <;> simp only <;> grind
theorem half_idx (n : Nat) (J : Int) : J / 2 ^ (n + 1) = (J / 2) / 2 ^ n ∧ (J % 2 ^ (n + 1)) / 2 = (J / 2) % 2 ^ n ∧ (J % 2 ^ (n + 1)) % 2 = J % 2 := by
  have hp : (0 : Int) < 2 ^ n := Int.pow_pos (by decide)
  rw [Int.pow_succ]
  generalize (2 : Int) ^ n = P at *
  have h1 := Int.mul_ediv_add_emod J (P * 2)
  have h2 := Int.emod_nonneg J (show P * 2 ≠ 0 by omega)
  have h3 := Int.emod_lt_of_pos J (show 0 < P * 2 by omega)
  generalize J / (P * 2) = q at *
  generalize J % (P * 2) = r at *
  have e : P * 2 * q = 2 * (P * q) := by grind
  have h4 : J / 2 = P * q + r / 2 := by omega
  have h5 : J % 2 = r % 2 := by omega
  have h6 : (J / 2) / P = q ∧ (J / 2) % P = r / 2 := (Int.ediv_emod_unique hp).2 ⟨by omega, by omega, by omega⟩
  exact ⟨h6.1.symm, h6.2.symm, h5.symm⟩
theorem rot_even {n : Nat} {J : Int} (h : J % 2 = 0) : rot (n + 1) J = rot n (J / 2) := by
  obtain ⟨h1, h2, h3⟩ := half_idx n J
  unfold rot
  rw [h1]
  congr 1
  show (if (J % 2 ^ (n + 1)) % 2 = 1 then _ else _) = _
  rw [if_neg (by omega), h2]
theorem rot_odd {n : Nat} {J : Int} (h : J % 2 = 1) : ∃ r1 r2 : Int, nb r1 r2 (2 * 4611686018427387904) ∧ 4611686018427387904 * (rot (n + 1) J).1 = (rot n (J / 2)).1 * cx (n + 1) - (rot n (J / 2)).2 * sx (n + 1) - r1 ∧
    4611686018427387904 * (rot (n + 1) J).2 = (rot n (J / 2)).1 * sx (n + 1) + (rot n (J / 2)).2 * cx (n + 1) - r2 := by
  obtain ⟨h1, h2, h3⟩ := half_idx n J
  unfold rot
  rw [h1]
  have e : pn (n + 1) (J % 2 ^ (n + 1)) = (onX (pn n ((J / 2) % 2 ^ n)).1 (pn n ((J / 2) % 2 ^ n)).2 (cx (n + 1)) (sx (n + 1)), onY (pn n ((J / 2) % 2 ^ n)).1 (pn n ((J / 2) % 2 ^ n)).2 (cx (n + 1)) (sx (n + 1))) := by
    show (if (J % 2 ^ (n + 1)) % 2 = 1 then _ else _) = _
    rw [if_pos (by omega), h2]
  rw [e]
  exact qt_on _ _ _ _ _
theorem rot_zero (J : Int) : rot 0 J = qt J (4611686018427387904, 0) := by
  unfold rot
  rw [show J / 2 ^ 0 = J by simp]
  rfl
theorem rot_zero_or (J : Int) : (J % 4 = 0 ∧ rot 0 J = (4611686018427387904, 0)) ∨ (J % 4 = 1 ∧ rot 0 J = (0, 4611686018427387904)) ∨ (J % 4 = 2 ∧ rot 0 J = (-4611686018427387904, 0)) ∨ (J % 4 = 3 ∧ rot 0 J = (0, -4611686018427387904)) := by
  rw [rot_zero]
  have h : J % 4 = 0 ∨ J % 4 = 1 ∨ J % 4 = 2 ∨ J % 4 = 3 := by omega
  rcases h with h | h | h | h <;> simp [qt, h]
theorem cx0 : cx 0 = 0 := rfl
theorem sx0 : sx 0 = 4611686018427387904 := rfl
/-- no place is farther out than that. -/
theorem rot_nb : ∀ (n : Nat), n ≤ 40 → ∀ J, nb (rot n J).1 (rot n J).2 (4611686018427387904 + 2 * n)
  | 0, _, J => by
    rcases rot_zero_or J with ⟨_, h⟩ | ⟨_, h⟩ | ⟨_, h⟩ | ⟨_, h⟩ <;> rw [h] <;> exact ⟨by decide, by decide⟩
  | n + 1, hn, J => by
    have ih := rot_nb n (by omega) (J / 2)
    rcases Int.emod_two_eq J with h | h
    · rw [rot_even h]
      exact nb_mono ih (by omega)
    · obtain ⟨r1, r2, hr, h1, h2⟩ := rot_odd (n := n) h
      have ht := tab_ok ⟨n + 1, by omega⟩
      have hm := nb_sub (nb_mul ih ht) hr
      simp only at hm
      rw [← h1, ← h2] at hm
      refine nb_unscale (k := 4611686018427387904) (by omega) (by omega) (nb_mono hm ?_)
      omega
theorem alg_even {X Y c s X' Y' r1 r2 : Int} (h1 : 4611686018427387904 * X' = X * c - Y * s - r1) (h2 : 4611686018427387904 * Y' = X * s + Y * c - r2) (hr : nb r1 r2 (2 * 4611686018427387904)) :
    nb (X * c - Y * s - 4611686018427387904 * X') (X * s + Y * c - 4611686018427387904 * Y') (2 * 4611686018427387904) := by
  rw [h1, h2, show X * c - Y * s - (X * c - Y * s - r1) = r1 by omega, show X * s + Y * c - (X * s + Y * c - r2) = r2 by omega]
  exact hr
theorem alg_odd {X Y c s cn sn X1 Y1 X' Y' r1 r2 b : Int} (h1 : 4611686018427387904 * X1 = X * c - Y * s - r1) (h2 : 4611686018427387904 * Y1 = X * s + Y * c - r2) (hr : nb r1 r2 (2 * 4611686018427387904))
    (ht : nb c s 4611686018427387904) (hd : nb (c * c - s * s - 4611686018427387904 * cn) (2 * c * s - 4611686018427387904 * sn) (3 * 4611686018427387904)) (hX : nb X Y (4611686018427387904 + 80))
    (hb : nb (X * cn - Y * sn - 4611686018427387904 * X') (X * sn + Y * cn - 4611686018427387904 * Y') (b * 4611686018427387904)) (hb0 : 0 ≤ b) :
    nb (X1 * c - Y1 * s - 4611686018427387904 * X') (X1 * s + Y1 * c - 4611686018427387904 * Y') ((b + 6) * 4611686018427387904) := by
  have k1 := nb_scale (k := 4611686018427387904) (by omega) hb
  have k2 := nb_mul hX hd
  have k3 := nb_mul hr ht
  have k4 := nb_sub (nb_add k1 k2) k3
  refine nb_unscale (k := 4611686018427387904) (by omega) (by omega) ?_
  have e1 : 4611686018427387904 * (X1 * c - Y1 * s - 4611686018427387904 * X') = 4611686018427387904 * (X * cn - Y * sn - 4611686018427387904 * X') + (X * (c * c - s * s - 4611686018427387904 * cn) - Y * (2 * c * s - 4611686018427387904 * sn)) - (r1 * c - r2 * s) := by grind
  have e2 : 4611686018427387904 * (X1 * s + Y1 * c - 4611686018427387904 * Y') = 4611686018427387904 * (X * sn + Y * cn - 4611686018427387904 * Y') + (X * (2 * c * s - 4611686018427387904 * sn) + Y * (c * c - s * s - 4611686018427387904 * cn)) - (r1 * s + r2 * c) := by grind
  rw [e1, e2]
  exact nb_mono k4 (by omega)
theorem rot_step : ∀ (n : Nat), n ≤ 40 → ∀ J, nb ((rot n J).1 * cx n - (rot n J).2 * sx n - 4611686018427387904 * (rot n (J + 1)).1) ((rot n J).1 * sx n + (rot n J).2 * cx n - 4611686018427387904 * (rot n (J + 1)).2) ((6 * n : Int) * 4611686018427387904)
  | 0, _, J => by
    rw [cx0, sx0]
    rcases rot_zero_or J with ⟨a, h⟩ | ⟨a, h⟩ | ⟨a, h⟩ | ⟨a, h⟩ <;> rcases rot_zero_or (J + 1) with ⟨b, k⟩ | ⟨b, k⟩ | ⟨b, k⟩ | ⟨b, k⟩ <;> first | (exfalso; omega) | (rw [h, k]; exact ⟨by decide, by decide⟩)
  | n + 1, hn, J => by
    rcases Int.emod_two_eq J with h | h
    · obtain ⟨r1, r2, hr, h1, h2⟩ := rot_odd (n := n) (J := J + 1) (by omega)
      rw [show (J + 1) / 2 = J / 2 by omega] at h1 h2
      rw [rot_even h]
      exact nb_mono (alg_even h1 h2 hr) (by omega)
    · obtain ⟨r1, r2, hr, h1, h2⟩ := rot_odd (n := n) h
      have ih := rot_step n (by omega) (J / 2)
      rw [rot_even (n := n) (J := J + 1) (by omega), show (J + 1) / 2 = J / 2 + 1 by omega]
      have := alg_odd h1 h2 hr (tab_ok ⟨n + 1, by omega⟩) (tab_sq ⟨n, by omega⟩) (nb_mono (rot_nb n (by omega) (J / 2)) (by omega)) ih (by omega)
      exact nb_mono this (by omega)
theorem alg_10 {X Y U V P Q X1 Y1 P1 Q1 c s r1 r2 q1 q2 e : Int} (h1 : 4611686018427387904 * X1 = X * c - Y * s - r1) (h2 : 4611686018427387904 * Y1 = X * s + Y * c - r2) (hr : nb r1 r2 (2 * 4611686018427387904))
    (g1 : 4611686018427387904 * P1 = P * c - Q * s - q1) (g2 : 4611686018427387904 * Q1 = P * s + Q * c - q2) (hq : nb q1 q2 (2 * 4611686018427387904)) (ht : nb c s 4611686018427387904) (hU : nb U V (4611686018427387904 + 80))
    (hb : nb (X * U - Y * V - 4611686018427387904 * P) (X * V + Y * U - 4611686018427387904 * Q) (e * 4611686018427387904)) (he : 0 ≤ e) :
    nb (X1 * U - Y1 * V - 4611686018427387904 * P1) (X1 * V + Y1 * U - 4611686018427387904 * Q1) ((e + 5) * 4611686018427387904) := by
  have k1 := nb_mul hb ht
  have k2 := nb_mul hr hU
  have k3 := nb_scale (k := 4611686018427387904) (by omega) hq
  have k4 := nb_add (nb_sub k1 k2) k3
  refine nb_unscale (k := 4611686018427387904) (by omega) (by omega) ?_
  have e1 : 4611686018427387904 * (X1 * U - Y1 * V - 4611686018427387904 * P1) = ((X * U - Y * V - 4611686018427387904 * P) * c - (X * V + Y * U - 4611686018427387904 * Q) * s) - (r1 * U - r2 * V) + 4611686018427387904 * q1 := by grind
  have e2 : 4611686018427387904 * (X1 * V + Y1 * U - 4611686018427387904 * Q1) = ((X * U - Y * V - 4611686018427387904 * P) * s + (X * V + Y * U - 4611686018427387904 * Q) * c) - (r1 * V + r2 * U) + 4611686018427387904 * q2 := by grind
  rw [e1, e2]
  exact nb_mono k4 (by omega)
theorem alg_11 {X Y U V P Q R S X1 Y1 U1 V1 c s cn sn r1 r2 q1 q2 e b : Int} (h1 : 4611686018427387904 * X1 = X * c - Y * s - r1) (h2 : 4611686018427387904 * Y1 = X * s + Y * c - r2) (hr : nb r1 r2 (2 * 4611686018427387904))
    (g1 : 4611686018427387904 * U1 = U * c - V * s - q1) (g2 : 4611686018427387904 * V1 = U * s + V * c - q2) (hq : nb q1 q2 (2 * 4611686018427387904)) (ht : nb c s 4611686018427387904)
    (hd : nb (c * c - s * s - 4611686018427387904 * cn) (2 * c * s - 4611686018427387904 * sn) (3 * 4611686018427387904)) (hn : nb cn sn 4611686018427387904)
    (hX : nb X Y (4611686018427387904 + 80)) (hU : nb U V (4611686018427387904 + 80))
    (hb : nb (X * U - Y * V - 4611686018427387904 * P) (X * V + Y * U - 4611686018427387904 * Q) (e * 4611686018427387904)) (he : 0 ≤ e)
    (hs : nb (P * cn - Q * sn - 4611686018427387904 * R) (P * sn + Q * cn - 4611686018427387904 * S) (b * 4611686018427387904)) (hb0 : 0 ≤ b) :
    nb (X1 * U1 - Y1 * V1 - 4611686018427387904 * R) (X1 * V1 + Y1 * U1 - 4611686018427387904 * S) ((e + b + 9) * 4611686018427387904) := by
  have k1 := nb_scale (k := 4611686018427387904 * 4611686018427387904) (by omega) hs
  have k2 := nb_scale (k := 4611686018427387904) (by omega) (nb_mul hb hn)
  have k3 := nb_mul (nb_mul hX hU) hd
  have k4 := nb_mul (nb_mul hr hU) ht
  have k5 := nb_mul (nb_mul hq hX) ht
  have k6 := nb_mul hr hq
  have k7 := nb_add (nb_sub (nb_sub (nb_add (nb_add k1 k2) k3) k4) k5) k6
  refine nb_unscale (k := 4611686018427387904 * 4611686018427387904) (by omega) (by omega) ?_
  have e1 : 4611686018427387904 * 4611686018427387904 * (X1 * U1 - Y1 * V1 - 4611686018427387904 * R) = (X * c - Y * s - r1) * (U * c - V * s - q1) - (X * s + Y * c - r2) * (U * s + V * c - q2) - 4611686018427387904 * 4611686018427387904 * 4611686018427387904 * R := by
    rw [← h1, ← h2, ← g1, ← g2]; grind
  have e2 : 4611686018427387904 * 4611686018427387904 * (X1 * V1 + Y1 * U1 - 4611686018427387904 * S) = (X * c - Y * s - r1) * (U * s + V * c - q2) + (X * s + Y * c - r2) * (U * c - V * s - q1) - 4611686018427387904 * 4611686018427387904 * 4611686018427387904 * S := by
    rw [← h1, ← h2, ← g1, ← g2]; grind
  clear h1 h2 g1 g2
  have f1 : 4611686018427387904 * 4611686018427387904 * (X1 * U1 - Y1 * V1 - 4611686018427387904 * R) = 4611686018427387904 * 4611686018427387904 * (P * cn - Q * sn - 4611686018427387904 * R) + 4611686018427387904 * ((X * U - Y * V - 4611686018427387904 * P) * cn - (X * V + Y * U - 4611686018427387904 * Q) * sn) + ((X * U - Y * V) * (c * c - s * s - 4611686018427387904 * cn) - (X * V + Y * U) * (2 * c * s - 4611686018427387904 * sn)) - ((r1 * U - r2 * V) * c - (r1 * V + r2 * U) * s) - ((q1 * X - q2 * Y) * c - (q1 * Y + q2 * X) * s) + (r1 * q1 - r2 * q2) := by
    rw [e1]; grind
  have f2 : 4611686018427387904 * 4611686018427387904 * (X1 * V1 + Y1 * U1 - 4611686018427387904 * S) = 4611686018427387904 * 4611686018427387904 * (P * sn + Q * cn - 4611686018427387904 * S) + 4611686018427387904 * ((X * U - Y * V - 4611686018427387904 * P) * sn + (X * V + Y * U - 4611686018427387904 * Q) * cn) + ((X * U - Y * V) * (2 * c * s - 4611686018427387904 * sn) + (X * V + Y * U) * (c * c - s * s - 4611686018427387904 * cn)) - ((r1 * U - r2 * V) * s + (r1 * V + r2 * U) * c) - ((q1 * X - q2 * Y) * s + (q1 * Y + q2 * X) * c) + (r1 * q2 + r2 * q1) := by
    rw [e2]; grind
  rw [f1, f2]
  exact nb_mono k7 (by omega)
/-- how far off sums are. -/
def offs : Nat → Int
  | 0 => 0
  | n + 1 => offs n + 6 * n + 9
theorem offs_nn : ∀ n, 0 ≤ offs n
  | 0 => Int.le_refl 0
  | n + 1 => by have := offs_nn n; simp only [offs]; omega
theorem rot_sum : ∀ (n : Nat), n ≤ 40 → ∀ J K, nb ((rot n J).1 * (rot n K).1 - (rot n J).2 * (rot n K).2 - 4611686018427387904 * (rot n (J + K)).1) ((rot n J).1 * (rot n K).2 + (rot n J).2 * (rot n K).1 - 4611686018427387904 * (rot n (J + K)).2) (offs n * 4611686018427387904)
  | 0, _, J, K => by
    rcases rot_zero_or J with ⟨a, h⟩ | ⟨a, h⟩ | ⟨a, h⟩ | ⟨a, h⟩ <;> rcases rot_zero_or K with ⟨b, k⟩ | ⟨b, k⟩ | ⟨b, k⟩ | ⟨b, k⟩ <;> rcases rot_zero_or (J + K) with ⟨c, l⟩ | ⟨c, l⟩ | ⟨c, l⟩ | ⟨c, l⟩ <;> first | (exfalso; omega) | (rw [h, k, l]; exact ⟨by decide, by decide⟩)
  | n + 1, hn, J, K => by
    have ih := rot_sum n (by omega) (J / 2) (K / 2)
    have bJ := nb_mono (rot_nb n (by omega) (J / 2)) (show (4611686018427387904 : Int) + 2 * n ≤ 4611686018427387904 + 80 by omega)
    have bK := nb_mono (rot_nb n (by omega) (K / 2)) (show (4611686018427387904 : Int) + 2 * n ≤ 4611686018427387904 + 80 by omega)
    have o := offs_nn n
    have ht := tab_ok ⟨n + 1, by omega⟩
    simp only [offs]
    rcases Int.emod_two_eq J with h | h <;> rcases Int.emod_two_eq K with k | k
    · rw [rot_even h, rot_even k, rot_even (J := J + K) (by omega), show (J + K) / 2 = J / 2 + K / 2 by omega]
      exact nb_mono ih (by omega)
    · obtain ⟨r1, r2, hr, h1, h2⟩ := rot_odd (n := n) k
      obtain ⟨q1, q2, hq, g1, g2⟩ := rot_odd (n := n) (J := J + K) (by omega)
      rw [show (J + K) / 2 = J / 2 + K / 2 by omega] at g1 g2
      rw [rot_even h]
      have := alg_10 h1 h2 hr g1 g2 hq ht bJ (X := (rot n (K / 2)).1) (Y := (rot n (K / 2)).2) (U := (rot n (J / 2)).1) (V := (rot n (J / 2)).2) (e := offs n) (by
        have c1 : (rot n (K / 2)).1 * (rot n (J / 2)).1 - (rot n (K / 2)).2 * (rot n (J / 2)).2 = (rot n (J / 2)).1 * (rot n (K / 2)).1 - (rot n (J / 2)).2 * (rot n (K / 2)).2 := by grind
        have c2 : (rot n (K / 2)).1 * (rot n (J / 2)).2 + (rot n (K / 2)).2 * (rot n (J / 2)).1 = (rot n (J / 2)).1 * (rot n (K / 2)).2 + (rot n (J / 2)).2 * (rot n (K / 2)).1 := by grind
        rw [c1, c2]; exact ih) o
      have c1 : (rot n (J / 2)).1 * (rot (n + 1) K).1 - (rot n (J / 2)).2 * (rot (n + 1) K).2 = (rot (n + 1) K).1 * (rot n (J / 2)).1 - (rot (n + 1) K).2 * (rot n (J / 2)).2 := by grind
      have c2 : (rot n (J / 2)).1 * (rot (n + 1) K).2 + (rot n (J / 2)).2 * (rot (n + 1) K).1 = (rot (n + 1) K).1 * (rot n (J / 2)).2 + (rot (n + 1) K).2 * (rot n (J / 2)).1 := by grind
      rw [c1, c2]
      exact nb_mono this (by omega)
    · obtain ⟨r1, r2, hr, h1, h2⟩ := rot_odd (n := n) h
      obtain ⟨q1, q2, hq, g1, g2⟩ := rot_odd (n := n) (J := J + K) (by omega)
      rw [show (J + K) / 2 = J / 2 + K / 2 by omega] at g1 g2
      rw [rot_even k]
      exact nb_mono (alg_10 h1 h2 hr g1 g2 hq ht bK ih o) (by omega)
    · obtain ⟨r1, r2, hr, h1, h2⟩ := rot_odd (n := n) h
      obtain ⟨q1, q2, hq, g1, g2⟩ := rot_odd (n := n) k
      rw [rot_even (J := J + K) (by omega), show (J + K) / 2 = J / 2 + K / 2 + 1 by omega]
      have hs := rot_step n (by omega) (J / 2 + K / 2)
      exact nb_mono (alg_11 h1 h2 hr g1 g2 hq ht (tab_sq ⟨n, by omega⟩) (tab_ok ⟨n, by omega⟩) bJ bK ih o hs (by omega)) (by omega)
def RX (J : Int) : Int := (rot 40 J).1
def RY (J : Int) : Int := (rot 40 J).2
theorem R_nb (J : Int) : nb (RX J) (RY J) (4611686018427387904 + 80) := rot_nb 40 (Nat.le_refl _) J
theorem R_sum (J K : Int) : nb (RX J * RX K - RY J * RY K - 4611686018427387904 * RX (J + K)) (RX J * RY K + RY J * RX K - 4611686018427387904 * RY (J + K)) (5040 * 4611686018427387904) := rot_sum 40 (Nat.le_refl _) J K
theorem R_step (J : Int) : nb (RX J * 4611686018427387903 - RY J * 6588397 - 4611686018427387904 * RX (J + 1)) (RX J * 6588397 + RY J * 4611686018427387903 - 4611686018427387904 * RY (J + 1)) (240 * 4611686018427387904) := rot_step 40 (Nat.le_refl _) J
theorem R_zero : RX 0 = 4611686018427387904 ∧ RY 0 = 0 := by decide +kernel
theorem R_low (J : Int) : (4611686018427387904 - 5200) * (4611686018427387904 - 5200) ≤ RX J * RX J + RY J * RY J := by
  apply Classical.byContradiction
  intro h
  have h1 : nb (RX J) (RY J) (4611686018427387904 - 5200) := ⟨by omega, by omega⟩
  have h2 := nb_x (nb_mul h1 (R_nb (-J)))
  have h3 := nb_x (R_sum J (-J))
  rw [show J + -J = 0 by omega, R_zero.1] at h3
  omega
theorem R_conj (J : Int) : nb (RX (-J) - RX J) (RY (-J) + RY J) 15602 := by
  have h1 := R_sum J (-J)
  rw [show J + -J = 0 by omega, R_zero.1, R_zero.2] at h1
  have h2 := (R_nb J).2
  have h3 := R_low J
  have hN : nb (4611686018427387904 * 4611686018427387904 - (RX J * RX J + RY J * RY J)) 0 (10401 * 4611686018427387904) := by
    refine ⟨by omega, ?_⟩
    have a1 : -(10401 * 4611686018427387904) ≤ 4611686018427387904 * 4611686018427387904 - (RX J * RX J + RY J * RY J) := by omega
    have a2 : 4611686018427387904 * 4611686018427387904 - (RX J * RX J + RY J * RY J) ≤ 10401 * 4611686018427387904 := by omega
    generalize 4611686018427387904 * 4611686018427387904 - (RX J * RX J + RY J * RY J) = z at *
    have := mul_sq a1 a2
    omega
  have h4 := nb_add h1 hN
  have h5 := nb_mul h4 (nb_conj (R_nb J))
  have e1 : (RX J * RX (-J) - RY J * RY (-J) - 4611686018427387904 * 4611686018427387904 + (4611686018427387904 * 4611686018427387904 - (RX J * RX J + RY J * RY J))) * RX J - (RX J * RY (-J) + RY J * RX (-J) - 4611686018427387904 * 0 + 0) * -RY J = (RX J * RX J + RY J * RY J) * (RX (-J) - RX J) := by grind
  have e2 : (RX J * RX (-J) - RY J * RY (-J) - 4611686018427387904 * 4611686018427387904 + (4611686018427387904 * 4611686018427387904 - (RX J * RX J + RY J * RY J))) * -RY J + (RX J * RY (-J) + RY J * RX (-J) - 4611686018427387904 * 0 + 0) * RX J = (RX J * RX J + RY J * RY J) * (RY (-J) + RY J) := by grind
  rw [e1, e2] at h5
  refine nb_unscale (k := RX J * RX J + RY J * RY J) (by omega) (by omega) (nb_mono h5 ?_)
  have h6 := Int.mul_le_mul_of_nonneg_right h3 (show (0 : Int) ≤ 15602 by omega)
  omega
theorem nearS_off (n : Int) : -35184372088832 ≤ 70368744177664 * nearS n - n ∧ 70368744177664 * nearS n - n ≤ 35184372088832 := by
  unfold nearS; omega
theorem qt_pick (q : Int) (p : Int × Int) : qt q p = p ∨ qt q p = (-p.2, p.1) ∨ qt q p = (-p.1, -p.2) ∨ qt q p = (p.2, -p.1) := by
  unfold qt; repeat' split
  · exact Or.inl rfl
  · exact Or.inr (Or.inl rfl)
  · exact Or.inr (Or.inr (Or.inl rfl))
  · exact Or.inr (Or.inr (Or.inr rfl))
theorem R_def (J : Int) : rot 40 J = qt (J / 1099511627776) (pn 40 (J % 1099511627776)) := rfl
theorem qt_off (q x y x' y' : Int) {e : Int} (h1 : -e ≤ 70368744177664 * x' - x) (h2 : 70368744177664 * x' - x ≤ e) (h3 : -e ≤ 70368744177664 * y' - y) (h4 : 70368744177664 * y' - y ≤ e) :
    (-e ≤ 70368744177664 * (qt q (x', y')).1 - (qt q (x, y)).1 ∧ 70368744177664 * (qt q (x', y')).1 - (qt q (x, y)).1 ≤ e) ∧ (-e ≤ 70368744177664 * (qt q (x', y')).2 - (qt q (x, y)).2 ∧ 70368744177664 * (qt q (x', y')).2 - (qt q (x, y)).2 ≤ e) := by
  unfold qt
  repeat' split
  all_goals (simp only; omega)
/-- cosine and sine are what is nearest to the place, but for rounding. -/
theorem dir_off (a : Int) : (-35184372088832 ≤ 70368744177664 * cosF a - RX (jOf a) ∧ 70368744177664 * cosF a - RX (jOf a) ≤ 35184372088832) ∧ (-35184372088832 ≤ 70368744177664 * sinF a - RY (jOf a) ∧ 70368744177664 * sinF a - RY (jOf a) ≤ 35184372088832) := by
  have h1 := nearS_off (pn 40 (jOf a % 1099511627776)).1
  have h2 := nearS_off (pn 40 (jOf a % 1099511627776)).2
  unfold cosF sinF dirF RX RY
  rw [R_def]
  exact qt_off _ (pn 40 (jOf a % 1099511627776)).1 (pn 40 (jOf a % 1099511627776)).2 _ _ h1.1 h1.2 h2.1 h2.2
theorem E_nb {x y : Int} (h1 : -35184372088832 ≤ x) (h2 : x ≤ 35184372088832) (h3 : -35184372088832 ≤ y) (h4 : y ≤ 35184372088832) : nb x y 49758216191608 := by
  have a1 := mul_sq h1 h2
  have a2 := mul_sq h3 h4
  exact ⟨by omega, by omega⟩
theorem R_in (J : Int) : -4611686018427387984 ≤ RX J ∧ RX J ≤ 4611686018427387984 ∧ -4611686018427387984 ≤ RY J ∧ RY J ≤ 4611686018427387984 := by
  have h := R_nb J
  have := nb_x h
  have := nb_y h
  omega
/-- AnglesCircle. -/
theorem circle (a : Int) : -65536 ≤ sinF a ∧ sinF a ≤ 65536 ∧ -65536 ≤ cosF a ∧ cosF a ≤ 65536 ∧ -92683 ≤ sinF a * sinF a + cosF a * cosF a - 4294967296 ∧ sinF a * sinF a + cosF a * cosF a - 4294967296 ≤ 92683 := by
  obtain ⟨⟨h1, h2⟩, h3, h4⟩ := dir_off a
  have hr := R_in (jOf a)
  have hn := R_nb (jOf a)
  have hl := R_low (jOf a)
  generalize RX (jOf a) = X at *
  generalize RY (jOf a) = Y at *
  generalize hc : cosF a = c at *
  generalize hs : sinF a = s at *
  have he := E_nb h1 h2 h3 h4
  have d1 := nb_dot hn he
  have d2 := nb_dot hn (nb_neg he)
  have e1 : 4951760157141521099596496896 * (s * s + c * c) = (X * X + Y * Y) + 2 * (X * (70368744177664 * c - X) + Y * (70368744177664 * s - Y)) + ((70368744177664 * c - X) * (70368744177664 * c - X) + (70368744177664 * s - Y) * (70368744177664 * s - Y)) := by grind
  have e2 : X * -(70368744177664 * c - X) + Y * -(70368744177664 * s - Y) = -(X * (70368744177664 * c - X) + Y * (70368744177664 * s - Y)) := by grind
  rw [e2] at d2
  have n1 := hn.2
  have n2 := he.2
  have n3 := sq_nn (70368744177664 * c - X)
  have n4 := sq_nn (70368744177664 * s - Y)
  refine ⟨by omega, by omega, by omega, by omega, ?_⟩
  generalize X * (70368744177664 * c - X) + Y * (70368744177664 * s - Y) = D at *
  generalize (70368744177664 * c - X) * (70368744177664 * c - X) = E1 at *
  generalize (70368744177664 * s - Y) * (70368744177664 * s - Y) = E2 at *
  generalize X * X + Y * Y = N at *
  generalize s * s + c * c = M at *
  omega
theorem jOf_sum (a b : Int) : jOf (a + b) = jOf a + jOf b ∨ jOf (a + b) = jOf a + jOf b + 1 := by
  unfold jOf
  rw [Int.add_mul]
  generalize a * 1099511627776 = x
  generalize b * 1099511627776 = y
  omega
theorem R_next (J : Int) : -6600000 ≤ RX (J + 1) - RX J ∧ RX (J + 1) - RX J ≤ 6600000 ∧ -6600000 ≤ RY (J + 1) - RY J ∧ RY (J + 1) - RY J ≤ 6600000 := by
  have h := R_step J
  have h1 := nb_x h
  have h2 := nb_y h
  have hr := R_in J
  omega
/-- the sine of a sum. -/
theorem sums (a b : Int) : -125452 ≤ 65536 * sinF (a + b) - sinF a * cosF b - cosF a * sinF b ∧ 65536 * sinF (a + b) - sinF a * cosF b - cosF a * sinF b ≤ 125452 := by
  obtain ⟨⟨a1, a2⟩, a3, a4⟩ := dir_off a
  obtain ⟨⟨b1, b2⟩, b3, b4⟩ := dir_off b
  obtain ⟨_, c3, c4⟩ := dir_off (a + b)
  have hs := nb_y (R_sum (jOf a) (jOf b))
  have hna := R_nb (jOf a)
  have hnb := R_nb (jOf b)
  have hj : -6600000 ≤ RY (jOf (a + b)) - RY (jOf a + jOf b) ∧ RY (jOf (a + b)) - RY (jOf a + jOf b) ≤ 6600000 := by
    rcases jOf_sum a b with h | h
    · rw [h]; omega
    · rw [h]; have := R_next (jOf a + jOf b); omega
  generalize RY (jOf (a + b)) = C at *
  generalize RY (jOf a + jOf b) = C' at *
  generalize RX (jOf a) = X at *
  generalize RY (jOf a) = Y at *
  generalize RX (jOf b) = U at *
  generalize RY (jOf b) = V at *
  generalize sinF (a + b) = z at *
  generalize sinF a = s at *
  generalize cosF a = c at *
  generalize sinF b = s' at *
  generalize cosF b = c' at *
  have ea := E_nb a1 a2 a3 a4
  have eb := E_nb b1 b2 b3 b4
  have d1 := nb_y (nb_mul hna eb)
  have d2 := nb_y (nb_mul hnb ea)
  have d3 := nb_y (nb_mul ea eb)
  have e : 4951760157141521099596496896 * (s * c' + c * s') = (X * V + Y * U) + (X * (70368744177664 * s' - V) + Y * (70368744177664 * c' - U)) + (U * (70368744177664 * s - Y) + V * (70368744177664 * c - X)) + ((70368744177664 * c - X) * (70368744177664 * s' - V) + (70368744177664 * s - Y) * (70368744177664 * c' - U)) := by grind
  generalize X * V + Y * U = P at *
  generalize X * (70368744177664 * s' - V) + Y * (70368744177664 * c' - U) = Q at *
  generalize U * (70368744177664 * s - Y) + V * (70368744177664 * c - X) = Q' at *
  generalize (70368744177664 * c - X) * (70368744177664 * s' - V) + (70368744177664 * s - Y) * (70368744177664 * c' - U) = Q2 at *
  generalize s * c' = m1 at *
  generalize c * s' = m2 at *
  omega
def dv (i : Nat) : Int := tD.getD i 0
def dev : Nat → Int
  | 0 => 0
  | 1 => 0
  | n + 2 => dev (n + 1) + dv (n + 2) + 2
theorem tab_dv : ∀ i : Fin 41, nb (cx i - 4611686018427387904) (sx i) (dv i) := by
  have h : ∀ i : Fin 41, 0 ≤ dv i ∧ (cx i - 4611686018427387904) * (cx i - 4611686018427387904) + sx i * sx i ≤ dv i * dv i := by decide +kernel
  exact h
theorem tab_pos : ∀ i : Fin 41, 0 ≤ cx i ∧ 0 ≤ sx i ∧ cx i ≤ 4611686018427387904 := by decide +kernel
theorem tab_tan : ∀ i : Fin 41, 2 ≤ i.val → 79 * (4611686018427387904 - cx i) ≤ 21 * sx i := by decide +kernel
theorem tab_fall : ∀ i : Fin 40, sx (i + 1) ≤ sx i := by decide +kernel
theorem dev_le : ∀ i : Fin 41, 0 ≤ dev i ∧ dev i ≤ 3635000000000000000 := by decide +kernel
theorem pn_dev : ∀ (n : Nat), n < 40 → ∀ K : Int, 0 ≤ K → K < 2 ^ n → nb ((pn (n + 1) K).1 - 4611686018427387904) (pn (n + 1) K).2 (dev (n + 1))
  | 0, _, K, h0, h1 => by
    have : K = 0 := by simp at h1; omega
    subst this
    exact ⟨by decide, by decide +kernel⟩
  | n + 1, hn, K, h0, h1 => by
    have hk : K / 2 < 2 ^ n := by rw [Int.pow_succ] at h1; omega
    have ih := pn_dev n (by omega) (K / 2) (by omega) hk
    have d0 := (dev_le ⟨n + 1, by omega⟩).1
    simp only at d0
    show nb _ _ (dev (n + 1) + dv (n + 2) + 2)
    have hd := (tab_dv ⟨n + 2, by omega⟩)
    have hd0 := hd.1
    simp only at hd hd0
    by_cases hb : K % 2 = 1
    · have e : pn (n + 1 + 1) K = (onX (pn (n + 1) (K / 2)).1 (pn (n + 1) (K / 2)).2 (cx (n + 2)) (sx (n + 2)), onY (pn (n + 1) (K / 2)).1 (pn (n + 1) (K / 2)).2 (cx (n + 2)) (sx (n + 2))) := by
        show (if K % 2 = 1 then _ else _) = _
        rw [if_pos hb]
      rw [e]
      generalize (pn (n + 1) (K / 2)).1 = x at *
      generalize (pn (n + 1) (K / 2)).2 = y at *
      obtain ⟨r1, r2, a1, a2, a3, a4, a5, a6⟩ := on_eq x y (cx (n + 2)) (sx (n + 2))
      have hr : nb r1 r2 (2 * 4611686018427387904) := nb_of (by omega) (by omega) (by omega) (by omega)
      have ht := tab_ok ⟨n + 2, by omega⟩
      simp only at ht
      have k := nb_sub (nb_add (nb_mul ih ht) (nb_scale (k := 4611686018427387904) (by omega) hd)) hr
      refine nb_unscale (k := 4611686018427387904) (by omega) (by omega) ?_
      simp only
      have e1 : 4611686018427387904 * (onX x y (cx (n + 2)) (sx (n + 2)) - 4611686018427387904) = (x - 4611686018427387904) * cx (n + 2) - y * sx (n + 2) + 4611686018427387904 * (cx (n + 2) - 4611686018427387904) - r1 := by grind
      have e2 : 4611686018427387904 * onY x y (cx (n + 2)) (sx (n + 2)) = (x - 4611686018427387904) * sx (n + 2) + y * cx (n + 2) + 4611686018427387904 * sx (n + 2) - r2 := by grind
      rw [e1, e2]
      exact nb_mono k (by omega)
    · have e : pn (n + 1 + 1) K = pn (n + 1) (K / 2) := by
        show (if K % 2 = 1 then _ else _) = _
        rw [if_neg hb]
      rw [e]
      exact nb_mono ih (by omega)
/-- far from the line of y; what is more bits is no lower. -/
theorem pn_half {n : Nat} (hn : n < 40) {K : Int} (h0 : 0 ≤ K) (h1 : K < 2 ^ n) : 976686018427387904 ≤ (pn (n + 1) K).1 ∧ (pn (n + 1) K).2 ≤ 3635000000000000000 := by
  have h := pn_dev n hn K h0 h1
  have d := (dev_le ⟨n + 1, by omega⟩).2
  simp only at d
  have := nb_x h
  have := nb_y h
  omega
theorem pn_y0 : ∀ (n : Nat), n < 40 → ∀ K : Int, 0 ≤ K → K < 2 ^ n → 0 ≤ (pn (n + 1) K).2 ∧ (1 ≤ n → (pn n (K / 2)).2 ≤ (pn (n + 1) K).2)
  | 0, _, K, h0, h1 => by
    have : K = 0 := by simp at h1; omega
    subst this
    exact ⟨by decide +kernel, fun h => by omega⟩
  | n + 1, hn, K, h0, h1 => by
    have hk : K / 2 < 2 ^ n := by rw [Int.pow_succ] at h1; omega
    have ih := (pn_y0 n (by omega) (K / 2) (by omega) hk).1
    have hh := pn_half (n := n) (by omega) (K := K / 2) (by omega) hk
    by_cases hb : K % 2 = 1
    · have e : pn (n + 1 + 1) K = (onX (pn (n + 1) (K / 2)).1 (pn (n + 1) (K / 2)).2 (cx (n + 2)) (sx (n + 2)), onY (pn (n + 1) (K / 2)).1 (pn (n + 1) (K / 2)).2 (cx (n + 2)) (sx (n + 2))) := by
        show (if K % 2 = 1 then _ else _) = _
        rw [if_pos hb]
      rw [e]
      generalize (pn (n + 1) (K / 2)).1 = x at *
      generalize (pn (n + 1) (K / 2)).2 = y at *
      have ht := tab_tan ⟨n + 2, by omega⟩ (by simp)
      have hp := tab_pos ⟨n + 2, by omega⟩
      simp only at ht hp
      simp only [onY]
      have m1 : x * sx (n + 2) ≥ 976686018427387904 * sx (n + 2) := Int.mul_le_mul_of_nonneg_right hh.1 hp.2.1
      have m2 : y * (4611686018427387904 - cx (n + 2)) ≤ 3635000000000000000 * (4611686018427387904 - cx (n + 2)) := Int.mul_le_mul_of_nonneg_right hh.2 (by omega)
      have e2 : y * cx (n + 2) = 4611686018427387904 * y - y * (4611686018427387904 - cx (n + 2)) := by grind
      have : y ≤ (y * cx (n + 2) + x * sx (n + 2)) / 4611686018427387904 := by
        rw [Int.le_ediv_iff_mul_le (by omega), e2]
        omega
      exact ⟨by omega, fun _ => this⟩
    · have e : pn (n + 1 + 1) K = pn (n + 1) (K / 2) := by
        show (if K % 2 = 1 then _ else _) = _
        rw [if_neg hb]
      rw [e]
      exact ⟨ih, fun _ => Int.le_refl _⟩
theorem pn_zero : ∀ n, pn n 0 = (4611686018427387904, 0)
  | 0 => rfl
  | n + 1 => by
    show (if (0 : Int) % 2 = 1 then _ else pn n (0 / 2)) = _
    rw [if_neg (by omega)]
    exact pn_zero n
theorem pn_first : ∀ (n : Nat), n < 40 → ∀ K : Int, 1 ≤ K → K < 2 ^ n → sx (n + 1) ≤ (pn (n + 1) K).2
  | 0, _, K, h0, h1 => by simp at h1; omega
  | n + 1, hn, K, h0, h1 => by
    by_cases hk : K = 1
    · subst hk
      show _ ≤ (if (1 : Int) % 2 = 1 then _ else pn (n + 1) (1 / 2)).2
      rw [if_pos (by omega), show (1 : Int) / 2 = 0 by omega, pn_zero]
      simp only [onY]
      omega
    · have h2 : K / 2 < 2 ^ n := by rw [Int.pow_succ] at h1; omega
      have ih := pn_first n (by omega) (K / 2) (by omega) h2
      have := (pn_y0 (n + 1) hn K (by omega) h1).2 (by omega)
      have := tab_fall ⟨n + 1, by omega⟩
      simp only at this
      omega
/-- as great as the step of its first bit. -/
theorem pn_low (i : Nat) : ∀ (n : Nat), i + n < 40 → ∀ K : Int, 2 ^ n ≤ K → K < 2 ^ (i + n) → sx (i + 1) ≤ (pn (i + n + 1) K).2
  | 0, hn, K, h0, h1 => pn_first i (by omega) K (by simpa using h0) h1
  | n + 1, hn, K, h0, h1 => by
    have hp : (0 : Int) < 2 ^ n := Int.pow_pos (by decide)
    have h2 : K / 2 < 2 ^ (i + n) := by rw [show i + (n + 1) = i + n + 1 from rfl, Int.pow_succ] at h1; omega
    have h3 : 2 ^ n ≤ K / 2 := by rw [Int.pow_succ] at h0; omega
    have ih := pn_low i n (by omega) (K / 2) h3 h2
    have h4 : 0 ≤ K := by rw [Int.pow_succ] at h0; omega
    have := (pn_y0 (i + n + 1) (by omega) K h4 h1).2 (by omega)
    exact Int.le_trans ih this
theorem R_pn {K : Int} (h0 : 0 ≤ K) (h1 : K < 1099511627776) : RX K = (pn 40 K).1 ∧ RY K = (pn 40 K).2 := by
  unfold RX RY
  rw [R_def, show K / 1099511627776 = 0 by omega, show K % 1099511627776 = K by omega]
  exact ⟨rfl, rfl⟩
theorem qt_one (q : Int) (p : Int × Int) : qt (q + 1) p = (-(qt q p).2, (qt q p).1) := by
  have h : q % 4 = 0 ∨ q % 4 = 1 ∨ q % 4 = 2 ∨ q % 4 = 3 := by omega
  unfold qt
  rcases h with h | h | h | h
  · have : (q + 1) % 4 = 1 := by omega
    simp [h, this]
  · have : (q + 1) % 4 = 2 := by omega
    simp [h, this]
  · have : (q + 1) % 4 = 3 := by omega
    simp [h, this]
  · have : (q + 1) % 4 = 0 := by omega
    simp [h, this]
theorem R_quarter (J : Int) : RX (J + 1099511627776) = -RY J ∧ RY (J + 1099511627776) = RX J := by
  unfold RX RY
  rw [R_def, R_def, show (J + 1099511627776) / 1099511627776 = J / 1099511627776 + 1 by omega, show (J + 1099511627776) % 1099511627776 = J % 1099511627776 by omega, qt_one]
  exact ⟨rfl, rfl⟩
theorem R_neg (K : Int) : (-15602 ≤ RX (1099511627776 - K) - RY K ∧ RX (1099511627776 - K) - RY K ≤ 15602) ∧ (-15602 ≤ RY (1099511627776 - K) - RX K ∧ RY (1099511627776 - K) - RX K ≤ 15602) := by
  have h := R_quarter (-K)
  rw [show -K + 1099511627776 = 1099511627776 - K by omega] at h
  have k := R_conj K
  have := nb_x k
  have := nb_y k
  omega
theorem R_half : RX 549755813888 = 3260954456333195553 ∧ RY 549755813888 = 3260954456333195553 := by decide +kernel
/-- in the first half of a quarter. -/
theorem R_first {K : Int} (h0 : 0 ≤ K) (h1 : K ≤ 549755813888) : 976686018427387904 ≤ RX K ∧ 0 ≤ RY K ∧ RY K ≤ 3635000000000000000 := by
  rcases Int.lt_or_eq_of_le h1 with h | h
  · obtain ⟨e1, e2⟩ := R_pn h0 (show K < 1099511627776 by omega)
    rw [e1, e2]
    have a := pn_half (n := 39) (by omega) h0 (show K < 2 ^ 39 by omega)
    have b := (pn_y0 39 (by omega) K h0 (show K < 2 ^ 39 by omega)).1
    exact ⟨a.1, b, a.2⟩
  · rw [h, R_half.1, R_half.2]; omega
theorem R_first_low {K : Int} (h0 : 131072 ≤ K) (h1 : K ≤ 549755813888) : 863554413089 ≤ RY K := by
  rcases Int.lt_or_eq_of_le h1 with h | h
  · rw [(R_pn (by omega) (show K < 1099511627776 by omega)).2]
    exact pn_low 22 17 (by omega) K (by omega) (show K < 2 ^ 39 by omega)
  · rw [h, R_half.2]; omega
theorem R_all {K : Int} (h0 : 0 ≤ K) (h1 : K ≤ 1099511627776) : -15602 ≤ RX K ∧ -15602 ≤ RY K := by
  rcases Int.le_total K 549755813888 with h | h
  · have := R_first h0 h; omega
  · have := R_first (K := 1099511627776 - K) (by omega) (by omega)
    have := R_neg (1099511627776 - K)
    rw [show 1099511627776 - (1099511627776 - K) = K by omega] at this
    omega
/-- cosine before the quarter's end, sine behind its start. -/
theorem R_x_low {K : Int} (h0 : 0 ≤ K) (h1 : K ≤ 1099511627776 - 131072) : 863554397487 ≤ RX K := by
  rcases Int.le_total K 549755813888 with h | h
  · have := R_first h0 h; omega
  · have := R_first_low (K := 1099511627776 - K) (by omega) (by omega)
    have := R_neg (1099511627776 - K)
    rw [show 1099511627776 - (1099511627776 - K) = K by omega] at this
    omega
theorem R_y_low {K : Int} (h0 : 131072 ≤ K) (h1 : K ≤ 1099511627776) : 863554397487 ≤ RY K := by
  have := R_x_low (K := 1099511627776 - K) (by omega) (by omega)
  have := R_neg (1099511627776 - K)
  rw [show 1099511627776 - (1099511627776 - K) = K by omega] at this
  rcases Int.le_total K 549755813888 with h | h
  · have := R_first_low h0 h; omega
  · have := R_first (K := 1099511627776 - K) (by omega) (by omega)
    omega
theorem R_d13 : RX 186413 = 4611686018427224350 ∧ RY 186413 = 1228162908980 := by decide +kernel
theorem R_d14 : RX 186414 = 4611686018427224348 ∧ RY 186414 = 1228169497377 := by decide +kernel
theorem rise_step {J D : Int} (h0 : 0 ≤ J) (h1 : J + D ≤ 1099511627776) (hD : D = 186413 ∨ D = 186414) : RY J ≤ RY (J + D) ∧ (131072 ≤ J → RX (J + D) ≤ RX J) := by
  have hs := R_sum J D
  have sx := nb_x hs
  have sy := nb_y hs
  have hr := R_in J
  have hx := R_x_low h0 (by omega)
  have ha := R_all h0 (by omega)
  have hy := fun h => R_y_low (K := J) h (by omega)
  rcases hD with rfl | rfl
  · rw [R_d13.1, R_d13.2] at sx sy
    refine ⟨by omega, fun h => ?_⟩
    have := hy h
    omega
  · rw [R_d14.1, R_d14.2] at sx sy
    refine ⟨by omega, fun h => ?_⟩
    have := hy h
    omega
theorem jOf_next (a : Int) : jOf (a + 1) = jOf a + 186413 ∨ jOf (a + 1) = jOf a + 186414 := by
  unfold jOf; omega
theorem jOf_in {a : Int} (h0 : 0 ≤ a) (h1 : a ≤ 5898240) : 0 ≤ jOf a ∧ jOf a ≤ 1099511627776 := by
  unfold jOf; omega
theorem jOf_low {a : Int} (h0 : 1 ≤ a) : 131072 ≤ jOf a := by
  unfold jOf; omega
theorem R_rise : ∀ (n : Nat) {a : Int}, 0 ≤ a → a + n ≤ 5898240 → RY (jOf a) ≤ RY (jOf (a + n)) ∧ (1 ≤ a → RX (jOf (a + n)) ≤ RX (jOf a))
  | 0, a, h0, h1 => by simp
  | n + 1, a, h0, h1 => by
    obtain ⟨i1, i2⟩ := R_rise n h0 (by omega)
    have b := jOf_in (a := a + (n + 1 : Nat)) (by omega) h1
    have b0 := jOf_in (a := a + n) (by omega) (by omega)
    have e : a + (n + 1 : Nat) = a + n + 1 := by omega
    rw [e] at b ⊢
    rcases jOf_next (a + n) with h | h
    · rw [h] at b ⊢
      have s := rise_step b0.1 b.2 (Or.inl rfl)
      refine ⟨by omega, fun z => ?_⟩
      have := s.2 (jOf_low (by omega))
      have := i2 z
      omega
    · rw [h] at b ⊢
      have s := rise_step b0.1 b.2 (Or.inr rfl)
      refine ⟨by omega, fun z => ?_⟩
      have := s.2 (jOf_low (by omega))
      have := i2 z
      omega
theorem nearS_mono {a b : Int} (h : a ≤ b) : nearS a ≤ nearS b := by unfold nearS; omega
theorem first_quarter {a : Int} (h0 : 0 ≤ a) (h1 : a < 5898240) : cosF a = nearS (RX (jOf a)) ∧ sinF a = nearS (RY (jOf a)) := by
  have hj : 0 ≤ jOf a ∧ jOf a < 1099511627776 := by unfold jOf; omega
  obtain ⟨e1, e2⟩ := R_pn hj.1 hj.2
  rw [e1, e2]
  unfold cosF sinF dirF
  rw [show jOf a / 1099511627776 = 0 by omega, show jOf a % 1099511627776 = jOf a by omega]
  exact ⟨rfl, rfl⟩
theorem cos_q : cosF 5898240 = 0 ∧ sinF 5898240 = 65536 := by decide +kernel
theorem cos_0 : cosF 0 = 65536 ∧ sinF 0 = 0 := by decide +kernel
/-- AnglesRise. -/
theorem rise {a b : Int} (h0 : 0 ≤ a) (h1 : a ≤ b) (h2 : b ≤ 5898240) : sinF a ≤ sinF b ∧ cosF b ≤ cosF a := by
  rcases Int.lt_or_eq_of_le h2 with z | z
  · obtain ⟨n, hn⟩ := Int.eq_ofNat_of_zero_le (show 0 ≤ b - a by omega)
    have e : b = a + n := by omega
    have k := R_rise n h0 (by omega)
    rw [← e] at k
    obtain ⟨a1, a2⟩ := first_quarter h0 (show a < 5898240 by omega)
    obtain ⟨b1, b2⟩ := first_quarter (show 0 ≤ b by omega) z
    rw [a2, b2]
    refine ⟨nearS_mono k.1, ?_⟩
    by_cases y : a = 0
    · subst y
      rw [cos_0.1]
      have := (circle b).2.2.2.1
      exact this
    · rw [a1, b1]
      exact nearS_mono (k.2 (by omega))
  · subst z
    rw [cos_q.1, cos_q.2]
    refine ⟨(circle a).2.1, ?_⟩
    rcases Int.lt_or_eq_of_le h1 with y | y
    · rw [(first_quarter h0 y).1]
      have := jOf_in h0 (by omega)
      have := (R_all this.1 this.2).1
      unfold nearS; omega
    · rw [y, cos_q.1]; omega
/-- AnglesQuarters. -/
theorem jOf_quarter (a : Int) : jOf (a + 5898240) = jOf a + 1099511627776 := by unfold jOf; omega
theorem dir_quarter (a : Int) : cosF (a + 5898240) = -sinF a ∧ sinF (a + 5898240) = cosF a := by
  unfold cosF sinF dirF
  rw [jOf_quarter, show (jOf a + 1099511627776) / 1099511627776 = jOf a / 1099511627776 + 1 by omega, show (jOf a + 1099511627776) % 1099511627776 = jOf a % 1099511627776 by omega, qt_one]
  exact ⟨rfl, rfl⟩
theorem dir_round (a : Int) : cosF (a + 23592960) = cosF a ∧ sinF (a + 23592960) = sinF a := by
  have h1 := dir_quarter a
  have h2 := dir_quarter (a + 5898240)
  have h3 := dir_quarter (a + 5898240 + 5898240)
  have h4 := dir_quarter (a + 5898240 + 5898240 + 5898240)
  rw [show a + 5898240 + 5898240 + 5898240 + 5898240 = a + 23592960 by omega] at h4
  omega
theorem dir_whole (k : Int) : (k % 4 = 0 → cosF (k * 5898240) = 65536 ∧ sinF (k * 5898240) = 0) ∧ (k % 4 = 1 → cosF (k * 5898240) = 0 ∧ sinF (k * 5898240) = 65536) ∧ (k % 4 = 2 → cosF (k * 5898240) = -65536 ∧ sinF (k * 5898240) = 0) ∧ (k % 4 = 3 → cosF (k * 5898240) = 0 ∧ sinF (k * 5898240) = -65536) := by
  have e1 : jOf (k * 5898240) / 1099511627776 = k := by unfold jOf; omega
  have e2 : jOf (k * 5898240) % 1099511627776 = 0 := by unfold jOf; omega
  have e3 : nearS 4611686018427387904 = 65536 := rfl
  have e4 : nearS 0 = 0 := rfl
  unfold cosF sinF dirF
  rw [e1, e2, pn_zero]
  simp only [e3, e4]
  refine ⟨fun h => ?_, fun h => ?_, fun h => ?_, fun h => ?_⟩ <;> simp [qt, h]
/-- what is missing to a half round, and the other way round. -/
theorem near_two {x y s t : Int} (h1 : -35184372088832 ≤ 70368744177664 * s - x) (h2 : 70368744177664 * s - x ≤ 35184372088832) (h3 : -35184372088832 ≤ 70368744177664 * t - y) (h4 : 70368744177664 * t - y ≤ 35184372088832) (h5 : -10000000 ≤ x - y) (h6 : x - y ≤ 10000000) : -1 ≤ s - t ∧ s - t ≤ 1 := by omega
theorem jOf_neg (a : Int) : jOf (-a) = -jOf a ∨ jOf (-a) = -jOf a - 1 := by unfold jOf; omega
theorem neg_sin (a : Int) : -1 ≤ sinF (-a) + sinF a ∧ sinF (-a) + sinF a ≤ 1 := by
  obtain ⟨_, a3, a4⟩ := dir_off a
  obtain ⟨_, b3, b4⟩ := dir_off (-a)
  have k := nb_y (R_conj (jOf a))
  have h : -10000000 ≤ RY (jOf (-a)) + RY (jOf a) ∧ RY (jOf (-a)) + RY (jOf a) ≤ 10000000 := by
    rcases jOf_neg a with h | h
    · rw [h]; omega
    · rw [h]
      have := R_next (-jOf a - 1)
      rw [show -jOf a - 1 + 1 = -jOf a by omega] at this
      omega
  omega
theorem half_sin (a : Int) : -1 ≤ sinF (11796480 - a) - sinF a ∧ sinF (11796480 - a) - sinF a ≤ 1 := by
  have h1 := dir_quarter (-a)
  have h2 := dir_quarter (-a + 5898240)
  rw [show -a + 5898240 + 5898240 = 11796480 - a by omega] at h2
  have := neg_sin a
  omega
theorem bk_eq (x y c s : Int) : ∃ r1 r2 : Int, 0 ≤ r1 ∧ r1 < 4611686018427387904 ∧ 0 ≤ r2 ∧ r2 < 4611686018427387904 ∧ 4611686018427387904 * bkX x y c s = x * c + y * s - r1 ∧ 4611686018427387904 * bkY x y c s = y * c - x * s - r2 := by
  refine ⟨(x * c + y * s) % 4611686018427387904, (y * c + -x * s) % 4611686018427387904, Int.emod_nonneg _ (by omega), Int.emod_lt_of_pos _ (by omega), Int.emod_nonneg _ (by omega), Int.emod_lt_of_pos _ (by omega), ?_, ?_⟩
  · simp only [bkX]; omega
  · have e : -x * s = -(x * s) := by grind
    simp only [bkY]; rw [e]; omega
/-- what holds behind so many steps. -/
structure Bk (n : Nat) (vx vy x y O : Int) : Prop where
  o0 : 0 ≤ O
  o1 : O < 2 ^ n
  y0 : 0 ≤ y
  len : nb x y (3300000000000000000 + 2 * n)
  at_ : nb (vx * (rot n O).1 + vy * (rot n O).2 - 4611686018427387904 * x) (vy * (rot n O).1 - vx * (rot n O).2 - 4611686018427387904 * y) ((4 * n : Int) * 4611686018427387904)
  up : y * cx n - x * sx n ≤ (5 * n : Int) * 4611686018427387904
theorem alg_back {vx vy A B x y x' y' A' B' c s r1 r2 q1 q2 e : Int} (h1 : 4611686018427387904 * x' = x * c + y * s - r1) (h2 : 4611686018427387904 * y' = y * c - x * s - r2) (hr : nb r1 r2 (2 * 4611686018427387904))
    (g1 : 4611686018427387904 * A' = A * c - B * s - q1) (g2 : 4611686018427387904 * B' = A * s + B * c - q2) (hq : nb q1 q2 (2 * 4611686018427387904)) (ht : nb c s 4611686018427387904) (hv : nb vx vy 3300000000000000000)
    (hb : nb (vx * A + vy * B - 4611686018427387904 * x) (vy * A - vx * B - 4611686018427387904 * y) (e * 4611686018427387904)) (he : 0 ≤ e) :
    nb (vx * A' + vy * B' - 4611686018427387904 * x') (vy * A' - vx * B' - 4611686018427387904 * y') ((e + 4) * 4611686018427387904) := by
  have k1 := nb_mul hb (nb_conj ht)
  have k2 := nb_scale (k := 4611686018427387904) (by omega) hr
  have k3 := nb_mul hv (nb_conj hq)
  have k4 := nb_add (nb_sub k1 k3) k2
  refine nb_unscale (k := 4611686018427387904) (by omega) (by omega) ?_
  have e1 : 4611686018427387904 * (vx * A' + vy * B' - 4611686018427387904 * x') = ((vx * A + vy * B - 4611686018427387904 * x) * c - (vy * A - vx * B - 4611686018427387904 * y) * -s) - (vx * q1 - vy * -q2) + 4611686018427387904 * r1 := by grind
  have e2 : 4611686018427387904 * (vy * A' - vx * B' - 4611686018427387904 * y') = ((vx * A + vy * B - 4611686018427387904 * x) * -s + (vy * A - vx * B - 4611686018427387904 * y) * c) - (vx * -q2 + vy * q1) + 4611686018427387904 * r2 := by grind
  rw [e1, e2]
  exact nb_mono k4 (by omega)
theorem alg_up {x y x' y' c s cn sn r1 r2 z : Int} (h1 : 4611686018427387904 * x' = x * c + y * s - r1) (h2 : 4611686018427387904 * y' = y * c - x * s - r2) (hr : nb r1 r2 (2 * 4611686018427387904)) (ht : nb c s 4611686018427387904)
    (hd : nb (c * c - s * s - 4611686018427387904 * cn) (2 * c * s - 4611686018427387904 * sn) (3 * 4611686018427387904)) (hx : nb x y (3300000000000000000 + 80))
    (hz : y * cn - x * sn ≤ z * 4611686018427387904) : y' * c - x' * s ≤ (z + 5) * 4611686018427387904 := by
  have k2 := nb_y (nb_mul hx (nb_conj hd))
  have k3 := nb_y (nb_mul hr (nb_conj ht))
  have e1 : 4611686018427387904 * (y' * c - x' * s) = 4611686018427387904 * (y * cn - x * sn) + (x * -(2 * c * s - 4611686018427387904 * sn) + y * (c * c - s * s - 4611686018427387904 * cn)) - (r1 * -s + r2 * c) := by grind
  generalize y' * c - x' * s = g at *
  generalize y * cn - x * sn = g1 at *
  generalize x * -(2 * c * s - 4611686018427387904 * sn) + y * (c * c - s * s - 4611686018427387904 * cn) = g2 at *
  generalize r1 * -s + r2 * c = g3 at *
  omega
theorem bk_ok {vx vy : Int} (hx : 0 < vx) (hy : 0 ≤ vy) (hv : nb vx vy 3300000000000000000) : ∀ n : Nat, n ≤ 40 → Bk n vx vy (bk vx vy n).1 (bk vx vy n).2.1 (bk vx vy n).2.2
  | 0, _ => by
    refine ⟨Int.le_refl 0, by simp [bk], hy, nb_mono hv (by omega), ?_, ?_⟩
    · have e : rot 0 0 = (4611686018427387904, 0) := by decide
      simp only [bk, e]
      rw [show vx * 4611686018427387904 + vy * 0 - 4611686018427387904 * vx = 0 by omega, show vy * 4611686018427387904 - vx * 0 - 4611686018427387904 * vy = 0 by omega]
      exact ⟨by decide, by decide⟩
    · simp only [bk, cx0, sx0]; omega
  | n + 1, hn => by
    obtain ⟨h1, h2, h3, h4, h5, h6⟩ := bk_ok hx hy hv n (by omega)
    simp only [bk]
    generalize (bk vx vy n).1 = x at *
    generalize (bk vx vy n).2.1 = y at *
    generalize (bk vx vy n).2.2 = O at *
    have ht := tab_ok ⟨n + 1, by omega⟩
    have hd := tab_sq ⟨n, by omega⟩
    simp only at ht hd
    obtain ⟨r1, r2, a1, a2, a3, a4, a5, a6⟩ := bk_eq x y (cx (n + 1)) (sx (n + 1))
    have hr : nb r1 r2 (2 * 4611686018427387904) := nb_of (by omega) (by omega) (by omega) (by omega)
    split
    · rename_i hb
      obtain ⟨q1, q2, hq, b1, b2⟩ := rot_odd (n := n) (J := 2 * O + 1) (by omega)
      rw [show (2 * O + 1) / 2 = O by omega] at b1 b2
      refine ⟨by simp only; omega, by simp only; rw [Int.pow_succ]; omega, hb, ?_, ?_, ?_⟩
      · have k := nb_sub (nb_mul h4 (nb_conj ht)) hr
        have e1 : x * cx (n + 1) - y * -sx (n + 1) - r1 = 4611686018427387904 * bkX x y (cx (n + 1)) (sx (n + 1)) := by rw [a5]; grind
        have e2 : x * -sx (n + 1) + y * cx (n + 1) - r2 = 4611686018427387904 * bkY x y (cx (n + 1)) (sx (n + 1)) := by rw [a6]; grind
        rw [e1, e2] at k
        exact nb_unscale (k := 4611686018427387904) (by omega) (by omega) (nb_mono k (by omega))
      · exact nb_mono (alg_back a5 a6 hr b1 b2 hq ht hv h5 (by omega)) (by omega)
      · have := alg_up a5 a6 hr ht hd (nb_mono h4 (by omega)) h6
        simp only; omega
    · rename_i hb
      refine ⟨by simp only; omega, by simp only; rw [Int.pow_succ]; omega, h3, nb_mono h4 (by omega), ?_, ?_⟩
      · simp only
        rw [rot_even (by omega), show 2 * O / 2 = O by omega]
        exact nb_mono h5 (by omega)
      · simp only; omega
/-- the direction that is found: turned back by it a place lies along the line of x. -/
theorem bk_end {vx vy : Int} (hx : 0 < vx) (hy : 0 ≤ vy) (hv : nb vx vy 3300000000000000000) (hm : 1152921504606846976 ≤ vx ∨ 1152921504606846976 ≤ vy) :
    ∃ O x y : Int, (bk vx vy 40).2.2 = O ∧ 0 ≤ O ∧ O < 1099511627776 ∧ 1152921504596846976 ≤ x ∧ x ≤ 3300000000000000080 ∧ 0 ≤ y ∧ y ≤ 5000000 ∧
      nb (vx * RX O + vy * RY O - 4611686018427387904 * x) (vy * RX O - vx * RY O - 4611686018427387904 * y) (160 * 4611686018427387904) := by
  obtain ⟨h1, h2, h3, h4, h5, h6⟩ := bk_ok hx hy hv 40 (Nat.le_refl _)
  generalize (bk vx vy 40).1 = x at *
  generalize (bk vx vy 40).2.1 = y at *
  generalize (bk vx vy 40).2.2 = O at *
  have c40 : cx 40 = 4611686018427387903 := rfl
  have s40 : sx 40 = 6588397 := rfl
  rw [c40, s40] at h6
  have hxb := nb_x h4
  have hyb : y ≤ 5000000 := by omega
  -- the place is still far out
  have hlen : 1152921504596846976 ≤ x := by
    apply Classical.byContradiction
    intro hc
    have hx' : -200000000000000 ≤ x := by omega
    have hp : nb x y 1152921504597000000 := by
      have a := mul_sq (e := 1152921504596846976) (show -1152921504596846976 ≤ x by omega) (by omega)
      have b := mul_sq (e := 5000000) (show -5000000 ≤ y by omega) (by omega)
      exact ⟨by omega, by omega⟩
    have k := nb_mul (nb_add h5 (nb_scale (k := 4611686018427387904) (by omega) hp)) (R_nb O)
    have e1 : (vx * (rot 40 O).1 + vy * (rot 40 O).2 - 4611686018427387904 * x + 4611686018427387904 * x) * RX O - (vy * (rot 40 O).1 - vx * (rot 40 O).2 - 4611686018427387904 * y + 4611686018427387904 * y) * RY O = (RX O * RX O + RY O * RY O) * vx := by
      show (vx * RX O + vy * RY O - 4611686018427387904 * x + 4611686018427387904 * x) * RX O - (vy * RX O - vx * RY O - 4611686018427387904 * y + 4611686018427387904 * y) * RY O = _
      grind
    have e2 : (vx * (rot 40 O).1 + vy * (rot 40 O).2 - 4611686018427387904 * x + 4611686018427387904 * x) * RY O + (vy * (rot 40 O).1 - vx * (rot 40 O).2 - 4611686018427387904 * y + 4611686018427387904 * y) * RX O = (RX O * RX O + RY O * RY O) * vy := by
      show (vx * RX O + vy * RY O - 4611686018427387904 * x + 4611686018427387904 * x) * RY O + (vy * RX O - vx * RY O - 4611686018427387904 * y + 4611686018427387904 * y) * RX O = _
      grind
    rw [e1, e2] at k
    have hl := R_low O
    have kx := (nb_x k).2
    have ky := (nb_y k).2
    rcases hm with hm | hm
    · have := Int.mul_le_mul hl hm (by omega) (by omega)
      omega
    · have := Int.mul_le_mul hl hm (by omega) (by omega)
      omega
  exact ⟨O, x, y, rfl, h1, h2, hlen, by omega, h3, hyb, h5⟩
theorem small_turn {M B K0 : Int} (hX : 20000 ≤ RX M) (hY : -B ≤ RY M) (hY' : RY M ≤ B) (hK : 0 < K0) (hlow : ∀ K, K0 ≤ K → K ≤ 1099511627776 → B + 15602 < RY K) :
    ∃ w : Int, -K0 < M - w * 4398046511104 ∧ M - w * 4398046511104 < K0 := by
  have hrd : ∀ J, RX (J + 2 * 1099511627776) = -RX J ∧ RY (J + 2 * 1099511627776) = -RY J := by
    intro J
    have h1 := R_quarter J
    have h2 := R_quarter (J + 1099511627776)
    rw [show J + 1099511627776 + 1099511627776 = J + 2 * 1099511627776 by omega] at h2
    omega
  have hr4 : ∀ w : Int, RX (M - w * 4398046511104) = RX M ∧ RY (M - w * 4398046511104) = RY M := by
    intro w
    unfold RX RY
    rw [R_def, R_def, show (M - w * 4398046511104) % 1099511627776 = M % 1099511627776 by omega]
    have : (M - w * 4398046511104) / 1099511627776 = M / 1099511627776 - 4 * w := by omega
    rw [this]
    unfold qt
    rw [show (M / 1099511627776 - 4 * w) % 4 = M / 1099511627776 % 4 by omega]
    exact ⟨rfl, rfl⟩
  have e0 := hr4 (M / 4398046511104)
  have b0 : 0 ≤ M - M / 4398046511104 * 4398046511104 ∧ M - M / 4398046511104 * 4398046511104 < 4398046511104 := by omega
  have e1 := hr4 (M / 4398046511104 + 1)
  generalize hk : M - M / 4398046511104 * 4398046511104 = K at *
  have hk1 : M - (M / 4398046511104 + 1) * 4398046511104 = K - 4398046511104 := by omega
  rw [hk1] at e1
  rcases Int.lt_or_le K 1099511627776 with z | z
  · refine ⟨M / 4398046511104, by omega, ?_⟩
    rw [hk]
    apply Classical.byContradiction
    intro hc
    have := hlow K (by omega) (by omega)
    omega
  · rcases Int.lt_or_le K (2 * 1099511627776) with y | y
    · have := R_quarter (K - 1099511627776)
      rw [show K - 1099511627776 + 1099511627776 = K by omega] at this
      have := (R_all (K := K - 1099511627776) (by omega) (by omega)).2
      omega
    · rcases Int.lt_or_le K (3 * 1099511627776) with x | x
      · have := hrd (K - 2 * 1099511627776)
        rw [show K - 2 * 1099511627776 + 2 * 1099511627776 = K by omega] at this
        have := (R_all (K := K - 2 * 1099511627776) (by omega) (by omega)).1
        omega
      · refine ⟨M / 4398046511104 + 1, ?_, by omega⟩
        rw [hk1]
        apply Classical.byContradiction
        intro hc
        have h1 := hlow (4398046511104 - K) (by omega) (by omega)
        have h2 := nb_y (R_conj (4398046511104 - K))
        rw [show -(4398046511104 - K) = K - 4398046511104 by omega] at h2
        omega
theorem y_low32 {K : Int} (h0 : 32 ≤ K) (h1 : K ≤ 1099511627776) : 120000000 + 15602 < RY K := by
  rcases Int.lt_or_le K 549755813888 with h | h
  · rw [(R_pn (by omega) (show K < 1099511627776 by omega)).2]
    have := pn_low 34 5 (by omega) K (by omega) (show K < 2 ^ 39 by omega)
    have e : sx 35 = 210828714 := rfl
    simp only [Nat.reduceAdd, e] at this
    omega
  · have := R_first (K := 1099511627776 - K) (by omega) (by omega)
    have := R_neg (1099511627776 - K)
    rw [show 1099511627776 - (1099511627776 - K) = K by omega] at this
    omega
theorem alg_mirror {vx vy A B A' B' x y x' y' n P Q : Int} (hn : n = vx * vx + vy * vy)
    (h1 : nb (vx * A + vy * B - 4611686018427387904 * x) (vy * A - vx * B - 4611686018427387904 * y) (160 * 4611686018427387904))
    (h2 : nb (vy * A' + vx * B' - 4611686018427387904 * x') (vx * A' - vy * B' - 4611686018427387904 * y') (160 * 4611686018427387904))
    (h3 : nb (A * A' - B * B' - 4611686018427387904 * -Q) (A * B' + B * A' - 4611686018427387904 * P) (5040 * 4611686018427387904))
    (hv : nb vx vy 3300000000000000000) (hR : nb A' B' (4611686018427387904 + 80)) (hp : nb x y (3300000000000000080 + 5000000)) (hn0 : 0 ≤ n) :
    nb (n * P - 4611686018427387904 * (x * x' - y * y')) (n * Q + 4611686018427387904 * (x * y' + y * x')) (5040 * n + 330 * 3300000000000000000 * 4611686018427387904) := by
  have k1 := nb_mul h1 (nb_mul (nb_swap hv) (nb_conj hR))
  have k2 := nb_mul (nb_scale (k := 4611686018427387904) (by omega) hp) h2
  have k3 := nb_conj (nb_add k1 k2)
  have k4 := nb_scale hn0 (nb_conj (nb_swap h3))
  have k5 := nb_sub k3 (nb_conj (nb_scale hn0 (nb_swap h3)))
  refine nb_unscale (k := 4611686018427387904) (by omega) (by omega) ?_
  have e1 : 4611686018427387904 * (n * P - 4611686018427387904 * (x * x' - y * y')) = (vx * A + vy * B - 4611686018427387904 * x) * (vy * A' - vx * -B') - (vy * A - vx * B - 4611686018427387904 * y) * (vy * -B' + vx * A') + (4611686018427387904 * x * (vy * A' + vx * B' - 4611686018427387904 * x') - 4611686018427387904 * y * (vx * A' - vy * B' - 4611686018427387904 * y')) - n * (A * B' + B * A' - 4611686018427387904 * P) := by subst hn; grind
  have e2 : 4611686018427387904 * (n * Q + 4611686018427387904 * (x * y' + y * x')) = -((vx * A + vy * B - 4611686018427387904 * x) * (vy * -B' + vx * A') + (vy * A - vx * B - 4611686018427387904 * y) * (vy * A' - vx * -B') + (4611686018427387904 * x * (vx * A' - vy * B' - 4611686018427387904 * y') + 4611686018427387904 * y * (vy * A' + vx * B' - 4611686018427387904 * x'))) - -(n * (A * A' - B * B' - 4611686018427387904 * -Q)) := by subst hn; grind
  rw [e1, e2]
  exact nb_mono k5 (by omega)
/-- x and y changed. -/
theorem mirror {vx vy : Int} (hx : 0 < vx) (hy : 0 < vy) (hv : nb vx vy 3300000000000000000) (hm : 1152921504606846976 ≤ vx ∨ 1152921504606846976 ≤ vy) :
    -32 < (bk vx vy 40).2.2 + (bk vy vx 40).2.2 - 1099511627776 ∧ (bk vx vy 40).2.2 + (bk vy vx 40).2.2 - 1099511627776 < 32 := by
  obtain ⟨O, x, y, hO, o0, o1, x0, x1, y0, y1, h1⟩ := bk_end hx (by omega) hv hm
  obtain ⟨O', x', y', hO', o0', o1', x0', x1', y0', y1', h2⟩ := bk_end hy (by omega) (nb_swap hv) (by omega)
  rw [hO, hO']
  have h3 := R_sum O O'
  have hq := R_quarter (O + O' - 1099511627776)
  rw [show O + O' - 1099511627776 + 1099511627776 = O + O' by omega] at hq
  rw [hq.1, hq.2] at h3
  have hp : nb x y (3300000000000000080 + 5000000) := by
    have a := Int.mul_le_mul x1 x1 (by omega) (by omega)
    have b := Int.mul_le_mul y1 y1 y0 (by omega)
    exact ⟨by omega, by omega⟩
  have hn0 : 0 ≤ vx * vx + vy * vy := by have := sq_nn vx; have := sq_nn vy; omega
  have k := alg_mirror rfl h1 h2 h3 hv (R_nb O') hp hn0
  have kx := nb_x k
  have ky := nb_y k
  have n1 : vx * vx + vy * vy ≤ 3300000000000000000 * 3300000000000000000 := hv.2
  have n0 : 1152921504606846976 * 1152921504606846976 ≤ vx * vx + vy * vy := by
    rcases hm with hm | hm
    · have := Int.mul_le_mul hm hm (by omega) (by omega); have := sq_nn vy; omega
    · have := Int.mul_le_mul hm hm (by omega) (by omega); have := sq_nn vx; omega
  generalize vx * vx + vy * vy = n at *
  have p1 := Int.mul_le_mul x0 x0' (by omega) (by omega)
  have p2 := Int.mul_le_mul y1 y1' y0' (by omega)
  have p3 := Int.mul_le_mul x1 y1' y0' (by omega)
  have p4 := Int.mul_le_mul y1 x1' (by omega) (by omega)
  have p5 := Int.mul_nonneg (show 0 ≤ x by omega) y0'
  have p6 := Int.mul_nonneg y0 (show 0 ≤ x' by omega)
  have p7 := Int.mul_nonneg y0 y0'
  generalize x * x' = xx at *
  generalize y * y' = yy at *
  generalize x * y' = xy at *
  generalize y * x' = yx at *
  clear h1 h2 h3 hv k hp hq
  -- what it means for the sum's place
  have a1 : 20000 ≤ RX (O + O' - 1099511627776) := by
    apply Classical.byContradiction
    intro hc
    have := Int.mul_le_mul_of_nonneg_left (show RX (O + O' - 1099511627776) ≤ 20000 by omega) (show 0 ≤ n by omega)
    omega
  have a2 : RY (O + O' - 1099511627776) ≤ 120000000 := by
    apply Classical.byContradiction
    intro hc
    have := Int.mul_le_mul_of_nonneg_left (show 120000000 ≤ RY (O + O' - 1099511627776) by omega) (show 0 ≤ n by omega)
    omega
  have a3 : -120000000 ≤ RY (O + O' - 1099511627776) := by
    apply Classical.byContradiction
    intro hc
    have := Int.mul_le_mul_of_nonneg_left (show RY (O + O' - 1099511627776) ≤ -120000000 by omega) (show 0 ≤ n by omega)
    omega
  obtain ⟨w, w1, w2⟩ := small_turn a1 a3 a2 (show 0 < (32 : Int) by omega) (fun K h h' => y_low32 h h')
  have : w = 0 := by omega
  subst this
  omega
theorem f_pos {y x : Int} (h : ¬ (x = 0 ∧ y = 0)) : 0 < fX y x ∧ 0 ≤ fY y x ∧ 0 ≤ fQ y x ∧ fQ y x ≤ 3 := by
  unfold fX fY fQ
  split
  · omega
  · split
    · omega
    · split <;> omega
theorem f_back (y x : Int) : qt (fQ y x) (fX y x, fY y x) = (x, y) := by
  unfold fX fY fQ
  split
  · simp [qt]
  · split
    · simp [qt]
    · split
      · simp [qt]
      · simp [qt]
theorem f_le {y x B : Int} (h1 : -B ≤ y) (h2 : y ≤ B) (h3 : -B ≤ x) (h4 : x ≤ B) : fX y x ≤ B ∧ fY y x ≤ B := by
  unfold fX fY
  split
  · omega
  · split
    · omega
    · split <;> omega
theorem log2_in {m : Int} (h0 : 1 ≤ m) : (2 : Int) ^ Nat.log2 m.toNat ≤ m ∧ m < 2 * 2 ^ Nat.log2 m.toNat := by
  have h : m.toNat ≠ 0 := by omega
  have a := Nat.log2_self_le h
  have b := @Nat.lt_log2_self m.toNat
  have e : ((2 ^ Nat.log2 m.toNat : Nat) : Int) = (2 : Int) ^ Nat.log2 m.toNat := by simp
  rw [Nat.pow_succ] at b
  rw [← e]
  omega
theorem pow_sub60 {k : Nat} (h : k ≤ 60) : (2 : Int) ^ k * 2 ^ (60 - k) = 1152921504606846976 := by
  rw [← Int.pow_add, Nat.add_sub_cancel' h]; rfl
theorem log2_le {m : Int} (h0 : 1 ≤ m) (h1 : m ≤ 2147483648) : Nat.log2 m.toNat ≤ 31 := by
  have : Nat.log2 m.toNat < 32 := (Nat.log2_lt (by omega)).2 (by omega)
  omega
theorem up_in {m : Int} (h0 : 1 ≤ m) (h1 : m ≤ 2147483648) : 1152921504606846976 ≤ m * 2 ^ upN m ∧ m * 2 ^ upN m ≤ 2305843009213693951 ∧ (0 : Int) < 2 ^ upN m := by
  have a := log2_in h0
  have b := log2_le h0 h1
  have c := pow_sub60 (k := Nat.log2 m.toNat) (by omega)
  have hp : (0 : Int) < 2 ^ upN m := Int.pow_pos (by decide)
  unfold upN at *
  have d1 := Int.mul_le_mul_of_nonneg_right a.1 (Int.le_of_lt hp)
  have d2 := Int.mul_lt_mul_of_pos_right a.2 hp
  rw [Int.mul_assoc, c] at d2
  rw [c] at d1
  omega
/-- the place in the first quarter, drawn out. -/
theorem scaled {X Y : Int} (h0 : 0 < X) (h1 : 0 ≤ Y) (h2 : X ≤ 2147483648) (h3 : Y ≤ 2147483648) :
    0 < X * 2 ^ upN (max X Y) ∧ 0 ≤ Y * 2 ^ upN (max X Y) ∧ nb (X * 2 ^ upN (max X Y)) (Y * 2 ^ upN (max X Y)) 3300000000000000000 ∧ (1152921504606846976 ≤ X * 2 ^ upN (max X Y) ∨ 1152921504606846976 ≤ Y * 2 ^ upN (max X Y)) := by
  obtain ⟨a, b, c⟩ := up_in (m := max X Y) (by omega) (by omega)
  have hX : X ≤ max X Y := by omega
  have hY : Y ≤ max X Y := by omega
  have hm : max X Y = X ∨ max X Y = Y := by omega
  generalize (2 : Int) ^ upN (max X Y) = p at *
  have e1 := Int.mul_le_mul_of_nonneg_right hX (Int.le_of_lt c)
  have e2 := Int.mul_le_mul_of_nonneg_right hY (Int.le_of_lt c)
  have f1 := Int.mul_pos h0 c
  have f2 := Int.mul_nonneg h1 (Int.le_of_lt c)
  refine ⟨f1, f2, ?_, ?_⟩
  · have g1 := Int.mul_le_mul (show X * p ≤ 2305843009213693951 by omega) (show X * p ≤ 2305843009213693951 by omega) (by omega) (by omega)
    have g2 := Int.mul_le_mul (show Y * p ≤ 2305843009213693951 by omega) (show Y * p ≤ 2305843009213693951 by omega) (by omega) (by omega)
    exact ⟨by omega, by omega⟩
  · rcases hm with hm | hm <;> rw [hm] at a
    · exact Or.inl a
    · exact Or.inr a
theorem fO_in {y x : Int} (h : ¬ (x = 0 ∧ y = 0)) (h1 : -2147483648 ≤ y) (h2 : y ≤ 2147483648) (h3 : -2147483648 ≤ x) (h4 : x ≤ 2147483648) : 0 ≤ fO y x ∧ fO y x < 1099511627776 := by
  have p := f_pos h
  have l := f_le h1 h2 h3 h4
  obtain ⟨s1, s2, s3, s4⟩ := scaled p.1 p.2.1 l.1 l.2
  obtain ⟨O, _, _, hO, o0, o1, _⟩ := bk_end s1 s2 s3 s4
  unfold fO
  rw [hO]; exact ⟨o0, o1⟩
theorem atF_in (y x : Int) : 0 ≤ atF y x ∧ atF y x < 23592960 := by unfold atF; omega
/-- AnglesTurned: a quarter on. -/
theorem f_turn {y x : Int} (h : ¬ (x = 0 ∧ y = 0)) : fX x (-y) = fX y x ∧ fY x (-y) = fY y x ∧ fQ x (-y) = (fQ y x + 1) % 4 := by
  unfold fX fY fQ
  by_cases a : 0 < x ∧ 0 ≤ y
  · rw [if_neg (show ¬ (0 < -y ∧ 0 ≤ x) by omega), if_neg (show ¬ (0 < -y ∧ 0 ≤ x) by omega), if_neg (show ¬ (0 < -y ∧ 0 ≤ x) by omega), if_pos a.1, if_pos a.1, if_pos a.1, if_pos a, if_pos a, if_pos a]
    omega
  · by_cases b : 0 < y
    · rw [if_neg (show ¬ (0 < -y ∧ 0 ≤ x) by omega), if_neg (show ¬ (0 < -y ∧ 0 ≤ x) by omega), if_neg (show ¬ (0 < -y ∧ 0 ≤ x) by omega), if_neg (show ¬ 0 < x by omega), if_neg (show ¬ 0 < x by omega), if_neg (show ¬ 0 < x by omega), if_pos (show -y < 0 by omega), if_pos (show -y < 0 by omega), if_pos (show -y < 0 by omega), if_neg a, if_neg a, if_neg a, if_pos b, if_pos b, if_pos b]
      omega
    · by_cases c : x < 0
      · rw [if_neg (show ¬ (0 < -y ∧ 0 ≤ x) by omega), if_neg (show ¬ (0 < -y ∧ 0 ≤ x) by omega), if_neg (show ¬ (0 < -y ∧ 0 ≤ x) by omega), if_neg (show ¬ 0 < x by omega), if_neg (show ¬ 0 < x by omega), if_neg (show ¬ 0 < x by omega), if_neg (show ¬ -y < 0 by omega), if_neg (show ¬ -y < 0 by omega), if_neg (show ¬ -y < 0 by omega), if_neg a, if_neg a, if_neg a, if_neg b, if_neg b, if_neg b, if_pos c, if_pos c, if_pos c]
        omega
      · rw [if_pos (show 0 < -y ∧ 0 ≤ x by omega), if_pos (show 0 < -y ∧ 0 ≤ x by omega), if_pos (show 0 < -y ∧ 0 ≤ x by omega), if_neg a, if_neg a, if_neg a, if_neg b, if_neg b, if_neg b, if_neg c, if_neg c, if_neg c]
        omega
theorem round_add (O k : Int) : roundO (O + k * 1099511627776) = roundO O + k * 5898240 := by
  unfold roundO
  rw [show 2 * ((O + k * 1099511627776) * 5898240) + 1099511627776 = (2 * (O * 5898240) + 1099511627776) + (k * 5898240) * 2199023255552 by omega, Int.add_mul_ediv_right _ _ (by omega)]
theorem at_eq (y x : Int) : atF y x = (roundO (fO y x) + fQ y x * 5898240) % 23592960 := by
  unfold atF
  rw [Int.add_comm, round_add]
theorem at_turn {y x : Int} (h : ¬ (x = 0 ∧ y = 0)) : atF x (-y) = (atF y x + 5898240) % 23592960 := by
  obtain ⟨e1, e2, e3⟩ := f_turn h
  have p := f_pos h
  have : fO x (-y) = fO y x := by unfold fO; rw [e1, e2]
  rw [at_eq, at_eq, this, e3]
  have hq : fQ y x = 0 ∨ fQ y x = 1 ∨ fQ y x = 2 ∨ fQ y x = 3 := by omega
  rcases hq with hq | hq | hq | hq <;> rw [hq] <;> omega
theorem sgn_mul {x p : Int} (hp : 0 < p) : (0 < x * p ↔ 0 < x) ∧ (x * p < 0 ↔ x < 0) ∧ (0 ≤ x * p ↔ 0 ≤ x) := by
  rcases Int.lt_trichotomy x 0 with h | h | h
  · have := Int.mul_neg_of_neg_of_pos h hp
    omega
  · subst h; omega
  · have := Int.mul_pos h hp
    omega
theorem f_scale {y x p : Int} (hp : 0 < p) : fX (y * p) (x * p) = fX y x * p ∧ fY (y * p) (x * p) = fY y x * p ∧ fQ (y * p) (x * p) = fQ y x := by
  obtain ⟨a1, a2, a3⟩ := sgn_mul (x := x) hp
  obtain ⟨b1, b2, b3⟩ := sgn_mul (x := y) hp
  unfold fX fY fQ
  simp only [a1, a2, b1, b3]
  refine ⟨?_, ?_, trivial⟩
  · split
    · rfl
    · split
      · rfl
      · split <;> exact (Int.neg_mul _ _).symm
  · split
    · rfl
    · split
      · exact (Int.neg_mul _ _).symm
      · split
        · exact (Int.neg_mul _ _).symm
        · rfl
theorem toNat_scale {m : Int} (k : Nat) (h0 : 1 ≤ m) : (m * 2 ^ k).toNat = m.toNat * 2 ^ k := by
  obtain ⟨a, rfl⟩ := Int.eq_ofNat_of_zero_le (show 0 ≤ m by omega)
  have : ((a : Int) * 2 ^ k) = ((a * 2 ^ k : Nat) : Int) := by simp
  rw [this, Int.toNat_natCast, Int.toNat_natCast]
theorem log2_scale {m : Int} (k : Nat) (h0 : 1 ≤ m) : Nat.log2 (m * 2 ^ k).toNat = Nat.log2 m.toNat + k := by
  rw [toNat_scale k h0]
  have h : m.toNat ≠ 0 := by omega
  generalize m.toNat = n at *
  have hk := Nat.two_pow_pos k
  have a := Nat.log2_self_le h
  have b := @Nat.lt_log2_self n
  refine (Nat.log2_eq_iff (Nat.ne_of_gt (Nat.mul_pos (by omega) hk))).2 ⟨?_, ?_⟩
  · rw [Nat.pow_add]; exact Nat.mul_le_mul_right _ a
  · rw [show n.log2 + k + 1 = (n.log2 + 1) + k by omega, Nat.pow_add]; exact Nat.mul_lt_mul_of_pos_right b hk
/-- as many times as far, by a power of 2. -/
theorem at_scale {y x : Int} (k : Nat) (h : ¬ (x = 0 ∧ y = 0)) (hk : max (fX y x) (fY y x) * 2 ^ k ≤ 2147483648) : atF (y * 2 ^ k) (x * 2 ^ k) = atF y x := by
  have hp : (0 : Int) < 2 ^ k := Int.pow_pos (by decide)
  obtain ⟨e1, e2, e3⟩ := f_scale (y := y) (x := x) hp
  have p := f_pos h
  have hm : max (fX y x * 2 ^ k) (fY y x * 2 ^ k) = max (fX y x) (fY y x) * 2 ^ k := by
    rcases Int.le_total (fX y x) (fY y x) with z | z
    · have := Int.mul_le_mul_of_nonneg_right z (Int.le_of_lt hp)
      rw [Int.max_eq_right z, Int.max_eq_right this]
    · have := Int.mul_le_mul_of_nonneg_right z (Int.le_of_lt hp)
      rw [Int.max_eq_left z, Int.max_eq_left this]
  have : fO (y * 2 ^ k) (x * 2 ^ k) = fO y x := by
    unfold fO
    rw [e1, e2, hm]
    have hl := log2_scale (m := max (fX y x) (fY y x)) k (by omega)
    have hmk : 1 ≤ max (fX y x) (fY y x) * 2 ^ k := by
      have := Int.mul_le_mul (show 1 ≤ max (fX y x) (fY y x) by omega) (show (1 : Int) ≤ 2 ^ k by omega) (by omega) (by omega)
      omega
    have hl2 := log2_le hmk hk
    rw [hl] at hl2
    have hu : (2 : Int) ^ k * 2 ^ upN (max (fX y x) (fY y x) * 2 ^ k) = 2 ^ upN (max (fX y x) (fY y x)) := by
      unfold upN
      rw [hl, ← Int.pow_add]
      congr 1
      omega
    rw [Int.mul_assoc, Int.mul_assoc, hu]
  rw [at_eq, at_eq, this, e3]
/-- AnglesMirrored. -/
theorem mirrored {y x : Int} (hy : 0 < y) (hx : 0 < x) (h2 : y ≤ 2147483648) (h4 : x ≤ 2147483648) :
    -1 ≤ atF y x + atF x y - 5898240 ∧ atF y x + atF x y - 5898240 ≤ 1 ∧ atF y x ≤ 5898240 ∧ ((atF y x + atF (-y) x) % 23592960 ≤ 1 ∨ 23592959 ≤ (atF y x + atF (-y) x) % 23592960) := by
  have q1 : fQ y x = 0 ∧ fX y x = x ∧ fY y x = y := by
    unfold fQ fX fY
    rw [if_pos (show 0 < x ∧ 0 ≤ y by omega), if_pos (show 0 < x ∧ 0 ≤ y by omega), if_pos (show 0 < x ∧ 0 ≤ y by omega)]
    exact ⟨rfl, rfl, rfl⟩
  have q2 : fQ x y = 0 ∧ fX x y = y ∧ fY x y = x := by
    unfold fQ fX fY
    rw [if_pos (show 0 < y ∧ 0 ≤ x by omega), if_pos (show 0 < y ∧ 0 ≤ x by omega), if_pos (show 0 < y ∧ 0 ≤ x by omega)]
    exact ⟨rfl, rfl, rfl⟩
  have q3 : fQ (-y) x = 3 ∧ fX (-y) x = y ∧ fY (-y) x = x := by
    unfold fQ fX fY
    rw [if_neg (show ¬ (0 < x ∧ 0 ≤ -y) by omega), if_neg (show ¬ (0 < x ∧ 0 ≤ -y) by omega), if_neg (show ¬ (0 < x ∧ 0 ≤ -y) by omega), if_neg (show ¬ 0 < -y by omega), if_neg (show ¬ 0 < -y by omega), if_neg (show ¬ 0 < -y by omega), if_neg (show ¬ x < 0 by omega), if_neg (show ¬ x < 0 by omega), if_neg (show ¬ x < 0 by omega)]
    exact ⟨rfl, by omega, rfl⟩
  have o1 := fO_in (y := y) (x := x) (by omega) (by omega) h2 (by omega) h4
  have o2 := fO_in (y := x) (x := y) (by omega) (by omega) h4 (by omega) h2
  have o3 : fO (-y) x = fO x y := by unfold fO; rw [q3.2.1, q3.2.2, q2.2.1, q2.2.2]
  have hs : -32 < fO y x + fO x y - 1099511627776 ∧ fO y x + fO x y - 1099511627776 < 32 := by
    unfold fO
    rw [q1.2.1, q1.2.2, q2.2.1, q2.2.2, Int.max_comm y x]
    obtain ⟨s1, s2, s3, s4⟩ := scaled hx (show 0 ≤ y by omega) h4 h2
    have hp : (0 : Int) < 2 ^ upN (max x y) := Int.pow_pos (by decide)
    exact mirror s1 (Int.mul_pos hy hp) s3 s4
  rw [at_eq, at_eq, at_eq, q1.1, q2.1, q3.1, o3]
  generalize fO y x = A at *
  generalize fO x y = B at *
  unfold roundO
  have a0 : 0 ≤ (2 * (A * 5898240) + 1099511627776) / 2199023255552 ∧ (2 * (A * 5898240) + 1099511627776) / 2199023255552 ≤ 5898240 := by omega
  have b0 : 0 ≤ (2 * (B * 5898240) + 1099511627776) / 2199023255552 ∧ (2 * (B * 5898240) + 1099511627776) / 2199023255552 ≤ 5898240 := by omega
  have ab : -1 ≤ (2 * (A * 5898240) + 1099511627776) / 2199023255552 + (2 * (B * 5898240) + 1099511627776) / 2199023255552 - 5898240 ∧ (2 * (A * 5898240) + 1099511627776) / 2199023255552 + (2 * (B * 5898240) + 1099511627776) / 2199023255552 - 5898240 ≤ 1 := by omega
  generalize (2 * (A * 5898240) + 1099511627776) / 2199023255552 = P at *
  generalize (2 * (B * 5898240) + 1099511627776) / 2199023255552 = Q at *
  omega
theorem R_k0 : RX 7552410 = 4611686018158951764 ∧ RY 7552410 = 49758277777344 := by decide +kernel
theorem y_lowK {K : Int} (h0 : 7552410 ≤ K) (h1 : K ≤ 1099511627776) : 49758236300000 + 15602 < RY K := by
  rcases Int.lt_or_le K 549755813888 with h | h
  · have f := R_first (K := K - 7552410) (by omega) (by omega)
    have l := R_low (K - 7552410)
    have s := nb_y (R_sum 7552410 (K - 7552410))
    rw [show 7552410 + (K - 7552410) = K by omega, R_k0.1, R_k0.2] at s
    have q : 4611686018427387904 - 5200 ≤ RX (K - 7552410) + RY (K - 7552410) := by
      refine sq_le (by omega) ?_
      have e : (RX (K - 7552410) + RY (K - 7552410)) * (RX (K - 7552410) + RY (K - 7552410)) = RX (K - 7552410) * RX (K - 7552410) + RY (K - 7552410) * RY (K - 7552410) + 2 * (RX (K - 7552410) * RY (K - 7552410)) := by grind
      have := Int.mul_nonneg (show 0 ≤ RX (K - 7552410) by omega) f.2.1
      omega
    omega
  · have := R_first (K := 1099511627776 - K) (by omega) (by omega)
    have := R_neg (1099511627776 - K)
    rw [show 1099511627776 - (1099511627776 - K) = K by omega] at this
    omega
theorem R_qt (q O : Int) (h0 : 0 ≤ O) (h1 : O < 1099511627776) : (RX (q * 1099511627776 + O), RY (q * 1099511627776 + O)) = qt q (RX O, RY O) := by
  obtain ⟨e1, e2⟩ := R_pn h0 h1
  rw [e1, e2]
  unfold RX RY
  rw [R_def, show (q * 1099511627776 + O) / 1099511627776 = q by omega, show (q * 1099511627776 + O) % 1099511627776 = O by omega]
/-- both turned, nothing is turned. -/
theorem qt_both (q a b c d : Int) : (qt q (a, b)).1 * (qt q (c, d)).1 + (qt q (a, b)).2 * (qt q (c, d)).2 = a * c + b * d ∧ (qt q (a, b)).2 * (qt q (c, d)).1 - (qt q (a, b)).1 * (qt q (c, d)).2 = b * c - a * d := by
  unfold qt
  split
  · exact ⟨rfl, rfl⟩
  · split
    · simp only; constructor <;> grind
    · split
      · simp only; constructor <;> grind
      · simp only; constructor <;> grind
theorem alg_to {X Y c s A B U V P Q p x y : Int}
    (hv : nb (p * (c * A + s * B) - 4611686018427387904 * x) (p * (s * A - c * B) - 4611686018427387904 * y) (160 * 4611686018427387904))
    (he : nb (70368744177664 * c - X) (70368744177664 * s - Y) 49758216191608) (hA : nb A B (4611686018427387904 + 80)) (hW : nb X Y (4611686018427387904 + 80))
    (hc : nb (U - A) (V + B) 15602) (hs : nb (X * U - Y * V - 4611686018427387904 * P) (X * V + Y * U - 4611686018427387904 * Q) (5040 * 4611686018427387904)) (hp : 0 ≤ p) :
    nb (p * (4611686018427387904 * P) - 70368744177664 * (4611686018427387904 * x)) (p * (4611686018427387904 * Q) - 70368744177664 * (4611686018427387904 * y))
      (70368744177664 * (160 * 4611686018427387904) + p * (49758216191608 * (4611686018427387904 + 80) + 15602 * (4611686018427387904 + 80) + 5040 * 4611686018427387904)) := by
  have k1 := nb_scale (k := 70368744177664) (by omega) hv
  have k2 := nb_scale hp (nb_mul he (nb_conj hA))
  have k3 := nb_scale hp (nb_mul hW hc)
  have k4 := nb_scale hp hs
  have k5 := nb_sub (nb_add (nb_sub k1 k2) k3) k4
  have e1 : p * (4611686018427387904 * P) - 70368744177664 * (4611686018427387904 * x) = 70368744177664 * (p * (c * A + s * B) - 4611686018427387904 * x) - p * ((70368744177664 * c - X) * A - (70368744177664 * s - Y) * -B) + p * (X * (U - A) - Y * (V + B)) - p * (X * U - Y * V - 4611686018427387904 * P) := by grind
  have e2 : p * (4611686018427387904 * Q) - 70368744177664 * (4611686018427387904 * y) = 70368744177664 * (p * (s * A - c * B) - 4611686018427387904 * y) - p * ((70368744177664 * c - X) * -B + (70368744177664 * s - Y) * A) + p * (X * (V + B) + Y * (U - A)) - p * (X * V + Y * U - 4611686018427387904 * Q) := by grind
  rw [e1, e2]
  refine nb_mono k5 ?_
  have e3 : p * (49758216191608 * (4611686018427387904 + 80) + 15602 * (4611686018427387904 + 80) + 5040 * 4611686018427387904) = p * (49758216191608 * (4611686018427387904 + 80)) + p * ((4611686018427387904 + 80) * 15602) + p * (5040 * 4611686018427387904) := by grind
  omega
theorem unit_up {x y : Int} (h1 : -65536 ≤ x) (h2 : x ≤ 65536) (h3 : -65536 ≤ y) (h4 : y ≤ 65536) (h5 : 4294874613 ≤ y * y + x * x) :
    ¬ (x = 0 ∧ y = 0) ∧ (35184372088832 = (2 : Int) ^ upN (max (fX y x) (fY y x)) ∨ 17592186044416 = (2 : Int) ^ upN (max (fX y x) (fY y x))) := by
  have h0 : ¬ (x = 0 ∧ y = 0) := by rintro ⟨rfl, rfl⟩; omega
  refine ⟨h0, ?_⟩
  have p := f_pos h0
  have l := f_le h3 h4 h1 h2
  have e : fX y x * fX y x + fY y x * fY y x = y * y + x * x := by
    have h := f_back y x
    have k := (qt_both (fQ y x) (fX y x) (fY y x) (fX y x) (fY y x)).1
    rw [h] at k
    simp only at k
    omega
  have hm : 46340 ≤ max (fX y x) (fY y x) := by
    apply Classical.byContradiction
    intro hc
    have a := Int.mul_le_mul (show fX y x ≤ 46339 by omega) (show fX y x ≤ 46339 by omega) (by omega) (by omega)
    have b := Int.mul_le_mul (show fY y x ≤ 46339 by omega) (show fY y x ≤ 46339 by omega) (by omega) (by omega)
    omega
  have hM : max (fX y x) (fY y x) ≤ 65536 := by omega
  generalize max (fX y x) (fY y x) = m at *
  unfold upN
  have hh : m.toNat ≠ 0 := by omega
  rcases Int.lt_or_le m 65536 with z | z
  · have : Nat.log2 m.toNat = 15 := (Nat.log2_eq_iff hh).2 ⟨by omega, by omega⟩
    rw [this]; exact Or.inl rfl
  · have : Nat.log2 m.toNat = 16 := (Nat.log2_eq_iff hh).2 ⟨by omega, by omega⟩
    rw [this]; exact Or.inr rfl
/-- the direction of an angle's cosine and sine. -/
theorem back_to (a : Int) : ∃ w : Int, -7552410 < jOf a - (fQ (sinF a) (cosF a) * 1099511627776 + fO (sinF a) (cosF a)) - w * 4398046511104 ∧ jOf a - (fQ (sinF a) (cosF a) * 1099511627776 + fO (sinF a) (cosF a)) - w * 4398046511104 < 7552410 := by
  have hci := circle a
  obtain ⟨⟨d1, d2⟩, d3, d4⟩ := dir_off a
  have he := E_nb d1 d2 d3 d4
  generalize sinF a = s at *
  generalize cosF a = c at *
  obtain ⟨h0, hup⟩ := unit_up (x := c) (y := s) (by omega) (by omega) (by omega) (by omega) (by omega)
  have p := f_pos h0
  have l := f_le (y := s) (x := c) (B := 65536) (by omega) (by omega) (by omega) (by omega)
  obtain ⟨s1, s2, s3, s4⟩ := scaled p.1 p.2.1 (by omega) (by omega)
  obtain ⟨O, x, y, hO, o0, o1, x0, x1, y0, y1, h1⟩ := bk_end s1 s2 s3 s4
  have hfo : fO s c = O := hO
  rw [hfo]
  have hR := R_qt (fQ s c) O o0 o1
  have hb := qt_both (fQ s c) (fX s c) (fY s c) (RX O) (RY O)
  rw [f_back, ← hR] at hb
  simp only at hb
  generalize fQ s c * 1099511627776 + O = T at *
  generalize hpp : (2 : Int) ^ upN (max (fX s c) (fY s c)) = q at *
  have e1 : fX s c * q * RX O + fY s c * q * RY O = q * (c * RX T + s * RY T) := by rw [hb.1]; grind
  have e2 : fY s c * q * RX O - fX s c * q * RY O = q * (s * RX T - c * RY T) := by rw [hb.2]; grind
  rw [e1, e2] at h1
  have hs := R_sum (jOf a) (-T)
  rw [show jOf a + -T = jOf a - T by omega] at hs
  have k := alg_to h1 he (R_nb T) (R_nb (jOf a)) (R_conj T) hs (by omega)
  have kx := nb_x k
  have ky := nb_y k
  have key : 20000 ≤ RX (jOf a - T) ∧ -49758236300000 ≤ RY (jOf a - T) ∧ RY (jOf a - T) ≤ 49758236300000 := by
    rcases hup with hq | hq <;> rw [← hq] at kx ky <;> omega
  exact small_turn key.1 key.2.1 key.2.2 (by omega) (fun K h h' => y_lowK h h')
/-- AnglesBack. -/
theorem back (a : Int) : ((atF (sinF a) (cosF a) - a) % 23592960 ≤ 41 ∨ 23592919 ≤ (atF (sinF a) (cosF a) - a) % 23592960) ∧ ¬ (cosF a = 0 ∧ sinF a = 0) := by
  have hci := circle a
  have h0 := (unit_up (x := cosF a) (y := sinF a) (by omega) (by omega) (by omega) (by omega) (by omega)).1
  refine ⟨?_, h0⟩
  obtain ⟨w, w1, w2⟩ := back_to a
  unfold atF
  generalize fQ (sinF a) (cosF a) * 1099511627776 + fO (sinF a) (cosF a) = T at *
  have hj : jOf a * 5898240 ≤ a * 1099511627776 ∧ a * 1099511627776 < jOf a * 5898240 + 5898240 := by unfold jOf; omega
  generalize jOf a = J at *
  have hr : roundO T * 2199023255552 ≤ 2 * (T * 5898240) + 1099511627776 ∧ 2 * (T * 5898240) + 1099511627776 < roundO T * 2199023255552 + 2199023255552 := by unfold roundO; omega
  generalize roundO T = N at *
  have g1 : N - a + w * 23592960 ≤ 41 := by omega
  have g2 : -41 ≤ N - a + w * 23592960 := by omega
  have e : (N % 23592960 - a) % 23592960 = (N - a + w * 23592960) % 23592960 := by
    rw [Int.add_mul_emod_self_right, Int.emod_sub_emod]
  rw [e]
  generalize N - a + w * 23592960 = z at *
  clear hj hr w1 w2 hci h0 e
  omega

end Go.Proofs.Ytihfbliipjobdaa.Sx
