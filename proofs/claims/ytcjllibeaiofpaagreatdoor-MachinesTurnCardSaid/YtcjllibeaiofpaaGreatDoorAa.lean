/-
  Plain laws of angles.
-/
import Derived.Test.YtcjllibeaiofpaaGreatDoorRq
import Derived.Test.YtcjllibeaiofpaaGreatDoorRxh
set_option linter.all false
set_option maxRecDepth 100000
namespace Go.Proofs.YtcjllibeaiofpaaGreatDoor.Sx
open Go Go.RowKit
theorem split64 {h l v : Int} (H L : Int) (e : h * 18446744073709551616 + l = v) (l0 : 0 <= l) (l1 : l <= 18446744073709551615) (hv : v = H * 18446744073709551616 + L) (hL : 0 <= L) (hL' : L <= 18446744073709551615) : h = H /\ l = L := by omega
theorem root_val {h l x e : Int} (H L C : Int) (hp : (h < 0 -> x = 0 /\ e = 1) /\ (0 <= h -> e = 0 /\ isRoot (w128 h l) x)) (eh : h = H) (el : l = L) (hH : 0 <= H) (h1 : C * C <= H * 18446744073709551616 + L) (h2 : H * 18446744073709551616 + L < (C + 1) * (C + 1)) (x0 : 0 <= x) (c0 : 0 <= C) : x = C := by
 subst eh el
 exact root_uniq (hp.2 hH).2 ⟨h1, h2⟩ x0 c0
theorem floor_val {a d h l r e : Int} (A D Q R : Int) (hp : (d < 1 -> h = 0 /\ l = 0 /\ r = 0 /\ e = 1) /\ (1 <= d -> e = 0 /\ isFloor a d (w128 h l) r)) (ea : a = A) (ed : d = D) (hD : 1 <= D) (h1 : A = Q * D + R) (h2 : 0 <= R) (h3 : R < D) : w128 h l = Q := by
 subst ea ed
 exact (floor_uniq (hp.2 hD).2 ⟨h1, h2, h3⟩).1
theorem int_val {v n t : Int} (V : Int) (h : isInt v n t) (e : v = V) (h1 : -9223372036854775808 <= V) (h2 : V <= 9223372036854775807) : n = V := by
 subst e; exact (h.1 ⟨h1, h2⟩).2
theorem wrap_id64 {x : Int} (h0 : 0 <= x) (h1 : x <= 9223372036854775807) : IntKind.wrap .i64 x = x := by rw [wrap_i64]; omega
theorem wrap_idu {x : Int} (h0 : 0 <= x) (h1 : x <= 9223372036854775807) : IntKind.wrap .u64 (IntKind.wrap .i64 x) = x := by rw [wrap_id64 h0 h1, wrap_u64]; omega
def okT (A S R Q : Int) : Bool := decide (0 <= A) && decide (A <= 9223372036854775807) && decide (R * R <= A * 2305843009213693952) && decide (A * 2305843009213693952 < (R + 1) * (R + 1)) && decide (1 <= R) && decide (R <= 9223372036854775807) && decide (Q * R <= S * 2305843009213693952) && decide (S * 2305843009213693952 < Q * R + R) && decide (0 <= Q) && decide (Q <= 9223372036854775807)
theorem okT_of {A S R Q : Int} (h : okT A S R Q = true) : (0 <= A /\ A <= 9223372036854775807) /\ (0 <= A / 8 /\ A / 8 <= 9223372036854775807) /\ (A * 2305843009213693952 = A / 8 * 18446744073709551616 + A % 8 * 2305843009213693952 /\ 0 <= A % 8 * 2305843009213693952 /\ A % 8 * 2305843009213693952 <= 18446744073709551615) /\ (R * R <= A / 8 * 18446744073709551616 + A % 8 * 2305843009213693952 /\ A / 8 * 18446744073709551616 + A % 8 * 2305843009213693952 < (R + 1) * (R + 1)) /\ (1 <= R /\ 0 <= R /\ R <= 9223372036854775807) /\ (S * 2305843009213693952 = Q * R + (S * 2305843009213693952 - Q * R) /\ 0 <= S * 2305843009213693952 - Q * R /\ S * 2305843009213693952 - Q * R < R) /\ 0 <= Q /\ Q <= 9223372036854775807 := by
 simp only [okT, Bool.and_eq_true, decide_eq_true_eq] at h
 obtain ⟨⟨⟨⟨⟨⟨⟨⟨⟨h1, h2⟩, h3⟩, h4⟩, h5⟩, h6⟩, h7⟩, h8⟩, h9⟩, h10⟩ := h
 have e : A * 2305843009213693952 = A / 8 * 18446744073709551616 + A % 8 * 2305843009213693952 := by omega
 rw [e] at h3 h4
 exact ⟨⟨h1, h2⟩, by omega, by omega, ⟨h3, h4⟩, by omega, by omega, h9, h10⟩
theorem madeT_of {C S : Int} {K : Int -> Int -> Prop} (R Q : Int) (h : okT (4611686018427387904 + C) S R Q = true) (k : K R Q) : madeT C S K := by
 obtain ⟨⟨a0, a1⟩, ⟨hH0, hH1⟩, ⟨hs0, hs1, hs2⟩, ⟨hr1, hr2⟩, ⟨hR2, hR0, hR1⟩, ⟨hq1, hq2, hq3⟩, hQ0, hQ1⟩ := okT_of h
 unfold madeT
 generalize hA : 4611686018427387904 + C = A at *
 generalize hH : A / 8 = H at *
 generalize hL : A % 8 * 2305843009213693952 = L at *
 intro m el ll ul
 have vm : m = A := by rw [el]; exact wrap_idu a0 a1
 refine ⟨trivial, ?_⟩
 intro m0 l0 u0 m1 l1 u1 g1
 replace g1 : m0 * 18446744073709551616 + m1 = m * (2305843009213693952 : Int) := g1
 obtain ⟨v0, v1⟩ := split64 H L g1 l1 u1 (by rw [vm]; exact hs0) hs1 hs2
 intro m2 e2 l2 u2
 have v2 : m2 = H := by rw [e2, v0]; exact wrap_id64 hH0 hH1
 refine ⟨trivial, ?_⟩
 intro m3 l3 u3 m4 l4 u4 g2
 replace g2 : ((m2 < 0 -> m3 = 0 /\ m4 = 1) /\ (0 <= m2 -> m4 = 0 /\ isRoot (w128 m2 m1) m3)) := g2
 have v3 : m3 = R := root_val H L R g2 v2 v1 hH0 hr1 hr2 l3 hR0
 refine ⟨trivial, ?_⟩
 intro m5 l5 u5 m6 l6 u6 g3
 replace g3 : w128 m5 m6 = S * (2305843009213693952 : Int) := g3
 intro m7 e7 l7 u7
 have v7 : m7 = R := by rw [e7, v3]; exact wrap_id64 hR0 hR1
 refine ⟨trivial, ?_⟩
 intro m8 l8 u8 m9 l9 u9 m10 l10 u10 m11 l11 u11 g4
 replace g4 : ((m7 < 1 -> m8 = 0 /\ m9 = 0 /\ m10 = 0 /\ m11 = 1) /\ (1 <= m7 -> m11 = 0 /\ isFloor (w128 m5 m6) m7 (w128 m8 m9) m10)) := g4
 have k9 : w128 m8 m9 = Q := floor_val (S * 2305843009213693952) R Q _ g4 g3 v7 hR2 hq1 hq2 hq3
 intro b1 m12 e12 l12 u12
 have v12 : m12 = R := by rw [e12, v3]; exact wrap_id64 hR0 hR1
 refine ⟨trivial, ?_⟩
 intro m13 l13 u13 t g5
 replace g5 : isInt (w128 m8 m9) m13 (b2i t) := g5
 have v13 : m13 = Q := int_val Q g5 k9 (by omega) hQ1
 subst v12 v13
 exact k
theorem madeE_of {x : Int} {K : Int -> Prop} (k : ∀ b, K b) : madeE x x K := ⟨Int.le_refl _, Int.le_refl _, fun b _ _ _ => k b⟩
theorem p_made : P_made := by
 obtain ⟨⟨a0, a1⟩, ⟨hH0, hH1⟩, ⟨hs0, hs1, hs2⟩, ⟨hr1, hr2⟩, ⟨hR2, hR0, hR1⟩, ⟨hq1, hq2, hq3⟩, hQ0, hQ1⟩ := okT_of (A := 4611686018427387904) (S := 4611686018427387904) (R := 3260954456333195553) (Q := 3260954456333195553) (by decide +kernel)
 generalize hR : (3260954456333195553 : Int) = R at *
 unfold P_made
 intro hpre b
 generalize hH : (4611686018427387904 : Int) / 8 = H at *
 generalize hL : (4611686018427387904 : Int) % 8 * 2305843009213693952 = L at *
 refine ⟨trivial, ?_⟩
 intro m0 l0 u0 m1 l1 u1 g1
 replace g1 : m0 * 18446744073709551616 + m1 = (4611686018427387904 : Int) * (2305843009213693952 : Int) := g1
 obtain ⟨v0, v1⟩ := split64 H L g1 l1 u1 hs0 hs1 hs2
 intro m2 e2 l2 u2
 have v2 : m2 = H := by rw [e2, v0]; exact wrap_id64 hH0 hH1
 refine ⟨trivial, ?_⟩
 intro m3 l3 u3 m4 l4 u4 g2
 replace g2 : ((m2 < 0 -> m3 = 0 /\ m4 = 1) /\ (0 <= m2 -> m4 = 0 /\ isRoot (w128 m2 m1) m3)) := g2
 have v3 : m3 = R := root_val H L R g2 v2 v1 hH0 hr1 hr2 l3 hR0
 refine ⟨trivial, ?_⟩
 intro m5 l5 u5 m6 l6 u6 g3
 replace g3 : w128 m5 m6 = (4611686018427387904 : Int) * (2305843009213693952 : Int) := g3
 intro m7 e7 l7 u7
 have v7 : m7 = R := by rw [e7, v3]; exact wrap_id64 hR0 hR1
 refine ⟨trivial, ?_⟩
 intro m8 l8 u8 m9 l9 u9 m10 l10 u10 m11 l11 u11 g4
 replace g4 : ((m7 < 1 -> m8 = 0 /\ m9 = 0 /\ m10 = 0 /\ m11 = 1) /\ (1 <= m7 -> m11 = 0 /\ isFloor (w128 m5 m6) m7 (w128 m8 m9) m10)) := g4
 have k9 : w128 m8 m9 = R := floor_val ((4611686018427387904 : Int) * 2305843009213693952) R R _ g4 g3 v7 hR2 hq1 hq2 hq3
 intro b1 m12 e12 l12 u12
 have v12 : m12 = R := by rw [e12, v3]; exact wrap_id64 hR0 hR1
 refine ⟨trivial, ?_⟩
 intro m13 l13 u13 t g5
 replace g5 : isInt (w128 m8 m9) m13 (b2i t) := g5
 have v13 : m13 = R := int_val R g5 k9 (by omega) hQ1
 rw [<- hR] at v12 v13
 subst v12 v13
 refine madeT_of 4260642322793532497 1764815834521887441 (by decide +kernel) ?_
 refine madeT_of 4523073764714963029 899695310372275546 (by decide +kernel) ?_
 refine madeT_of 4589479489746651963 452024275624069879 (by decide +kernel) ?_
 refine madeT_of 4606131040650197959 226284707652502140 (by decide +kernel) ?_
 refine madeT_of 4610297064819661174 113176440454146015 (by decide +kernel) ?_
 refine madeT_of 4611338766951757486 56592481536850978 (by decide +kernel) ?_
 refine madeT_of 4611599204741358746 28296773447188931 (by decide +kernel) ?_
 refine madeT_of 4611664314954810277 14148453308909939 (by decide +kernel) ?_
 refine madeT_of 4611680592556051597 7074234977634092 (by decide +kernel) ?_
 refine madeT_of 4611684661959354333 3537118529214895 (by decide +kernel) ?_
 refine madeT_of 4611685679310367042 1768559394657193 (by decide +kernel) ?_
 refine madeT_of 4611685933648131909 884279713584815 (by decide +kernel) ?_
 refine madeT_of 4611685997232573856 442139858824434 (by decide +kernel) ?_
 refine madeT_of 4611686013128684388 221069929666220 (by decide +kernel) ?_
 refine madeT_of 4611686017102712024 110534964864860 (by decide +kernel) ?_
 refine madeT_of 4611686018096218933 55267482436398 (by decide +kernel) ?_
 refine madeT_of 4611686018344595661 27633741218695 (by decide +kernel) ?_
 refine madeT_of 4611686018406689843 13816870609409 (by decide +kernel) ?_
 refine madeT_of 4611686018422213388 6908435304712 (by decide +kernel) ?_
 refine madeT_of 4611686018426094274 3454217652356 (by decide +kernel) ?_
 refine madeT_of 4611686018427064496 1727108826178 (by decide +kernel) ?_
 refine madeT_of 4611686018427307051 863554413089 (by decide +kernel) ?_
 refine madeT_of 4611686018427367690 431777206544 (by decide +kernel) ?_
 refine madeT_of 4611686018427382850 215888603272 (by decide +kernel) ?_
 refine madeT_of 4611686018427386640 107944301636 (by decide +kernel) ?_
 refine madeT_of 4611686018427387587 53972150818 (by decide +kernel) ?_
 refine madeT_of 4611686018427387824 26986075409 (by decide +kernel) ?_
 refine madeT_of 4611686018427387883 13493037704 (by decide +kernel) ?_
 refine madeT_of 4611686018427387898 6746518852 (by decide +kernel) ?_
 refine madeT_of 4611686018427387902 3373259426 (by decide +kernel) ?_
 refine madeT_of 4611686018427387903 1686629713 (by decide +kernel) ?_
 refine madeT_of 4611686018427387903 843314856 (by decide +kernel) ?_
 refine madeT_of 4611686018427387903 421657428 (by decide +kernel) ?_
 refine madeT_of 4611686018427387903 210828714 (by decide +kernel) ?_
 refine madeT_of 4611686018427387903 105414357 (by decide +kernel) ?_
 refine madeT_of 4611686018427387903 52707178 (by decide +kernel) ?_
 refine madeT_of 4611686018427387903 26353589 (by decide +kernel) ?_
 refine madeT_of 4611686018427387903 13176794 (by decide +kernel) ?_
 refine madeT_of 4611686018427387903 6588397 (by decide +kernel) ?_
 iterate 80 refine madeE_of fun _ => ?_
 trivial
theorem sq_le {a b : Int} (hb : 0 <= b) (h : a * a <= b * b) : a <= b := by
 rcases Int.lt_or_le b a with z | z
 ·have h1 := Int.mul_lt_mul_of_pos_right z (show 0 < a by omega)
  have h2 := Int.mul_le_mul_of_nonneg_left (show b <= a by omega) hb
  omega
 ·exact z
theorem sq_nn (a : Int) : 0 <= a * a := by
 rcases Int.le_total 0 a with z | z
 ·exact Int.mul_nonneg z z
 ·have := Int.mul_nonneg (show 0 <= -a by omega) (show 0 <= -a by omega)
  have e : -a * -a = a * a := by grind
  omega
theorem nb_dot {x y u v e f : Int} (h : nb x y e) (k : nb u v f) : x * u + y * v <= e * f := by
 refine sq_le (Int.mul_nonneg h.1 k.1) ?_
 have h1 : (x * u + y * v) * (x * u + y * v) + (x * v - y * u) * (x * v - y * u) = (x * x + y * y) * (u * u + v * v) := by grind
 have h2 := sq_nn (x * v - y * u)
 have h3 : 0 <= u * u + v * v := by have := sq_nn u; have := sq_nn v; omega
 have h4 : (x * x + y * y) * (u * u + v * v) <= (e * e) * (f * f) := Int.mul_le_mul h.2 k.2 h3 (sq_nn e)
 have h5 : (e * f) * (e * f) = (e * e) * (f * f) := by grind
 omega
theorem nb_add {x y u v e f : Int} (h : nb x y e) (k : nb u v f) : nb (x + u) (y + v) (e + f) := by
 refine ⟨by have := h.1; have := k.1; omega, ?_⟩
 have h1 := nb_dot h k
 have h2 := h.2
 have h3 := k.2
 have e1 : (x + u) * (x + u) + (y + v) * (y + v) = (x * x + y * y) + (u * u + v * v) + 2 * (x * u + y * v) := by grind
 have e2 : (e + f) * (e + f) = e * e + f * f + 2 * (e * f) := by grind
 omega
theorem nb_neg {x y e : Int} (h : nb x y e) : nb (-x) (-y) e := by
 refine ⟨h.1, ?_⟩
 have e1 : -x * -x = x * x := by grind
 have e2 : -y * -y = y * y := by grind
 rw [e1, e2]; exact h.2
theorem nb_sub {x y u v e f : Int} (h : nb x y e) (k : nb u v f) : nb (x - u) (y - v) (e + f) := by
 have := nb_add h (nb_neg k)
 rwa [<- Int.sub_eq_add_neg, <- Int.sub_eq_add_neg] at this
theorem nb_mul {x y u v e f : Int} (h : nb x y e) (k : nb u v f) : nb (x * u - y * v) (x * v + y * u) (e * f) := by
 refine ⟨Int.mul_nonneg h.1 k.1, ?_⟩
 have h1 : (x * u - y * v) * (x * u - y * v) + (x * v + y * u) * (x * v + y * u) = (x * x + y * y) * (u * u + v * v) := by grind
 have h3 : 0 <= u * u + v * v := by have := sq_nn u; have := sq_nn v; omega
 have h4 : (x * x + y * y) * (u * u + v * v) <= (e * e) * (f * f) := Int.mul_le_mul h.2 k.2 h3 (sq_nn e)
 have h5 : (e * f) * (e * f) = (e * e) * (f * f) := by grind
 omega
theorem nb_mono {x y e f : Int} (h : nb x y e) (k : e <= f) : nb x y f := by
 refine ⟨by have := h.1; omega, ?_⟩
 have := Int.mul_le_mul k k h.1 (by have := h.1; omega)
 have := h.2
 omega
theorem nb_x {x y e : Int} (h : nb x y e) : -e <= x /\ x <= e := by
 have h1 := sq_nn y
 have h2 := h.2
 have h3 := sq_le h.1 (show x * x <= e * e by omega)
 have e1 : -x * -x = x * x := by grind
 have h4 := sq_le h.1 (show -x * -x <= e * e by omega)
 omega
theorem nb_swap {x y e : Int} (h : nb x y e) : nb y x e := ⟨h.1, by have := h.2; omega⟩
theorem nb_y {x y e : Int} (h : nb x y e) : -e <= y /\ y <= e := nb_x (nb_swap h)
theorem nb_conj {x y e : Int} (h : nb x y e) : nb x (-y) e := by
 refine ⟨h.1, ?_⟩
 have e2 : -y * -y = y * y := by grind
 rw [e2]; exact h.2
theorem nb_scale {x y e k : Int} (hk : 0 <= k) (h : nb x y e) : nb (k * x) (k * y) (k * e) := by
 refine ⟨Int.mul_nonneg hk h.1, ?_⟩
 have e1 : k * x * (k * x) + k * y * (k * y) = (k * k) * (x * x + y * y) := by grind
 have e2 : k * e * (k * e) = (k * k) * (e * e) := by grind
 rw [e1, e2]
 exact Int.mul_le_mul_of_nonneg_left h.2 (sq_nn k)
theorem nb_unscale {x y e k : Int} (hk : 0 < k) (he : 0 <= e) (h : nb (k * x) (k * y) (k * e)) : nb x y e := by
 refine ⟨he, ?_⟩
 have e1 : k * x * (k * x) + k * y * (k * y) = (k * k) * (x * x + y * y) := by grind
 have e2 : k * e * (k * e) = (k * k) * (e * e) := by grind
 have h2 := h.2
 rw [e1, e2] at h2
 exact Int.le_of_mul_le_mul_left h2 (Int.mul_pos hk hk)
theorem mul_sq {a e : Int} (h1 : -e <= a) (h2 : a <= e) : a * a <= e * e := by
 rcases Int.le_total 0 a with z | z
 ·exact Int.mul_le_mul h2 h2 z (by omega)
 ·have := Int.mul_le_mul (show -a <= e by omega) (show -a <= e by omega) (by omega) (show 0 <= e by omega)
  have e1 : -a * -a = a * a := by grind
  omega
theorem nb_of {x y e : Int} (h1 : -e <= x) (h2 : x <= e) (h3 : -e <= y) (h4 : y <= e) : nb x y (2 * e) := by
 have hx : x * x <= e * e := by
  rcases Int.le_total 0 x with z | z
  ·exact Int.mul_le_mul h2 h2 z (by omega)
  ·have := Int.mul_le_mul (show -x <= e by omega) (show -x <= e by omega) (by omega) (show 0 <= e by omega)
   have e1 : -x * -x = x * x := by grind
   omega
 have hy : y * y <= e * e := by
  rcases Int.le_total 0 y with z | z
  ·exact Int.mul_le_mul h4 h4 z (by omega)
  ·have := Int.mul_le_mul (show -y <= e by omega) (show -y <= e by omega) (by omega) (show 0 <= e by omega)
   have e1 : -y * -y = y * y := by grind
   omega
 refine ⟨by omega, ?_⟩
 have e1 : 2 * e * (2 * e) = 4 * (e * e) := by grind
 have := sq_nn e
 omega
def rot (n : Nat) (J : Int) : Int × Int := qt (J / 2 ^ n) (pn n (J % 2 ^ n))
theorem tab_ok : ∀ i : Fin 41, nb (cx i) (sx i) 4611686018427387904 := by
 have h : ∀ i : Fin 41, 0 <= (4611686018427387904 : Int) /\ cx i * cx i + sx i * sx i <= 4611686018427387904 * 4611686018427387904 := by decide +kernel
 exact h
theorem tab_sq : ∀ i : Fin 40, nb (cx (i + 1) * cx (i + 1) - sx (i + 1) * sx (i + 1) - 4611686018427387904 * cx i) (2 * cx (i + 1) * sx (i + 1) - 4611686018427387904 * sx i) (3 * 4611686018427387904) := by
 have h : ∀ i : Fin 40, 0 <= (3 * 4611686018427387904 : Int) /\ (cx (i + 1) * cx (i + 1) - sx (i + 1) * sx (i + 1) - 4611686018427387904 * cx i) * (cx (i + 1) * cx (i + 1) - sx (i + 1) * sx (i + 1) - 4611686018427387904 * cx i) + (2 * cx (i + 1) * sx (i + 1) - 4611686018427387904 * sx i) * (2 * cx (i + 1) * sx (i + 1) - 4611686018427387904 * sx i) <= 3 * 4611686018427387904 * (3 * 4611686018427387904) := by decide +kernel
 exact h
theorem on_eq (x y c s : Int) : ∃ r1 r2 : Int, 0 <= r1 /\ r1 < 4611686018427387904 /\ 0 <= r2 /\ r2 < 4611686018427387904 /\ 4611686018427387904 * onX x y c s = x * c - y * s - r1 /\ 4611686018427387904 * onY x y c s = x * s + y * c - r2 := by
 refine ⟨(x * c + -y * s) % 4611686018427387904, (y * c + x * s) % 4611686018427387904, Int.emod_nonneg _ (by omega), Int.emod_lt_of_pos _ (by omega), Int.emod_nonneg _ (by omega), Int.emod_lt_of_pos _ (by omega), ?_, ?_⟩
 ·have e : -y * s = -(y * s) := by grind
  simp only [onX]; rw [e]; omega
 ·simp only [onY]; omega
theorem qt_on (q x y c s : Int) : ∃ r1 r2 : Int, nb r1 r2 (2 * 4611686018427387904) /\ 4611686018427387904 * (qt q (onX x y c s, onY x y c s)).1 = (qt q (x, y)).1 * c - (qt q (x, y)).2 * s - r1 /\
  4611686018427387904 * (qt q (onX x y c s, onY x y c s)).2 = (qt q (x, y)).1 * s + (qt q (x, y)).2 * c - r2 := by
 obtain ⟨r1, r2, a1, a2, a3, a4, a5, a6⟩ := on_eq x y c s
 unfold qt
 split
 ·exact ⟨r1, r2, nb_of (by omega) (by omega) (by omega) (by omega), a5, a6⟩
 ·split
  ·refine ⟨-r2, r1, nb_of (by omega) (by omega) (by omega) (by omega), ?_, ?_⟩ <;> simp only <;> grind
  ·split
   ·refine ⟨-r1, -r2, nb_of (by omega) (by omega) (by omega) (by omega), ?_, ?_⟩ <;> simp only <;> grind
   ·refine ⟨r2, -r1, nb_of (by omega) (by omega) (by omega) (by omega), ?_, ?_⟩ <;> simp only <;> grind
theorem half_idx (n : Nat) (J : Int) : J / 2 ^ (n + 1) = (J / 2) / 2 ^ n /\ (J % 2 ^ (n + 1)) / 2 = (J / 2) % 2 ^ n /\ (J % 2 ^ (n + 1)) % 2 = J % 2 := by
 have hp : (0 : Int) < 2 ^ n := Int.pow_pos (by decide)
 rw [Int.pow_succ]
 generalize (2 : Int) ^ n = P at *
 have h1 := Int.mul_ediv_add_emod J (P * 2)
 have h2 := Int.emod_nonneg J (show P * 2 ≠ 0 by omega)
 have h3 := Int.emod_lt_of_pos J (show 0 < P * 2 by omega)
 generalize J / (P * 2) = q at *
 generalize J % (P * 2) = r at *
 have e : P * 2 * q = 2 * (P * q) := by grind
 have h4 : J / 2 = P * q + r / 2 := by omega
 have h5 : J % 2 = r % 2 := by omega
 have h6 : (J / 2) / P = q /\ (J / 2) % P = r / 2 := (Int.ediv_emod_unique hp).2 ⟨by omega, by omega, by omega⟩
 exact ⟨h6.1.symm, h6.2.symm, h5.symm⟩
theorem rot_even {n : Nat} {J : Int} (h : J % 2 = 0) : rot (n + 1) J = rot n (J / 2) := by
 obtain ⟨h1, h2, h3⟩ := half_idx n J
 unfold rot
 rw [h1]
 congr 1
 show (if (J % 2 ^ (n + 1)) % 2 = 1 then _ else _) = _
 rw [if_neg (by omega), h2]
theorem rot_odd {n : Nat} {J : Int} (h : J % 2 = 1) : ∃ r1 r2 : Int, nb r1 r2 (2 * 4611686018427387904) /\ 4611686018427387904 * (rot (n + 1) J).1 = (rot n (J / 2)).1 * cx (n + 1) - (rot n (J / 2)).2 * sx (n + 1) - r1 /\
  4611686018427387904 * (rot (n + 1) J).2 = (rot n (J / 2)).1 * sx (n + 1) + (rot n (J / 2)).2 * cx (n + 1) - r2 := by
 obtain ⟨h1, h2, h3⟩ := half_idx n J
 unfold rot
 rw [h1]
 have e : pn (n + 1) (J % 2 ^ (n + 1)) = (onX (pn n ((J / 2) % 2 ^ n)).1 (pn n ((J / 2) % 2 ^ n)).2 (cx (n + 1)) (sx (n + 1)), onY (pn n ((J / 2) % 2 ^ n)).1 (pn n ((J / 2) % 2 ^ n)).2 (cx (n + 1)) (sx (n + 1))) := by
  show (if (J % 2 ^ (n + 1)) % 2 = 1 then _ else _) = _
  rw [if_pos (by omega), h2]
 rw [e]
 exact qt_on _ _ _ _ _
theorem rot_zero (J : Int) : rot 0 J = qt J (4611686018427387904, 0) := by
 unfold rot
 rw [show J / 2 ^ 0 = J by simp]
 rfl
theorem rot_zero_or (J : Int) : (J % 4 = 0 /\ rot 0 J = (4611686018427387904, 0)) \/ (J % 4 = 1 /\ rot 0 J = (0, 4611686018427387904)) \/ (J % 4 = 2 /\ rot 0 J = (-4611686018427387904, 0)) \/ (J % 4 = 3 /\ rot 0 J = (0, -4611686018427387904)) := by
 rw [rot_zero]
 have h : J % 4 = 0 \/ J % 4 = 1 \/ J % 4 = 2 \/ J % 4 = 3 := by omega
 rcases h with h | h | h | h <;> simp [qt, h]
theorem cx0 : cx 0 = 0 := rfl
theorem sx0 : sx 0 = 4611686018427387904 := rfl
theorem rot_nb : ∀ (n : Nat), n <= 40 -> ∀ J, nb (rot n J).1 (rot n J).2 (4611686018427387904 + 2 * n)
 | 0, _, J => by
  rcases rot_zero_or J with ⟨_, h⟩ | ⟨_, h⟩ | ⟨_, h⟩ | ⟨_, h⟩ <;> rw [h] <;> exact ⟨by decide, by decide⟩
 | n + 1, hn, J => by
  have ih := rot_nb n (by omega) (J / 2)
  rcases Int.emod_two_eq J with h | h
  ·rw [rot_even h]
   exact nb_mono ih (by omega)
  ·obtain ⟨r1, r2, hr, h1, h2⟩ := rot_odd (n := n) h
   have ht := tab_ok ⟨n + 1, by omega⟩
   have hm := nb_sub (nb_mul ih ht) hr
   simp only at hm
   rw [<- h1, <- h2] at hm
   refine nb_unscale (k := 4611686018427387904) (by omega) (by omega) (nb_mono hm ?_)
   omega
theorem alg_even {X Y c s X' Y' r1 r2 : Int} (h1 : 4611686018427387904 * X' = X * c - Y * s - r1) (h2 : 4611686018427387904 * Y' = X * s + Y * c - r2) (hr : nb r1 r2 (2 * 4611686018427387904)) :
  nb (X * c - Y * s - 4611686018427387904 * X') (X * s + Y * c - 4611686018427387904 * Y') (2 * 4611686018427387904) := by
 rw [h1, h2, show X * c - Y * s - (X * c - Y * s - r1) = r1 by omega, show X * s + Y * c - (X * s + Y * c - r2) = r2 by omega]
 exact hr
theorem alg_odd {X Y c s cn sn X1 Y1 X' Y' r1 r2 b : Int} (h1 : 4611686018427387904 * X1 = X * c - Y * s - r1) (h2 : 4611686018427387904 * Y1 = X * s + Y * c - r2) (hr : nb r1 r2 (2 * 4611686018427387904))
  (ht : nb c s 4611686018427387904) (hd : nb (c * c - s * s - 4611686018427387904 * cn) (2 * c * s - 4611686018427387904 * sn) (3 * 4611686018427387904)) (hX : nb X Y (4611686018427387904 + 80))
  (hb : nb (X * cn - Y * sn - 4611686018427387904 * X') (X * sn + Y * cn - 4611686018427387904 * Y') (b * 4611686018427387904)) (hb0 : 0 <= b) :
  nb (X1 * c - Y1 * s - 4611686018427387904 * X') (X1 * s + Y1 * c - 4611686018427387904 * Y') ((b + 6) * 4611686018427387904) := by
 have k1 := nb_scale (k := 4611686018427387904) (by omega) hb
 have k2 := nb_mul hX hd
 have k3 := nb_mul hr ht
 have k4 := nb_sub (nb_add k1 k2) k3
 refine nb_unscale (k := 4611686018427387904) (by omega) (by omega) ?_
 have e1 : 4611686018427387904 * (X1 * c - Y1 * s - 4611686018427387904 * X') = 4611686018427387904 * (X * cn - Y * sn - 4611686018427387904 * X') + (X * (c * c - s * s - 4611686018427387904 * cn) - Y * (2 * c * s - 4611686018427387904 * sn)) - (r1 * c - r2 * s) := by grind
 have e2 : 4611686018427387904 * (X1 * s + Y1 * c - 4611686018427387904 * Y') = 4611686018427387904 * (X * sn + Y * cn - 4611686018427387904 * Y') + (X * (2 * c * s - 4611686018427387904 * sn) + Y * (c * c - s * s - 4611686018427387904 * cn)) - (r1 * s + r2 * c) := by grind
 rw [e1, e2]
 exact nb_mono k4 (by omega)
theorem rot_step : ∀ (n : Nat), n <= 40 -> ∀ J, nb ((rot n J).1 * cx n - (rot n J).2 * sx n - 4611686018427387904 * (rot n (J + 1)).1) ((rot n J).1 * sx n + (rot n J).2 * cx n - 4611686018427387904 * (rot n (J + 1)).2) ((6 * n : Int) * 4611686018427387904)
 | 0, _, J => by
  rw [cx0, sx0]
  rcases rot_zero_or J with ⟨a, h⟩ | ⟨a, h⟩ | ⟨a, h⟩ | ⟨a, h⟩ <;> rcases rot_zero_or (J + 1) with ⟨b, k⟩ | ⟨b, k⟩ | ⟨b, k⟩ | ⟨b, k⟩ <;> first | (exfalso; omega) | (rw [h, k]; exact ⟨by decide, by decide⟩)
 | n + 1, hn, J => by
  rcases Int.emod_two_eq J with h | h
  ·obtain ⟨r1, r2, hr, h1, h2⟩ := rot_odd (n := n) (J := J + 1) (by omega)
   rw [show (J + 1) / 2 = J / 2 by omega] at h1 h2
   rw [rot_even h]
   exact nb_mono (alg_even h1 h2 hr) (by omega)
  ·obtain ⟨r1, r2, hr, h1, h2⟩ := rot_odd (n := n) h
   have ih := rot_step n (by omega) (J / 2)
   rw [rot_even (n := n) (J := J + 1) (by omega), show (J + 1) / 2 = J / 2 + 1 by omega]
   have := alg_odd h1 h2 hr (tab_ok ⟨n + 1, by omega⟩) (tab_sq ⟨n, by omega⟩) (nb_mono (rot_nb n (by omega) (J / 2)) (by omega)) ih (by omega)
   exact nb_mono this (by omega)
theorem alg_10 {X Y U V P Q X1 Y1 P1 Q1 c s r1 r2 q1 q2 e : Int} (h1 : 4611686018427387904 * X1 = X * c - Y * s - r1) (h2 : 4611686018427387904 * Y1 = X * s + Y * c - r2) (hr : nb r1 r2 (2 * 4611686018427387904))
  (g1 : 4611686018427387904 * P1 = P * c - Q * s - q1) (g2 : 4611686018427387904 * Q1 = P * s + Q * c - q2) (hq : nb q1 q2 (2 * 4611686018427387904)) (ht : nb c s 4611686018427387904) (hU : nb U V (4611686018427387904 + 80))
  (hb : nb (X * U - Y * V - 4611686018427387904 * P) (X * V + Y * U - 4611686018427387904 * Q) (e * 4611686018427387904)) (he : 0 <= e) :
  nb (X1 * U - Y1 * V - 4611686018427387904 * P1) (X1 * V + Y1 * U - 4611686018427387904 * Q1) ((e + 5) * 4611686018427387904) := by
 have k1 := nb_mul hb ht
 have k2 := nb_mul hr hU
 have k3 := nb_scale (k := 4611686018427387904) (by omega) hq
 have k4 := nb_add (nb_sub k1 k2) k3
 refine nb_unscale (k := 4611686018427387904) (by omega) (by omega) ?_
 have e1 : 4611686018427387904 * (X1 * U - Y1 * V - 4611686018427387904 * P1) = ((X * U - Y * V - 4611686018427387904 * P) * c - (X * V + Y * U - 4611686018427387904 * Q) * s) - (r1 * U - r2 * V) + 4611686018427387904 * q1 := by grind
 have e2 : 4611686018427387904 * (X1 * V + Y1 * U - 4611686018427387904 * Q1) = ((X * U - Y * V - 4611686018427387904 * P) * s + (X * V + Y * U - 4611686018427387904 * Q) * c) - (r1 * V + r2 * U) + 4611686018427387904 * q2 := by grind
 rw [e1, e2]
 exact nb_mono k4 (by omega)
theorem alg_11 {X Y U V P Q R S X1 Y1 U1 V1 c s cn sn r1 r2 q1 q2 e b : Int} (h1 : 4611686018427387904 * X1 = X * c - Y * s - r1) (h2 : 4611686018427387904 * Y1 = X * s + Y * c - r2) (hr : nb r1 r2 (2 * 4611686018427387904))
  (g1 : 4611686018427387904 * U1 = U * c - V * s - q1) (g2 : 4611686018427387904 * V1 = U * s + V * c - q2) (hq : nb q1 q2 (2 * 4611686018427387904)) (ht : nb c s 4611686018427387904)
  (hd : nb (c * c - s * s - 4611686018427387904 * cn) (2 * c * s - 4611686018427387904 * sn) (3 * 4611686018427387904)) (hn : nb cn sn 4611686018427387904)
  (hX : nb X Y (4611686018427387904 + 80)) (hU : nb U V (4611686018427387904 + 80))
  (hb : nb (X * U - Y * V - 4611686018427387904 * P) (X * V + Y * U - 4611686018427387904 * Q) (e * 4611686018427387904)) (he : 0 <= e)
  (hs : nb (P * cn - Q * sn - 4611686018427387904 * R) (P * sn + Q * cn - 4611686018427387904 * S) (b * 4611686018427387904)) (hb0 : 0 <= b) :
  nb (X1 * U1 - Y1 * V1 - 4611686018427387904 * R) (X1 * V1 + Y1 * U1 - 4611686018427387904 * S) ((e + b + 9) * 4611686018427387904) := by
 have k1 := nb_scale (k := 4611686018427387904 * 4611686018427387904) (by omega) hs
 have k2 := nb_scale (k := 4611686018427387904) (by omega) (nb_mul hb hn)
 have k3 := nb_mul (nb_mul hX hU) hd
 have k4 := nb_mul (nb_mul hr hU) ht
 have k5 := nb_mul (nb_mul hq hX) ht
 have k6 := nb_mul hr hq
 have k7 := nb_add (nb_sub (nb_sub (nb_add (nb_add k1 k2) k3) k4) k5) k6
 refine nb_unscale (k := 4611686018427387904 * 4611686018427387904) (by omega) (by omega) ?_
 have e1 : 4611686018427387904 * 4611686018427387904 * (X1 * U1 - Y1 * V1 - 4611686018427387904 * R) = (X * c - Y * s - r1) * (U * c - V * s - q1) - (X * s + Y * c - r2) * (U * s + V * c - q2) - 4611686018427387904 * 4611686018427387904 * 4611686018427387904 * R := by
  rw [<- h1, <- h2, <- g1, <- g2]; grind
 have e2 : 4611686018427387904 * 4611686018427387904 * (X1 * V1 + Y1 * U1 - 4611686018427387904 * S) = (X * c - Y * s - r1) * (U * s + V * c - q2) + (X * s + Y * c - r2) * (U * c - V * s - q1) - 4611686018427387904 * 4611686018427387904 * 4611686018427387904 * S := by
  rw [<- h1, <- h2, <- g1, <- g2]; grind
 clear h1 h2 g1 g2
 have f1 : 4611686018427387904 * 4611686018427387904 * (X1 * U1 - Y1 * V1 - 4611686018427387904 * R) = 4611686018427387904 * 4611686018427387904 * (P * cn - Q * sn - 4611686018427387904 * R) + 4611686018427387904 * ((X * U - Y * V - 4611686018427387904 * P) * cn - (X * V + Y * U - 4611686018427387904 * Q) * sn) + ((X * U - Y * V) * (c * c - s * s - 4611686018427387904 * cn) - (X * V + Y * U) * (2 * c * s - 4611686018427387904 * sn)) - ((r1 * U - r2 * V) * c - (r1 * V + r2 * U) * s) - ((q1 * X - q2 * Y) * c - (q1 * Y + q2 * X) * s) + (r1 * q1 - r2 * q2) := by
  rw [e1]; grind
 have f2 : 4611686018427387904 * 4611686018427387904 * (X1 * V1 + Y1 * U1 - 4611686018427387904 * S) = 4611686018427387904 * 4611686018427387904 * (P * sn + Q * cn - 4611686018427387904 * S) + 4611686018427387904 * ((X * U - Y * V - 4611686018427387904 * P) * sn + (X * V + Y * U - 4611686018427387904 * Q) * cn) + ((X * U - Y * V) * (2 * c * s - 4611686018427387904 * sn) + (X * V + Y * U) * (c * c - s * s - 4611686018427387904 * cn)) - ((r1 * U - r2 * V) * s + (r1 * V + r2 * U) * c) - ((q1 * X - q2 * Y) * s + (q1 * Y + q2 * X) * c) + (r1 * q2 + r2 * q1) := by
  rw [e2]; grind
 rw [f1, f2]
 exact nb_mono k7 (by omega)
def offs : Nat -> Int
 | 0 => 0
 | n + 1 => offs n + 6 * n + 9
theorem offs_nn : ∀ n, 0 <= offs n
 | 0 => Int.le_refl 0
 | n + 1 => by have := offs_nn n; simp only [offs]; omega
theorem rot_sum : ∀ (n : Nat), n <= 40 -> ∀ J K, nb ((rot n J).1 * (rot n K).1 - (rot n J).2 * (rot n K).2 - 4611686018427387904 * (rot n (J + K)).1) ((rot n J).1 * (rot n K).2 + (rot n J).2 * (rot n K).1 - 4611686018427387904 * (rot n (J + K)).2) (offs n * 4611686018427387904)
 | 0, _, J, K => by
  rcases rot_zero_or J with ⟨a, h⟩ | ⟨a, h⟩ | ⟨a, h⟩ | ⟨a, h⟩ <;> rcases rot_zero_or K with ⟨b, k⟩ | ⟨b, k⟩ | ⟨b, k⟩ | ⟨b, k⟩ <;> rcases rot_zero_or (J + K) with ⟨c, l⟩ | ⟨c, l⟩ | ⟨c, l⟩ | ⟨c, l⟩ <;> first | (exfalso; omega) | (rw [h, k, l]; exact ⟨by decide, by decide⟩)
 | n + 1, hn, J, K => by
  have ih := rot_sum n (by omega) (J / 2) (K / 2)
  have bJ := nb_mono (rot_nb n (by omega) (J / 2)) (show (4611686018427387904 : Int) + 2 * n <= 4611686018427387904 + 80 by omega)
  have bK := nb_mono (rot_nb n (by omega) (K / 2)) (show (4611686018427387904 : Int) + 2 * n <= 4611686018427387904 + 80 by omega)
  have o := offs_nn n
  have ht := tab_ok ⟨n + 1, by omega⟩
  simp only [offs]
  rcases Int.emod_two_eq J with h | h <;> rcases Int.emod_two_eq K with k | k
  ·rw [rot_even h, rot_even k, rot_even (J := J + K) (by omega), show (J + K) / 2 = J / 2 + K / 2 by omega]
   exact nb_mono ih (by omega)
  ·obtain ⟨r1, r2, hr, h1, h2⟩ := rot_odd (n := n) k
   obtain ⟨q1, q2, hq, g1, g2⟩ := rot_odd (n := n) (J := J + K) (by omega)
   rw [show (J + K) / 2 = J / 2 + K / 2 by omega] at g1 g2
   rw [rot_even h]
   have := alg_10 h1 h2 hr g1 g2 hq ht bJ (X := (rot n (K / 2)).1) (Y := (rot n (K / 2)).2) (U := (rot n (J / 2)).1) (V := (rot n (J / 2)).2) (e := offs n) (by
    have c1 : (rot n (K / 2)).1 * (rot n (J / 2)).1 - (rot n (K / 2)).2 * (rot n (J / 2)).2 = (rot n (J / 2)).1 * (rot n (K / 2)).1 - (rot n (J / 2)).2 * (rot n (K / 2)).2 := by grind
    have c2 : (rot n (K / 2)).1 * (rot n (J / 2)).2 + (rot n (K / 2)).2 * (rot n (J / 2)).1 = (rot n (J / 2)).1 * (rot n (K / 2)).2 + (rot n (J / 2)).2 * (rot n (K / 2)).1 := by grind
    rw [c1, c2]; exact ih) o
   have c1 : (rot n (J / 2)).1 * (rot (n + 1) K).1 - (rot n (J / 2)).2 * (rot (n + 1) K).2 = (rot (n + 1) K).1 * (rot n (J / 2)).1 - (rot (n + 1) K).2 * (rot n (J / 2)).2 := by grind
   have c2 : (rot n (J / 2)).1 * (rot (n + 1) K).2 + (rot n (J / 2)).2 * (rot (n + 1) K).1 = (rot (n + 1) K).1 * (rot n (J / 2)).2 + (rot (n + 1) K).2 * (rot n (J / 2)).1 := by grind
   rw [c1, c2]
   exact nb_mono this (by omega)
  ·obtain ⟨r1, r2, hr, h1, h2⟩ := rot_odd (n := n) h
   obtain ⟨q1, q2, hq, g1, g2⟩ := rot_odd (n := n) (J := J + K) (by omega)
   rw [show (J + K) / 2 = J / 2 + K / 2 by omega] at g1 g2
   rw [rot_even k]
   exact nb_mono (alg_10 h1 h2 hr g1 g2 hq ht bK ih o) (by omega)
  ·obtain ⟨r1, r2, hr, h1, h2⟩ := rot_odd (n := n) h
   obtain ⟨q1, q2, hq, g1, g2⟩ := rot_odd (n := n) k
   rw [rot_even (J := J + K) (by omega), show (J + K) / 2 = J / 2 + K / 2 + 1 by omega]
   have hs := rot_step n (by omega) (J / 2 + K / 2)
   exact nb_mono (alg_11 h1 h2 hr g1 g2 hq ht (tab_sq ⟨n, by omega⟩) (tab_ok ⟨n, by omega⟩) bJ bK ih o hs (by omega)) (by omega)
def RX (J : Int) : Int := (rot 40 J).1
def RY (J : Int) : Int := (rot 40 J).2
theorem R_nb (J : Int) : nb (RX J) (RY J) (4611686018427387904 + 80) := rot_nb 40 (Nat.le_refl _) J
theorem R_sum (J K : Int) : nb (RX J * RX K - RY J * RY K - 4611686018427387904 * RX (J + K)) (RX J * RY K + RY J * RX K - 4611686018427387904 * RY (J + K)) (5040 * 4611686018427387904) := rot_sum 40 (Nat.le_refl _) J K
theorem R_zero : RX 0 = 4611686018427387904 /\ RY 0 = 0 := by decide +kernel
theorem R_low (J : Int) : (4611686018427387904 - 5200) * (4611686018427387904 - 5200) <= RX J * RX J + RY J * RY J := by
 apply Classical.byContradiction
 intro h
 have h1 : nb (RX J) (RY J) (4611686018427387904 - 5200) := ⟨by omega, by omega⟩
 have h2 := nb_x (nb_mul h1 (R_nb (-J)))
 have h3 := nb_x (R_sum J (-J))
 rw [show J + -J = 0 by omega, R_zero.1] at h3
 omega
theorem nearS_off (n : Int) : -35184372088832 <= 70368744177664 * nearS n - n /\ 70368744177664 * nearS n - n <= 35184372088832 := by
 unfold nearS; omega
theorem R_def (J : Int) : rot 40 J = qt (J / 1099511627776) (pn 40 (J % 1099511627776)) := rfl
theorem qt_off (q x y x' y' : Int) {e : Int} (h1 : -e <= 70368744177664 * x' - x) (h2 : 70368744177664 * x' - x <= e) (h3 : -e <= 70368744177664 * y' - y) (h4 : 70368744177664 * y' - y <= e) :
  (-e <= 70368744177664 * (qt q (x', y')).1 - (qt q (x, y)).1 /\ 70368744177664 * (qt q (x', y')).1 - (qt q (x, y)).1 <= e) /\ (-e <= 70368744177664 * (qt q (x', y')).2 - (qt q (x, y)).2 /\ 70368744177664 * (qt q (x', y')).2 - (qt q (x, y)).2 <= e) := by
 unfold qt
 repeat' split
 all_goals (simp only; omega)
theorem dir_off (a : Int) : (-35184372088832 <= 70368744177664 * cosF a - RX (jOf a) /\ 70368744177664 * cosF a - RX (jOf a) <= 35184372088832) /\ (-35184372088832 <= 70368744177664 * sinF a - RY (jOf a) /\ 70368744177664 * sinF a - RY (jOf a) <= 35184372088832) := by
 have h1 := nearS_off (pn 40 (jOf a % 1099511627776)).1
 have h2 := nearS_off (pn 40 (jOf a % 1099511627776)).2
 unfold cosF sinF dirF RX RY
 rw [R_def]
 exact qt_off _ (pn 40 (jOf a % 1099511627776)).1 (pn 40 (jOf a % 1099511627776)).2 _ _ h1.1 h1.2 h2.1 h2.2
theorem E_nb {x y : Int} (h1 : -35184372088832 <= x) (h2 : x <= 35184372088832) (h3 : -35184372088832 <= y) (h4 : y <= 35184372088832) : nb x y 49758216191608 := by
 have a1 := mul_sq h1 h2
 have a2 := mul_sq h3 h4
 exact ⟨by omega, by omega⟩
theorem R_in (J : Int) : -4611686018427387984 <= RX J /\ RX J <= 4611686018427387984 /\ -4611686018427387984 <= RY J /\ RY J <= 4611686018427387984 := by
 have h := R_nb J
 have := nb_x h
 have := nb_y h
 omega
theorem circle (a : Int) : -65536 <= sinF a /\ sinF a <= 65536 /\ -65536 <= cosF a /\ cosF a <= 65536 /\ -92683 <= sinF a * sinF a + cosF a * cosF a - 4294967296 /\ sinF a * sinF a + cosF a * cosF a - 4294967296 <= 92683 := by
 obtain ⟨⟨h1, h2⟩, h3, h4⟩ := dir_off a
 have hr := R_in (jOf a)
 have hn := R_nb (jOf a)
 have hl := R_low (jOf a)
 generalize RX (jOf a) = X at *
 generalize RY (jOf a) = Y at *
 generalize hc : cosF a = c at *
 generalize hs : sinF a = s at *
 have he := E_nb h1 h2 h3 h4
 have d1 := nb_dot hn he
 have d2 := nb_dot hn (nb_neg he)
 have e1 : 4951760157141521099596496896 * (s * s + c * c) = (X * X + Y * Y) + 2 * (X * (70368744177664 * c - X) + Y * (70368744177664 * s - Y)) + ((70368744177664 * c - X) * (70368744177664 * c - X) + (70368744177664 * s - Y) * (70368744177664 * s - Y)) := by grind
 have e2 : X * -(70368744177664 * c - X) + Y * -(70368744177664 * s - Y) = -(X * (70368744177664 * c - X) + Y * (70368744177664 * s - Y)) := by grind
 rw [e2] at d2
 have n1 := hn.2
 have n2 := he.2
 have n3 := sq_nn (70368744177664 * c - X)
 have n4 := sq_nn (70368744177664 * s - Y)
 refine ⟨by omega, by omega, by omega, by omega, ?_⟩
 generalize X * (70368744177664 * c - X) + Y * (70368744177664 * s - Y) = D at *
 generalize (70368744177664 * c - X) * (70368744177664 * c - X) = E1 at *
 generalize (70368744177664 * s - Y) * (70368744177664 * s - Y) = E2 at *
 generalize X * X + Y * Y = N at *
 generalize s * s + c * c = M at *
 omega
theorem bk_eq (x y c s : Int) : ∃ r1 r2 : Int, 0 <= r1 /\ r1 < 4611686018427387904 /\ 0 <= r2 /\ r2 < 4611686018427387904 /\ 4611686018427387904 * bkX x y c s = x * c + y * s - r1 /\ 4611686018427387904 * bkY x y c s = y * c - x * s - r2 := by
 refine ⟨(x * c + y * s) % 4611686018427387904, (y * c + -x * s) % 4611686018427387904, Int.emod_nonneg _ (by omega), Int.emod_lt_of_pos _ (by omega), Int.emod_nonneg _ (by omega), Int.emod_lt_of_pos _ (by omega), ?_, ?_⟩
 ·simp only [bkX]; omega
 ·have e : -x * s = -(x * s) := by grind
  simp only [bkY]; rw [e]; omega
structure Bk (n : Nat) (vx vy x y O : Int) : Prop where
 o0 : 0 <= O
 o1 : O < 2 ^ n
 y0 : 0 <= y
 len : nb x y (3300000000000000000 + 2 * n)
 at_ : nb (vx * (rot n O).1 + vy * (rot n O).2 - 4611686018427387904 * x) (vy * (rot n O).1 - vx * (rot n O).2 - 4611686018427387904 * y) ((4 * n : Int) * 4611686018427387904)
 up : y * cx n - x * sx n <= (5 * n : Int) * 4611686018427387904
theorem alg_back {vx vy A B x y x' y' A' B' c s r1 r2 q1 q2 e : Int} (h1 : 4611686018427387904 * x' = x * c + y * s - r1) (h2 : 4611686018427387904 * y' = y * c - x * s - r2) (hr : nb r1 r2 (2 * 4611686018427387904))
  (g1 : 4611686018427387904 * A' = A * c - B * s - q1) (g2 : 4611686018427387904 * B' = A * s + B * c - q2) (hq : nb q1 q2 (2 * 4611686018427387904)) (ht : nb c s 4611686018427387904) (hv : nb vx vy 3300000000000000000)
  (hb : nb (vx * A + vy * B - 4611686018427387904 * x) (vy * A - vx * B - 4611686018427387904 * y) (e * 4611686018427387904)) (he : 0 <= e) :
  nb (vx * A' + vy * B' - 4611686018427387904 * x') (vy * A' - vx * B' - 4611686018427387904 * y') ((e + 4) * 4611686018427387904) := by
 have k1 := nb_mul hb (nb_conj ht)
 have k2 := nb_scale (k := 4611686018427387904) (by omega) hr
 have k3 := nb_mul hv (nb_conj hq)
 have k4 := nb_add (nb_sub k1 k3) k2
 refine nb_unscale (k := 4611686018427387904) (by omega) (by omega) ?_
 have e1 : 4611686018427387904 * (vx * A' + vy * B' - 4611686018427387904 * x') = ((vx * A + vy * B - 4611686018427387904 * x) * c - (vy * A - vx * B - 4611686018427387904 * y) * -s) - (vx * q1 - vy * -q2) + 4611686018427387904 * r1 := by grind
 have e2 : 4611686018427387904 * (vy * A' - vx * B' - 4611686018427387904 * y') = ((vx * A + vy * B - 4611686018427387904 * x) * -s + (vy * A - vx * B - 4611686018427387904 * y) * c) - (vx * -q2 + vy * q1) + 4611686018427387904 * r2 := by grind
 rw [e1, e2]
 exact nb_mono k4 (by omega)
theorem alg_up {x y x' y' c s cn sn r1 r2 z : Int} (h1 : 4611686018427387904 * x' = x * c + y * s - r1) (h2 : 4611686018427387904 * y' = y * c - x * s - r2) (hr : nb r1 r2 (2 * 4611686018427387904)) (ht : nb c s 4611686018427387904)
  (hd : nb (c * c - s * s - 4611686018427387904 * cn) (2 * c * s - 4611686018427387904 * sn) (3 * 4611686018427387904)) (hx : nb x y (3300000000000000000 + 80))
  (hz : y * cn - x * sn <= z * 4611686018427387904) : y' * c - x' * s <= (z + 5) * 4611686018427387904 := by
 have k2 := nb_y (nb_mul hx (nb_conj hd))
 have k3 := nb_y (nb_mul hr (nb_conj ht))
 have e1 : 4611686018427387904 * (y' * c - x' * s) = 4611686018427387904 * (y * cn - x * sn) + (x * -(2 * c * s - 4611686018427387904 * sn) + y * (c * c - s * s - 4611686018427387904 * cn)) - (r1 * -s + r2 * c) := by grind
 generalize y' * c - x' * s = g at *
 generalize y * cn - x * sn = g1 at *
 generalize x * -(2 * c * s - 4611686018427387904 * sn) + y * (c * c - s * s - 4611686018427387904 * cn) = g2 at *
 generalize r1 * -s + r2 * c = g3 at *
 omega
theorem bk_ok {vx vy : Int} (hx : 0 < vx) (hy : 0 <= vy) (hv : nb vx vy 3300000000000000000) : ∀ n : Nat, n <= 40 -> Bk n vx vy (bk vx vy n).1 (bk vx vy n).2.1 (bk vx vy n).2.2
 | 0, _ => by
  refine ⟨Int.le_refl 0, by simp [bk], hy, nb_mono hv (by omega), ?_, ?_⟩
  ·have e : rot 0 0 = (4611686018427387904, 0) := by decide
   simp only [bk, e]
   rw [show vx * 4611686018427387904 + vy * 0 - 4611686018427387904 * vx = 0 by omega, show vy * 4611686018427387904 - vx * 0 - 4611686018427387904 * vy = 0 by omega]
   exact ⟨by decide, by decide⟩
  ·simp only [bk, cx0, sx0]; omega
 | n + 1, hn => by
  obtain ⟨h1, h2, h3, h4, h5, h6⟩ := bk_ok hx hy hv n (by omega)
  simp only [bk]
  generalize (bk vx vy n).1 = x at *
  generalize (bk vx vy n).2.1 = y at *
  generalize (bk vx vy n).2.2 = O at *
  have ht := tab_ok ⟨n + 1, by omega⟩
  have hd := tab_sq ⟨n, by omega⟩
  simp only at ht hd
  obtain ⟨r1, r2, a1, a2, a3, a4, a5, a6⟩ := bk_eq x y (cx (n + 1)) (sx (n + 1))
  have hr : nb r1 r2 (2 * 4611686018427387904) := nb_of (by omega) (by omega) (by omega) (by omega)
  split
  ·rename_i hb
   obtain ⟨q1, q2, hq, b1, b2⟩ := rot_odd (n := n) (J := 2 * O + 1) (by omega)
   rw [show (2 * O + 1) / 2 = O by omega] at b1 b2
   refine ⟨by simp only; omega, by simp only; rw [Int.pow_succ]; omega, hb, ?_, ?_, ?_⟩
   ·have k := nb_sub (nb_mul h4 (nb_conj ht)) hr
    have e1 : x * cx (n + 1) - y * -sx (n + 1) - r1 = 4611686018427387904 * bkX x y (cx (n + 1)) (sx (n + 1)) := by rw [a5]; grind
    have e2 : x * -sx (n + 1) + y * cx (n + 1) - r2 = 4611686018427387904 * bkY x y (cx (n + 1)) (sx (n + 1)) := by rw [a6]; grind
    rw [e1, e2] at k
    exact nb_unscale (k := 4611686018427387904) (by omega) (by omega) (nb_mono k (by omega))
   ·exact nb_mono (alg_back a5 a6 hr b1 b2 hq ht hv h5 (by omega)) (by omega)
   ·have := alg_up a5 a6 hr ht hd (nb_mono h4 (by omega)) h6
    simp only; omega
  ·rename_i hb
   refine ⟨by simp only; omega, by simp only; rw [Int.pow_succ]; omega, h3, nb_mono h4 (by omega), ?_, ?_⟩
   ·simp only
    rw [rot_even (by omega), show 2 * O / 2 = O by omega]
    exact nb_mono h5 (by omega)
   ·simp only; omega
theorem log2_in {m : Int} (h0 : 1 <= m) : (2 : Int) ^ Nat.log2 m.toNat <= m /\ m < 2 * 2 ^ Nat.log2 m.toNat := by
 have h : m.toNat ≠ 0 := by omega
 have a := Nat.log2_self_le h
 have b := @Nat.lt_log2_self m.toNat
 have e : ((2 ^ Nat.log2 m.toNat : Nat) : Int) = (2 : Int) ^ Nat.log2 m.toNat := by simp
 rw [Nat.pow_succ] at b
 rw [<- e]
 omega
theorem pow_sub60 {k : Nat} (h : k <= 60) : (2 : Int) ^ k * 2 ^ (60 - k) = 1152921504606846976 := by
 rw [<- Int.pow_add, Nat.add_sub_cancel' h]; rfl
theorem log2_le {m : Int} (h0 : 1 <= m) (h1 : m <= 2147483648) : Nat.log2 m.toNat <= 31 := by
 have : Nat.log2 m.toNat < 32 := (Nat.log2_lt (by omega)).2 (by omega)
 omega
theorem up_in {m : Int} (h0 : 1 <= m) (h1 : m <= 2147483648) : 1152921504606846976 <= m * 2 ^ upN m /\ m * 2 ^ upN m <= 2305843009213693951 /\ (0 : Int) < 2 ^ upN m := by
 have a := log2_in h0
 have b := log2_le h0 h1
 have c := pow_sub60 (k := Nat.log2 m.toNat) (by omega)
 have hp : (0 : Int) < 2 ^ upN m := Int.pow_pos (by decide)
 unfold upN at *
 have d1 := Int.mul_le_mul_of_nonneg_right a.1 (Int.le_of_lt hp)
 have d2 := Int.mul_lt_mul_of_pos_right a.2 hp
 rw [Int.mul_assoc, c] at d2
 rw [c] at d1
 omega
theorem scaled {X Y : Int} (h0 : 0 < X) (h1 : 0 <= Y) (h2 : X <= 2147483648) (h3 : Y <= 2147483648) :
  0 < X * 2 ^ upN (max X Y) /\ 0 <= Y * 2 ^ upN (max X Y) /\ nb (X * 2 ^ upN (max X Y)) (Y * 2 ^ upN (max X Y)) 3300000000000000000 /\ (1152921504606846976 <= X * 2 ^ upN (max X Y) \/ 1152921504606846976 <= Y * 2 ^ upN (max X Y)) := by
 obtain ⟨a, b, c⟩ := up_in (m := max X Y) (by omega) (by omega)
 have hX : X <= max X Y := by omega
 have hY : Y <= max X Y := by omega
 have hm : max X Y = X \/ max X Y = Y := by omega
 generalize (2 : Int) ^ upN (max X Y) = p at *
 have e1 := Int.mul_le_mul_of_nonneg_right hX (Int.le_of_lt c)
 have e2 := Int.mul_le_mul_of_nonneg_right hY (Int.le_of_lt c)
 have f1 := Int.mul_pos h0 c
 have f2 := Int.mul_nonneg h1 (Int.le_of_lt c)
 refine ⟨f1, f2, ?_, ?_⟩
 ·have g1 := Int.mul_le_mul (show X * p <= 2305843009213693951 by omega) (show X * p <= 2305843009213693951 by omega) (by omega) (by omega)
  have g2 := Int.mul_le_mul (show Y * p <= 2305843009213693951 by omega) (show Y * p <= 2305843009213693951 by omega) (by omega) (by omega)
  exact ⟨by omega, by omega⟩
 ·rcases hm with hm | hm <;> rw [hm] at a
  ·exact Or.inl a
  ·exact Or.inr a
theorem p_crossed : P_crossed := by
 unfold P_crossed
 intro n l_n u_n n1 l_n1 u_n1 n2 l_n2 u_n2 n3 l_n3 u_n3 hpre
 replace hpre : (isI64 ((n * n1 + n2 * n3) / 4611686018427387904) /\ -half128 <= n * n1 + n2 * n3 /\ n * n1 + n2 * n3 < half128) := hpre
 refine ⟨trivial, ?_⟩
 intro n4 l_n4 u_n4 n5 l_n5 u_n5 h_wmul
 replace h_wmul : w128 n4 n5 = n * n1 := h_wmul
 refine ⟨trivial, ?_⟩
 intro n6 l_n6 u_n6 n7 l_n7 u_n7 h_wmul1
 replace h_wmul1 : w128 n6 n7 = n2 * n3 := h_wmul1
 refine ⟨trivial, ?_⟩
 intro n8 l_n8 u_n8 n9 l_n9 u_n9 n10 l_n10 u_n10 h_wadd
 replace h_wadd : tellW (w128 n4 n5 + w128 n6 n7) n8 n9 n10 := h_wadd
 rw [h_wmul, h_wmul1] at h_wadd
 have k1 := (h_wadd.1 ⟨hpre.2.1, hpre.2.2⟩).2
 intro b
 refine ⟨trivial, ?_⟩
 intro n11 l_n11 u_n11 n12 l_n12 u_n12 n13 l_n13 u_n13 n14 l_n14 u_n14 h_wfloor
 replace h_wfloor : (((4611686018427387904 : Int) < 1 -> n11 = 0 /\ n12 = 0 /\ n13 = 0 /\ n14 = 1) /\ (1 <= (4611686018427387904 : Int) -> n14 = 0 /\ isFloor (w128 n8 n9) (4611686018427387904 : Int) (w128 n11 n12) n13)) := h_wfloor
 have k2 := (h_wfloor.2 (by omega)).2
 rw [k1] at k2
 intro b1
 refine ⟨trivial, ?_⟩
 intro n15 l_n15 u_n15 t h_wint
 replace h_wint : isInt (w128 n11 n12) n15 (b2i t) := h_wint
 have k3 : w128 n11 n12 = (n * n1 + n2 * n3) / 4611686018427387904 := by
  obtain ⟨f1, f2, f3⟩ := k2
  omega
 rw [k3] at h_wint
 show n15 = (n * n1 + n2 * n3) / 4611686018427387904
 exact (h_wint.1 hpre.1).2
theorem cross_in {x y c s : Int} (h : nb x y 4611686018427387984) (k : nb c s 4611686018427387904) :
  (-21267647932558654341370000000000000000 <= x * c - y * s /\ x * c - y * s <= 21267647932558654341370000000000000000) /\ (-21267647932558654341370000000000000000 <= x * s + y * c /\ x * s + y * c <= 21267647932558654341370000000000000000) := by
 have := nb_mul h k
 have a := nb_x this
 have b := nb_y this
 omega
theorem fit_in {v : Int} (h : -21267647932558654341370000000000000000 <= v) (h' : v <= 21267647932558654341370000000000000000) : isI64 (v / 4611686018427387904) /\ -half128 <= v /\ v < half128 := by
 simp only [isI64, half128]; omega
theorem p_pon : P_pon := by
 unfold P_pon
 intro n l_n u_n n1 l_n1 u_n1 n2 l_n2 u_n2 n3 l_n3 u_n3 hpre
 replace hpre : (nb n n1 4611686018427387984 /\ nb n2 n3 4611686018427387904) := hpre
 intro b b1 b2 n4 e_n4 l_n4 u_n4
 simp only [wrap_u64, wrap_i64, wrap_i32, wrap_u32] at e_n4
 refine ⟨?_, ?_⟩
 ·show (isI64 ((n * n2 + n4 * n3) / 4611686018427387904) /\ -half128 <= n * n2 + n4 * n3 /\ n * n2 + n4 * n3 < half128)
  have hn1 := nb_y hpre.1
  have hc := cross_in hpre.1 hpre.2
  have e0 : n4 = -n1 := by omega
  have e : n * n2 + n4 * n3 = n * n2 - n1 * n3 := by rw [e0]; grind
  rw [e]
  exact fit_in hc.1.1 hc.1.2
 intro n5 l_n5 u_n5 h_crossed
 replace h_crossed : n5 = (n * n2 + n4 * n3) / 4611686018427387904 := h_crossed
 refine ⟨?_, ?_⟩
 ·show (isI64 ((n1 * n2 + n * n3) / 4611686018427387904) /\ -half128 <= n1 * n2 + n * n3 /\ n1 * n2 + n * n3 < half128)
  have hc := cross_in hpre.1 hpre.2
  have e : n1 * n2 + n * n3 = n * n3 + n1 * n2 := by omega
  rw [e]
  exact fit_in hc.2.1 hc.2.2
 intro n6 l_n6 u_n6 h_crossed1
 replace h_crossed1 : n6 = (n1 * n2 + n * n3) / 4611686018427387904 := h_crossed1
 show (n5 = onX n n1 n2 n3 /\ n6 = onY n n1 n2 n3)
 have hn1 := nb_y hpre.1
 have e0 : n4 = -n1 := by omega
 rw [e0] at h_crossed
 exact ⟨h_crossed, h_crossed1⟩
theorem p_pback : P_pback := by
 unfold P_pback
 intro n l_n u_n n1 l_n1 u_n1 n2 l_n2 u_n2 n3 l_n3 u_n3 hpre
 replace hpre : (nb n n1 4611686018427387984 /\ nb n2 n3 4611686018427387904) := hpre
 intro b b1 b2
 refine ⟨?_, ?_⟩
 ·show (isI64 ((n * n2 + n1 * n3) / 4611686018427387904) /\ -half128 <= n * n2 + n1 * n3 /\ n * n2 + n1 * n3 < half128)
  have hc := cross_in hpre.1 (nb_conj hpre.2)
  have e : n * n2 + n1 * n3 = n * n2 - n1 * -n3 := by grind
  rw [e]
  exact fit_in hc.1.1 hc.1.2
 intro n4 l_n4 u_n4 h_crossed
 replace h_crossed : n4 = (n * n2 + n1 * n3) / 4611686018427387904 := h_crossed
 intro n5 e_n5 l_n5 u_n5
 simp only [wrap_u64, wrap_i64, wrap_i32, wrap_u32] at e_n5
 refine ⟨?_, ?_⟩
 ·show (isI64 ((n1 * n2 + n5 * n3) / 4611686018427387904) /\ -half128 <= n1 * n2 + n5 * n3 /\ n1 * n2 + n5 * n3 < half128)
  have hn := nb_x hpre.1
  have hc := cross_in hpre.1 (nb_conj hpre.2)
  have e0 : n5 = -n := by omega
  have e : n1 * n2 + (-n) * n3 = n * -n3 + n1 * n2 := by grind
  rw [e0, e]
  exact fit_in hc.2.1 hc.2.2
 intro n6 l_n6 u_n6 h_crossed1
 replace h_crossed1 : n6 = (n1 * n2 + n5 * n3) / 4611686018427387904 := h_crossed1
 show (n4 = bkX n n1 n2 n3 /\ n6 = bkY n n1 n2 n3)
 have hn := nb_x hpre.1
 refine ⟨h_crossed, ?_⟩
 rw [h_crossed1]
 unfold bkY
 congr 3
 omega
theorem tmod_ok (n : Int) : n.tdiv 5898240 * 5898240 + n.tmod 5898240 = n /\ (0 <= n -> 0 <= n.tmod 5898240) /\ (n <= 0 -> n.tmod 5898240 <= 0) /\ -5898240 < n.tmod 5898240 /\ n.tmod 5898240 < 5898240 := by
 have h := Int.mul_tdiv_add_tmod n 5898240
 rcases Int.le_total 0 n with z | z
 ·rw [Int.tdiv_eq_ediv_of_nonneg z, Int.tmod_eq_emod_of_nonneg z] at *
  omega
 ·obtain ⟨m, rfl⟩ : ∃ m, n = -m := ⟨-n, by omega⟩
  rw [Int.neg_tdiv, Int.neg_tmod, Int.tdiv_eq_ediv_of_nonneg (show 0 <= m by omega), Int.tmod_eq_emod_of_nonneg (show 0 <= m by omega)] at *
  omega
theorem and3 (x : Int) : bitsI .and .i64 x 3 = x % 4 := by
 have h : (BitVec.ofInt 64 x &&& 3#64) = BitVec.ofNat 64 (x % 4).toNat := by
  have e3 : (3#64 : BitVec 64) = BitVec.ofInt 64 3 := rfl
  apply BitVec.eq_of_toNat_eq
  rw [BitVec.toNat_and]
  have : (3#64 : BitVec 64).toNat = 2 ^ 2 - 1 := rfl
  rw [this, Nat.and_two_pow_sub_one_eq_mod, BitVec.toNat_ofInt, BitVec.toNat_ofNat]
  omega
 have e : bitsI .and .i64 x 3 = IntKind.wrap .i64 (((BitVec.ofInt 64 x &&& 3#64).toNat : Nat) : Int) := rfl
 rw [e, h, wrap_i64, BitVec.toNat_ofNat]
 omega
theorem p_quarters : P_quarters := by
 unfold P_quarters
 intro n l_n u_n hpre
 replace hpre : True := hpre
 obtain ⟨t1, t2, t3, t4, t5⟩ := tmod_ok n
 intro n1 e_n1 l_n1 u_n1
 refine ⟨fun c0 => ?_, fun c0 => ?_⟩
 ·intro n2 e_n2 l_n2 u_n2
  intro n3 e_n3 l_n3 u_n3
  have hq := and3 n2
  rw [hq] at e_n3
  intro n4 e_n4 l_n4 u_n4
  simp only [wrap_u64, wrap_i64, wrap_i32, wrap_u32] at e_n4
  refine ⟨by omega, ?_⟩
  refine ⟨by omega, ?_⟩
  intro n5 e_n5 l_n5 u_n5
  refine ⟨by omega, ?_⟩
  intro n6 e_n6 l_n6 u_n6
  show (n5 = n / 5898240 % 4 /\ n6 = n % 5898240 * 1099511627776 / 5898240)
  have hk : n2 = n / 5898240 := by omega
  have hr : n - n2 * 5898240 = n % 5898240 := by omega
  rw [hr] at e_n4
  rw [hk] at e_n3
  have h0 : 0 <= n % 5898240 /\ n % 5898240 < 5898240 := by omega
  clear hr t1 t2 t3 t4 t5 c0
  generalize n % 5898240 = r at *
  generalize n / 5898240 = k at *
  have m1 : r % 18446744073709551616 = r := by omega
  have m2 : r * 1099511627776 % 18446744073709551616 = r * 1099511627776 := by omega
  rw [m1, m2] at e_n4
  clear m1 m2
  constructor <;> omega
 ·intro n2 e_n2 l_n2 u_n2
  have hq := and3 n1
  rw [hq] at e_n2
  intro n3 e_n3 l_n3 u_n3
  simp only [wrap_u64, wrap_i64, wrap_i32, wrap_u32] at e_n3
  refine ⟨by omega, ?_⟩
  refine ⟨by omega, ?_⟩
  intro n4 e_n4 l_n4 u_n4
  refine ⟨by omega, ?_⟩
  intro n5 e_n5 l_n5 u_n5
  show (n4 = n / 5898240 % 4 /\ n5 = n % 5898240 * 1099511627776 / 5898240)
  have hk : n1 = n / 5898240 := by omega
  have hr : n - n1 * 5898240 = n % 5898240 := by omega
  rw [hr] at e_n3
  rw [hk] at e_n2
  have h0 : 0 <= n % 5898240 /\ n % 5898240 < 5898240 := by omega
  clear hr t1 t2 t3 t4 t5 c0
  generalize n % 5898240 = r at *
  generalize n / 5898240 = k at *
  have m1 : r % 18446744073709551616 = r := by omega
  have m2 : r * 1099511627776 % 18446744073709551616 = r * 1099511627776 := by omega
  rw [m1, m2] at e_n3
  clear m1 m2
  constructor <;> omega
theorem p_anear : P_anear := by
 unfold P_anear
 intro n l_n u_n hpre
 replace hpre : True := hpre
 intro n1 e_n1 l_n1 u_n1
 show n1 = nearS n
 exact e_n1
theorem shr_u64 {l i : Int} (h0 : 0 <= i) (h1 : i <= 64) : shI .shr .u64 l i = l / 2 ^ i.toNat := by
 simp only [shI, IntKind.bits]
 rw [show Min.min i.toNat 64 = i.toNat by omega]
 exact Int.fdiv_eq_ediv_of_nonneg _ (Int.le_of_lt (Int.pow_pos (by decide)))
theorem pn_next {n : Nat} {L : Int} (hn : n < 40) : pn (n + 1) (L / 2 ^ (40 - (n + 1))) = if (L / 2 ^ (40 - (n + 1))) % 2 = 1 then (onX (pn n (L / 2 ^ (40 - n))).1 (pn n (L / 2 ^ (40 - n))).2 (cx (n + 1)) (sx (n + 1)), onY (pn n (L / 2 ^ (40 - n))).1 (pn n (L / 2 ^ (40 - n))).2 (cx (n + 1)) (sx (n + 1))) else pn n (L / 2 ^ (40 - n)) := by
 have e : L / 2 ^ (40 - (n + 1)) / 2 = L / 2 ^ (40 - n) := by
  rw [Int.ediv_ediv_of_nonneg (Int.le_of_lt (Int.pow_pos (by decide))), show 40 - n = (40 - (n + 1)) + 1 by omega, Int.pow_succ]
 rw [<- e]
 rfl
theorem pn_in (n : Nat) (hn : n <= 40) (L : Int) : nb (pn n L).1 (pn n L).2 4611686018427387984 := by
 have key : ∀ (n : Nat), n <= 40 -> ∀ L, nb (pn n L).1 (pn n L).2 (4611686018427387904 + 2 * n) := by
  intro n
  induction n with
  | zero => intro _ L; exact ⟨by omega, by show (4611686018427387904 : Int) * 4611686018427387904 + 0 * 0 <= _; simp⟩
  | succ n ih =>
   intro hn L
   have e : pn (n + 1) L = if L % 2 = 1 then (onX (pn n (L / 2)).1 (pn n (L / 2)).2 (cx (n + 1)) (sx (n + 1)), onY (pn n (L / 2)).1 (pn n (L / 2)).2 (cx (n + 1)) (sx (n + 1))) else pn n (L / 2) := rfl
   rw [e]
   have i := ih (by omega) (L / 2)
   split
   ·obtain ⟨r1, r2, a1, a2, a3, a4, a5, a6⟩ := on_eq (pn n (L / 2)).1 (pn n (L / 2)).2 (cx (n + 1)) (sx (n + 1))
    have hr : nb r1 r2 (2 * 4611686018427387904) := nb_of (by omega) (by omega) (by omega) (by omega)
    have hm := nb_sub (nb_mul i (tab_ok ⟨n + 1, by omega⟩)) hr
    simp only at hm
    rw [<- a5, <- a6] at hm
    refine nb_unscale (k := 4611686018427387904) (by omega) (by omega) (nb_mono hm ?_)
    omega
   ·exact nb_mono i (by omega)
 exact nb_mono (key n hn L) (by omega)
theorem dir_step {l i x y b c s : Int} (h1 : 1 <= i) (h2 : i < 41) (hx : x = (pn (i - 1).toNat (l / 2 ^ (41 - i).toNat)).1) (hy : y = (pn (i - 1).toNat (l / 2 ^ (41 - i).toNat)).2) (hb : b = shI .shr .u64 l (40 - i)) (hc : c = tX.getD i.toNat 0) (hs : s = tY.getD i.toNat 0) :
  (nb x y 4611686018427387984 /\ nb c s 4611686018427387904) /\ (b % 2 = 1 -> (onX x y c s = (pn i.toNat (l / 2 ^ (40 - i).toNat)).1 /\ onY x y c s = (pn i.toNat (l / 2 ^ (40 - i).toNat)).2)) /\ (¬ b % 2 = 1 -> (x = (pn i.toNat (l / 2 ^ (40 - i).toNat)).1 /\ y = (pn i.toNat (l / 2 ^ (40 - i).toNat)).2)) := by
 rw [shr_u64 (by omega) (by omega)] at hb
 obtain ⟨n, hn⟩ : ∃ n : Nat, i = n + 1 := ⟨(i - 1).toNat, by omega⟩
 have e1 : (i - 1).toNat = n := by omega
 have e2 : i.toNat = n + 1 := by omega
 have e3 : (41 - i).toNat = 40 - n := by omega
 have e4 : (40 - i).toNat = 40 - (n + 1) := by omega
 rw [e1, e3] at hx hy
 rw [e2] at hc hs ⊢
 rw [e4] at hb ⊢
 have key := pn_next (n := n) (L := l) (by omega)
 refine ⟨⟨?_, ?_⟩, fun z => ?_, fun z => ?_⟩
 ·rw [hx, hy]; exact pn_in n (by omega) _
 ·rw [hc, hs]; exact tab_ok ⟨n + 1, by omega⟩
 ·rw [hb] at z
  rw [key, if_pos z, hx, hy, hc, hs]
  exact ⟨rfl, rfl⟩
 ·rw [hb] at z
  rw [key, if_neg z, hx, hy]
  exact ⟨rfl, rfl⟩
theorem dir_is {a q l : Int} (h1 : q = a / 5898240 % 4) (h2 : l = a % 5898240 * 1099511627776 / 5898240) : jOf a / 1099511627776 % 4 = q /\ jOf a % 1099511627776 = l := by
 have e : a * 1099511627776 = (a % 5898240) * 1099511627776 + (a / 5898240 * 1099511627776) * 5898240 := by
  have := Int.mul_ediv_add_emod a 5898240
  omega
 have j : jOf a = l + a / 5898240 * 1099511627776 := by
  unfold jOf
  rw [e, Int.add_mul_ediv_right _ _ (by omega), <- h2]
 have hl : 0 <= l /\ l < 1099511627776 := by
  have : 0 <= a % 5898240 /\ a % 5898240 < 5898240 := by omega
  generalize a % 5898240 = r at *
  omega
 rw [j, Int.add_mul_ediv_right _ _ (by omega), Int.add_mul_emod_self_right, show l / 1099511627776 = 0 by omega, show l % 1099511627776 = l by omega]
 omega
theorem dir_out {a q l c s : Int} (h1 : q = a / 5898240 % 4) (h2 : l = a % 5898240 * 1099511627776 / 5898240) (hc : c = nearS (pn 40 l).1) (hs : s = nearS (pn 40 l).2) :
  (q = 0 -> cosF a = c /\ sinF a = s) /\ (q = 1 -> cosF a = -s /\ sinF a = c) /\ (q = 2 -> cosF a = -c /\ sinF a = -s) /\ (q = 3 -> cosF a = s /\ sinF a = -c) := by
 obtain ⟨e1, e2⟩ := dir_is h1 h2
 unfold cosF sinF dirF
 rw [e2, <- hc, <- hs]
 unfold qt
 rw [e1]
 refine ⟨fun h => ?_, fun h => ?_, fun h => ?_, fun h => ?_⟩ <;> simp [h]
set_option maxHeartbeats 2000000 in
theorem p_direction : P_direction := by
 unfold P_direction
 intro n l_n u_n hpre
 replace hpre : True := hpre
 refine ⟨trivial, ?_⟩
 intro n1 l_n1 u_n1 n2 l_n2 u_n2 h_quarters
 replace h_quarters : (n1 = n / 5898240 % 4 /\ n2 = n % 5898240 * 1099511627776 / 5898240) := h_quarters
 refine ⟨trivial, ?_⟩
 intro h_made
 replace h_made : True := h_made
 intro b b1
 refine ⟨?_, ?_⟩
 ·show ((4611686018427387904 : Int) = (pn ((1 : Int) - 1).toNat (n2 / 2 ^ (41 - (1 : Int)).toNat)).1 /\ (0 : Int) = (pn ((1 : Int) - 1).toNat (n2 / 2 ^ (41 - (1 : Int)).toNat)).2)
  have hL : n2 / 2 ^ ((41 : Int) - 1).toNat = 0 := by
   show n2 / 2 ^ 40 = 0
   omega
  rw [hL]
  exact ⟨rfl, rfl⟩
 intro n3 l_n3 u_n3 n4 l_n4 u_n4 n5 l_n5 u_n5 hi_dir
 replace hi_dir : (n4 = (pn (n3 - 1).toNat (n2 / 2 ^ (41 - n3).toNat)).1 /\ n5 = (pn (n3 - 1).toNat (n2 / 2 ^ (41 - n3).toNat)).2) := hi_dir
 intro vs lv_vs
 refine ⟨fun c0 => ?_, fun c0 => ?_⟩
 ·refine ⟨by omega, ?_⟩
  intro n6 e_n6 l_n6 u_n6
  refine ⟨fun c1 => ?_, fun c1 => ?_⟩
  ·refine ⟨by omega, ?_⟩
   intro n7 e_n7 l_n7 u_n7 n8 e_n8 l_n8 u_n8
   refine ⟨?_, ?_⟩
   ·show (nb n4 n5 4611686018427387984 /\ nb n7 n8 4611686018427387904)
    have hd := dir_step (x := n4) (y := n5) l_n3 (by omega) hi_dir.1 hi_dir.2 rfl e_n7 e_n8
    exact hd.1
   intro n9 l_n9 u_n9 n10 l_n10 u_n10 h_pon
   replace h_pon : (n9 = onX n4 n5 n7 n8 /\ n10 = onY n4 n5 n7 n8) := h_pon
   have hd := dir_step (x := n4) (y := n5) l_n3 (by omega) hi_dir.1 hi_dir.2 rfl e_n7 e_n8
   rw [e_n6] at c1
   have h2 := hd.2.1 c1
   rw [h2.1, h2.2] at h_pon
   have h3 := pn_in n3.toNat (by omega) (n2 / 2 ^ (40 - n3).toNat)
   have h4 := nb_x h3
   have h5 := nb_y h3
   rw [<- h_pon.1] at h4
   rw [<- h_pon.2] at h5
   intro n11 e_n11 l_n11 u_n11
   refine ⟨by omega, ?_⟩
   intro n12 e_n12 l_n12 u_n12
   refine ⟨by omega, ?_⟩
   refine ⟨by omega, ?_⟩
   intro n13 e_n13 l_n13 u_n13
   refine ⟨by omega, ?_⟩
   refine ⟨by omega, ?_⟩
   intro n14 e_n14 l_n14 u_n14
   refine ⟨?_, ?_⟩
   ·show (n13 = (pn (n12 - 1).toNat (n2 / 2 ^ (41 - n12).toNat)).1 /\ n14 = (pn (n12 - 1).toNat (n2 / 2 ^ (41 - n12).toNat)).2)
    rw [show (n12 - 1).toNat = n3.toNat by omega, show (41 - n12).toNat = (40 - n3).toNat by omega, e_n13, e_n14]
    exact h_pon
   ·show (41 - n12).toNat < (41 - n3).toNat
    omega
  ·intro n7 e_n7 l_n7 u_n7
   refine ⟨by omega, ?_⟩
   intro n8 e_n8 l_n8 u_n8
   refine ⟨?_, ?_⟩
   ·show (n4 = (pn (n8 - 1).toNat (n2 / 2 ^ (41 - n8).toNat)).1 /\ n5 = (pn (n8 - 1).toNat (n2 / 2 ^ (41 - n8).toNat)).2)
    have hd := dir_step (c := tX.getD n3.toNat 0) (s := tY.getD n3.toNat 0) (x := n4) (y := n5) l_n3 (by omega) hi_dir.1 hi_dir.2 rfl rfl rfl
    rw [e_n6] at c1
    rw [show (n8 - 1).toNat = n3.toNat by omega, show (41 - n8).toNat = (40 - n3).toNat by omega]
    exact hd.2.2 c1
   ·show (41 - n8).toNat < (41 - n3).toNat
    omega
 ·refine ⟨trivial, ?_⟩
  intro n6 l_n6 u_n6 h_anear
  replace h_anear : n6 = nearS n4 := h_anear
  refine ⟨trivial, ?_⟩
  intro n7 l_n7 u_n7 h_anear1
  replace h_anear1 : n7 = nearS n5 := h_anear1
  have h41 : n3 = 41 := by omega
  rw [h41] at hi_dir
  replace hi_dir : n4 = (pn 40 (n2 / 2 ^ 0)).1 /\ n5 = (pn 40 (n2 / 2 ^ 0)).2 := hi_dir
  rw [show n2 / 2 ^ 0 = n2 by simp] at hi_dir
  have hci := circle n
  have hd := dir_out (c := n6) (s := n7) h_quarters.1 h_quarters.2 (by rw [h_anear, hi_dir.1]) (by rw [h_anear1, hi_dir.2])
  refine ⟨fun c1 => ?_, fun c1 => ?_⟩
  ·intro n8 e_n8 l_n8 u_n8
   refine ⟨fun c2 => ?_, fun c2 => ?_⟩
   ·intro n9 e_n9 l_n9 u_n9
    refine ⟨fun c3 => ?_, fun c3 => ?_⟩
    ·intro n10 e_n10 l_n10 u_n10
     refine ⟨by omega, ?_⟩
     refine ⟨by omega, ?_⟩
     intro n11 e_n11 l_n11 u_n11
     refine ⟨by omega, ?_⟩
     refine ⟨by omega, ?_⟩
     intro n12 e_n12 l_n12 u_n12
     show (n11 = cosF n /\ n12 = sinF n)
     omega
    ·refine ⟨by omega, ?_⟩
     refine ⟨by omega, ?_⟩
     intro n10 e_n10 l_n10 u_n10
     refine ⟨by omega, ?_⟩
     refine ⟨by omega, ?_⟩
     intro n11 e_n11 l_n11 u_n11
     show (n10 = cosF n /\ n11 = sinF n)
     omega
   ·refine ⟨by omega, ?_⟩
    refine ⟨by omega, ?_⟩
    intro n9 e_n9 l_n9 u_n9
    refine ⟨by omega, ?_⟩
    refine ⟨by omega, ?_⟩
    intro n10 e_n10 l_n10 u_n10
    show (n9 = cosF n /\ n10 = sinF n)
    omega
  ·refine ⟨by omega, ?_⟩
   refine ⟨by omega, ?_⟩
   intro n8 e_n8 l_n8 u_n8
   refine ⟨by omega, ?_⟩
   refine ⟨by omega, ?_⟩
   intro n9 e_n9 l_n9 u_n9
   show (n8 = cosF n /\ n9 = sinF n)
   omega
theorem p_asin : P_asin := by
 unfold P_asin
 intro n l_n u_n hpre
 replace hpre : True := hpre
 refine ⟨trivial, ?_⟩
 intro n1 l_n1 u_n1 n2 l_n2 u_n2 h_direction
 replace h_direction : (n1 = cosF n /\ n2 = sinF n) := h_direction
 show n2 = sinF n
 exact h_direction.2
theorem p_acos : P_acos := by
 unfold P_acos
 intro n l_n u_n hpre
 replace hpre : True := hpre
 refine ⟨trivial, ?_⟩
 intro n1 l_n1 u_n1 n2 l_n2 u_n2 h_direction
 replace h_direction : (n1 = cosF n /\ n2 = sinF n) := h_direction
 show n1 = cosF n
 exact h_direction.1
theorem p_afirst : P_afirst := by
 unfold P_afirst
 intro n l_n u_n n1 l_n1 u_n1 hpre
 replace hpre : (¬ (n = 0 /\ n1 = 0) /\ -2147483648 <= n /\ n <= 2147483648 /\ -2147483648 <= n1 /\ n1 <= 2147483648) := hpre
 intro b
 refine ⟨fun c0 => ?_, fun c0 => ?_⟩
 ·refine ⟨fun c1 => ?_, fun c1 => ?_⟩
  ·refine ⟨by omega, ?_⟩
   refine ⟨by omega, ?_⟩
   intro n2 e_n2 l_n2 u_n2
   refine ⟨by omega, ?_⟩
   refine ⟨by omega, ?_⟩
   intro n3 e_n3 l_n3 u_n3
   show ((0 : Int) = fQ n1 n /\ n2 = fX n1 n /\ n3 = fY n1 n)
   refine ⟨?_, ?_, ?_⟩
   ·unfold fQ; (repeat' split) <;> omega
   ·unfold fX; (repeat' split) <;> omega
   ·unfold fY; (repeat' split) <;> omega
  ·refine ⟨fun c2 => ?_, fun c2 => ?_⟩
   ·intro n2 e_n2 l_n2 u_n2
    simp only [wrap_u64, wrap_i64, wrap_i32, wrap_u32, wrap_u8] at e_n2
    refine ⟨by omega, ?_⟩
    refine ⟨by omega, ?_⟩
    intro n3 e_n3 l_n3 u_n3
    refine ⟨by omega, ?_⟩
    refine ⟨by omega, ?_⟩
    intro n4 e_n4 l_n4 u_n4
    show ((1 : Int) = fQ n1 n /\ n3 = fX n1 n /\ n4 = fY n1 n)
    refine ⟨?_, ?_, ?_⟩
    ·unfold fQ; (repeat' split) <;> omega
    ·unfold fX; (repeat' split) <;> omega
    ·unfold fY; (repeat' split) <;> omega
   ·refine ⟨fun c3 => ?_, fun c3 => ?_⟩
    ·intro n2 e_n2 l_n2 u_n2
     simp only [wrap_u64, wrap_i64, wrap_i32, wrap_u32, wrap_u8] at e_n2
     intro n3 e_n3 l_n3 u_n3
     simp only [wrap_u64, wrap_i64, wrap_i32, wrap_u32, wrap_u8] at e_n3
     refine ⟨by omega, ?_⟩
     refine ⟨by omega, ?_⟩
     intro n4 e_n4 l_n4 u_n4
     refine ⟨by omega, ?_⟩
     refine ⟨by omega, ?_⟩
     intro n5 e_n5 l_n5 u_n5
     show ((2 : Int) = fQ n1 n /\ n4 = fX n1 n /\ n5 = fY n1 n)
     refine ⟨?_, ?_, ?_⟩
     ·unfold fQ; (repeat' split) <;> omega
     ·unfold fX; (repeat' split) <;> omega
     ·unfold fY; (repeat' split) <;> omega
    ·intro n2 e_n2 l_n2 u_n2
     simp only [wrap_u64, wrap_i64, wrap_i32, wrap_u32, wrap_u8] at e_n2
     refine ⟨by omega, ?_⟩
     refine ⟨by omega, ?_⟩
     intro n3 e_n3 l_n3 u_n3
     refine ⟨by omega, ?_⟩
     refine ⟨by omega, ?_⟩
     intro n4 e_n4 l_n4 u_n4
     show ((3 : Int) = fQ n1 n /\ n3 = fX n1 n /\ n4 = fY n1 n)
     refine ⟨?_, ?_, ?_⟩
     ·unfold fQ; (repeat' split) <;> omega
     ·unfold fX; (repeat' split) <;> omega
     ·unfold fY; (repeat' split) <;> omega
 ·refine ⟨fun c1 => ?_, fun c1 => ?_⟩
  ·intro n2 e_n2 l_n2 u_n2
   simp only [wrap_u64, wrap_i64, wrap_i32, wrap_u32, wrap_u8] at e_n2
   refine ⟨by omega, ?_⟩
   refine ⟨by omega, ?_⟩
   intro n3 e_n3 l_n3 u_n3
   refine ⟨by omega, ?_⟩
   refine ⟨by omega, ?_⟩
   intro n4 e_n4 l_n4 u_n4
   show ((1 : Int) = fQ n1 n /\ n3 = fX n1 n /\ n4 = fY n1 n)
   refine ⟨?_, ?_, ?_⟩
   ·unfold fQ; (repeat' split) <;> omega
   ·unfold fX; (repeat' split) <;> omega
   ·unfold fY; (repeat' split) <;> omega
  ·refine ⟨fun c2 => ?_, fun c2 => ?_⟩
   ·intro n2 e_n2 l_n2 u_n2
    simp only [wrap_u64, wrap_i64, wrap_i32, wrap_u32, wrap_u8] at e_n2
    intro n3 e_n3 l_n3 u_n3
    simp only [wrap_u64, wrap_i64, wrap_i32, wrap_u32, wrap_u8] at e_n3
    refine ⟨by omega, ?_⟩
    refine ⟨by omega, ?_⟩
    intro n4 e_n4 l_n4 u_n4
    refine ⟨by omega, ?_⟩
    refine ⟨by omega, ?_⟩
    intro n5 e_n5 l_n5 u_n5
    show ((2 : Int) = fQ n1 n /\ n4 = fX n1 n /\ n5 = fY n1 n)
    refine ⟨?_, ?_, ?_⟩
    ·unfold fQ; (repeat' split) <;> omega
    ·unfold fX; (repeat' split) <;> omega
    ·unfold fY; (repeat' split) <;> omega
   ·intro n2 e_n2 l_n2 u_n2
    simp only [wrap_u64, wrap_i64, wrap_i32, wrap_u32, wrap_u8] at e_n2
    refine ⟨by omega, ?_⟩
    refine ⟨by omega, ?_⟩
    intro n3 e_n3 l_n3 u_n3
    refine ⟨by omega, ?_⟩
    refine ⟨by omega, ?_⟩
    intro n4 e_n4 l_n4 u_n4
    show ((3 : Int) = fQ n1 n /\ n3 = fX n1 n /\ n4 = fY n1 n)
    refine ⟨?_, ?_, ?_⟩
    ·unfold fQ; (repeat' split) <;> omega
    ·unfold fX; (repeat' split) <;> omega
    ·unfold fY; (repeat' split) <;> omega
theorem log_up {m k : Int} (h : (m = 0 -> k = -1) /\ (0 < m -> 0 <= k /\ k <= 63 /\ 2 ^ k.toNat <= m /\ m < 2 * 2 ^ k.toNat)) (h1 : 1 <= m) (h2 : m <= 2147483648) : 0 <= k /\ k <= 31 /\ (60 - k).toNat = upN m := by
 obtain ⟨a1, a2, a3, a4⟩ := h.2 (by omega)
 have e : Nat.log2 m.toNat = k.toNat := by
  refine (Nat.log2_eq_iff (by omega)).2 ⟨?_, ?_⟩
  ·have : ((2 ^ k.toNat : Nat) : Int) = (2 : Int) ^ k.toNat := by simp
   omega
  ·have : ((2 ^ (k.toNat + 1) : Nat) : Int) = 2 * (2 : Int) ^ k.toNat := by rw [Nat.pow_succ]; simp; omega
   omega
 have l := log2_le h1 h2
 unfold upN
 rw [e] at l ⊢
 omega
theorem shl_i64 {a s : Int} (h0 : 0 <= s) (h1 : s <= 64) (h2 : -9223372036854775808 <= a * 2 ^ s.toNat) (h3 : a * 2 ^ s.toNat <= 9223372036854775807) : shI .shl .i64 a s = a * 2 ^ s.toNat := by
 simp only [shI, IntKind.bits]
 rw [show Min.min s.toNat 64 = s.toNat by omega, wrap_i64]
 omega
theorem shl_scaled {a b m s : Int} (hm : m = max a b) (ha : 1 <= a) (ha' : a <= 2147483648) (hb : 0 <= b) (hb' : b <= 2147483648) (hs : s.toNat = upN m) (hs0 : 0 <= s) (hs1 : s <= 64) :
  shI .shl .i64 a s = a * 2 ^ upN (max a b) /\ shI .shl .i64 b s = b * 2 ^ upN (max a b) /\ 0 < a * 2 ^ upN (max a b) /\ a * 2 ^ upN (max a b) <= 2305843009213693951 /\ 0 <= b * 2 ^ upN (max a b) /\ b * 2 ^ upN (max a b) <= 2305843009213693951 /\ nb (a * 2 ^ upN (max a b)) (b * 2 ^ upN (max a b)) 3300000000000000000 := by
 subst hm
 obtain ⟨u1, u2, u3⟩ := up_in (m := max a b) (by omega) (by omega)
 obtain ⟨s1, s2, s3, s4⟩ := scaled (X := a) (Y := b) (by omega) hb ha' hb'
 have e1 := Int.mul_le_mul_of_nonneg_right (show a <= max a b by omega) (Int.le_of_lt u3)
 have e2 := Int.mul_le_mul_of_nonneg_right (show b <= max a b by omega) (Int.le_of_lt u3)
 refine ⟨?_, ?_, s1, by omega, s2, by omega, s3⟩
 ·rw [shl_i64 hs0 hs1 (by rw [hs]; omega) (by rw [hs]; omega), hs]
 ·rw [shl_i64 hs0 hs1 (by rw [hs]; omega) (by rw [hs]; omega), hs]
theorem at_step {q a b i o x y c s : Int} (h1 : 1 <= i) (h2 : i < 41) (q0 : 0 <= q) (q1 : q <= 3) (hi : o = q * 2 ^ (i - 1).toNat + (bk a b (i - 1).toNat).2.2 /\ x = (bk a b (i - 1).toNat).1 /\ y = (bk a b (i - 1).toNat).2.1) (hc : c = tX.getD i.toNat 0) (hs : s = tY.getD i.toNat 0)
  (ha : 0 < a) (hb : 0 <= b) (hv : nb a b 3300000000000000000) :
  (nb x y 4611686018427387984 /\ nb c s 4611686018427387904) /\ (0 <= bkY x y c s -> (2 * o + 1 = q * 2 ^ i.toNat + (bk a b i.toNat).2.2 /\ bkX x y c s = (bk a b i.toNat).1 /\ bkY x y c s = (bk a b i.toNat).2.1)) /\ (¬ 0 <= bkY x y c s -> (2 * o = q * 2 ^ i.toNat + (bk a b i.toNat).2.2 /\ x = (bk a b i.toNat).1 /\ y = (bk a b i.toNat).2.1)) /\
  (-4611686018427387984 <= (bk a b i.toNat).1 /\ (bk a b i.toNat).1 <= 4611686018427387984 /\ -4611686018427387984 <= (bk a b i.toNat).2.1 /\ (bk a b i.toNat).2.1 <= 4611686018427387984) /\ q * 2 ^ i.toNat + (bk a b i.toNat).2.2 <= 4398046511104 := by
 obtain ⟨n, hn⟩ : ∃ n : Nat, i = n + 1 := ⟨(i - 1).toNat, by omega⟩
 have e1 : (i - 1).toNat = n := by omega
 have e2 : i.toNat = n + 1 := by omega
 rw [e1] at hi
 rw [e2] at hc hs ⊢
 obtain ⟨ho, hx, hy⟩ := hi
 have k := bk_ok ha hb hv n (by omega)
 have k' := bk_ok ha hb hv (n + 1) (by omega)
 have hcx : c = cx (n + 1) := hc
 have hsx : s = sx (n + 1) := hs
 have key : bk a b (n + 1) = if 0 <= bkY x y c s then (bkX x y c s, bkY x y c s, 2 * (bk a b n).2.2 + 1) else (x, y, 2 * (bk a b n).2.2) := by rw [hx, hy, hcx, hsx]; rfl
 have hp : q * 2 ^ (n + 1) = 2 * (q * 2 ^ n) := by rw [Int.pow_succ]; grind
 refine ⟨⟨?_, ?_⟩, fun z => ?_, fun z => ?_, ?_, ?_⟩
 ·rw [hx, hy]; exact nb_mono k.len (by omega)
 ·rw [hcx, hsx]; exact tab_ok ⟨n + 1, by omega⟩
 ·rw [key, if_pos z]; exact ⟨by rw [ho, hp]; simp only; omega, rfl, rfl⟩
 ·rw [key, if_neg z]; exact ⟨by rw [ho, hp]; simp only; omega, rfl, rfl⟩
 ·have l := nb_mono k'.len (show (3300000000000000000 : Int) + 2 * ((n + 1 : Nat) : Int) <= 4611686018427387984 by omega)
  have lx := nb_x l
  have ly := nb_y l
  omega
 ·have o1 := k'.o1
  have hq := Int.mul_le_mul_of_nonneg_right q1 (Int.le_of_lt (show (0 : Int) < 2 ^ (n + 1) from Int.pow_pos (by decide)))
  have h40 : (2 : Int) ^ (n + 1) <= 1099511627776 := by
   have := Nat.pow_le_pow_right (n := 2) (by omega) (show n + 1 <= 40 by omega)
   have e : ((2 ^ (n + 1) : Nat) : Int) = (2 : Int) ^ (n + 1) := by simp
   have e' : (2 ^ 40 : Nat) = 1099511627776 := rfl
   omega
  omega
theorem at_round {O v : Int} (h : isNear (O * 5898240) 1099511627776 v) : v = roundO O := by
 obtain ⟨h1, h2⟩ := h
 unfold roundO; omega
theorem at_end {y x q a b o v : Int} (hq : q = fQ y x) (ha : a = fX y x * 2 ^ upN (max (fX y x) (fY y x))) (hb : b = fY y x * 2 ^ upN (max (fX y x) (fY y x))) (ho : o = q * 2 ^ 40 + (bk a b 40).2.2) (hv : isNear (o * 5898240) 1099511627776 v) (h0 : 0 <= o) (h1 : o <= 4398046511104) :
  0 <= v /\ v <= 23592960 /\ v % 23592960 = atF y x := by
 have e := at_round hv
 have : atF y x = roundO o % 23592960 := by
  unfold atF fO
  rw [ho, hq, ha, hb]
  rfl
 rw [this, e]
 refine ⟨?_, ?_, rfl⟩ <;> (unfold roundO; omega)
set_option maxHeartbeats 8000000 in
theorem p_atan : P_atan := by
 unfold P_atan
 intro n l_n u_n n1 l_n1 u_n1 hpre
 replace hpre : True := hpre
 refine ⟨fun c0 => ?_, fun c0 => ?_⟩
 ·refine ⟨fun c1 => ?_, fun c1 => ?_⟩
  ·show ((n1 = 0 /\ n = 0 -> (0 : Int) = 0 /\ (12 : Int) = 12) /\ (¬ (n1 = 0 /\ n = 0) -> (12 : Int) = 0 /\ (0 : Int) = atF n n1))
   refine ⟨fun _ => ⟨rfl, rfl⟩, fun h => absurd ⟨by assumption, by assumption⟩ h⟩
  ·refine ⟨?_, ?_⟩
   ·show (¬ (n1 = 0 /\ n = 0) /\ -2147483648 <= n1 /\ n1 <= 2147483648 /\ -2147483648 <= n /\ n <= 2147483648)
    omega
   intro n2 l_n2 u_n2 n3 l_n3 u_n3 n4 l_n4 u_n4 h_afirst
   replace h_afirst : (n2 = fQ n n1 /\ n3 = fX n n1 /\ n4 = fY n n1) := h_afirst
   intro b n5 e_n5 l_n5 u_n5
   refine ⟨trivial, ?_⟩
   intro n6 l_n6 u_n6 h_log
   replace h_log : ((n5 = 0 -> n6 = -1) /\ (0 < n5 -> 0 <= n6 /\ n6 <= 63 /\ 2 ^ n6.toNat <= n5 /\ n5 < 2 * 2 ^ n6.toNat)) := h_log
   have hl := log_up h_log l_n5 u_n5
   intro n7 e_n7 l_n7 u_n7
   simp only [wrap_u64, wrap_i64, wrap_i32, wrap_u32, wrap_u8] at e_n7
   refine ⟨by omega, ?_⟩
   intro n8 e_n8 l_n8 u_n8
   refine ⟨by omega, ?_⟩
   intro n9 e_n9 l_n9 u_n9 n10 e_n10 l_n10 u_n10 n11 e_n11 l_n11 u_n11
   have hs := shl_scaled (s := n7) e_n5 l_n3 u_n3 l_n4 u_n4 (by rw [<- hl.2.2]; congr 1; omega) (by omega) (by omega)
   have e10 : n10 = n3 * 2 ^ upN (max n3 n4) := by rw [e_n10, e_n8]; exact hs.1
   have e11 : n11 = n4 * 2 ^ upN (max n3 n4) := by rw [e_n11, e_n9]; exact hs.2.1
   have hs2 := hs.2.2
   rw [<- e10, <- e11] at hs2
   refine ⟨trivial, ?_⟩
   intro h_made
   replace h_made : True := h_made
   intro b1
   refine ⟨by omega, ?_⟩
   refine ⟨by omega, ?_⟩
   intro n12 e_n12 l_n12 u_n12
   refine ⟨by omega, ?_⟩
   refine ⟨by omega, ?_⟩
   intro n13 e_n13 l_n13 u_n13
   have hs3 := hs2
   rw [<- e_n12, <- e_n13] at hs3
   refine ⟨?_, ?_⟩
   ·show (n2 = n2 * 2 ^ ((1 : Int) - 1).toNat + (bk n12 n13 ((1 : Int) - 1).toNat).2.2 /\ n12 = (bk n12 n13 ((1 : Int) - 1).toNat).1 /\ n13 = (bk n12 n13 ((1 : Int) - 1).toNat).2.1)
    exact ⟨by show n2 = n2 * 2 ^ 0 + 0; omega, rfl, rfl⟩
   intro n14 l_n14 u_n14 n15 l_n15 u_n15 n16 l_n16 u_n16 n17 l_n17 u_n17 hi_atn
   replace hi_atn : (n15 = n2 * 2 ^ (n14 - 1).toNat + (bk n12 n13 (n14 - 1).toNat).2.2 /\ n16 = (bk n12 n13 (n14 - 1).toNat).1 /\ n17 = (bk n12 n13 (n14 - 1).toNat).2.1) := hi_atn
   intro vs lv_vs
   refine ⟨fun c2 => ?_, fun c2 => ?_⟩
   ·intro n18 e_n18 l_n18 u_n18
    refine ⟨by omega, ?_⟩
    intro n19 e_n19 l_n19 u_n19 n20 e_n20 l_n20 u_n20
    have hst := at_step l_n14 (by omega) l_n2 u_n2 hi_atn e_n19 e_n20 hs3.1 hs3.2.2.1 hs3.2.2.2.2
    refine ⟨?_, ?_⟩
    ·show (nb n16 n17 4611686018427387984 /\ nb n19 n20 4611686018427387904)
     exact hst.1
    intro n21 l_n21 u_n21 n22 l_n22 u_n22 h_pback
    replace h_pback : (n21 = bkX n16 n17 n19 n20 /\ n22 = bkY n16 n17 n19 n20) := h_pback
    have hpb := h_pback
    rw [<- h_pback.2] at hst
    have r1 := hst.2.2.2.1
    have r2 := hst.2.2.2.2
    have r3 := fun z => hst.2.1 z
    rw [<- h_pback.1] at r3
    intro b2
    refine ⟨fun c3 => ?_, fun c3 => ?_⟩
    ·intro n23 e_n23 l_n23 u_n23
     intro n24 e_n24 l_n24 u_n24
     refine ⟨by omega, ?_⟩
     intro n25 e_n25 l_n25 u_n25
     refine ⟨by omega, ?_⟩
     intro n26 e_n26 l_n26 u_n26
     refine ⟨by omega, ?_⟩
     refine ⟨by omega, ?_⟩
     intro n27 e_n27 l_n27 u_n27
     refine ⟨by omega, ?_⟩
     refine ⟨by omega, ?_⟩
     intro n28 e_n28 l_n28 u_n28
     refine ⟨?_, ?_⟩
     ·show (n26 = n2 * 2 ^ (n25 - 1).toNat + (bk n12 n13 (n25 - 1).toNat).2.2 /\ n27 = (bk n12 n13 (n25 - 1).toNat).1 /\ n28 = (bk n12 n13 (n25 - 1).toNat).2.1)
      rw [show (n25 - 1).toNat = n14.toNat by omega]
      have h3 := hst.2.1 (by omega)
      rw [e_n26, e_n27, e_n28, show n23 = 2 * n15 + 1 by omega, h_pback.1]
      exact h3
     ·show (41 - n25).toNat < (41 - n14).toNat
      omega
    ·intro n23 e_n23 l_n23 u_n23
     refine ⟨by omega, ?_⟩
     intro n24 e_n24 l_n24 u_n24
     refine ⟨by omega, ?_⟩
     intro n25 e_n25 l_n25 u_n25
     refine ⟨?_, ?_⟩
     ·show (n25 = n2 * 2 ^ (n24 - 1).toNat + (bk n12 n13 (n24 - 1).toNat).2.2 /\ n16 = (bk n12 n13 (n24 - 1).toNat).1 /\ n17 = (bk n12 n13 (n24 - 1).toNat).2.1)
      rw [show (n24 - 1).toNat = n14.toNat by omega]
      have h3 := hst.2.2.1 (by omega)
      rw [show n25 = 2 * n15 by omega]
      exact h3
     ·show (41 - n24).toNat < (41 - n14).toNat
      omega
   ·refine ⟨trivial, ?_⟩
    intro n18 l_n18 u_n18 n19 l_n19 u_n19 h_wmul
    replace h_wmul : w128 n18 n19 = n15 * (5898240 : Int) := h_wmul
    have h41 : n14 = 41 := by omega
    rw [h41] at hi_atn
    replace hi_atn : n15 = n2 * 2 ^ 40 + (bk n12 n13 40).2.2 /\ n16 = (bk n12 n13 40).1 /\ n17 = (bk n12 n13 40).2.1 := hi_atn
    refine ⟨trivial, ?_⟩
    intro n20 l_n20 u_n20 n21 l_n21 u_n21 n22 l_n22 u_n22 h_wnear
    replace h_wnear : (((1099511627776 : Int) < 1 -> n20 = 0 /\ n21 = 0 /\ n22 = 1) /\ (1 <= (1099511627776 : Int) -> n22 = 0 /\ isNear (w128 n18 n19) (1099511627776 : Int) (w128 n20 n21))) := h_wnear
    have hw := (h_wnear.2 (by omega)).2
    rw [h_wmul] at hw
    have hend := at_end (y := n) (x := n1) h_afirst.1 (by rw [<- h_afirst.2.1, <- h_afirst.2.2, e_n12, e10]) (by rw [<- h_afirst.2.1, <- h_afirst.2.2, e_n13, e11]) hi_atn.1 hw l_n15 u_n15
    intro b2
    refine ⟨trivial, ?_⟩
    intro n23 l_n23 u_n23 t h_wint
    replace h_wint : isInt (w128 n20 n21) n23 (b2i t) := h_wint
    have hi2 := (h_wint.1 (by simp only [isI64]; omega)).2
    rw [<- hi2] at hend
    intro n24 e_n24 l_n24 u_n24
    rw [wrap_i32, Int.tmod_eq_emod_of_nonneg (by omega)] at e_n24
    refine ⟨by omega, ?_⟩
    refine ⟨by omega, ?_⟩
    intro n25 e_n25 l_n25 u_n25
    show ((n1 = 0 /\ n = 0 -> n25 = 0 /\ (0 : Int) = 12) /\ (¬ (n1 = 0 /\ n = 0) -> (0 : Int) = 0 /\ n25 = atF n n1))
    refine ⟨fun h => by omega, fun _ => ⟨rfl, ?_⟩⟩
    rw [<- hend.2.2]
    omega
 ·refine ⟨?_, ?_⟩
  ·show (¬ (n1 = 0 /\ n = 0) /\ -2147483648 <= n1 /\ n1 <= 2147483648 /\ -2147483648 <= n /\ n <= 2147483648)
   omega
  intro n2 l_n2 u_n2 n3 l_n3 u_n3 n4 l_n4 u_n4 h_afirst
  replace h_afirst : (n2 = fQ n n1 /\ n3 = fX n n1 /\ n4 = fY n n1) := h_afirst
  intro b n5 e_n5 l_n5 u_n5
  refine ⟨trivial, ?_⟩
  intro n6 l_n6 u_n6 h_log
  replace h_log : ((n5 = 0 -> n6 = -1) /\ (0 < n5 -> 0 <= n6 /\ n6 <= 63 /\ 2 ^ n6.toNat <= n5 /\ n5 < 2 * 2 ^ n6.toNat)) := h_log
  have hl := log_up h_log l_n5 u_n5
  intro n7 e_n7 l_n7 u_n7
  simp only [wrap_u64, wrap_i64, wrap_i32, wrap_u32, wrap_u8] at e_n7
  refine ⟨by omega, ?_⟩
  intro n8 e_n8 l_n8 u_n8
  refine ⟨by omega, ?_⟩
  intro n9 e_n9 l_n9 u_n9 n10 e_n10 l_n10 u_n10 n11 e_n11 l_n11 u_n11
  have hs := shl_scaled (s := n7) e_n5 l_n3 u_n3 l_n4 u_n4 (by rw [<- hl.2.2]; congr 1; omega) (by omega) (by omega)
  have e10 : n10 = n3 * 2 ^ upN (max n3 n4) := by rw [e_n10, e_n8]; exact hs.1
  have e11 : n11 = n4 * 2 ^ upN (max n3 n4) := by rw [e_n11, e_n9]; exact hs.2.1
  have hs2 := hs.2.2
  rw [<- e10, <- e11] at hs2
  refine ⟨trivial, ?_⟩
  intro h_made
  replace h_made : True := h_made
  intro b1
  refine ⟨by omega, ?_⟩
  refine ⟨by omega, ?_⟩
  intro n12 e_n12 l_n12 u_n12
  refine ⟨by omega, ?_⟩
  refine ⟨by omega, ?_⟩
  intro n13 e_n13 l_n13 u_n13
  have hs3 := hs2
  rw [<- e_n12, <- e_n13] at hs3
  refine ⟨?_, ?_⟩
  ·show (n2 = n2 * 2 ^ ((1 : Int) - 1).toNat + (bk n12 n13 ((1 : Int) - 1).toNat).2.2 /\ n12 = (bk n12 n13 ((1 : Int) - 1).toNat).1 /\ n13 = (bk n12 n13 ((1 : Int) - 1).toNat).2.1)
   exact ⟨by show n2 = n2 * 2 ^ 0 + 0; omega, rfl, rfl⟩
  intro n14 l_n14 u_n14 n15 l_n15 u_n15 n16 l_n16 u_n16 n17 l_n17 u_n17 hi_atn
  replace hi_atn : (n15 = n2 * 2 ^ (n14 - 1).toNat + (bk n12 n13 (n14 - 1).toNat).2.2 /\ n16 = (bk n12 n13 (n14 - 1).toNat).1 /\ n17 = (bk n12 n13 (n14 - 1).toNat).2.1) := hi_atn
  intro vs lv_vs
  refine ⟨fun c1 => ?_, fun c1 => ?_⟩
  ·intro n18 e_n18 l_n18 u_n18
   refine ⟨by omega, ?_⟩
   intro n19 e_n19 l_n19 u_n19 n20 e_n20 l_n20 u_n20
   have hst := at_step l_n14 (by omega) l_n2 u_n2 hi_atn e_n19 e_n20 hs3.1 hs3.2.2.1 hs3.2.2.2.2
   refine ⟨?_, ?_⟩
   ·show (nb n16 n17 4611686018427387984 /\ nb n19 n20 4611686018427387904)
    exact hst.1
   intro n21 l_n21 u_n21 n22 l_n22 u_n22 h_pback
   replace h_pback : (n21 = bkX n16 n17 n19 n20 /\ n22 = bkY n16 n17 n19 n20) := h_pback
   have hpb := h_pback
   rw [<- h_pback.2] at hst
   have r1 := hst.2.2.2.1
   have r2 := hst.2.2.2.2
   have r3 := fun z => hst.2.1 z
   rw [<- h_pback.1] at r3
   intro b2
   refine ⟨fun c2 => ?_, fun c2 => ?_⟩
   ·intro n23 e_n23 l_n23 u_n23
    intro n24 e_n24 l_n24 u_n24
    refine ⟨by omega, ?_⟩
    intro n25 e_n25 l_n25 u_n25
    refine ⟨by omega, ?_⟩
    intro n26 e_n26 l_n26 u_n26
    refine ⟨by omega, ?_⟩
    refine ⟨by omega, ?_⟩
    intro n27 e_n27 l_n27 u_n27
    refine ⟨by omega, ?_⟩
    refine ⟨by omega, ?_⟩
    intro n28 e_n28 l_n28 u_n28
    refine ⟨?_, ?_⟩
    ·show (n26 = n2 * 2 ^ (n25 - 1).toNat + (bk n12 n13 (n25 - 1).toNat).2.2 /\ n27 = (bk n12 n13 (n25 - 1).toNat).1 /\ n28 = (bk n12 n13 (n25 - 1).toNat).2.1)
     rw [show (n25 - 1).toNat = n14.toNat by omega]
     have h3 := hst.2.1 (by omega)
     rw [e_n26, e_n27, e_n28, show n23 = 2 * n15 + 1 by omega, h_pback.1]
     exact h3
    ·show (41 - n25).toNat < (41 - n14).toNat
     omega
   ·intro n23 e_n23 l_n23 u_n23
    refine ⟨by omega, ?_⟩
    intro n24 e_n24 l_n24 u_n24
    refine ⟨by omega, ?_⟩
    intro n25 e_n25 l_n25 u_n25
    refine ⟨?_, ?_⟩
    ·show (n25 = n2 * 2 ^ (n24 - 1).toNat + (bk n12 n13 (n24 - 1).toNat).2.2 /\ n16 = (bk n12 n13 (n24 - 1).toNat).1 /\ n17 = (bk n12 n13 (n24 - 1).toNat).2.1)
     rw [show (n24 - 1).toNat = n14.toNat by omega]
     have h3 := hst.2.2.1 (by omega)
     rw [show n25 = 2 * n15 by omega]
     exact h3
    ·show (41 - n24).toNat < (41 - n14).toNat
     omega
  ·refine ⟨trivial, ?_⟩
   intro n18 l_n18 u_n18 n19 l_n19 u_n19 h_wmul
   replace h_wmul : w128 n18 n19 = n15 * (5898240 : Int) := h_wmul
   have h41 : n14 = 41 := by omega
   rw [h41] at hi_atn
   replace hi_atn : n15 = n2 * 2 ^ 40 + (bk n12 n13 40).2.2 /\ n16 = (bk n12 n13 40).1 /\ n17 = (bk n12 n13 40).2.1 := hi_atn
   refine ⟨trivial, ?_⟩
   intro n20 l_n20 u_n20 n21 l_n21 u_n21 n22 l_n22 u_n22 h_wnear
   replace h_wnear : (((1099511627776 : Int) < 1 -> n20 = 0 /\ n21 = 0 /\ n22 = 1) /\ (1 <= (1099511627776 : Int) -> n22 = 0 /\ isNear (w128 n18 n19) (1099511627776 : Int) (w128 n20 n21))) := h_wnear
   have hw := (h_wnear.2 (by omega)).2
   rw [h_wmul] at hw
   have hend := at_end (y := n) (x := n1) h_afirst.1 (by rw [<- h_afirst.2.1, <- h_afirst.2.2, e_n12, e10]) (by rw [<- h_afirst.2.1, <- h_afirst.2.2, e_n13, e11]) hi_atn.1 hw l_n15 u_n15
   intro b2
   refine ⟨trivial, ?_⟩
   intro n23 l_n23 u_n23 t h_wint
   replace h_wint : isInt (w128 n20 n21) n23 (b2i t) := h_wint
   have hi2 := (h_wint.1 (by simp only [isI64]; omega)).2
   rw [<- hi2] at hend
   intro n24 e_n24 l_n24 u_n24
   rw [wrap_i32, Int.tmod_eq_emod_of_nonneg (by omega)] at e_n24
   refine ⟨by omega, ?_⟩
   refine ⟨by omega, ?_⟩
   intro n25 e_n25 l_n25 u_n25
   show ((n1 = 0 /\ n = 0 -> n25 = 0 /\ (0 : Int) = 12) /\ (¬ (n1 = 0 /\ n = 0) -> (0 : Int) = 0 /\ n25 = atF n n1))
   refine ⟨fun h => by omega, fun _ => ⟨rfl, ?_⟩⟩
   rw [<- hend.2.2]
   omega
end Go.Proofs.YtcjllibeaiofpaaGreatDoor.Sx
