/-
  Plain laws of wides, part z: what is one alone.
-/
import Derived.Test.YtogcbmadcgjljaaDoorWpb
set_option linter.all false
namespace Go.Proofs.YtogcbmadcgjljaaDoor.Sx
open Go Go.RowKit

theorem near_uniq {A d x y : Int} (hd : 1 ≤ d) (hx : isNear A d x) (hy : isNear A d y) : x = y := by
  obtain ⟨a1, a2⟩ := hx
  obtain ⟨b1, b2⟩ := hy
  have f : ∀ p q : Int, 2 * d * p ≤ 2 * A + d → 2 * A + d < 2 * d * (q + 1) → p ≤ q := by
    intro p q h1 h2
    have h3 : 2 * d * p < 2 * d * (q + 1) := Int.lt_of_le_of_lt h1 h2
    have := Int.lt_of_mul_lt_mul_left h3 (by omega)
    omega
  have := f x y a1 b2
  have := f y x b1 a2
  omega

theorem floor_uniq {A d x y r s : Int} (hx : isFloor A d x r) (hy : isFloor A d y s) : x = y ∧ r = s := by
  obtain ⟨a1, a2, a3⟩ := hx
  obtain ⟨b1, b2, b3⟩ := hy
  have f : ∀ p q u v : Int, A = p * d + u → A = q * d + v → 0 ≤ u → v < d → p ≤ q := by
    intro p q u v h1 h2 h3 h4
    have h5 : p * d < (q + 1) * d := by
      have : (q + 1) * d = q * d + d := by grind
      omega
    have := Int.lt_of_mul_lt_mul_right h5 (by omega)
    omega
  have e : x = y := by
    have := f x y r s a1 b1 a2 b3
    have := f y x s r b1 a1 b2 a3
    omega
  subst e
  exact ⟨rfl, by omega⟩

theorem tell_or {v h l e : Int} (t : tellW v h l e) : (e = 0 ∧ w128 h l = v ∧ -170141183460469231731687303715884105728 ≤ v ∧ v < 170141183460469231731687303715884105728) ∨ (e = 11 ∧ h = 0 ∧ l = 0 ∧ (v < -170141183460469231731687303715884105728 ∨ 170141183460469231731687303715884105728 ≤ v)) := by
  simp only [tellW, inW, half128] at t
  omega

theorem tell_ok {v h l e : Int} (t : tellW v h l e) (he : e = 0) : w128 h l = v ∧ -170141183460469231731687303715884105728 ≤ v ∧ v < 170141183460469231731687303715884105728 := by
  simp only [tellW, inW, half128] at t
  omega

theorem tell_no {v h l e : Int} (t : tellW v h l e) (he : ¬ e = 0) : e = 11 ∧ h = 0 ∧ l = 0 ∧ (v < -170141183460469231731687303715884105728 ∨ 170141183460469231731687303715884105728 ≤ v) := by
  simp only [tellW, inW, half128] at t
  omega

theorem mul_s64 {a b : Int} (h1 : -9223372036854775808 ≤ a) (h2 : a ≤ 9223372036854775807) (h3 : -9223372036854775808 ≤ b) (h4 : b ≤ 9223372036854775807) : -85070591730234615865843651857942052864 ≤ a * b ∧ a * b ≤ 85070591730234615865843651857942052864 := by
  have := mul_in (a := a) (b := b) ⟨h1, h2⟩ ⟨h3, h4⟩
  simp only [mn, mx] at this
  simp at this
  omega

theorem w_inj {a b c d : Int} (h : w128 a b = w128 c d) (h1 : 0 ≤ b) (h2 : b ≤ 18446744073709551615) (h3 : 0 ≤ d) (h4 : d ≤ 18446744073709551615) : a = c ∧ b = d := by
  simp only [w128] at h
  omega

theorem tell_uniq {v h l e h' l' e' : Int} (a : tellW v h l e) (b : tellW v h' l' e') (h1 : 0 ≤ l) (h2 : l ≤ 18446744073709551615) (h3 : 0 ≤ l') (h4 : l' ≤ 18446744073709551615) : h = h' ∧ l = l' ∧ e = e' := by
  rcases tell_or a with ⟨p1, p2, p3⟩ | ⟨p1, p2, p3, p4⟩ <;> rcases tell_or b with ⟨q1, q2, q3⟩ | ⟨q1, q2, q3, q4⟩
  · obtain ⟨r1, r2⟩ := w_inj (p2.trans q2.symm) h1 h2 h3 h4
    exact ⟨r1, r2, by omega⟩
  · exfalso; omega
  · exfalso; omega
  · exact ⟨by omega, by omega, by omega⟩

theorem nearP_uniq {A d h l e h' l' e' : Int} (a : (d < 1 → h = 0 ∧ l = 0 ∧ e = 1) ∧ (1 ≤ d → e = 0 ∧ isNear A d (w128 h l))) (b : (d < 1 → h' = 0 ∧ l' = 0 ∧ e' = 1) ∧ (1 ≤ d → e' = 0 ∧ isNear A d (w128 h' l'))) (h1 : 0 ≤ l) (h2 : l ≤ 18446744073709551615) (h3 : 0 ≤ l') (h4 : l' ≤ 18446744073709551615) : h = h' ∧ l = l' ∧ e = e' := by
  rcases Int.lt_or_le d 1 with z | z
  · have := a.1 z; have := b.1 z; exact ⟨by omega, by omega, by omega⟩
  · obtain ⟨p1, p2⟩ := a.2 z
    obtain ⟨q1, q2⟩ := b.2 z
    obtain ⟨r1, r2⟩ := w_inj (near_uniq z p2 q2) h1 h2 h3 h4
    exact ⟨r1, r2, by omega⟩

theorem floorP_uniq {A d h l r e h' l' r' e' : Int} (a : (d < 1 → h = 0 ∧ l = 0 ∧ r = 0 ∧ e = 1) ∧ (1 ≤ d → e = 0 ∧ isFloor A d (w128 h l) r)) (b : (d < 1 → h' = 0 ∧ l' = 0 ∧ r' = 0 ∧ e' = 1) ∧ (1 ≤ d → e' = 0 ∧ isFloor A d (w128 h' l') r')) (h1 : 0 ≤ l) (h2 : l ≤ 18446744073709551615) (h3 : 0 ≤ l') (h4 : l' ≤ 18446744073709551615) : h = h' ∧ l = l' ∧ r = r' ∧ e = e' := by
  rcases Int.lt_or_le d 1 with z | z
  · have := a.1 z; have := b.1 z; exact ⟨by omega, by omega, by omega, by omega⟩
  · obtain ⟨p1, p2⟩ := a.2 z
    obtain ⟨q1, q2⟩ := b.2 z
    obtain ⟨r1, r2⟩ := floor_uniq p2 q2
    obtain ⟨r3, r4⟩ := w_inj r1 h1 h2 h3 h4
    exact ⟨r3, r4, r2, by omega⟩

theorem cmp_uniq {x y c d : Int} (a : (x < y → c = -1) ∧ (x = y → c = 0) ∧ (y < x → c = 1)) (b : (x < y → d = -1) ∧ (x = y → d = 0) ∧ (y < x → d = 1)) : c = d := by omega

theorem int_uniq {v n m : Int} {t u : Bool} (a : isInt v n (b2i t)) (b : isInt v m (b2i u)) : n = m ∧ t = u := by
  simp only [isInt] at a b
  by_cases h : isI64 v
  · obtain ⟨p1, p2⟩ := a.1 h
    obtain ⟨q1, q2⟩ := b.1 h
    exact ⟨by omega, by rw [(b2i_one t).1 p1, (b2i_one u).1 q1]⟩
  · obtain ⟨p1, p2⟩ := a.2 h
    obtain ⟨q1, q2⟩ := b.2 h
    have z1 := (b2i_zero t).1 p1
    have z2 := (b2i_zero u).1 q1
    exact ⟨by omega, by cases t <;> cases u <;> simp_all⟩

structure Cmp3 (x y c : Int) : Prop where
  o : (c = -1 ∧ x < y) ∨ (c = 0 ∧ x = y) ∨ (c = 1 ∧ y < x)

theorem cmp_in {x y c : Int} (h : (x < y → c = -1) ∧ (x = y → c = 0) ∧ (y < x → c = 1)) : Cmp3 x y c := ⟨by omega⟩

theorem cmp_neg {x y c d : Int} (h : Cmp3 x y c) (k : Cmp3 y x d) : c = -d := by have := h.o; have := k.o; omega

theorem cmp_eq {a b c d k : Int} (h : Cmp3 (w128 a b) (w128 c d) k) (h1 : 0 ≤ b) (h2 : b ≤ 18446744073709551615) (h3 : 0 ≤ d) (h4 : d ≤ 18446744073709551615) : k = 0 ↔ a = c ∧ b = d := by
  have := h.o
  constructor
  · intro z; exact w_inj (by omega) h1 h2 h3 h4
  · rintro ⟨rfl, rfl⟩; omega

theorem cmp_sub {x y z w c d : Int} (h : Cmp3 x y c) (k : Cmp3 z w d) (e : z = x - y) (f : w = 0) : d = c := by have := h.o; have := k.o; omega

theorem cmp_add {x y u z w c d : Int} (h : Cmp3 x y c) (k : Cmp3 z w d) (e : z = x + u) (f : w = y + u) : d = c := by have := h.o; have := k.o; omega

theorem cmp_trans {x y z c d k : Int} (h : Cmp3 x y c) (g : Cmp3 y z d) (e : Cmp3 x z k) : c = d → c ≠ 0 → k = c := by have := h.o; have := g.o; have := e.o; omega

end Go.Proofs.YtogcbmadcgjljaaDoor.Sx
