/-
  Plain laws, part j: the statements.
-/
import Derived.Test.YtakpbbponhamaaaRpi
set_option linter.all false
namespace Go.Proofs.Ytakpbbponhamaaa.Sx
open Go Go.RowKit

theorem log_le {n k j : Int} (hk : 0 ≤ k) (h1 : (2 : Int) ^ k.toNat ≤ n) (hj : 0 ≤ j) (h2 : n < 2 * 2 ^ j.toNat) : k ≤ j := by
  rcases Int.lt_or_le j k with h | h
  · have := pow2_le (a := j.toNat + 1) (b := k.toNat) (by omega)
    rw [Int.pow_succ] at this
    omega
  · exact h

def isLog (n k : Int) : Prop := (n = 0 → k = -1) ∧ (0 < n → 0 ≤ k ∧ k ≤ 63 ∧ 2 ^ k.toNat ≤ n ∧ n < 2 * 2 ^ k.toNat)

theorem log_uniq {n k j : Int} (hn : 0 ≤ n) (hk : isLog n k) (hj : isLog n j) : k = j := by
  rcases Int.lt_or_le 0 n with h | h
  · obtain ⟨a, b, c, d⟩ := hk.2 h
    obtain ⟨a', b', c', d'⟩ := hj.2 h
    have := log_le a c a' d'
    have := log_le a' c' a d
    omega
  · have := hk.1 (by omega)
    have := hj.1 (by omega)
    omega

theorem root_nonneg {n x : Int} (h : isRoot n x) : 0 ≤ x := by
  obtain ⟨h1, h2⟩ := h
  have : (x + 1) * (x + 1) = x * x + 2 * x + 1 := by grind
  omega

theorem root_is {n x y : Int} (hx : isRoot n x) (hy : isRoot n y) : x = y := root_uniq hx hy (root_nonneg hx) (root_nonneg hy)

theorem p_lives : P_lives := by
  unfold P_lives
  intro _
  refine ⟨trivial, ?_⟩
  intro n _ _ n1 _ _ h1
  replace h1 : ((9223372036854775807 : Int) < 0 → n = 0 ∧ n1 = 1) ∧ ((0 : Int) ≤ 9223372036854775807 → n1 = 0 ∧ isRoot (w128 9223372036854775807 18446744073709551615) n) := h1
  refine ⟨trivial, ?_⟩
  intro n2 _ _ n3 _ _ h2
  replace h2 : w128 n2 n3 = -1 := h2
  refine ⟨trivial, ?_⟩
  intro n4 _ _ n5 _ _ h3
  replace h3 : (n2 < 0 → n4 = 0 ∧ n5 = 1) ∧ (0 ≤ n2 → n5 = 0 ∧ isRoot (w128 n2 n3) n4) := h3
  refine ⟨trivial, ?_⟩
  intro n6 _ _ n7 _ _ h4
  replace h4 : ((131072 : Int) < 0 → n6 = 0 ∧ n7 = 1) ∧ ((0 : Int) ≤ 131072 → n7 = 0 ∧ isRoot (131072 * 65536) n6) := h4
  refine ⟨trivial, ?_⟩
  intro n8 _ _ n9 _ _ h5
  replace h5 : ((1 : Int) < 0 → n8 = 0 ∧ n9 = 1) ∧ ((0 : Int) ≤ 1 → n9 = 0 ∧ isRoot (1 * 65536) n8) := h5
  refine ⟨trivial, ?_⟩
  intro n10 _ _ n11 _ _ h6
  replace h6 : ((-1 : Int) < 0 → n10 = 0 ∧ n11 = 1) ∧ ((0 : Int) ≤ -1 → n11 = 0 ∧ isRoot (-1 * 65536) n10) := h6
  obtain ⟨a1, a2⟩ := h1.2 (by omega)
  have a3 := h3.1 (by simp only [w128] at h2; omega)
  obtain ⟨a4, a5⟩ := h4.2 (by omega)
  obtain ⟨a6, a7⟩ := h5.2 (by omega)
  have a8 := h6.1 (by omega)
  refine ⟨trivial, ?_⟩
  intro n12 _ _ r0
  refine ⟨fun _ => ?_, fun h => absurd (root_uniq (y := 0) r0 ⟨by omega, by omega⟩ (by omega) (by omega)) h⟩
  refine ⟨trivial, ?_⟩
  intro n13 _ _ r1
  refine ⟨fun _ => ?_, fun h => absurd (root_uniq (y := 4) r1 ⟨by omega, by omega⟩ (by omega) (by omega)) h⟩
  refine ⟨trivial, ?_⟩
  intro n14 _ _ r2
  refine ⟨fun _ => ?_, fun h => absurd (root_uniq (y := 5) r2 ⟨by omega, by omega⟩ (by omega) (by omega)) h⟩
  refine ⟨trivial, ?_⟩
  intro n15 _ _ r3
  refine ⟨fun _ => ?_, fun h => absurd (root_uniq (y := 4294967295) r3 ⟨by omega, by omega⟩ (by omega) (by omega)) h⟩
  refine ⟨fun _ => ?_, fun h => absurd (root_uniq (y := 13043817825332782212) a2 ⟨by simp only [w128]; omega, by simp only [w128]; omega⟩ (by omega) (by omega)) h⟩
  refine ⟨fun _ => ?_, fun h => absurd a1 h⟩
  refine ⟨fun _ => ?_, fun h => absurd a3.2 h⟩
  refine ⟨fun _ => ?_, fun h => absurd (root_uniq (y := 92681) a5 ⟨by omega, by omega⟩ (root_nonneg (by assumption)) (by omega)) h⟩
  refine ⟨fun _ => ?_, fun h => absurd a4 h⟩
  refine ⟨fun _ => ?_, fun h => absurd (root_uniq (y := 256) a7 ⟨by omega, by omega⟩ (root_nonneg (by assumption)) (by omega)) h⟩
  refine ⟨fun _ => ?_, fun h => absurd a6 h⟩
  refine ⟨fun _ => ?_, fun h => absurd a8.2 h⟩
  refine ⟨trivial, ?_⟩
  intro n16 _ _ l0
  refine ⟨fun _ => ?_, fun h => absurd (l0.1 rfl) h⟩
  refine ⟨trivial, ?_⟩
  intro n17 _ _ l1
  refine ⟨fun _ => ?_, fun h => absurd (log_uniq (n := 1) (by omega) l1 ⟨by omega, fun _ => ⟨by omega, by omega, by decide, by decide⟩⟩) h⟩
  refine ⟨trivial, ?_⟩
  intro n18 _ _ l2
  show b2i (n18 == 63) = 1
  have : n18 = 63 := log_uniq (n := 9223372036854775808) (by omega) l2 ⟨by omega, fun _ => ⟨by omega, by omega, by decide, by decide⟩⟩
  simp [this, b2i]

theorem p_lof : P_lof := by
  unfold P_lof
  intro n _ _ n1 _ _ n2 _ _ n3 _ _ _ _
  refine ⟨trivial, ?_⟩
  intro n4 _ _ n5 _ _ h1
  replace h1 : (n1 < 0 → n4 = 0 ∧ n5 = 1) ∧ (0 ≤ n1 → n5 = 0 ∧ isRoot (w128 n1 n2) n4) := h1
  refine ⟨trivial, ?_⟩
  intro n6 _ _ n7 _ _ h2
  replace h2 : (n1 < 0 → n6 = 0 ∧ n7 = 1) ∧ (0 ≤ n1 → n7 = 0 ∧ isRoot (w128 n1 n2) n6) := h2
  refine ⟨trivial, ?_⟩
  intro n8 _ _ n9 _ _ h3
  replace h3 : (n3 < 0 → n8 = 0 ∧ n9 = 1) ∧ (0 ≤ n3 → n9 = 0 ∧ isRoot (n3 * 65536) n8) := h3
  refine ⟨trivial, ?_⟩
  intro n10 _ _ n11 _ _ h4
  replace h4 : (n3 < 0 → n10 = 0 ∧ n11 = 1) ∧ (0 ≤ n3 → n11 = 0 ∧ isRoot (n3 * 65536) n10) := h4
  refine ⟨trivial, ?_⟩
  intro n12 _ _ r1
  refine ⟨trivial, ?_⟩
  intro n13 _ _ r2
  have e1 : n12 = n13 := root_is r1 r2
  have e2 : n4 = n6 ∧ n5 = n7 := by
    rcases Int.lt_or_le n1 0 with h | h
    · obtain ⟨a, b⟩ := h1.1 h
      obtain ⟨c, d⟩ := h2.1 h
      omega
    · obtain ⟨a, b⟩ := h1.2 h
      obtain ⟨c, d⟩ := h2.2 h
      exact ⟨root_is b d, by omega⟩
  have e3 : n8 = n10 ∧ n9 = n11 := by
    rcases Int.lt_or_le n3 0 with h | h
    · obtain ⟨a, b⟩ := h3.1 h
      obtain ⟨c, d⟩ := h4.1 h
      omega
    · obtain ⟨a, b⟩ := h3.2 h
      obtain ⟨c, d⟩ := h4.2 h
      exact ⟨root_is b d, by omega⟩
  refine ⟨fun _ => ?_, fun h => absurd e1 h⟩
  refine ⟨fun _ => ?_, fun h => absurd e2.1 h⟩
  refine ⟨fun _ => ?_, fun h => absurd e2.2 h⟩
  refine ⟨fun _ => ?_, fun h => absurd e3.1 h⟩
  refine ⟨fun _ => ?_, fun h => absurd e3.2 h⟩
  refine ⟨trivial, ?_⟩
  intro n14 _ _ l1
  refine ⟨trivial, ?_⟩
  intro n15 _ _ l2
  refine ⟨fun _ => ?_, fun h => absurd (log_uniq (by omega) l1 l2) h⟩
  exact ⟨trivial, fun t h => h⟩

theorem p_lrise : P_lrise := by
  unfold P_lrise
  intro a _ _ b _ _ _
  refine ⟨trivial, ?_⟩
  intro x _ _ e _ _ h1
  replace h1 : ((0 : Int) < 0 → x = 0 ∧ e = 1) ∧ ((0 : Int) ≤ 0 → e = 0 ∧ isRoot (w128 0 a) x) := h1
  obtain ⟨he, hx⟩ := h1.2 (by omega)
  rw [show w128 0 a = a by simp [w128]] at hx
  refine ⟨trivial, ?_⟩
  intro x' _ _ hx'
  refine ⟨fun h => absurd (root_is hx hx') h, fun _ => ⟨fun h => absurd he h, fun _ => ?_⟩⟩
  intro lo elo _ _
  refine ⟨trivial, ?_⟩
  intro r _ _ hr
  intro hi ehi _ _
  refine ⟨trivial, ?_⟩
  intro s _ _ hs
  have hle : r ≤ s := root_le hr hs (by omega) (root_nonneg hs)
  refine ⟨fun h => by omega, fun _ => ⟨fun _ => ⟨trivial, fun t h => h⟩, fun h62 => ?_⟩⟩
  intro f ef _ _
  refine ⟨trivial, ?_⟩
  intro y _ _ hy
  rw [wrap_u64] at ef
  have ef : f = 4 * a := by omega
  have hx31 : x < 2147483648 := root_lt hx (by omega) (by omega)
  simp only [wrap_u64]
  have k1 : y = 2 * x ∨ y = 2 * x + 1 := by
    obtain ⟨p1, p2⟩ := hx
    have q1 : isRoot f y := hy
    have e1 : (2 * x) * (2 * x) = 4 * (x * x) := by grind
    have e2 : (2 * x + 2) * (2 * x + 2) = 4 * ((x + 1) * (x + 1)) := by grind
    have hy0 := root_nonneg q1
    have hx0 : 0 ≤ x := by omega
    have u1 : 2 * x < y + 1 := sq_lt (by omega) (by rw [e1]; exact Int.lt_of_le_of_lt (by omega) q1.2)
    have u2 : y < 2 * x + 2 := sq_lt (by omega) (by rw [e2]; exact Int.lt_of_le_of_lt q1.1 (by omega))
    omega
  have w1 : 2 * x % 18446744073709551616 = 2 * x := by omega
  rw [w1]
  refine ⟨fun _ => ⟨trivial, fun t h => h⟩, fun n1 => ⟨fun _ => ⟨trivial, fun t h => h⟩, fun n2 => ?_⟩⟩
  omega

end Go.Proofs.Ytakpbbponhamaaa.Sx
