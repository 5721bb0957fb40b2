/-
  Plain laws of roots, over those of wides.
-/
import Derived.Test.YtlclmanhkhfilaaDoorWpf
import Derived.Test.YtlclmanhkhfilaaDoorWi
import Derived.Test.YtlclmanhkhfilaaDoorWg
import Derived.Test.YtlclmanhkhfilaaDoorWpg
set_option linter.all false
set_option maxRecDepth 100000
namespace Go.Proofs.YtlclmanhkhfilaaDoor.Sx
open Go Go.RowKit

theorem p_wide2 : P_wide2 := by
  unfold P_wide2
  intros
  repeat' (first | intro _ | refine And.intro ?_ ?_)
  all_goals (simp only [Post_wide2, b2i_dec] at *; simp only [w128, decide_eq_true_eq, true_iff, Bool.false_eq_true, false_iff] at *; omega)

theorem p_mkwide : P_mkwide := by
  unfold P_mkwide
  intros; trivial

theorem sq_lt {x k : Int} (hk : 0 ≤ k) (h : x * x < k * k) : x < k := by
  rcases Int.lt_or_le x k with h1 | h1
  · exact h1
  · have := Int.mul_le_mul h1 h1 hk (by omega : 0 ≤ x)
    omega

theorem root_le {n m x y : Int} (hx : isRoot n x) (hy : isRoot m y) (h : n ≤ m) (h0 : 0 ≤ y) : x ≤ y := by
  have : x * x < (y + 1) * (y + 1) := Int.lt_of_le_of_lt (Int.le_trans hx.1 h) hy.2
  have := sq_lt (by omega) this
  omega

theorem root_uniq {n x y : Int} (hx : isRoot n x) (hy : isRoot n y) (h0 : 0 ≤ x) (h1 : 0 ≤ y) : x = y := by
  have := root_le hx hy (Int.le_refl _) h1
  have := root_le hy hx (Int.le_refl _) h0
  omega

theorem root_lt {n x k : Int} (hx : isRoot n x) (hk : 0 ≤ k) (h : n < k * k) : x < k := sq_lt hk (Int.lt_of_le_of_lt hx.1 h)

theorem p_wide1 : P_wide1 := by
  unfold P_wide1
  intros
  repeat' (first | intro _ | refine And.intro ?_ ?_)
  all_goals (simp only [Pre_mul64, Post_mul64, Post_wide1, w128] at * <;> try assumption)

theorem p_log : P_log := by
  unfold P_log
  intro n h1 h2 _
  refine ⟨trivial, fun n1 h3 h4 hp n2 e2 _ _ => ?_⟩
  simp only [Post_log, Post_len64] at *
  obtain ⟨_, p1, p2, p3⟩ := hp
  refine ⟨fun h => by have := p3 h; omega, fun h => ?_⟩
  have hn : 1 ≤ n1 := by
    rcases Int.lt_or_le n1 1 with h' | h'
    · have : n1.toNat = 0 := by omega
      rw [this] at p1
      omega
    · exact h'
  have e : n1.toNat = n2.toNat + 1 := by omega
  rw [e, Int.pow_succ] at p1 p2
  have := p2 h
  omega

theorem p_rootWide : P_rootWide := by
  unfold P_rootWide
  intro n h1 h2 n1 h3 h4 _ b
  refine ⟨trivial, fun n2 _ _ n3 _ _ ho => ⟨trivial, fun c _ _ hc => ⟨fun hl => ?_, fun hl => ⟨trivial, fun _ n5 e5 _ _ => ⟨trivial, fun n6 _ _ hr => ?_⟩⟩⟩⟩⟩
  · show (_ → _ ∧ _) ∧ (_ → _ ∧ _)
    simp only [Post_wof, Post_wcmp, w128] at ho hc
    exact ⟨fun _ => ⟨rfl, rfl⟩, fun h' => by omega⟩
  · show (_ → _ ∧ _) ∧ (_ → _ ∧ _)
    simp only [Post_wof, Post_wcmp, Post_rootwide, wrap_u64] at ho hc hr e5
    simp only [w128] at ho hc
    have : n5 = n := by omega
    subst this
    exact ⟨fun h => by omega, fun h => ⟨rfl, hr⟩⟩

theorem root_step {most : Nat} (hm : most ≤ 64) {n x i k : Int} (h : rootInv most n x i) (hi0 : 0 ≤ i) (hi : i < most) (hx : 0 ≤ x) (hk : k = most - 1 - i) :
    bitsI .or .u64 x (shI .shl .u64 1 k) = x + 2 ^ k.toNat ∧ x + 2 ^ k.toNat < 2 ^ most ∧ 0 ≤ x + (2 : Int) ^ k.toNat ∧
    ((x + 2 ^ k.toNat) * (x + 2 ^ k.toNat) ≤ n → rootInv most n (x + 2 ^ k.toNat) (i + 1)) ∧ (n < (x + 2 ^ k.toNat) * (x + 2 ^ k.toNat) → rootInv most n x (i + 1)) := by
  obtain ⟨h1, ⟨c, h2⟩, h3, h4, h5⟩ := h
  have e : most - i.toNat = k.toNat + 1 := by omega
  have e' : most - (i + 1).toNat = k.toNat := by omega
  have hp : (0 : Int) < 2 ^ k.toNat := Int.pow_pos (by omega)
  have hs : shI .shl .u64 1 k = 2 ^ k.toNat := by
    show IntKind.wrap .u64 (1 * 2 ^ (Min.min k.toNat 64)) = _
    rw [Nat.min_eq_left (by omega), wrap_u64, Int.one_mul]
    have : (2 : Int) ^ k.toNat ≤ 2 ^ 63 := pow2_le (by omega)
    omega
  have hmo : (2 : Int) ^ most ≤ 2 ^ 64 := pow2_le hm
  rw [e] at h2 h3 h5
  have e2 : (2 : Int) ^ (k.toNat + 1) = 2 ^ k.toNat * 2 := Int.pow_succ ..
  have hor : bitsI .or .u64 x (shI .shl .u64 1 k) = x + 2 ^ k.toNat := by
    rw [hs, h2]
    exact or_add (by omega) (by omega) (by omega) (by omega) (by omega)
  refine ⟨hor, by omega, by omega, fun hy => ⟨by omega, ⟨2 * c + 1, ?_⟩, ?_, hy, ?_⟩, fun hy => ⟨by omega, ⟨2 * c, ?_⟩, ?_, h4, ?_⟩⟩
  · rw [e', h2, e2]; grind
  · rw [e']; omega
  · rw [e', show x + 2 ^ k.toNat + 2 ^ k.toNat = x + 2 ^ (k.toNat + 1) by omega]; exact h5
  · rw [e', h2, e2]; grind
  · rw [e']; omega
  · rw [e']; exact hy

theorem root_init {most : Nat} {n : Int} (h0 : 0 ≤ n) (h : n < 2 ^ most * 2 ^ most) : rootInv most n 0 0 := by
  refine ⟨by omega, ⟨0, by simp⟩, by simp, by simpa using h0, ?_⟩
  simpa using h

theorem root_done {most : Nat} {n x i : Int} (h : rootInv most n x i) (hi : ¬ i < most) : isRoot n x := by
  obtain ⟨h1, _, _, h4, h5⟩ := h
  have e : most - i.toNat = 0 := by omega
  rw [e] at h5
  exact ⟨h4, by simpa using h5⟩

theorem p_rootwide : P_rootwide := by
  unfold P_rootwide
  intro h _ _ l _ _ _ _ _
  refine ⟨root_init (most := 64) (n := w128 h l) (by simp only [w128]; omega) (by simp only [w128]; omega), ?_⟩
  intro x _ _ i _ _ hI _ _
  replace hI : rootInv 64 (w128 h l) x i := hI
  refine ⟨fun hl => ⟨by omega, fun k ek _ _ y ey _ _ => ?_⟩, fun hl => root_done hI hl⟩
  obtain ⟨s1, s2, s3, s4, s5⟩ := root_step (k := k) (by omega) hI (by omega) hl (by omega) (by omega)
  rw [s1] at ey
  rw [← ey] at s2 s3 s4 s5
  refine ⟨trivial, fun z _ _ z1 _ _ hz => ⟨trivial, fun t ht => ?_⟩⟩
  replace hz : w128 z z1 = y * y := hz
  replace ht : b2i t = b2i (decide (w128 h l < w128 z z1)) := ht
  rw [b2i_dec, hz] at ht
  refine ⟨fun h => ⟨by omega, fun j ej _ _ => ⟨?_, ?_⟩⟩, fun h => ⟨by omega, fun j ej _ _ => ⟨?_, ?_⟩⟩⟩
  · show rootInv 64 _ y j
    rw [ej]; exact s4 (Int.not_lt.1 fun h' => h (ht.2 h'))
  · show (64 - j).toNat < (64 - i).toNat
    omega
  · show rootInv 64 _ x j
    rw [ej]; exact s5 (ht.1 (Classical.not_not.1 h))
  · show (64 - j).toNat < (64 - i).toNat
    omega

theorem log_le {n k j : Int} (hk : 0 ≤ k) (h1 : (2 : Int) ^ k.toNat ≤ n) (hj : 0 ≤ j) (h2 : n < 2 * 2 ^ j.toNat) : k ≤ j := by
  rcases Int.lt_or_le j k with h | h
  · have := pow2_le (a := j.toNat + 1) (b := k.toNat) (by omega)
    rw [Int.pow_succ] at this
    omega
  · exact h

def isLog (n k : Int) : Prop := (n = 0 → k = -1) ∧ (0 < n → 0 ≤ k ∧ k ≤ 63 ∧ 2 ^ k.toNat ≤ n ∧ n < 2 * 2 ^ k.toNat)

theorem log_uniq {n k j : Int} (hn : 0 ≤ n) (hk : isLog n k) (hj : isLog n j) : k = j := by
  rcases Int.lt_or_le 0 n with h | h
  · obtain ⟨a, b, c, d⟩ := hk.2 h
    obtain ⟨a', b', c', d'⟩ := hj.2 h
    have := log_le a c a' d'
    have := log_le a' c' a d
    omega
  · have := hk.1 (by omega)
    have := hj.1 (by omega)
    omega

theorem root_nonneg {n x : Int} (h : isRoot n x) : 0 ≤ x := by
  obtain ⟨h1, h2⟩ := h
  have : (x + 1) * (x + 1) = x * x + 2 * x + 1 := by grind
  omega

theorem root_is {n x y : Int} (hx : isRoot n x) (hy : isRoot n y) : x = y := root_uniq hx hy (root_nonneg hx) (root_nonneg hy)

end Go.Proofs.YtlclmanhkhfilaaDoor.Sx
