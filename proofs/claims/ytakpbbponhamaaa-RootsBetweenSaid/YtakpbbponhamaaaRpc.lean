/-
  Plain laws, part c: roots.
-/
import Derived.Test.YtakpbbponhamaaaRpa
set_option linter.all false
namespace Go.Proofs.Ytakpbbponhamaaa.Sx
open Go Go.RowKit

theorem sq_lt {x k : Int} (hk : 0 ≤ k) (h : x * x < k * k) : x < k := by
  rcases Int.lt_or_le x k with h1 | h1
  · exact h1
  · have := Int.mul_le_mul h1 h1 hk (by omega : 0 ≤ x)
    omega

theorem root_le {n m x y : Int} (hx : isRoot n x) (hy : isRoot m y) (h : n ≤ m) (h0 : 0 ≤ y) : x ≤ y := by
  have : x * x < (y + 1) * (y + 1) := Int.lt_of_le_of_lt (Int.le_trans hx.1 h) hy.2
  have := sq_lt (by omega) this
  omega

theorem root_uniq {n x y : Int} (hx : isRoot n x) (hy : isRoot n y) (h0 : 0 ≤ x) (h1 : 0 ≤ y) : x = y := by
  have := root_le hx hy (Int.le_refl _) h1
  have := root_le hy hx (Int.le_refl _) h0
  omega

theorem root_lt {n x k : Int} (hx : isRoot n x) (hk : 0 ≤ k) (h : n < k * k) : x < k := sq_lt hk (Int.lt_of_le_of_lt hx.1 h)

theorem p_root : P_root := by
  unfold P_root
  intro n h1 h2 _
  exact ⟨trivial, fun _ => ⟨trivial, fun x _ _ h => h⟩⟩

theorem p_narrow1 : P_narrow1 := by
  unfold P_narrow1
  intro n h1 h2 hp m em _ _
  simp only [Pre_narrow1, Post_narrow1, wrap_u64] at *
  have hp' : n ≤ 4294967295 := by omega
  have := Int.mul_le_mul hp' hp' h1 (by omega)
  have := Int.mul_nonneg h1 h1
  omega

theorem p_wide1 : P_wide1 := by
  unfold P_wide1
  intros
  repeat' (first | intro _ | refine And.intro ?_ ?_)
  all_goals (simp only [Pre_mul64, Post_mul64, Post_wide1, w128] at * <;> try assumption)

theorem p_sqrt : P_sqrt := by
  unfold P_sqrt
  intro n h1 h2 _
  refine ⟨fun h => ?_, fun h n1 e1 _ _ => ⟨trivial, fun n2 h5 h6 hr n3 e3 _ _ => ?_⟩⟩
  · show (_ → _ ∧ _) ∧ (_ → _ ∧ _)
    exact ⟨fun _ => ⟨rfl, rfl⟩, fun h' => absurd h (by omega)⟩
  · show (_ → _ ∧ _) ∧ (_ → _ ∧ _)
    simp only [Post_root, wrap_u64, wrap_i32] at e1 hr e3
    have e : n1 = n * 65536 := by omega
    subst e
    have := root_lt (k := 2147483648) hr (by omega) (by omega)
    have e : n3 = n2 := by omega
    subst e
    exact ⟨fun h' => absurd h' h, fun _ => ⟨rfl, hr⟩⟩

theorem p_rSqrt : P_rSqrt := by
  unfold P_rSqrt
  intro n h1 h2 _
  refine ⟨fun h => ?_, fun h n1 e1 _ _ => ⟨trivial, fun n2 h5 h6 hr n3 e3 _ _ => ?_⟩⟩
  · show (_ → _ ∧ _) ∧ (_ → _ ∧ _)
    exact ⟨fun _ => ⟨rfl, rfl⟩, fun h' => absurd h (by omega)⟩
  · show (_ → _ ∧ _) ∧ (_ → _ ∧ _)
    simp only [Post_rRoot, wrap_u64, wrap_i32] at e1 hr e3
    have e : n1 = n * 65536 := by omega
    subst e
    have := root_lt (k := 2147483648) hr (by omega) (by omega)
    have e : n3 = n2 := by omega
    subst e
    exact ⟨fun h' => absurd h' h, fun _ => ⟨rfl, hr⟩⟩

theorem p_log : P_log := by
  unfold P_log
  intro n h1 h2 _
  refine ⟨trivial, fun n1 h3 h4 hp n2 e2 _ _ => ?_⟩
  simp only [Post_log, Post_len64] at *
  obtain ⟨_, p1, p2, p3⟩ := hp
  refine ⟨fun h => by have := p3 h; omega, fun h => ?_⟩
  have hn : 1 ≤ n1 := by
    rcases Int.lt_or_le n1 1 with h' | h'
    · have : n1.toNat = 0 := by omega
      rw [this] at p1
      omega
    · exact h'
  have e : n1.toNat = n2.toNat + 1 := by omega
  rw [e, Int.pow_succ] at p1 p2
  have := p2 h
  omega

theorem p_rootWide : P_rootWide := by
  unfold P_rootWide
  intro n h1 h2 n1 h3 h4 _ b
  refine ⟨trivial, fun n2 _ _ n3 _ _ ho => ⟨trivial, fun c _ _ hc => ⟨fun hl => ?_, fun hl => ⟨trivial, fun _ n5 e5 _ _ => ⟨trivial, fun n6 _ _ hr => ?_⟩⟩⟩⟩⟩
  · show (_ → _ ∧ _) ∧ (_ → _ ∧ _)
    simp only [Post_wof, Post_wcmp, w128] at ho hc
    exact ⟨fun _ => ⟨rfl, rfl⟩, fun h' => by omega⟩
  · show (_ → _ ∧ _) ∧ (_ → _ ∧ _)
    simp only [Post_wof, Post_wcmp, Post_rootwide, wrap_u64] at ho hc hr e5
    simp only [w128] at ho hc
    have : n5 = n := by omega
    subst this
    exact ⟨fun h => by omega, fun h => ⟨rfl, hr⟩⟩

end Go.Proofs.Ytakpbbponhamaaa.Sx
