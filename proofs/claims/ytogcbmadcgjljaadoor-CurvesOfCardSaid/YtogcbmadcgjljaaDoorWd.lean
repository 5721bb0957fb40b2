/-
  Plain laws, part d: less.
-/
import Derived.Test.YtogcbmadcgjljaaDoorWb
set_option linter.all false
namespace Go.Proofs.YtogcbmadcgjljaaDoor.Sx
open Go Go.RowKit

set_option maxHeartbeats 40000000 in
theorem p_less : P_less := by
  unfold P_less
  intro n _ _ n1 _ _ n2 _ _ n3 _ _ n4 _ _ n5 _ _ n6 _ _ n7 _ _ n8 _ _ n9 _ _ n10 _ _ n11 _ _ n12 _ _ n13 _ _ n14 _ _ n15 _ _ n16 _ _ n17 _ _ n18 _ _ n19 _ _ n20 _ _ n21 _ _ n22 _ _ n23 _ _
  intro hp _ _ _
  simp only [Pre_less, vd] at hp
  refine ⟨?_, ?_⟩
  · simp [Inv_less, vd, nnb]
    omega
  intro n24 _ _ n25 _ _ n26 _ _ n27 _ _ n28 _ _ n29 _ _ n30 _ _ n31 _ _ n32 _ _ n33 _ _ n34 _ _ n35 _ _ n36 _ _
  intro hI _ _
  refine ⟨?_, ?_⟩
  · intro hl
    have hi : n24 = 0 ∨ n24 = 1 ∨ n24 = 2 ∨ n24 = 3 ∨ n24 = 4 ∨ n24 = 5 ∨ n24 = 6 ∨ n24 = 7 ∨ n24 = 8 ∨ n24 = 9 ∨ n24 = 10 ∨ n24 = 11 := by omega
    clear hl
    rcases hi with rfl | rfl | rfl | rfl | rfl | rfl | rfl | rfl | rfl | rfl | rfl | rfl
    all_goals
      simp [Inv_less, vd, nnb] at hI
      simp only [Int.reduceLT, Int.reduceEq, Int.reduceAdd, reduceIte, true_and]
    all_goals (repeat' (first | intro _ | refine And.intro ?_ ?_))
    all_goals first | omega | trivial | (simp only [Mea_less]; omega) | (subst_vars; simp [vd]; omega)
  · intro hl
    have : n24 = 12 := by omega
    subst this
    simp [Inv_less, vd, nnb] at hI
    repeat' (first | intro _ | refine And.intro ?_ ?_)
    all_goals first | omega | (simp only [Post_less, vd]; omega)

end Go.Proofs.YtogcbmadcgjljaaDoor.Sx
