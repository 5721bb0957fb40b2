/-
  What a world must bear when a call begins: the laid variables' blocks; here there are none.
-/
import Derived.Test.YthiinecohgmnmaaRows
import Derived.Calls
import Derived.Below
import Derived.Scope
namespace Go.Proofs.Ythiinecohgmnmaa.Sx
open Go Go.RowKit

/-- the laid variables' blocks: number, numbers with their kinds. -/
def globB : List (Nat × List (IntKind × Int)) := []
/-- a world that bears them. -/
def wJ : World := default
def gcells (g : Nat × List (IntKind × Int)) : Array Value := (g.2.map fun c => Value.int c.1 c.2).toArray
def J (w : World) : Prop := ∀ g ∈ globB, ∃ fr ty, w.heap[g.1]? = some (.cells (gcells g) ty fr)
theorem J_kept {w w' : World} (h : Below w.heap.size w w') (j : J w) : J w' := by
  intro g hg
  obtain ⟨fr, ty, e⟩ := j g hg
  refine ⟨fr, ty, ?_⟩
  rw [h.block g.1 (Array.getElem?_eq_some_iff.1 e |>.1)]
  exact e
theorem wJ_ok : J wJ := by
  intro g hg
  cases hg
theorem globB_nodup : (globB.map (·.1)).Nodup := by decide

end Go.Proofs.Ythiinecohgmnmaa.Sx
