/-
  What a world must bear when a call begins: the laid variables' blocks.
-/
import Derived.Test.YtcjllibeaiofpaaGreatDoorRows
import Derived.Calls
import Derived.Below
import Derived.Scope
namespace Go.Proofs.YtcjllibeaiofpaaGreatDoor.Sx
open Go Go.RowKit
def globB : List (Nat × List (IntKind × Int)) := [(0, [(.i64, 0), (.i64, 65535), (.i64, 32768)])]
def wJ : World := { (default : World) with heap := #[.cells #[.int .i64 0, .int .i64 65535, .int .i64 32768] 0 (0, 0)] }
def gcells (g : Nat × List (IntKind × Int)) : Array Value := (g.2.map fun c => Value.int c.1 c.2).toArray
def J (w : World) : Prop := ∀ g ∈ globB, ∃ fr ty, w.heap[g.1]? = some (.cells (gcells g) ty fr)
theorem J_kept {w w' : World} (h : Below w.heap.size w w') (j : J w) : J w' := by
 intro g hg
 obtain ⟨fr, ty, e⟩ := j g hg
 refine ⟨fr, ty, ?_⟩
 rw [h.block g.1 (Array.getElem?_eq_some_iff.1 e |>.1)]
 exact e
theorem wJ_ok : J wJ := by
 intro g hg
 obtain rfl := List.mem_singleton.1 hg
 exact ⟨_, _, rfl⟩
theorem globB_nodup : (globB.map (·.1)).Nodup := by decide
end Go.Proofs.YtcjllibeaiofpaaGreatDoor.Sx
