/-
  The law PowersSquares of the given program holds: whatever the input, it returns true, and its arguments read as they did. No condition.
-/
import Derived.Test.YtkknmicgalkgjaaRv
import Derived.Test.YtkknmicgalkgjaaPwg
import Derived.Test.YtkknmicgalkgjaaSxp
namespace Go.Proofs.Ytkknmicgalkgjaa.Sx
open Go Go.RowKit Go.ChangeShapes Go.WideShapes Go.ChangeAt

theorem walk_lsquares (args : List Value) (h : shaFits ash_lsquares args) : Pure Try.prog 9 args.toArray fun v => v = .bool true := by
  intro w
  have hp : E.pre 9 (args.map vints) := by
    show Pre_lsquares (args.map vints)
    obtain ⟨a0, r0, rfl, f0, g0⟩ := h
    obtain ⟨a1, r1, rfl, f1, g1⟩ := g0
    cases g1
    obtain ⟨n0, rfl, _, _⟩ := f0
    obtain ⟨n1, rfl, _, _⟩ := f1
    exact trivial
  refine (pure_lsquares vAll p_lsquares args h hp w).mono ?_
  rintro e w' ⟨v, rfl, ⟨hf, hpost⟩, hs⟩
  obtain ⟨b, rfl⟩ := hf
  refine ⟨_, rfl, ?_, hs⟩
  replace hpost : Post_lsquares (args.map vints) [[b2i b]] := hpost
  obtain ⟨a0, r0, rfl, f0, g0⟩ := h
  obtain ⟨a1, r1, rfl, f1, g1⟩ := g0
  cases g1
  obtain ⟨n0, rfl, _, _⟩ := f0
  obtain ⟨n1, rfl, _, _⟩ := f1
  replace hpost : b2i b = 1 := hpost
  cases b
  · exact absurd hpost (by decide)
  · rfl

theorem lifted_lsquares (os : Os) (started : os.Started) (H : Type) (enc : TypeId × Value → H) :
    ReturnsInHanded {} Try.checked os 9 .any (Rows.powersSquaresSpec.pre6 enc Try.prog Try.f9 Rows.powersSquaresRow.domain false) (Rows.powersSquaresSpec.post enc Try.prog Try.f9 false true false false) := by
  refine law_lifted (C := Try.checked) (ash := ash_lsquares) (tb := Try.f9.resultTypes[0]!) (by kernel_rfl) started (by kernel_rfl) Try.func9 (by kernel_rfl) (by kernel_rfl) (by kernel_rfl) rfl ?_ (by kernel_rfl) (by kernel_rfl)
    (ChangeSpec.witness6 (enc := enc) (C := Try.checked) false ⟨#[], #[.int .i32 0, .int .i8 0], []⟩ 8 (by kernel_rfl) (by kernel_rfl) (by kernel_rfl) (by kernel_rfl)) walk_lsquares
  intro ds hl
  replace hl : ds.length = 2 := hl
  match ds, hl with
  | [d0, d1], _ => rfl

theorem proved_lsquares : Rows.PowersSquaresSaid :=
  OpenClaim.holds_of_wide 9 Try.f9 rfl rfl rfl rfl rfl rfl rfl ⟨rfl, rfl, rfl, rfl, rfl⟩ rfl rfl rfl rfl rfl (by kernel_rfl) Try.func9 (by kernel_rfl)
    (of_decide_eq_true (by kernel_rfl)) (by unfold Func.isWrapper; first | (rw [if_pos (by decide +kernel)]; kernel_rfl) | (rw [if_neg (by decide +kernel)]; exact ⟨rfl, rfl⟩))
    (fun os started H enc _ => lifted_lsquares os started H enc)
#print axioms proved_lsquares
end Go.Proofs.Ytkknmicgalkgjaa.Sx
