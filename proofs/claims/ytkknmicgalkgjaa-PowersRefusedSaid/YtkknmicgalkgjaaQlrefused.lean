/-
  The law PowersRefused of the given program holds: whatever the input, it returns true, and its arguments read as they did. No condition.
-/
import Derived.Test.YtkknmicgalkgjaaRv
import Derived.Test.YtkknmicgalkgjaaPwf
import Derived.Test.YtkknmicgalkgjaaSxp
namespace Go.Proofs.Ytkknmicgalkgjaa.Sx
open Go Go.RowKit Go.ChangeShapes Go.WideShapes Go.ChangeAt

theorem walk_lrefused (args : List Value) (h : shaFits ash_lrefused args) : Pure Try.prog 8 args.toArray fun v => v = .bool true := by
  intro w
  have hp : E.pre 8 (args.map vints) := by
    show Pre_lrefused (args.map vints)
    obtain ⟨a0, r0, rfl, f0, g0⟩ := h
    obtain ⟨a1, r1, rfl, f1, g1⟩ := g0
    cases g1
    obtain ⟨n0, rfl, _, _⟩ := f0
    obtain ⟨n1, rfl, _, _⟩ := f1
    exact trivial
  refine (pure_lrefused vAll p_lrefused args h hp w).mono ?_
  rintro e w' ⟨v, rfl, ⟨hf, hpost⟩, hs⟩
  obtain ⟨b, rfl⟩ := hf
  refine ⟨_, rfl, ?_, hs⟩
  replace hpost : Post_lrefused (args.map vints) [[b2i b]] := hpost
  obtain ⟨a0, r0, rfl, f0, g0⟩ := h
  obtain ⟨a1, r1, rfl, f1, g1⟩ := g0
  cases g1
  obtain ⟨n0, rfl, _, _⟩ := f0
  obtain ⟨n1, rfl, _, _⟩ := f1
  replace hpost : b2i b = 1 := hpost
  cases b
  · exact absurd hpost (by decide)
  · rfl

theorem lifted_lrefused (os : Os) (started : os.Started) (H : Type) (enc : TypeId × Value → H) :
    ReturnsInHanded {} Try.checked os 8 .any (Rows.powersRefusedSpec.pre6 enc Try.prog Try.f8 Rows.powersRefusedRow.domain false) (Rows.powersRefusedSpec.post enc Try.prog Try.f8 false true false false) := by
  refine law_lifted (C := Try.checked) (ash := ash_lrefused) (tb := Try.f8.resultTypes[0]!) (by kernel_rfl) started (by kernel_rfl) Try.func8 (by kernel_rfl) (by kernel_rfl) (by kernel_rfl) rfl ?_ (by kernel_rfl) (by kernel_rfl)
    (ChangeSpec.witness6 (enc := enc) (C := Try.checked) false ⟨#[], #[.int .i32 0, .int .i32 0], []⟩ 8 (by kernel_rfl) (by kernel_rfl) (by kernel_rfl) (by kernel_rfl)) walk_lrefused
  intro ds hl
  replace hl : ds.length = 2 := hl
  match ds, hl with
  | [d0, d1], _ => rfl

theorem proved_lrefused : Rows.PowersRefusedSaid :=
  OpenClaim.holds_of_wide 8 Try.f8 rfl rfl rfl rfl rfl rfl rfl ⟨rfl, rfl, rfl, rfl, rfl⟩ rfl rfl rfl rfl rfl (by kernel_rfl) Try.func8 (by kernel_rfl)
    (of_decide_eq_true (by kernel_rfl)) (by unfold Func.isWrapper; first | (rw [if_pos (by decide +kernel)]; kernel_rfl) | (rw [if_neg (by decide +kernel)]; exact ⟨rfl, rfl⟩))
    (fun os started H enc _ => lifted_lrefused os started H enc)
#print axioms proved_lrefused
end Go.Proofs.Ytkknmicgalkgjaa.Sx
