/-
  The law PowersBack of the given program holds: whatever the input, it returns true, and its arguments read as they did. No condition.
-/
import Derived.Test.YtkknmicgalkgjaaRv
import Derived.Test.YtkknmicgalkgjaaPwf
import Derived.Test.YtkknmicgalkgjaaSxp
namespace Go.Proofs.Ytkknmicgalkgjaa.Sx
open Go Go.RowKit Go.ChangeShapes Go.WideShapes Go.ChangeAt

theorem walk_lback (args : List Value) (h : shaFits ash_lback args) : Pure Try.prog 5 args.toArray fun v => v = .bool true := by
  intro w
  have hp : E.pre 5 (args.map vints) := by
    show Pre_lback (args.map vints)
    obtain ⟨a0, r0, rfl, f0, g0⟩ := h
    cases g0
    obtain ⟨n0, rfl, _, _⟩ := f0
    exact trivial
  refine (pure_lback vAll p_lback args h hp w).mono ?_
  rintro e w' ⟨v, rfl, ⟨hf, hpost⟩, hs⟩
  obtain ⟨b, rfl⟩ := hf
  refine ⟨_, rfl, ?_, hs⟩
  replace hpost : Post_lback (args.map vints) [[b2i b]] := hpost
  obtain ⟨a0, r0, rfl, f0, g0⟩ := h
  cases g0
  obtain ⟨n0, rfl, _, _⟩ := f0
  replace hpost : b2i b = 1 := hpost
  cases b
  · exact absurd hpost (by decide)
  · rfl

theorem lifted_lback (os : Os) (started : os.Started) (H : Type) (enc : TypeId × Value → H) :
    ReturnsInHanded {} Try.checked os 5 .any (Rows.powersBackSpec.pre6 enc Try.prog Try.f5 Rows.powersBackRow.domain false) (Rows.powersBackSpec.post enc Try.prog Try.f5 false true false false) := by
  refine law_lifted (C := Try.checked) (ash := ash_lback) (tb := Try.f5.resultTypes[0]!) (by kernel_rfl) started (by kernel_rfl) Try.func5 (by kernel_rfl) (by kernel_rfl) (by kernel_rfl) rfl ?_ (by kernel_rfl) (by kernel_rfl)
    (ChangeSpec.witness6 (enc := enc) (C := Try.checked) false ⟨#[], #[.int .i32 0], []⟩ 8 (by kernel_rfl) (by kernel_rfl) (by kernel_rfl) (by kernel_rfl)) walk_lback
  intro ds hl
  replace hl : ds.length = 1 := hl
  match ds, hl with
  | [d0], _ => rfl

theorem proved_lback : Rows.PowersBackSaid :=
  OpenClaim.holds_of_wide 5 Try.f5 rfl rfl rfl rfl rfl rfl rfl ⟨rfl, rfl, rfl, rfl, rfl⟩ rfl rfl rfl rfl rfl (by kernel_rfl) Try.func5 (by kernel_rfl)
    (of_decide_eq_true (by kernel_rfl)) (by unfold Func.isWrapper; first | (rw [if_pos (by decide +kernel)]; kernel_rfl) | (rw [if_neg (by decide +kernel)]; exact ⟨rfl, rfl⟩))
    (fun os started H enc _ => lifted_lback os started H enc)
#print axioms proved_lback
end Go.Proofs.Ytkknmicgalkgjaa.Sx
