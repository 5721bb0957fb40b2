/-
  The law PowersOf of the given program holds: whatever the input, it returns true, and its arguments read as they did. No condition.
-/
import Derived.Test.YthiinecohgmnmaaRv
import Derived.Test.YthiinecohgmnmaaUe
import Derived.Test.YthiinecohgmnmaaSxp
namespace Go.Proofs.Ythiinecohgmnmaa.Sx
open Go Go.RowKit Go.ChangeShapes Go.WideShapes Go.ChangeAt

theorem walk_lof (args : List Value) (h : shaFits ash_lof args) : Pure Try.prog 3 args.toArray fun v => v = .bool true := by
  intro w hj
  have hp : E.pre 3 (args.map vints) := by
    show Pre_lof (args.map vints)
    obtain ⟨a0, r0, rfl, f0, g0⟩ := h
    obtain ⟨a1, r1, rfl, f1, g1⟩ := g0
    cases g1
    obtain ⟨n0, rfl, _, _⟩ := f0
    obtain ⟨n1, rfl, _, _⟩ := f1
    exact trivial
  refine (pure_lof vAll p_lof args h hp w hj).mono ?_
  rintro e w' ⟨v, rfl, ⟨hf, hpost⟩, hs⟩
  obtain ⟨b, rfl⟩ := hf
  refine ⟨_, rfl, ?_, hs⟩
  replace hpost : Post_lof (args.map vints) [[b2i b]] := hpost
  obtain ⟨a0, r0, rfl, f0, g0⟩ := h
  obtain ⟨a1, r1, rfl, f1, g1⟩ := g0
  cases g1
  obtain ⟨n0, rfl, _, _⟩ := f0
  obtain ⟨n1, rfl, _, _⟩ := f1
  replace hpost : b2i b = 1 := hpost
  cases b
  · exact absurd hpost (by decide)
  · rfl

theorem lifted_lof (os : Os) (started : os.Started) (H : Type) (enc : TypeId × Value → H) :
    ReturnsInHanded {} Try.checked os 3 .any (Rows.powersOfSpec.pre6 enc Try.prog Try.f3 Rows.powersOfRow.domain false) (Rows.powersOfSpec.post enc Try.prog Try.f3 false true false false) := by
  refine law_lifted (C := Try.checked) (ash := ash_lof) (tb := Try.f3.resultTypes[0]!) (by kernel_rfl) started (by kernel_rfl) Try.func3 (by kernel_rfl) (by kernel_rfl) (by kernel_rfl) rfl ?_ (by kernel_rfl) (by kernel_rfl)
    (ChangeSpec.witness6 (enc := enc) (C := Try.checked) false ⟨#[], #[.int .i32 0, .int .i32 0], []⟩ 8 (by kernel_rfl) (by kernel_rfl) (by kernel_rfl) (by kernel_rfl)) (fun _ _ hg => by cases hg) walk_lof
  intro ds hl
  replace hl : ds.length = 2 := hl
  match ds, hl with
  | [d0, d1], _ => rfl

theorem proved_lof : Rows.PowersOfSaid :=
  OpenClaim.holds_of_wide 3 Try.f3 rfl rfl rfl rfl rfl rfl rfl ⟨rfl, rfl, rfl, rfl, rfl⟩ rfl rfl rfl rfl rfl (by kernel_rfl) Try.func3 (by kernel_rfl)
    (of_decide_eq_true (by kernel_rfl)) (by unfold Func.isWrapper; first | (rw [if_pos (by decide +kernel)]; kernel_rfl) | (rw [if_neg (by decide +kernel)]; exact ⟨rfl, rfl⟩))
    (fun os started H enc _ => lifted_lof os started H enc)
#print axioms proved_lof
end Go.Proofs.Ythiinecohgmnmaa.Sx
