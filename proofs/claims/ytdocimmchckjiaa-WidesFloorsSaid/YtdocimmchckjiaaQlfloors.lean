/-
  The law WidesFloors of the given program holds: whatever the input, it returns true, and its arguments read as they did. No condition.
-/
import Derived.Test.YtdocimmchckjiaaRv
import Derived.Test.YtdocimmchckjiaaWld
import Derived.Test.YtdocimmchckjiaaSxp
namespace Go.Proofs.Ytdocimmchckjiaa.Sx
open Go Go.RowKit Go.ChangeShapes Go.WideShapes Go.ChangeAt

theorem walk_lfloors (args : List Value) (h : shaFits ash_lfloors args) : Pure Try.prog 5 args.toArray fun v => v = .bool true := by
  intro w
  have hp : E.pre 5 (args.map vints) := by
    show Pre_lfloors (args.map vints)
    obtain ⟨a0, r0, rfl, f0, g0⟩ := h
    obtain ⟨a1, r1, rfl, f1, g1⟩ := g0
    cases g1
    obtain ⟨vs0, rfl, k0⟩ := f0
    obtain ⟨b0_0, s0_0, rfl, e0_0, k0_0⟩ := k0
    obtain ⟨b0_1, s0_1, rfl, e0_1, k0_1⟩ := k0_0
    cases k0_1
    obtain ⟨n1, rfl, _, _⟩ := f1
    exact trivial
  refine (pure_lfloors vAll p_lfloors args h hp w).mono ?_
  rintro e w' ⟨v, rfl, ⟨hf, hpost⟩, hs⟩
  obtain ⟨b, rfl⟩ := hf
  refine ⟨_, rfl, ?_, hs⟩
  replace hpost : Post_lfloors (args.map vints) [[b2i b]] := hpost
  obtain ⟨a0, r0, rfl, f0, g0⟩ := h
  obtain ⟨a1, r1, rfl, f1, g1⟩ := g0
  cases g1
  obtain ⟨vs0, rfl, k0⟩ := f0
  obtain ⟨b0_0, s0_0, rfl, e0_0, k0_0⟩ := k0
  obtain ⟨b0_1, s0_1, rfl, e0_1, k0_1⟩ := k0_0
  cases k0_1
  obtain ⟨n1, rfl, _, _⟩ := f1
  replace hpost : b2i b = 1 := hpost
  cases b
  · exact absurd hpost (by decide)
  · rfl

theorem lifted_lfloors (os : Os) (started : os.Started) (H : Type) (enc : TypeId × Value → H) :
    ReturnsInHanded {} Try.checked os 5 .any (Rows.widesFloorsSpec.pre6 enc Try.prog Try.f5 Rows.widesFloorsRow.domain false) (Rows.widesFloorsSpec.post enc Try.prog Try.f5 false true false false) := by
  refine law_lifted (C := Try.checked) (ash := ash_lfloors) (tb := Try.f5.resultTypes[0]!) (by kernel_rfl) started (by kernel_rfl) Try.func5 (by kernel_rfl) (by kernel_rfl) (by kernel_rfl) rfl ?_ (by kernel_rfl) (by kernel_rfl)
    (ChangeSpec.witness6 (enc := enc) (C := Try.checked) false ⟨#[], #[.agg #[.int .i64 0, .int .u64 0], .int .i64 0], []⟩ 8 (by kernel_rfl) (by kernel_rfl) (by kernel_rfl) (by kernel_rfl)) walk_lfloors
  intro ds hl
  replace hl : ds.length = 2 := hl
  match ds, hl with
  | [d0, d1], _ => rfl

theorem proved_lfloors : Rows.WidesFloorsSaid :=
  OpenClaim.holds_of_wide 5 Try.f5 rfl rfl rfl rfl rfl rfl rfl ⟨rfl, rfl, rfl, rfl, rfl⟩ rfl rfl rfl rfl rfl (by kernel_rfl) Try.func5 (by kernel_rfl)
    (of_decide_eq_true (by kernel_rfl)) (by unfold Func.isWrapper; first | (rw [if_pos (by decide +kernel)]; kernel_rfl) | (rw [if_neg (by decide +kernel)]; exact ⟨rfl, rfl⟩))
    (fun os started H enc _ => lifted_lfloors os started H enc)
#print axioms proved_lfloors
end Go.Proofs.Ytdocimmchckjiaa.Sx
