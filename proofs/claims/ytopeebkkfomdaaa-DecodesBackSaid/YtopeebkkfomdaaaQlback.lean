/-
  The law DecodesBack of the given program holds: whatever the input, it returns true, and its arguments read as they did. No condition.
-/
import Derived.Test.YtopeebkkfomdaaaRv
import Derived.Test.YtopeebkkfomdaaaDg
import Derived.Test.YtopeebkkfomdaaaSxp
namespace Go.Proofs.Ytopeebkkfomdaaa.Sx
open Go Go.RowKit Go.ChangeShapes Go.WideShapes Go.ChangeAt

theorem walk_lback (args : List Value) (h : shaFits ash_lback args) : Pure Try.prog 6 args.toArray fun v => v = .bool true := by
  intro w
  have hp : E.pre 6 (args.map vints) := by
    show Pre_lback (args.map vints)
    obtain ⟨a0, r0, rfl, f0, g0⟩ := h
    cases g0
    obtain ⟨vs0, rfl, k0⟩ := f0
    obtain ⟨b0_0, s0_0, rfl, e0_0, k0_0⟩ := k0
    obtain ⟨b0_1, s0_1, rfl, e0_1, k0_1⟩ := k0_0
    obtain ⟨b0_2, s0_2, rfl, e0_2, k0_2⟩ := k0_1
    obtain ⟨b0_3, s0_3, rfl, e0_3, k0_3⟩ := k0_2
    obtain ⟨b0_4, s0_4, rfl, e0_4, k0_4⟩ := k0_3
    cases k0_4
    exact trivial
  refine (pure_lback vAll p_lback args h hp w).mono ?_
  rintro e w' ⟨v, rfl, ⟨hf, hpost⟩, hs⟩
  obtain ⟨b, rfl⟩ := hf
  refine ⟨_, rfl, ?_, hs⟩
  replace hpost : Post_lback (args.map vints) [[b2i b]] := hpost
  obtain ⟨a0, r0, rfl, f0, g0⟩ := h
  cases g0
  obtain ⟨vs0, rfl, k0⟩ := f0
  obtain ⟨b0_0, s0_0, rfl, e0_0, k0_0⟩ := k0
  obtain ⟨b0_1, s0_1, rfl, e0_1, k0_1⟩ := k0_0
  obtain ⟨b0_2, s0_2, rfl, e0_2, k0_2⟩ := k0_1
  obtain ⟨b0_3, s0_3, rfl, e0_3, k0_3⟩ := k0_2
  obtain ⟨b0_4, s0_4, rfl, e0_4, k0_4⟩ := k0_3
  cases k0_4
  replace hpost : b2i b = 1 := hpost
  cases b
  · exact absurd hpost (by decide)
  · rfl

theorem lifted_lback (os : Os) (started : os.Started) (H : Type) (enc : TypeId × Value → H) :
    ReturnsInHanded {} Try.checked os 6 .any (Rows.decodesBackSpec.pre6 enc Try.prog Try.f6 Rows.decodesBackRow.domain false) (Rows.decodesBackSpec.post enc Try.prog Try.f6 false true false false) := by
  refine law_lifted (C := Try.checked) (ash := ash_lback) (tb := Try.f6.resultTypes[0]!) (by kernel_rfl) started (by kernel_rfl) Try.func6 (by kernel_rfl) (by kernel_rfl) (by kernel_rfl) rfl ?_ (by kernel_rfl) (by kernel_rfl)
    (ChangeSpec.witness6 (enc := enc) (C := Try.checked) false ⟨#[], #[.agg #[.int .u32 0, .int .i64 0, .int .i32 0, .int .i32 0, .int .i32 0]], []⟩ 8 (by kernel_rfl) (by kernel_rfl) (by kernel_rfl) (by kernel_rfl)) walk_lback
  intro ds hl
  replace hl : ds.length = 1 := hl
  match ds, hl with
  | [d0], _ => rfl

theorem proved_lback : Rows.DecodesBackSaid :=
  OpenClaim.holds_of_wide 6 Try.f6 rfl rfl rfl rfl rfl rfl rfl ⟨rfl, rfl, rfl, rfl, rfl⟩ rfl rfl rfl rfl rfl (by kernel_rfl) Try.func6 (by kernel_rfl)
    (of_decide_eq_true (by kernel_rfl)) (by unfold Func.isWrapper; first | (rw [if_pos (by decide +kernel)]; kernel_rfl) | (rw [if_neg (by decide +kernel)]; exact ⟨rfl, rfl⟩))
    (fun os started H enc _ => lifted_lback os started H enc)
#print axioms proved_lback
end Go.Proofs.Ytopeebkkfomdaaa.Sx
