/-
  The law PlacesNear of the given program holds: whatever the input, it returns true, and its arguments read as they did. No condition.
-/
import Derived.Test.YtigkdggmojannaaRv
import Derived.Test.YtigkdggmojannaaPb
import Derived.Test.YtigkdggmojannaaSxp
namespace Go.Proofs.Ytigkdggmojannaa.Sx
open Go Go.RowKit Go.ChangeShapes Go.WideShapes Go.ChangeAt

theorem walk_lnear (args : List Value) (h : shaFits ash_lnear args) : Pure Try.prog 5 args.toArray fun v => v = .bool true := by
  intro w
  have hp : E.pre 5 (args.map vints) := by
    show Pre_lnear (args.map vints)
    obtain ⟨a0, r0, rfl, f0, g0⟩ := h
    cases g0
    obtain ⟨vs0, rfl, k0⟩ := f0
    obtain ⟨b0_0, s0_0, rfl, e0_0, k0_0⟩ := k0
    obtain ⟨b0_1, s0_1, rfl, e0_1, k0_1⟩ := k0_0
    obtain ⟨b0_2, s0_2, rfl, e0_2, k0_2⟩ := k0_1
    obtain ⟨b0_3, s0_3, rfl, e0_3, k0_3⟩ := k0_2
    obtain ⟨b0_4, s0_4, rfl, e0_4, k0_4⟩ := k0_3
    obtain ⟨b0_5, s0_5, rfl, e0_5, k0_5⟩ := k0_4
    obtain ⟨b0_6, s0_6, rfl, e0_6, k0_6⟩ := k0_5
    obtain ⟨b0_7, s0_7, rfl, e0_7, k0_7⟩ := k0_6
    obtain ⟨b0_8, s0_8, rfl, e0_8, k0_8⟩ := k0_7
    obtain ⟨b0_9, s0_9, rfl, e0_9, k0_9⟩ := k0_8
    obtain ⟨b0_10, s0_10, rfl, e0_10, k0_10⟩ := k0_9
    obtain ⟨b0_11, s0_11, rfl, e0_11, k0_11⟩ := k0_10
    cases k0_11
    exact trivial
  refine (pure_lnear vAll p_lnear args h hp w).mono ?_
  rintro e w' ⟨v, rfl, ⟨hf, hpost⟩, hs⟩
  obtain ⟨b, rfl⟩ := hf
  refine ⟨_, rfl, ?_, hs⟩
  replace hpost : Post_lnear (args.map vints) [[b2i b]] := hpost
  obtain ⟨a0, r0, rfl, f0, g0⟩ := h
  cases g0
  obtain ⟨vs0, rfl, k0⟩ := f0
  obtain ⟨b0_0, s0_0, rfl, e0_0, k0_0⟩ := k0
  obtain ⟨b0_1, s0_1, rfl, e0_1, k0_1⟩ := k0_0
  obtain ⟨b0_2, s0_2, rfl, e0_2, k0_2⟩ := k0_1
  obtain ⟨b0_3, s0_3, rfl, e0_3, k0_3⟩ := k0_2
  obtain ⟨b0_4, s0_4, rfl, e0_4, k0_4⟩ := k0_3
  obtain ⟨b0_5, s0_5, rfl, e0_5, k0_5⟩ := k0_4
  obtain ⟨b0_6, s0_6, rfl, e0_6, k0_6⟩ := k0_5
  obtain ⟨b0_7, s0_7, rfl, e0_7, k0_7⟩ := k0_6
  obtain ⟨b0_8, s0_8, rfl, e0_8, k0_8⟩ := k0_7
  obtain ⟨b0_9, s0_9, rfl, e0_9, k0_9⟩ := k0_8
  obtain ⟨b0_10, s0_10, rfl, e0_10, k0_10⟩ := k0_9
  obtain ⟨b0_11, s0_11, rfl, e0_11, k0_11⟩ := k0_10
  cases k0_11
  replace hpost : b2i b = 1 := hpost
  cases b
  · exact absurd hpost (by decide)
  · rfl

theorem lifted_lnear (os : Os) (started : os.Started) (H : Type) (enc : TypeId × Value → H) :
    ReturnsInHanded {} Try.checked os 5 .any (Rows.placesNearSpec.pre6 enc Try.prog Try.f5 Rows.placesNearRow.domain false) (Rows.placesNearSpec.post enc Try.prog Try.f5 false true false false) := by
  refine law_lifted (C := Try.checked) (ash := ash_lnear) (tb := Try.f5.resultTypes[0]!) (by kernel_rfl) started (by kernel_rfl) Try.func5 (by kernel_rfl) (by kernel_rfl) (by kernel_rfl) rfl ?_ (by kernel_rfl) (by kernel_rfl)
    (ChangeSpec.witness6 (enc := enc) (C := Try.checked) false ⟨#[], #[.agg #[.int .i32 0, .int .i32 0, .int .i32 0, .int .i32 0, .int .i32 0, .int .i32 0, .int .i64 0, .int .u64 0, .int .i64 0, .int .i64 0, .int .u64 0, .int .i64 0]], []⟩ 8 (by kernel_rfl) (by kernel_rfl) (by kernel_rfl) (by kernel_rfl)) walk_lnear
  intro ds hl
  replace hl : ds.length = 1 := hl
  match ds, hl with
  | [d0], _ => rfl

theorem proved_lnear : Rows.PlacesNearSaid :=
  OpenClaim.holds_of_wide 5 Try.f5 rfl rfl rfl rfl rfl rfl rfl ⟨rfl, rfl, rfl, rfl, rfl⟩ rfl rfl rfl rfl rfl (by kernel_rfl) Try.func5 (by kernel_rfl)
    (of_decide_eq_true (by kernel_rfl)) (by unfold Func.isWrapper; first | (rw [if_pos (by decide +kernel)]; kernel_rfl) | (rw [if_neg (by decide +kernel)]; exact ⟨rfl, rfl⟩))
    (fun os started H enc _ => lifted_lnear os started H enc)
#print axioms proved_lnear
end Go.Proofs.Ytigkdggmojannaa.Sx
