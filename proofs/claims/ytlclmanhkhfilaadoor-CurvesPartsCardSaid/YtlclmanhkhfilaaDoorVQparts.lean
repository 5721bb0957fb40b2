/-
  The law CurvesParts of the given program holds: whatever the input, it returns true, and its arguments read as they did. No condition.
-/
import Derived.Test.YtlclmanhkhfilaaDoorVh
import Derived.Test.YtlclmanhkhfilaaDoorVm
import Derived.Test.YtlclmanhkhfilaaDoorTie
import Derived.Test.YtlclmanhkhfilaaDoorCards
namespace Go.Proofs.YtlclmanhkhfilaaDoor
open Go Go.RowKit Go.ChangeShapes Go.WideShapes Go.ChangeAt

theorem lifted_curvesParts (os : Os) (started : os.Started) (H : Type) (enc : TypeId × Value → H) :
    ReturnsInHanded {} Tryd.checked os 6 .any (fun w args => (Rows.curvesPartsSpec.pre enc Tryd.prog Tryd.f6 [] false w args ∧ laidMetH Tryd.prog Sx.laidL w) ∧ sizedMet enc Tryd.prog Tryd.f6 (OpenSpec.ofChange Rows.curvesPartsSpec) false w args)
      (Rows.curvesPartsSpec.post enc Tryd.prog Tryd.f6 false true false false) := by
  refine law_lifted_curve4 (tb := Tryd.f6.resultTypes[0]!) (conds := []) (by kernel_rfl) started (by kernel_rfl) Tryd.func6 (by kernel_rfl) rfl (by kernel_rfl) rfl ?_ (by kernel_rfl) (by kernel_rfl)
    (ChangeSpec.witness_shaped (enc := enc) (C := Tryd.checked) (os := os) (X := fun w _ => laidMetH Tryd.prog Sx.laidL w) false (World.doorLaid Tryd.prog 400 os) #[.agg #[.int .u8 0, .slice none 0 0, .slice none 0 0, .slice none 0 0, .int .i64 0, .slice none 0 0, .slice none 0 0, .slice none 0 0, .slice none 0 0, .slice none 0 0, .int .i32 0, .slice none 0 0, .slice none 0 0, .string { data := #[] }], .int .i32 0] 8 rfl (World.shaped_of_RefB (by kernel_rfl) (by kernel_rfl)) (by kernel_rfl) (by kernel_rfl) (by kernel_rfl) (Sx.door_met os _)) lparts_any
  intro ds hl
  replace hl : ds.length = 2 := hl
  match ds, hl with
  | [d0, d1], _ => rfl

theorem row_curvesParts : Rows.CurvesPartsSaid :=
  OpenClaim.holds_of_wide 6 Tryd.f6 rfl rfl rfl rfl rfl rfl rfl ⟨rfl, rfl, rfl, rfl, rfl⟩ rfl rfl rfl rfl rfl (by kernel_rfl) Tryd.func6 (by kernel_rfl)
    (of_decide_eq_true (by kernel_rfl)) (by unfold Func.isWrapper; first | (rw [if_pos (by decide +kernel)]; kernel_rfl) | (rw [if_neg (by decide +kernel)]; exact ⟨rfl, rfl⟩))
    (fun os started H enc _ => lifted_curvesParts os started H enc)

theorem proved_curvesParts : Rows.CurvesPartsCardSaid :=
  Claim7.holds_tied_plain_at .later [] [.data] true (true, "351c2bfe82d14ea017878274cc930bec16c2c17b975eb68392a462b5f6c7d1a8") false
    row_curvesParts (fun _ h => by cases h) (by kernel_rfl) (fun _ h => by cases h) curvesParts_row_tie rfl ⟨rfl, rfl⟩ (by kernel_rfl) rfl
    (fun f fn hf hfn => by
      obtain rfl : f = 6 := Option.some.inj ((show Tryd.prog.funcNamed "gouache/gouachelaw15.CurvesParts" = some 6 by kernel_rfl).symm.trans hf) |>.symm
      obtain rfl : fn = Tryd.f6 := (Option.some.inj (Tryd.func6.symm.trans hfn)).symm
      exact ⟨by kernel_rfl, fun j t ht => by
        rw [show Tryd.f6.params = #[30, 27] by kernel_rfl] at ht
        have hm : t ∈ [30, 27] := by simpa using Array.mem_of_getElem? ht
        have hall : ([30, 27].all fun u => !Tryd.prog.wantsStandIn u) = true := by kernel_rfl
        exact (show Tryd.prog.wantsStandIn t = false by simpa using List.all_eq_true.1 hall t hm)⟩)
    (by kernel_rfl)
#print axioms proved_curvesParts
end Go.Proofs.YtlclmanhkhfilaaDoor
