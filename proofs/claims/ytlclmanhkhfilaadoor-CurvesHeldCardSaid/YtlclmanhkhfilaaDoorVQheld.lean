/-
  The law CurvesHeld of the given program holds: whatever the input, it returns true, and its arguments read as they did. No condition.
-/
import Derived.Test.YtlclmanhkhfilaaDoorVh
import Derived.Test.YtlclmanhkhfilaaDoorVl
import Derived.Test.YtlclmanhkhfilaaDoorTie
import Derived.Test.YtlclmanhkhfilaaDoorCards
namespace Go.Proofs.YtlclmanhkhfilaaDoor
open Go Go.RowKit Go.ChangeShapes Go.WideShapes Go.ChangeAt

theorem lifted_curvesHeld (os : Os) (started : os.Started) (H : Type) (enc : TypeId × Value → H) :
    ReturnsInHanded {} Tryd.checked os 5 .any (fun w args => (Rows.curvesHeldSpec.pre enc Tryd.prog Tryd.f5 [] false w args ∧ laidMetH Tryd.prog Sx.laidL w) ∧ sizedMet enc Tryd.prog Tryd.f5 (OpenSpec.ofChange Rows.curvesHeldSpec) false w args)
      (Rows.curvesHeldSpec.post enc Tryd.prog Tryd.f5 false true false false) := by
  refine law_lifted_curve (tb := Tryd.f5.resultTypes[0]!) (conds := []) (by kernel_rfl) started (by kernel_rfl) Tryd.func5 (by kernel_rfl) rfl (by kernel_rfl) rfl ?_ (by kernel_rfl) (by kernel_rfl)
    (ChangeSpec.witness_shaped (enc := enc) (C := Tryd.checked) (os := os) (X := fun w _ => laidMetH Tryd.prog Sx.laidL w) false (World.doorLaid Tryd.prog 400 os) #[.agg #[.int .u8 0, .slice none 0 0, .slice none 0 0, .slice none 0 0, .int .i64 0, .slice none 0 0, .slice none 0 0, .slice none 0 0, .slice none 0 0, .slice none 0 0, .int .i32 0, .slice none 0 0, .slice none 0 0, .string { data := #[] }], .int .i32 0] 8 rfl (World.shaped_of_RefB (by kernel_rfl) (by kernel_rfl)) (by kernel_rfl) (by kernel_rfl) (by kernel_rfl) (Sx.door_met os _)) lheld_any
  intro ds hl
  replace hl : ds.length = 2 := hl
  match ds, hl with
  | [d0, d1], _ => rfl

theorem row_curvesHeld : Rows.CurvesHeldSaid :=
  OpenClaim.holds_of_wide 5 Tryd.f5 rfl rfl rfl rfl rfl rfl rfl ⟨rfl, rfl, rfl, rfl, rfl⟩ rfl rfl rfl rfl rfl (by kernel_rfl) Tryd.func5 (by kernel_rfl)
    (of_decide_eq_true (by kernel_rfl)) (by unfold Func.isWrapper; first | (rw [if_pos (by decide +kernel)]; kernel_rfl) | (rw [if_neg (by decide +kernel)]; exact ⟨rfl, rfl⟩))
    (fun os started H enc _ => lifted_curvesHeld os started H enc)

theorem proved_curvesHeld : Rows.CurvesHeldCardSaid :=
  Claim7.holds_tied_plain_at .later [] [.data] true (true, "351c2bfe82d14ea017878274cc930bec16c2c17b975eb68392a462b5f6c7d1a8") false
    row_curvesHeld (fun _ h => by cases h) (by kernel_rfl) (fun _ h => by cases h) curvesHeld_row_tie rfl ⟨rfl, rfl⟩ (by kernel_rfl) rfl
    (fun f fn hf hfn => by
      obtain rfl : f = 5 := Option.some.inj ((show Tryd.prog.funcNamed "gouache/gouachelaw15.CurvesHeld" = some 5 by kernel_rfl).symm.trans hf) |>.symm
      obtain rfl : fn = Tryd.f5 := (Option.some.inj (Tryd.func5.symm.trans hfn)).symm
      exact ⟨by kernel_rfl, fun j t ht => by
        rw [show Tryd.f5.params = #[30, 27] by kernel_rfl] at ht
        have hm : t ∈ [30, 27] := by simpa using Array.mem_of_getElem? ht
        have hall : ([30, 27].all fun u => !Tryd.prog.wantsStandIn u) = true := by kernel_rfl
        exact (show Tryd.prog.wantsStandIn t = false by simpa using List.all_eq_true.1 hall t hm)⟩)
    (by kernel_rfl)
#print axioms proved_curvesHeld
end Go.Proofs.YtlclmanhkhfilaaDoor
