/-
  The law MachinesTurn of the given program holds: whatever the input, it returns true, and its arguments read as they did. No condition.
-/
import Derived.Test.YtcjllibeaiofpaaGreatDoorHu
import Derived.Test.YtcjllibeaiofpaaGreatDoorTie
import Derived.Test.YtcjllibeaiofpaaGreatDoorCards
namespace Go.Proofs.YtcjllibeaiofpaaGreatDoor
open Go Go.RowKit Go.ChangeShapes Go.WideShapes Go.ChangeAt
theorem lifted_machinesTurn (os : Os) (started : os.Started) (H : Type) (enc : TypeId × Value -> H) :
  ReturnsInHanded {} Tryz.checked os 6 .any (fun w args => (Rows.machinesTurnSpec.pre enc Tryz.prog Tryz.f6 [] false w args /\ laidMetH Tryz.prog Sx.laidL w) /\ sizedMet enc Tryz.prog Tryz.f6 (OpenSpec.ofChange Rows.machinesTurnSpec) false w args)
   (Rows.machinesTurnSpec.post enc Tryz.prog Tryz.f6 false true false false) := by
 refine law_lifted_mach (tb := Tryz.f6.resultTypes[0]!) (conds := []) (ts := [23, 5, 21]) (by kernel_rfl) started (by kernel_rfl) Tryz.func6 (by kernel_rfl) rfl (by kernel_rfl) rfl ?_ (by kernel_rfl) (by kernel_rfl)
  (ChangeSpec.witness_shaped (enc := enc) (C := Tryz.checked) (os := os) (X := fun w _ => laidMetH Tryz.prog Sx.laidL w) false (World.doorLaid Tryz.prog 400 os) #[.slice none 0 0, .int .u8 0, .int .i32 0] 8 rfl (World.shaped_of_RefB (by kernel_rfl) (by kernel_rfl)) (by kernel_rfl) (by kernel_rfl) (by kernel_rfl) (Sx.door_met os _)) walk_turn
 intro ds hl
 replace hl : ds.length = 3 := hl
 match ds, hl with
 | [d0, d1, d2], _ => rfl
theorem row_machinesTurn : Rows.MachinesTurnSaid :=
 OpenClaim.holds_of_wide 6 Tryz.f6 rfl rfl rfl rfl rfl rfl rfl ⟨rfl, rfl, rfl, rfl, rfl⟩ rfl rfl rfl rfl rfl (by kernel_rfl) Tryz.func6 (by kernel_rfl)
  (of_decide_eq_true (by kernel_rfl)) (by unfold Func.isWrapper; first | (rw [if_pos (by decide +kernel)]; kernel_rfl) | (rw [if_neg (by decide +kernel)]; exact ⟨rfl, rfl⟩))
  (fun os started H enc _ => lifted_machinesTurn os started H enc)
theorem proved_machinesTurn : Rows.MachinesTurnCardSaid :=
 Claim7.holds_tied_plain_at .later [] [.data] true (true, "740dfb9a4257af86f99d213be684fd6a469518f24adc748c3087c7403eeebcdb") true
  row_machinesTurn (fun _ h => by cases h) (by kernel_rfl) (fun _ h => by cases h) machinesTurn_row_tie rfl ⟨rfl, rfl⟩ (by kernel_rfl) rfl
  (fun f fn hf hfn => by
   obtain rfl : f = 6 := Option.some.inj ((show Tryz.prog.funcNamed "gouache/gouachelaw18.MachinesTurn" = some 6 by kernel_rfl).symm.trans hf) |>.symm
   obtain rfl : fn = Tryz.f6 := (Option.some.inj (Tryz.func6.symm.trans hfn)).symm
   exact ⟨by kernel_rfl, fun j t ht => by
    rw [show Tryz.f6.params = #[23, 5, 21] by kernel_rfl] at ht
    have hm : t ∈ [23, 5, 21] := by simpa using Array.mem_of_getElem? ht
    have hall : ([23, 5, 21].all fun u => !Tryz.prog.wantsStandIn u) = true := by kernel_rfl
    exact (show Tryz.prog.wantsStandIn t = false by simpa using List.all_eq_true.1 hall t hm)⟩)
  (by kernel_rfl)
#print axioms proved_machinesTurn
end Go.Proofs.YtcjllibeaiofpaaGreatDoor
