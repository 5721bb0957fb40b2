/-
  The law MachinesBelow of the given program holds: whatever the input, it returns true, and its arguments read as they did. No condition.
-/
import Derived.Test.YtcjllibeaiofpaaGreatDoorHw
import Derived.Test.YtcjllibeaiofpaaGreatDoorTie
import Derived.Test.YtcjllibeaiofpaaGreatDoorCards
namespace Go.Proofs.YtcjllibeaiofpaaGreatDoor
open Go Go.RowKit Go.ChangeShapes Go.WideShapes Go.ChangeAt
theorem lifted_machinesBelow (os : Os) (started : os.Started) (H : Type) (enc : TypeId × Value -> H) :
  ReturnsInHanded {} Tryz.checked os 4 .any (fun w args => (Rows.machinesBelowSpec.pre enc Tryz.prog Tryz.f4 [] false w args /\ laidMetH Tryz.prog Sx.laidL w) /\ sizedMet enc Tryz.prog Tryz.f4 (OpenSpec.ofChange Rows.machinesBelowSpec) false w args)
   (Rows.machinesBelowSpec.post enc Tryz.prog Tryz.f4 false true false false) := by
 refine law_lifted_mach (tb := Tryz.f4.resultTypes[0]!) (conds := []) (ts := [22, 23, 23]) (by kernel_rfl) started (by kernel_rfl) Tryz.func4 (by kernel_rfl) rfl (by kernel_rfl) rfl ?_ (by kernel_rfl) (by kernel_rfl)
  (ChangeSpec.witness_shaped (enc := enc) (C := Tryz.checked) (os := os) (X := fun w _ => laidMetH Tryz.prog Sx.laidL w) false (World.doorLaid Tryz.prog 400 os) #[.slice none 0 0, .slice none 0 0, .slice none 0 0] 8 rfl (World.shaped_of_RefB (by kernel_rfl) (by kernel_rfl)) (by kernel_rfl) (by kernel_rfl) (by kernel_rfl) (Sx.door_met os _)) walk_below
 intro ds hl
 replace hl : ds.length = 3 := hl
 match ds, hl with
 | [d0, d1, d2], _ => rfl
theorem row_machinesBelow : Rows.MachinesBelowSaid :=
 OpenClaim.holds_of_wide 4 Tryz.f4 rfl rfl rfl rfl rfl rfl rfl ⟨rfl, rfl, rfl, rfl, rfl⟩ rfl rfl rfl rfl rfl (by kernel_rfl) Tryz.func4 (by kernel_rfl)
  (of_decide_eq_true (by kernel_rfl)) (by unfold Func.isWrapper; first | (rw [if_pos (by decide +kernel)]; kernel_rfl) | (rw [if_neg (by decide +kernel)]; exact ⟨rfl, rfl⟩))
  (fun os started H enc _ => lifted_machinesBelow os started H enc)
theorem proved_machinesBelow : Rows.MachinesBelowCardSaid :=
 Claim7.holds_tied_plain_at .later [] [.data] true (true, "740dfb9a4257af86f99d213be684fd6a469518f24adc748c3087c7403eeebcdb") true
  row_machinesBelow (fun _ h => by cases h) (by kernel_rfl) (fun _ h => by cases h) machinesBelow_row_tie rfl ⟨rfl, rfl⟩ (by kernel_rfl) rfl
  (fun f fn hf hfn => by
   obtain rfl : f = 4 := Option.some.inj ((show Tryz.prog.funcNamed "gouache/gouachelaw18.MachinesBelow" = some 4 by kernel_rfl).symm.trans hf) |>.symm
   obtain rfl : fn = Tryz.f4 := (Option.some.inj (Tryz.func4.symm.trans hfn)).symm
   exact ⟨by kernel_rfl, fun j t ht => by
    rw [show Tryz.f4.params = #[22, 23, 23] by kernel_rfl] at ht
    have hm : t ∈ [22, 23, 23] := by simpa using Array.mem_of_getElem? ht
    have hall : ([22, 23, 23].all fun u => !Tryz.prog.wantsStandIn u) = true := by kernel_rfl
    exact (show Tryz.prog.wantsStandIn t = false by simpa using List.all_eq_true.1 hall t hm)⟩)
  (by kernel_rfl)
#print axioms proved_machinesBelow
end Go.Proofs.YtcjllibeaiofpaaGreatDoor
