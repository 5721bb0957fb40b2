/-
  The law NetsFlat of the given program holds: whatever the input, it returns true, and its arguments read as they did. No condition.
-/
import Derived.Test.YtndfeckmfhiniaaDoorRv
import Derived.Test.YtndfeckmfhiniaaDoorNd
import Derived.Test.YtndfeckmfhiniaaDoorSxq
import Derived.Test.YtndfeckmfhiniaaDoorTie
import Derived.Test.YtndfeckmfhiniaaDoorCards
namespace Go.Proofs.YtndfeckmfhiniaaDoor.Sx
open Go Go.RowKit Go.ChangeShapes Go.WideShapes Go.ChangeAt

theorem walk_lflat (args : List Value) (h : shaFits ash_lflat args) : Pure Tryd.prog 6 args.toArray fun v => v = .bool true := by
  intro w hj
  have hp : E.pre 6 (args.map vints) := by
    show Pre_lflat (args.map vints)
    obtain ⟨a0, r0, rfl, f0, g0⟩ := h
    obtain ⟨a1, r1, rfl, f1, g1⟩ := g0
    cases g1
    obtain ⟨vs0, rfl, k0⟩ := f0
    obtain ⟨b0_0, s0_0, rfl, e0_0, k0_0⟩ := k0
    obtain ⟨b0_1, s0_1, rfl, e0_1, k0_1⟩ := k0_0
    obtain ⟨b0_2, s0_2, rfl, e0_2, k0_2⟩ := k0_1
    obtain ⟨b0_3, s0_3, rfl, e0_3, k0_3⟩ := k0_2
    obtain ⟨b0_4, s0_4, rfl, e0_4, k0_4⟩ := k0_3
    obtain ⟨b0_5, s0_5, rfl, e0_5, k0_5⟩ := k0_4
    cases k0_5
    obtain ⟨vs1, rfl, k1⟩ := f1
    obtain ⟨b1_0, s1_0, rfl, e1_0, k1_0⟩ := k1
    obtain ⟨b1_1, s1_1, rfl, e1_1, k1_1⟩ := k1_0
    cases k1_1
    exact trivial
  refine (pure_lflat vAll p_lflat args h hp w hj).mono ?_
  rintro e w' ⟨v, rfl, ⟨hf, hpost⟩, hs⟩
  obtain ⟨b, rfl⟩ := hf
  refine ⟨_, rfl, ?_, hs⟩
  replace hpost : Post_lflat (args.map vints) [[b2i b]] := hpost
  obtain ⟨a0, r0, rfl, f0, g0⟩ := h
  obtain ⟨a1, r1, rfl, f1, g1⟩ := g0
  cases g1
  obtain ⟨vs0, rfl, k0⟩ := f0
  obtain ⟨b0_0, s0_0, rfl, e0_0, k0_0⟩ := k0
  obtain ⟨b0_1, s0_1, rfl, e0_1, k0_1⟩ := k0_0
  obtain ⟨b0_2, s0_2, rfl, e0_2, k0_2⟩ := k0_1
  obtain ⟨b0_3, s0_3, rfl, e0_3, k0_3⟩ := k0_2
  obtain ⟨b0_4, s0_4, rfl, e0_4, k0_4⟩ := k0_3
  obtain ⟨b0_5, s0_5, rfl, e0_5, k0_5⟩ := k0_4
  cases k0_5
  obtain ⟨vs1, rfl, k1⟩ := f1
  obtain ⟨b1_0, s1_0, rfl, e1_0, k1_0⟩ := k1
  obtain ⟨b1_1, s1_1, rfl, e1_1, k1_1⟩ := k1_0
  cases k1_1
  replace hpost : b2i b = 1 := hpost
  cases b
  · exact absurd hpost (by decide)
  · rfl

theorem lifted_lflat (os : Os) (started : os.Started) (H : Type) (enc : TypeId × Value → H) :
    ReturnsInHanded {} Tryd.checked os 6 .any (fun w args => (Rows.netsFlatSpec.pre enc Tryd.prog Tryd.f6 [] false w args ∧ laidMetH Tryd.prog laidL w) ∧ sizedMet enc Tryd.prog Tryd.f6 (OpenSpec.ofChange Rows.netsFlatSpec) false w args)
      (Rows.netsFlatSpec.post enc Tryd.prog Tryd.f6 false true false false) := by
  refine law_lifted_laid (ash := ash_lflat) (tb := Tryd.f6.resultTypes[0]!) (conds := []) (by kernel_rfl) started (by kernel_rfl) Tryd.func6 (by kernel_rfl) (by kernel_rfl) (by kernel_rfl) rfl ?_ (by kernel_rfl) (by kernel_rfl)
    (ChangeSpec.witness_shaped (enc := enc) (C := Tryd.checked) (os := os) (X := fun w _ => laidMetH Tryd.prog laidL w) false (World.doorLaid Tryd.prog 400 os) #[.agg #[.int .i8 0, .int .i8 0, .int .i8 0, .int .i8 0, .int .i8 0, .int .i8 0], .agg #[.int .u8 0, .int .u8 0]] 8 rfl (World.shaped_of_RefB (by kernel_rfl) (by kernel_rfl)) (by kernel_rfl) (by kernel_rfl) (by kernel_rfl) (door_met os _)) walk_lflat
  intro ds hl
  replace hl : ds.length = 2 := hl
  match ds, hl with
  | [d0, d1], _ => rfl

theorem row_lflat : Rows.NetsFlatSaid :=
  OpenClaim.holds_of_wide 6 Tryd.f6 rfl rfl rfl rfl rfl rfl rfl ⟨rfl, rfl, rfl, rfl, rfl⟩ rfl rfl rfl rfl rfl (by kernel_rfl) Tryd.func6 (by kernel_rfl)
    (of_decide_eq_true (by kernel_rfl)) (by unfold Func.isWrapper; first | (rw [if_pos (by decide +kernel)]; kernel_rfl) | (rw [if_neg (by decide +kernel)]; exact ⟨rfl, rfl⟩))
    (fun os started H enc _ => lifted_lflat os started H enc)

theorem proved_lflat : Rows.NetsFlatCardSaid :=
  Claim7.holds_tied_plain_at .later [] [.data] true (true, "2c43ae393970bad26e7adf3a4c9b23ce5ef65404afb4627ab63dedc5a4c9efaf") true
    row_lflat (fun _ h => by cases h) (by kernel_rfl) (fun _ h => by cases h) netsFlat_row_tie rfl ⟨rfl, rfl⟩ (by kernel_rfl) rfl
    (fun f fn hf hfn => by
      obtain rfl : f = 6 := Option.some.inj ((show Tryd.prog.funcNamed "gouache/gouachelaw21.NetsFlat" = some 6 by kernel_rfl).symm.trans hf) |>.symm
      obtain rfl : fn = Tryd.f6 := (Option.some.inj (Tryd.func6.symm.trans hfn)).symm
      exact ⟨by kernel_rfl, fun j t ht => by
        rw [show Tryd.f6.params = #[58, 59] by kernel_rfl] at ht
        have hm : t ∈ [58, 59] := by simpa using Array.mem_of_getElem? ht
        have hall : ([58, 59].all fun u => !Tryd.prog.wantsStandIn u) = true := by kernel_rfl
        exact (show Tryd.prog.wantsStandIn t = false by simpa using List.all_eq_true.1 hall t hm)⟩)
    (by kernel_rfl)
#print axioms proved_lflat
end Go.Proofs.YtndfeckmfhiniaaDoor.Sx
