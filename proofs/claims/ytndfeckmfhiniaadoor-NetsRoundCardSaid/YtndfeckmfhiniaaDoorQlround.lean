/-
  The law NetsRound of the given program holds: whatever the input, it returns true, and its arguments read as they did. No condition.
-/
import Derived.Test.YtndfeckmfhiniaaDoorRv
import Derived.Test.YtndfeckmfhiniaaDoorNd
import Derived.Test.YtndfeckmfhiniaaDoorSxq
import Derived.Test.YtndfeckmfhiniaaDoorTie
import Derived.Test.YtndfeckmfhiniaaDoorCards
namespace Go.Proofs.YtndfeckmfhiniaaDoor.Sx
open Go Go.RowKit Go.ChangeShapes Go.WideShapes Go.ChangeAt

theorem walk_lround (args : List Value) (h : shaFits ash_lround args) : Pure Tryd.prog 4 args.toArray fun v => v = .bool true := by
  intro w hj
  have hp : E.pre 4 (args.map vints) := by
    show Pre_lround (args.map vints)
    obtain ⟨a0, r0, rfl, f0, g0⟩ := h
    cases g0
    obtain ⟨vs0, rfl, k0⟩ := f0
    obtain ⟨b0_0, s0_0, rfl, e0_0, k0_0⟩ := k0
    obtain ⟨b0_1, s0_1, rfl, e0_1, k0_1⟩ := k0_0
    obtain ⟨b0_2, s0_2, rfl, e0_2, k0_2⟩ := k0_1
    obtain ⟨b0_3, s0_3, rfl, e0_3, k0_3⟩ := k0_2
    obtain ⟨b0_4, s0_4, rfl, e0_4, k0_4⟩ := k0_3
    obtain ⟨b0_5, s0_5, rfl, e0_5, k0_5⟩ := k0_4
    obtain ⟨b0_6, s0_6, rfl, e0_6, k0_6⟩ := k0_5
    obtain ⟨b0_7, s0_7, rfl, e0_7, k0_7⟩ := k0_6
    obtain ⟨b0_8, s0_8, rfl, e0_8, k0_8⟩ := k0_7
    obtain ⟨b0_9, s0_9, rfl, e0_9, k0_9⟩ := k0_8
    obtain ⟨b0_10, s0_10, rfl, e0_10, k0_10⟩ := k0_9
    obtain ⟨b0_11, s0_11, rfl, e0_11, k0_11⟩ := k0_10
    obtain ⟨b0_12, s0_12, rfl, e0_12, k0_12⟩ := k0_11
    obtain ⟨b0_13, s0_13, rfl, e0_13, k0_13⟩ := k0_12
    obtain ⟨b0_14, s0_14, rfl, e0_14, k0_14⟩ := k0_13
    obtain ⟨b0_15, s0_15, rfl, e0_15, k0_15⟩ := k0_14
    obtain ⟨b0_16, s0_16, rfl, e0_16, k0_16⟩ := k0_15
    obtain ⟨b0_17, s0_17, rfl, e0_17, k0_17⟩ := k0_16
    obtain ⟨b0_18, s0_18, rfl, e0_18, k0_18⟩ := k0_17
    obtain ⟨b0_19, s0_19, rfl, e0_19, k0_19⟩ := k0_18
    obtain ⟨b0_20, s0_20, rfl, e0_20, k0_20⟩ := k0_19
    obtain ⟨b0_21, s0_21, rfl, e0_21, k0_21⟩ := k0_20
    obtain ⟨b0_22, s0_22, rfl, e0_22, k0_22⟩ := k0_21
    obtain ⟨b0_23, s0_23, rfl, e0_23, k0_23⟩ := k0_22
    obtain ⟨b0_24, s0_24, rfl, e0_24, k0_24⟩ := k0_23
    obtain ⟨b0_25, s0_25, rfl, e0_25, k0_25⟩ := k0_24
    obtain ⟨b0_26, s0_26, rfl, e0_26, k0_26⟩ := k0_25
    obtain ⟨b0_27, s0_27, rfl, e0_27, k0_27⟩ := k0_26
    obtain ⟨b0_28, s0_28, rfl, e0_28, k0_28⟩ := k0_27
    obtain ⟨b0_29, s0_29, rfl, e0_29, k0_29⟩ := k0_28
    obtain ⟨b0_30, s0_30, rfl, e0_30, k0_30⟩ := k0_29
    obtain ⟨b0_31, s0_31, rfl, e0_31, k0_31⟩ := k0_30
    cases k0_31
    exact trivial
  refine (pure_lround vAll p_lround args h hp w hj).mono ?_
  rintro e w' ⟨v, rfl, ⟨hf, hpost⟩, hs⟩
  obtain ⟨b, rfl⟩ := hf
  refine ⟨_, rfl, ?_, hs⟩
  replace hpost : Post_lround (args.map vints) [[b2i b]] := hpost
  obtain ⟨a0, r0, rfl, f0, g0⟩ := h
  cases g0
  obtain ⟨vs0, rfl, k0⟩ := f0
  obtain ⟨b0_0, s0_0, rfl, e0_0, k0_0⟩ := k0
  obtain ⟨b0_1, s0_1, rfl, e0_1, k0_1⟩ := k0_0
  obtain ⟨b0_2, s0_2, rfl, e0_2, k0_2⟩ := k0_1
  obtain ⟨b0_3, s0_3, rfl, e0_3, k0_3⟩ := k0_2
  obtain ⟨b0_4, s0_4, rfl, e0_4, k0_4⟩ := k0_3
  obtain ⟨b0_5, s0_5, rfl, e0_5, k0_5⟩ := k0_4
  obtain ⟨b0_6, s0_6, rfl, e0_6, k0_6⟩ := k0_5
  obtain ⟨b0_7, s0_7, rfl, e0_7, k0_7⟩ := k0_6
  obtain ⟨b0_8, s0_8, rfl, e0_8, k0_8⟩ := k0_7
  obtain ⟨b0_9, s0_9, rfl, e0_9, k0_9⟩ := k0_8
  obtain ⟨b0_10, s0_10, rfl, e0_10, k0_10⟩ := k0_9
  obtain ⟨b0_11, s0_11, rfl, e0_11, k0_11⟩ := k0_10
  obtain ⟨b0_12, s0_12, rfl, e0_12, k0_12⟩ := k0_11
  obtain ⟨b0_13, s0_13, rfl, e0_13, k0_13⟩ := k0_12
  obtain ⟨b0_14, s0_14, rfl, e0_14, k0_14⟩ := k0_13
  obtain ⟨b0_15, s0_15, rfl, e0_15, k0_15⟩ := k0_14
  obtain ⟨b0_16, s0_16, rfl, e0_16, k0_16⟩ := k0_15
  obtain ⟨b0_17, s0_17, rfl, e0_17, k0_17⟩ := k0_16
  obtain ⟨b0_18, s0_18, rfl, e0_18, k0_18⟩ := k0_17
  obtain ⟨b0_19, s0_19, rfl, e0_19, k0_19⟩ := k0_18
  obtain ⟨b0_20, s0_20, rfl, e0_20, k0_20⟩ := k0_19
  obtain ⟨b0_21, s0_21, rfl, e0_21, k0_21⟩ := k0_20
  obtain ⟨b0_22, s0_22, rfl, e0_22, k0_22⟩ := k0_21
  obtain ⟨b0_23, s0_23, rfl, e0_23, k0_23⟩ := k0_22
  obtain ⟨b0_24, s0_24, rfl, e0_24, k0_24⟩ := k0_23
  obtain ⟨b0_25, s0_25, rfl, e0_25, k0_25⟩ := k0_24
  obtain ⟨b0_26, s0_26, rfl, e0_26, k0_26⟩ := k0_25
  obtain ⟨b0_27, s0_27, rfl, e0_27, k0_27⟩ := k0_26
  obtain ⟨b0_28, s0_28, rfl, e0_28, k0_28⟩ := k0_27
  obtain ⟨b0_29, s0_29, rfl, e0_29, k0_29⟩ := k0_28
  obtain ⟨b0_30, s0_30, rfl, e0_30, k0_30⟩ := k0_29
  obtain ⟨b0_31, s0_31, rfl, e0_31, k0_31⟩ := k0_30
  cases k0_31
  replace hpost : b2i b = 1 := hpost
  cases b
  · exact absurd hpost (by decide)
  · rfl

theorem lifted_lround (os : Os) (started : os.Started) (H : Type) (enc : TypeId × Value → H) :
    ReturnsInHanded {} Tryd.checked os 4 .any (fun w args => (Rows.netsRoundSpec.pre enc Tryd.prog Tryd.f4 [] false w args ∧ laidMetH Tryd.prog laidL w) ∧ sizedMet enc Tryd.prog Tryd.f4 (OpenSpec.ofChange Rows.netsRoundSpec) false w args)
      (Rows.netsRoundSpec.post enc Tryd.prog Tryd.f4 false true false false) := by
  refine law_lifted_laid (ash := ash_lround) (tb := Tryd.f4.resultTypes[0]!) (conds := []) (by kernel_rfl) started (by kernel_rfl) Tryd.func4 (by kernel_rfl) (by kernel_rfl) (by kernel_rfl) rfl ?_ (by kernel_rfl) (by kernel_rfl)
    (ChangeSpec.witness_shaped (enc := enc) (C := Tryd.checked) (os := os) (X := fun w _ => laidMetH Tryd.prog laidL w) false (World.doorLaid Tryd.prog 400 os) #[.agg #[.int .i64 0, .int .i64 0, .int .i64 0, .int .i64 0, .int .i64 0, .int .i64 0, .int .i64 0, .int .i64 0, .int .i64 0, .int .i64 0, .int .i64 0, .int .i64 0, .int .i64 0, .int .i64 0, .int .i64 0, .int .i64 0, .int .i64 0, .int .i64 0, .int .i64 0, .int .i64 0, .int .i64 0, .int .i64 0, .int .i64 0, .int .i64 0, .int .i64 0, .int .i64 0, .int .i64 0, .int .i64 0, .int .i64 0, .int .i64 0, .int .i64 0, .int .i64 0]] 8 rfl (World.shaped_of_RefB (by kernel_rfl) (by kernel_rfl)) (by kernel_rfl) (by kernel_rfl) (by kernel_rfl) (door_met os _)) walk_lround
  intro ds hl
  replace hl : ds.length = 1 := hl
  match ds, hl with
  | [d0], _ => rfl

theorem row_lround : Rows.NetsRoundSaid :=
  OpenClaim.holds_of_wide 4 Tryd.f4 rfl rfl rfl rfl rfl rfl rfl ⟨rfl, rfl, rfl, rfl, rfl⟩ rfl rfl rfl rfl rfl (by kernel_rfl) Tryd.func4 (by kernel_rfl)
    (of_decide_eq_true (by kernel_rfl)) (by unfold Func.isWrapper; first | (rw [if_pos (by decide +kernel)]; kernel_rfl) | (rw [if_neg (by decide +kernel)]; exact ⟨rfl, rfl⟩))
    (fun os started H enc _ => lifted_lround os started H enc)

theorem proved_lround : Rows.NetsRoundCardSaid :=
  Claim7.holds_tied_plain_at .later [] [.data] true (true, "2c43ae393970bad26e7adf3a4c9b23ce5ef65404afb4627ab63dedc5a4c9efaf") true
    row_lround (fun _ h => by cases h) (by kernel_rfl) (fun _ h => by cases h) netsRound_row_tie rfl ⟨rfl, rfl⟩ (by kernel_rfl) rfl
    (fun f fn hf hfn => by
      obtain rfl : f = 4 := Option.some.inj ((show Tryd.prog.funcNamed "gouache/gouachelaw21.NetsRound" = some 4 by kernel_rfl).symm.trans hf) |>.symm
      obtain rfl : fn = Tryd.f4 := (Option.some.inj (Tryd.func4.symm.trans hfn)).symm
      exact ⟨by kernel_rfl, fun j t ht => by
        rw [show Tryd.f4.params = #[25] by kernel_rfl] at ht
        have hm : t ∈ [25] := by simpa using Array.mem_of_getElem? ht
        have hall : ([25].all fun u => !Tryd.prog.wantsStandIn u) = true := by kernel_rfl
        exact (show Tryd.prog.wantsStandIn t = false by simpa using List.all_eq_true.1 hall t hm)⟩)
    (by kernel_rfl)
#print axioms proved_lround
end Go.Proofs.YtndfeckmfhiniaaDoor.Sx
