/-
  The law NetsOf of the given program holds: whatever the input, it returns true, and its arguments read as they did. No condition.
-/
import Derived.Test.YtndfeckmfhiniaaGreatDoorRv
import Derived.Test.YtndfeckmfhiniaaGreatDoorNd
import Derived.Test.YtndfeckmfhiniaaGreatDoorSxq
import Derived.Test.YtndfeckmfhiniaaGreatDoorTie
import Derived.Test.YtndfeckmfhiniaaGreatDoorCards
namespace Go.Proofs.YtndfeckmfhiniaaGreatDoor.Sx
open Go Go.RowKit Go.ChangeShapes Go.WideShapes Go.ChangeAt

theorem walk_lof (args : List Value) (h : shaFits ash_lof args) : Pure Tryz.prog 3 args.toArray fun v => v = .bool true := by
  intro w hj
  have hp : E.pre 3 (args.map vints) := by
    show Pre_lof (args.map vints)
    obtain ⟨a0, r0, rfl, f0, g0⟩ := h
    cases g0
    obtain ⟨vs0, rfl, k0⟩ := f0
    obtain ⟨b0_0, s0_0, rfl, e0_0, k0_0⟩ := k0
    obtain ⟨b0_1, s0_1, rfl, e0_1, k0_1⟩ := k0_0
    obtain ⟨b0_2, s0_2, rfl, e0_2, k0_2⟩ := k0_1
    obtain ⟨b0_3, s0_3, rfl, e0_3, k0_3⟩ := k0_2
    obtain ⟨b0_4, s0_4, rfl, e0_4, k0_4⟩ := k0_3
    obtain ⟨b0_5, s0_5, rfl, e0_5, k0_5⟩ := k0_4
    obtain ⟨b0_6, s0_6, rfl, e0_6, k0_6⟩ := k0_5
    obtain ⟨b0_7, s0_7, rfl, e0_7, k0_7⟩ := k0_6
    obtain ⟨b0_8, s0_8, rfl, e0_8, k0_8⟩ := k0_7
    obtain ⟨b0_9, s0_9, rfl, e0_9, k0_9⟩ := k0_8
    obtain ⟨b0_10, s0_10, rfl, e0_10, k0_10⟩ := k0_9
    obtain ⟨b0_11, s0_11, rfl, e0_11, k0_11⟩ := k0_10
    obtain ⟨b0_12, s0_12, rfl, e0_12, k0_12⟩ := k0_11
    obtain ⟨b0_13, s0_13, rfl, e0_13, k0_13⟩ := k0_12
    obtain ⟨b0_14, s0_14, rfl, e0_14, k0_14⟩ := k0_13
    obtain ⟨b0_15, s0_15, rfl, e0_15, k0_15⟩ := k0_14
    obtain ⟨b0_16, s0_16, rfl, e0_16, k0_16⟩ := k0_15
    obtain ⟨b0_17, s0_17, rfl, e0_17, k0_17⟩ := k0_16
    obtain ⟨b0_18, s0_18, rfl, e0_18, k0_18⟩ := k0_17
    obtain ⟨b0_19, s0_19, rfl, e0_19, k0_19⟩ := k0_18
    obtain ⟨b0_20, s0_20, rfl, e0_20, k0_20⟩ := k0_19
    obtain ⟨b0_21, s0_21, rfl, e0_21, k0_21⟩ := k0_20
    obtain ⟨b0_22, s0_22, rfl, e0_22, k0_22⟩ := k0_21
    obtain ⟨b0_23, s0_23, rfl, e0_23, k0_23⟩ := k0_22
    obtain ⟨b0_24, s0_24, rfl, e0_24, k0_24⟩ := k0_23
    obtain ⟨b0_25, s0_25, rfl, e0_25, k0_25⟩ := k0_24
    obtain ⟨b0_26, s0_26, rfl, e0_26, k0_26⟩ := k0_25
    obtain ⟨b0_27, s0_27, rfl, e0_27, k0_27⟩ := k0_26
    obtain ⟨b0_28, s0_28, rfl, e0_28, k0_28⟩ := k0_27
    obtain ⟨b0_29, s0_29, rfl, e0_29, k0_29⟩ := k0_28
    obtain ⟨b0_30, s0_30, rfl, e0_30, k0_30⟩ := k0_29
    obtain ⟨b0_31, s0_31, rfl, e0_31, k0_31⟩ := k0_30
    obtain ⟨b0_32, s0_32, rfl, e0_32, k0_32⟩ := k0_31
    obtain ⟨b0_33, s0_33, rfl, e0_33, k0_33⟩ := k0_32
    obtain ⟨b0_34, s0_34, rfl, e0_34, k0_34⟩ := k0_33
    obtain ⟨b0_35, s0_35, rfl, e0_35, k0_35⟩ := k0_34
    obtain ⟨b0_36, s0_36, rfl, e0_36, k0_36⟩ := k0_35
    obtain ⟨b0_37, s0_37, rfl, e0_37, k0_37⟩ := k0_36
    obtain ⟨b0_38, s0_38, rfl, e0_38, k0_38⟩ := k0_37
    obtain ⟨b0_39, s0_39, rfl, e0_39, k0_39⟩ := k0_38
    obtain ⟨b0_40, s0_40, rfl, e0_40, k0_40⟩ := k0_39
    obtain ⟨b0_41, s0_41, rfl, e0_41, k0_41⟩ := k0_40
    obtain ⟨b0_42, s0_42, rfl, e0_42, k0_42⟩ := k0_41
    obtain ⟨b0_43, s0_43, rfl, e0_43, k0_43⟩ := k0_42
    obtain ⟨b0_44, s0_44, rfl, e0_44, k0_44⟩ := k0_43
    obtain ⟨b0_45, s0_45, rfl, e0_45, k0_45⟩ := k0_44
    obtain ⟨b0_46, s0_46, rfl, e0_46, k0_46⟩ := k0_45
    obtain ⟨b0_47, s0_47, rfl, e0_47, k0_47⟩ := k0_46
    obtain ⟨b0_48, s0_48, rfl, e0_48, k0_48⟩ := k0_47
    obtain ⟨b0_49, s0_49, rfl, e0_49, k0_49⟩ := k0_48
    obtain ⟨b0_50, s0_50, rfl, e0_50, k0_50⟩ := k0_49
    obtain ⟨b0_51, s0_51, rfl, e0_51, k0_51⟩ := k0_50
    obtain ⟨b0_52, s0_52, rfl, e0_52, k0_52⟩ := k0_51
    obtain ⟨b0_53, s0_53, rfl, e0_53, k0_53⟩ := k0_52
    obtain ⟨b0_54, s0_54, rfl, e0_54, k0_54⟩ := k0_53
    obtain ⟨b0_55, s0_55, rfl, e0_55, k0_55⟩ := k0_54
    obtain ⟨b0_56, s0_56, rfl, e0_56, k0_56⟩ := k0_55
    obtain ⟨b0_57, s0_57, rfl, e0_57, k0_57⟩ := k0_56
    obtain ⟨b0_58, s0_58, rfl, e0_58, k0_58⟩ := k0_57
    obtain ⟨b0_59, s0_59, rfl, e0_59, k0_59⟩ := k0_58
    obtain ⟨b0_60, s0_60, rfl, e0_60, k0_60⟩ := k0_59
    obtain ⟨b0_61, s0_61, rfl, e0_61, k0_61⟩ := k0_60
    obtain ⟨b0_62, s0_62, rfl, e0_62, k0_62⟩ := k0_61
    obtain ⟨b0_63, s0_63, rfl, e0_63, k0_63⟩ := k0_62
    obtain ⟨b0_64, s0_64, rfl, e0_64, k0_64⟩ := k0_63
    obtain ⟨b0_65, s0_65, rfl, e0_65, k0_65⟩ := k0_64
    obtain ⟨b0_66, s0_66, rfl, e0_66, k0_66⟩ := k0_65
    obtain ⟨b0_67, s0_67, rfl, e0_67, k0_67⟩ := k0_66
    obtain ⟨b0_68, s0_68, rfl, e0_68, k0_68⟩ := k0_67
    obtain ⟨b0_69, s0_69, rfl, e0_69, k0_69⟩ := k0_68
    obtain ⟨b0_70, s0_70, rfl, e0_70, k0_70⟩ := k0_69
    obtain ⟨b0_71, s0_71, rfl, e0_71, k0_71⟩ := k0_70
    cases k0_71
    exact trivial
  refine (pure_lof vAll p_lof args h hp w hj).mono ?_
  rintro e w' ⟨v, rfl, ⟨hf, hpost⟩, hs⟩
  obtain ⟨b, rfl⟩ := hf
  refine ⟨_, rfl, ?_, hs⟩
  replace hpost : Post_lof (args.map vints) [[b2i b]] := hpost
  obtain ⟨a0, r0, rfl, f0, g0⟩ := h
  cases g0
  obtain ⟨vs0, rfl, k0⟩ := f0
  obtain ⟨b0_0, s0_0, rfl, e0_0, k0_0⟩ := k0
  obtain ⟨b0_1, s0_1, rfl, e0_1, k0_1⟩ := k0_0
  obtain ⟨b0_2, s0_2, rfl, e0_2, k0_2⟩ := k0_1
  obtain ⟨b0_3, s0_3, rfl, e0_3, k0_3⟩ := k0_2
  obtain ⟨b0_4, s0_4, rfl, e0_4, k0_4⟩ := k0_3
  obtain ⟨b0_5, s0_5, rfl, e0_5, k0_5⟩ := k0_4
  obtain ⟨b0_6, s0_6, rfl, e0_6, k0_6⟩ := k0_5
  obtain ⟨b0_7, s0_7, rfl, e0_7, k0_7⟩ := k0_6
  obtain ⟨b0_8, s0_8, rfl, e0_8, k0_8⟩ := k0_7
  obtain ⟨b0_9, s0_9, rfl, e0_9, k0_9⟩ := k0_8
  obtain ⟨b0_10, s0_10, rfl, e0_10, k0_10⟩ := k0_9
  obtain ⟨b0_11, s0_11, rfl, e0_11, k0_11⟩ := k0_10
  obtain ⟨b0_12, s0_12, rfl, e0_12, k0_12⟩ := k0_11
  obtain ⟨b0_13, s0_13, rfl, e0_13, k0_13⟩ := k0_12
  obtain ⟨b0_14, s0_14, rfl, e0_14, k0_14⟩ := k0_13
  obtain ⟨b0_15, s0_15, rfl, e0_15, k0_15⟩ := k0_14
  obtain ⟨b0_16, s0_16, rfl, e0_16, k0_16⟩ := k0_15
  obtain ⟨b0_17, s0_17, rfl, e0_17, k0_17⟩ := k0_16
  obtain ⟨b0_18, s0_18, rfl, e0_18, k0_18⟩ := k0_17
  obtain ⟨b0_19, s0_19, rfl, e0_19, k0_19⟩ := k0_18
  obtain ⟨b0_20, s0_20, rfl, e0_20, k0_20⟩ := k0_19
  obtain ⟨b0_21, s0_21, rfl, e0_21, k0_21⟩ := k0_20
  obtain ⟨b0_22, s0_22, rfl, e0_22, k0_22⟩ := k0_21
  obtain ⟨b0_23, s0_23, rfl, e0_23, k0_23⟩ := k0_22
  obtain ⟨b0_24, s0_24, rfl, e0_24, k0_24⟩ := k0_23
  obtain ⟨b0_25, s0_25, rfl, e0_25, k0_25⟩ := k0_24
  obtain ⟨b0_26, s0_26, rfl, e0_26, k0_26⟩ := k0_25
  obtain ⟨b0_27, s0_27, rfl, e0_27, k0_27⟩ := k0_26
  obtain ⟨b0_28, s0_28, rfl, e0_28, k0_28⟩ := k0_27
  obtain ⟨b0_29, s0_29, rfl, e0_29, k0_29⟩ := k0_28
  obtain ⟨b0_30, s0_30, rfl, e0_30, k0_30⟩ := k0_29
  obtain ⟨b0_31, s0_31, rfl, e0_31, k0_31⟩ := k0_30
  obtain ⟨b0_32, s0_32, rfl, e0_32, k0_32⟩ := k0_31
  obtain ⟨b0_33, s0_33, rfl, e0_33, k0_33⟩ := k0_32
  obtain ⟨b0_34, s0_34, rfl, e0_34, k0_34⟩ := k0_33
  obtain ⟨b0_35, s0_35, rfl, e0_35, k0_35⟩ := k0_34
  obtain ⟨b0_36, s0_36, rfl, e0_36, k0_36⟩ := k0_35
  obtain ⟨b0_37, s0_37, rfl, e0_37, k0_37⟩ := k0_36
  obtain ⟨b0_38, s0_38, rfl, e0_38, k0_38⟩ := k0_37
  obtain ⟨b0_39, s0_39, rfl, e0_39, k0_39⟩ := k0_38
  obtain ⟨b0_40, s0_40, rfl, e0_40, k0_40⟩ := k0_39
  obtain ⟨b0_41, s0_41, rfl, e0_41, k0_41⟩ := k0_40
  obtain ⟨b0_42, s0_42, rfl, e0_42, k0_42⟩ := k0_41
  obtain ⟨b0_43, s0_43, rfl, e0_43, k0_43⟩ := k0_42
  obtain ⟨b0_44, s0_44, rfl, e0_44, k0_44⟩ := k0_43
  obtain ⟨b0_45, s0_45, rfl, e0_45, k0_45⟩ := k0_44
  obtain ⟨b0_46, s0_46, rfl, e0_46, k0_46⟩ := k0_45
  obtain ⟨b0_47, s0_47, rfl, e0_47, k0_47⟩ := k0_46
  obtain ⟨b0_48, s0_48, rfl, e0_48, k0_48⟩ := k0_47
  obtain ⟨b0_49, s0_49, rfl, e0_49, k0_49⟩ := k0_48
  obtain ⟨b0_50, s0_50, rfl, e0_50, k0_50⟩ := k0_49
  obtain ⟨b0_51, s0_51, rfl, e0_51, k0_51⟩ := k0_50
  obtain ⟨b0_52, s0_52, rfl, e0_52, k0_52⟩ := k0_51
  obtain ⟨b0_53, s0_53, rfl, e0_53, k0_53⟩ := k0_52
  obtain ⟨b0_54, s0_54, rfl, e0_54, k0_54⟩ := k0_53
  obtain ⟨b0_55, s0_55, rfl, e0_55, k0_55⟩ := k0_54
  obtain ⟨b0_56, s0_56, rfl, e0_56, k0_56⟩ := k0_55
  obtain ⟨b0_57, s0_57, rfl, e0_57, k0_57⟩ := k0_56
  obtain ⟨b0_58, s0_58, rfl, e0_58, k0_58⟩ := k0_57
  obtain ⟨b0_59, s0_59, rfl, e0_59, k0_59⟩ := k0_58
  obtain ⟨b0_60, s0_60, rfl, e0_60, k0_60⟩ := k0_59
  obtain ⟨b0_61, s0_61, rfl, e0_61, k0_61⟩ := k0_60
  obtain ⟨b0_62, s0_62, rfl, e0_62, k0_62⟩ := k0_61
  obtain ⟨b0_63, s0_63, rfl, e0_63, k0_63⟩ := k0_62
  obtain ⟨b0_64, s0_64, rfl, e0_64, k0_64⟩ := k0_63
  obtain ⟨b0_65, s0_65, rfl, e0_65, k0_65⟩ := k0_64
  obtain ⟨b0_66, s0_66, rfl, e0_66, k0_66⟩ := k0_65
  obtain ⟨b0_67, s0_67, rfl, e0_67, k0_67⟩ := k0_66
  obtain ⟨b0_68, s0_68, rfl, e0_68, k0_68⟩ := k0_67
  obtain ⟨b0_69, s0_69, rfl, e0_69, k0_69⟩ := k0_68
  obtain ⟨b0_70, s0_70, rfl, e0_70, k0_70⟩ := k0_69
  obtain ⟨b0_71, s0_71, rfl, e0_71, k0_71⟩ := k0_70
  cases k0_71
  replace hpost : b2i b = 1 := hpost
  cases b
  · exact absurd hpost (by decide)
  · rfl

theorem lifted_lof (os : Os) (started : os.Started) (H : Type) (enc : TypeId × Value → H) :
    ReturnsInHanded {} Tryz.checked os 3 .any (fun w args => (Rows.netsOfSpec.pre enc Tryz.prog Tryz.f3 [] false w args ∧ laidMetH Tryz.prog laidL w) ∧ sizedMet enc Tryz.prog Tryz.f3 (OpenSpec.ofChange Rows.netsOfSpec) false w args)
      (Rows.netsOfSpec.post enc Tryz.prog Tryz.f3 false true false false) := by
  refine law_lifted_laid (ash := ash_lof) (tb := Tryz.f3.resultTypes[0]!) (conds := []) (by kernel_rfl) started (by kernel_rfl) Tryz.func3 (by kernel_rfl) (by kernel_rfl) (by kernel_rfl) rfl ?_ (by kernel_rfl) (by kernel_rfl)
    (ChangeSpec.witness_shaped (enc := enc) (C := Tryz.checked) (os := os) (X := fun w _ => laidMetH Tryz.prog laidL w) false (World.doorLaid Tryz.prog 400 os) #[.agg #[.int .i64 0, .int .i64 0, .int .i64 0, .int .i64 0, .int .i64 0, .int .i64 0, .int .i32 0, .int .i32 0, .int .i32 0, .int .i32 0, .int .i32 0, .int .i32 0, .int .i32 0, .int .i32 0, .int .i32 0, .int .i32 0, .int .i32 0, .int .i32 0, .int .u32 0, .int .u32 0, .int .u32 0, .int .u32 0, .int .u32 0, .int .u32 0, .int .u32 0, .int .u32 0, .int .u32 0, .int .u32 0, .int .u32 0, .int .u32 0, .int .u32 0, .int .u32 0, .int .u32 0, .int .u32 0, .int .u32 0, .int .u32 0, .int .u32 0, .int .u32 0, .int .u32 0, .int .u32 0, .int .u32 0, .int .u32 0, .int .u32 0, .int .u32 0, .int .u32 0, .int .u32 0, .int .u32 0, .int .u32 0, .int .u32 0, .int .u32 0, .int .u16 0, .int .u16 0, .int .u16 0, .int .u16 0, .int .u16 0, .int .u16 0, .int .u16 0, .int .u16 0, .int .u16 0, .int .u16 0, .int .u16 0, .int .u16 0, .int .u16 0, .int .u16 0, .int .u16 0, .int .u16 0, .int .i32 0, .int .i32 0, .int .i32 0, .int .i32 0, .int .i32 0, .int .i32 0]] 8 rfl (World.shaped_of_RefB (by kernel_rfl) (by kernel_rfl)) (by kernel_rfl) (by kernel_rfl) (by kernel_rfl) (door_met os _)) walk_lof
  intro ds hl
  replace hl : ds.length = 1 := hl
  match ds, hl with
  | [d0], _ => rfl

theorem row_lof : Rows.NetsOfSaid :=
  OpenClaim.holds_of_wide 3 Tryz.f3 rfl rfl rfl rfl rfl rfl rfl ⟨rfl, rfl, rfl, rfl, rfl⟩ rfl rfl rfl rfl rfl (by kernel_rfl) Tryz.func3 (by kernel_rfl)
    (of_decide_eq_true (by kernel_rfl)) (by unfold Func.isWrapper; first | (rw [if_pos (by decide +kernel)]; kernel_rfl) | (rw [if_neg (by decide +kernel)]; exact ⟨rfl, rfl⟩))
    (fun os started H enc _ => lifted_lof os started H enc)

theorem proved_lof : Rows.NetsOfCardSaid :=
  Claim7.holds_tied_plain_at .later [] [.data] true (true, "5e2dbf551c843a506bd2ceeaa6c822873368b52560257e331b31745aa57ff499") true
    row_lof (fun _ h => by cases h) (by kernel_rfl) (fun _ h => by cases h) netsOf_row_tie rfl ⟨rfl, rfl⟩ (by kernel_rfl) rfl
    (fun f fn hf hfn => by
      obtain rfl : f = 3 := Option.some.inj ((show Tryz.prog.funcNamed "gouache/gouachelaw21.NetsOf" = some 3 by kernel_rfl).symm.trans hf) |>.symm
      obtain rfl : fn = Tryz.f3 := (Option.some.inj (Tryz.func3.symm.trans hfn)).symm
      exact ⟨by kernel_rfl, fun j t ht => by
        rw [show Tryz.f3.params = #[40] by kernel_rfl] at ht
        have hm : t ∈ [40] := by simpa using Array.mem_of_getElem? ht
        have hall : ([40].all fun u => !Tryz.prog.wantsStandIn u) = true := by kernel_rfl
        exact (show Tryz.prog.wantsStandIn t = false by simpa using List.all_eq_true.1 hall t hm)⟩)
    (by kernel_rfl)
#print axioms proved_lof
end Go.Proofs.YtndfeckmfhiniaaGreatDoor.Sx
