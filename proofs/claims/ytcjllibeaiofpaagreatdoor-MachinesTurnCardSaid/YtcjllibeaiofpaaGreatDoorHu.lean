/-
  Machines: MachinesTurn, walked.
-/
import Derived.Test.YtcjllibeaiofpaaGreatDoorHt
import Derived.Test.YtcjllibeaiofpaaGreatDoorHq
set_option linter.all false
set_option maxRecDepth 100000
namespace Go.Proofs.YtcjllibeaiofpaaGreatDoor
open Go.RowKit Mach
def turnK (n : Nat) (by' : Int) (k : Nat) : List Cod :=
 [⟨0, n⟩, ⟨0, by'⟩, ⟨36, 0⟩, ⟨0, n⟩, ⟨0, -by'⟩, ⟨36, 0⟩, ⟨18, 0⟩, ⟨18, 0⟩, ⟨32, 0⟩, ⟨32, 0⟩, ⟨0, n⟩, ⟨11, 0⟩] ++ List.replicate k ⟨35, 0⟩
theorem turnK_next (n : Nat) (by' : Int) (k : Nat) : turnK n by' (k + 1) = turnK n by' k ++ [⟨35, 0⟩] := by
 unfold turnK
 rw [List.replicate_succ', List.append_assoc]
theorem turnK_ok (n : Nat) (by' : Int) (k : Nat) (hn : n <= 40) (hb : -2147483647 <= by' /\ by' <= 2147483647) : CodOk (turnK n by' k) := by
 intro x hx
 simp only [turnK, List.cons_append, List.nil_append, List.mem_cons, List.mem_replicate] at hx
 rcases hx with rfl | rfl | rfl | rfl | rfl | rfl | rfl | rfl | rfl | rfl | rfl | rfl | ⟨_, rfl⟩ <;> exact ⟨⟨by simp, by simp⟩, by simp <;> omega, by simp <;> omega⟩
set_option maxHeartbeats 8000000 in
theorem lturn_main (ins : List Int) (many by' x : Int) (n m1 cai b off : Nat) (w : World) (hl : ins.length = m1 + 1) (h2 : 1 <= m1) (h40 : m1 <= 39) (hx : ins[m1]? = some x) (hx2 : -2147483647 <= x /\ x <= 2147483647) (hby : -2147483647 <= by' /\ by' <= 2147483647) (hm : 0 <= many /\ many <= 255) (hn : Go.RowKit.wrap32 (many % ((m1 : Int) + 1 + 1)) = n) (hnl : n <= m1 + 1)
    (hf : Fixs w.heap.size w (some ⟨b, off, none⟩) ins) (hfj : ∀ x ∈ ins, J32 x) (hj : Sx.J w) :
    Calls Tryz.prog 6 #[.slice (some ⟨b, off, none⟩) (m1 + 1) cai, .int .u8 many, .int .i32 by'] w (LV w) := by
  obtain ⟨_, _, e0, hbw, hcx⟩ := fix_cell hf hx
  cases e0
  have c1 : decide (((m1 + 1 : Nat) : Int) < 2) = false := by simp; omega
  have c2 : decide (((m1 + 1 : Nat) : Int) > 40) = false := by simp; omega
  have c3 : (by' == -2147483648) = false := by simp; omega
  have c4 : (x == -2147483648) = false := by simp; omega
  have HL := Lib.hid hl
  have HF := Lib.hid hf
  have HFJ := Lib.hid hfj
  have HN := Lib.hid hn
  have HX := Lib.hid hx
  have hL : LM w w [] := ⟨Below.refl _ _, hj, fun x hx => by simp at hx⟩
  clear hl hf hfj hn hx
  have t1 : True := trivial
  have t2 : True := trivial
  have t3 : True := trivial
  have t4 : True := trivial
  go_enter Tryz.func6, Tryz.ntmps6
  go_wp2_with (first
    | (go_at_call 15; refine (lop_any _ _).mono ?_; rintro e w1 ⟨rfl, hB1⟩; replace hL := hL.kB hB1; clear hB1)
    | ((first | clear t1 | clear t2 | clear t3 | clear t4); go_at_call 14; try rw [HN.out]
       refine (lnum_any _ _).mono ?_; rintro e w1 ⟨rfl, hB1⟩; replace hL := hL.kB hB1; clear hB1))
  obtain ⟨i0, hin, hz0, hz1, hz2⟩ := info_parts info_cod
  have hzc : (Value.agg #[.int .u8 0, .int .i32 0]).cells.size = 2 := rfl
  have hR := RW.lit w1 41 2 10 #[.int .u8 0, .int .i32 n, .int .u8 0, .int .i32 by', .int .u8 36, .int .i32 0, .int .u8 0, .int .i32 n, .int .u8 0, .int .i32 (-by'), .int .u8 36, .int .i32 0, .int .u8 18, .int .i32 0, .int .u8 18, .int .i32 0, .int .u8 32, .int .i32 0, .int .u8 32, .int .i32 0] rfl (by unfold maxLen; omega) hL.j
  have HLB := Lib.hid hL
  clear hL
  go_wp2_with (first
    | (go_at_call 15; refine (lop_any _ _).mono ?_; rintro e w2 ⟨rfl, hB1⟩; replace hR := hR.kB hB1; clear hB1)
    | (go_at_call 14; refine (lnum_any _ _).mono ?_; rintro e w2 ⟨rfl, hB1⟩; replace hR := hR.kB hB1; clear hB1)
    | (at_builtin; go_loud (refine wpList_append_own_at _ rfl _ _ 22 rfl w1.heap.size 41 i0 _ 2 8 Tryz.underlying22 hin hz0 hz1 hz2 hzc (by decide) _ 10 _ rfl (hR.kB ((Below.refl _ _).alloc (Nat.le_refl _) _)).o _ 2 2 (cfl [⟨0, n⟩, ⟨11, 0⟩]) rfl rfl ((cods_at w2 [⟨0, n⟩, ⟨11, 0⟩] 41 _ rfl).hc) (cfl_one _) (by unfold maxLen; omega) (by omega) (by have := hR.b.size; simp; omega) ?_); intro v' w6 hown6 hgrow6 _ _; replace hR := hR.step ((Below.refl _ _).alloc (Nat.le_refl _) _) hown6 hgrow6 HLB.out.j; clear hgrow6 hown6))
  replace hR : RW w1 w6 41 2 v' (12 + 0) (cfl (turnK n by' 0)) := hR
  have HR0 := Lib.hid hR
  clear hR
  go_loopw [9, 8] (fun i lv V => ∃ k : Nat, k <= n /\ i = .int .i32 k /\ RW w1 V 41 2 lv (12 + k) (cfl (turnK n by' k))) (fun i _ _ => n - (intOf i).toNat)
  case atStart => exact ⟨0, by omega, rfl, HR0.out⟩
  case round =>
    obtain ⟨k, hk, rfl, hR⟩ := hrel
    by_cases hlt : k < n
    · have hcell := cods_at
      generalize hcs : turnK n by' k = cs at hR
      have HCS := Lib.hid hcs
      clear hcs hcell
      obtain ⟨la, lc, rfl, _, _, _⟩ := row_shape hR.o
      go_wp2_with (first
        | (go_at_call 15; refine (lop_any _ _).mono ?_; rintro e w2 ⟨rfl, hB1⟩; replace hR := hR.kB hB1; clear hB1)
        | (at_builtin; go_loud (refine wpList_append_own_at _ rfl _ _ 22 rfl w1.heap.size 41 i0 _ 2 8 Tryz.underlying22 hin hz0 hz1 hz2 hzc (by decide) _ (12 + k) _ rfl (hR.kB ((Below.refl _ _).alloc (Nat.le_refl _) _)).o _ 1 1 (cfl [⟨35, 0⟩]) rfl rfl ((cods_at w2 [⟨35, 0⟩] 41 _ rfl).hc) (cfl_one _) (by unfold maxLen; omega) (by omega) (by have := hR.b.size; simp; omega) ?_); intro v' w6 hown6 hgrow6 _ _; replace hR := hR.step ((Below.refl _ _).alloc (Nat.le_refl _) _) hown6 hgrow6 HLB.out.j; clear hgrow6 hown6))
      have HR1 := Lib.hid hR
      clear hR
      go_roundw
      case rel => exact ⟨k + 1, by omega, by go_num, by rw [turnK_next, HCS.out, cfl_app]; exact HR1.out⟩
      case measure => simp [intOf]; omega
    · obtain rfl : k = n := by omega
      obtain ⟨ra, rc, rfl, hlen, hcods⟩ := hR.cods
      have hrun : runF NN (turnK k by' k) ins = .ok (ins.map real) := turn_law (N := NN) k by' ins (by have := HL.out; omega) (by have := HL.out; omega) (by have := HL.out; omega) (fun y hy => by
        rw [List.getLast?_eq_getElem?, HL.out, Nat.add_sub_cancel, HX.out] at hy
        cases hy
        exact hx2)
      have hbw2 : Below w.heap.size w wr := bstep HLB.out.b hR.b
      have HRUN := Lib.hid (run_any (turnK k by' k) ins ra (some ⟨b, off, none⟩) (12 + k) rc (m1 + 1) cai wr hlen HL.out.symm (by have := HL.out; omega) (by simp [turnK]; omega) hcods (turnK_ok k by' k (by omega) hby) (HF.out.on hbw2) HFJ.out hR.j)
      have HRF := Lib.hid hrun
      have HLM := Lib.hid (show (ins.map real).length = m1 + 1 by rw [List.length_map]; exact HL.out)
      have hbw3 := hbw2
      clear hrun hcods hR hlen
      go_wp2_with (go_at_call 12; refine HRUN.out.mono ?_; rintro e w4 hP; obtain ⟨⟨v4, rfl, hV4⟩, hB4⟩ := hP.1 _ HRF.out; obtain ⟨g, vc, rfl, hvv⟩ := hV4.vals; rw [HLM.out]; replace hbw3 := bstep hbw3 hB4; clear hP hV4)
      have HVV := Lib.hid hvv
      have hgd := gd_val
      clear hvv
      obtain ⟨Vs, hVs⟩ : ∃ V, V = w4 := ⟨_, rfl⟩
      subst hVs
      go_loopw [12] (fun i V => ∃ j : Nat, j <= m1 + 1 /\ i = .int .i64 j /\ Below w.heap.size w V /\ Below Vs.heap.size Vs V) (fun i _ => m1 + 1 - (intOf i).toNat)
      case atStart => exact ⟨0, by omega, rfl, hbw3, Below.refl _ _⟩
      case round =>
        obtain ⟨j, hj2, rfl, hB, hB2⟩ := hrel
        by_cases hlt2 : j < m1 + 1
        · obtain ⟨y, hy⟩ : ∃ y, ins[j]? = some y := ⟨_, List.getElem?_eq_getElem (by have := HL.out; omega)⟩
          have hy2 : (ins.map real)[j]? = some (real y) := by rw [List.getElem?_map, hy]; rfl
          obtain ⟨b1, o1, e1, hb1, p0, p1⟩ := vals_some (HVV.out.on hB2) hy2
          cases e1
          obtain ⟨b2, o2, e2, hb2, q0⟩ := fix_cell (HF.out.on hB) hy
          cases e2
          rw [Nat.zero_add] at p0 p1
          simp only [real] at p0 p1
          clear hy hy2
          go_wp2
          go_quiet (fail)
          go_wp2
          go_roundw
          case rel => exact ⟨j + 1, by omega, by go_num, below_drewN hB _, below_drewN hB2 _⟩
          case measure => simp [intOf]; omega
        · obtain rfl : j = m1 + 1 := by omega
          go_wp2_with (go_at_call 10; refine (lives_any _ (Sx.J_kept hB hj)).mono ?_; rintro e w5 ⟨rfl, hB5⟩)
          go_ret
          exact ⟨rfl, bstep hB hB5⟩
set_option maxHeartbeats 4000000 in
theorem lturn_any (ins : List Int) (many by' : Int) (ai : Option Addr) (mi cai : Nat) (w : World) (hl : mi = ins.length) (hbj : J32 by') (hm : 0 <= many /\ many <= 255) (hf : Fixs w.heap.size w ai ins) (hfj : ∀ x ∈ ins, J32 x) (hj : Sx.J w) :
  Calls Tryz.prog 6 #[.slice ai mi cai, .int .u8 many, .int .i32 by'] w (LV w) := by
 have HV := Lib.hid (lives_any w hj)
 by_cases g1 : mi < 2
 ·have c1 : decide ((mi : Int) < 2) = true := by simp; omega
  clear hl hf hfj
  go_enter Tryz.func6, Tryz.ntmps6
  go_wp2_with (go_at_call 10; refine HV.out.mono ?_; rintro e w1 ⟨rfl, hB1⟩)
  go_ret
  exact ⟨rfl, hB1⟩
 by_cases g2 : 40 < mi
 ·have c1 : decide ((mi : Int) < 2) = false := by simp; omega
  have c2 : decide ((mi : Int) > 40) = true := by simp; omega
  clear hl hf hfj
  go_enter Tryz.func6, Tryz.ntmps6
  go_wp2_with (go_at_call 10; refine HV.out.mono ?_; rintro e w1 ⟨rfl, hB1⟩)
  go_ret
  exact ⟨rfl, hB1⟩
 obtain ⟨m1, rfl⟩ : ∃ m1, mi = m1 + 1 := ⟨mi - 1, by omega⟩
 have c1 : decide (((m1 + 1 : Nat) : Int) < 2) = false := by simp; omega
 have c2 : decide (((m1 + 1 : Nat) : Int) > 40) = false := by simp; omega
 by_cases g3 : by' = -2147483648
 ·have c3 : (by' == -2147483648) = true := by simpa using g3
  clear hl hf hfj g3
  go_enter Tryz.func6, Tryz.ntmps6
  go_wp2_with (go_at_call 10; refine HV.out.mono ?_; rintro e w1 ⟨rfl, hB1⟩)
  go_ret
  exact ⟨rfl, hB1⟩
 have c3 : (by' == -2147483648) = false := by simpa using g3
 obtain ⟨x, hx⟩ : ∃ x, ins[m1]? = some x := ⟨_, List.getElem?_eq_getElem (by omega)⟩
 obtain ⟨b, off, rfl, hbw, hcx⟩ := fix_cell hf hx
 by_cases g4 : x = -2147483648
 ·have c4 : (x == -2147483648) = true := by simpa using g4
  clear hl hf hfj g4 hx
  go_enter Tryz.func6, Tryz.ntmps6
  go_wp2_with (go_at_call 10; refine HV.out.mono ?_; rintro e w1 ⟨rfl, hB1⟩)
  go_ret
  exact ⟨rfl, hB1⟩
 have hxj := hfj x (List.mem_of_getElem? hx)
 unfold J32 at hxj hbj
 have h0 : 0 <= many % ((m1 : Int) + 1 + 1) := Int.emod_nonneg _ (by omega)
 have h1 : many % ((m1 : Int) + 1 + 1) < (m1 : Int) + 1 + 1 := Int.emod_lt_of_pos _ (by omega)
 exact lturn_main ins many by' x (many % ((m1 : Int) + 1 + 1)).toNat m1 cai b off w hl.symm (by omega) (by omega) hx (by omega) (by omega) hm (by unfold Go.RowKit.wrap32; omega) (by omega) hf hfj hj
theorem walk_turn : WalkT 6 [23, 5, 21] := by
 intro H enc W base b0 spare held args ds p hval hA hj
 obtain ⟨v, v', v'', d, d', d'', p1, p2, p3, rfl, _, _, ⟨f1, hd⟩, ⟨f2, hd'⟩, ⟨f3, hd''⟩⟩ := Go.ChangeShapes.trodAll_three hA
 obtain ⟨ai, mi, cai, rfl, ec⟩ := arg_slice Tryz.underlying23 (hval 0 _ v rfl rfl)
 rw [ec] at hd
 obtain ⟨_, _, _, ins, e1, hmi, hf, hfj, _⟩ := fixs_arg hd
 cases e1
 obtain ⟨many, rfl, hm⟩ := arg_int Tryz.underlying5 (hval 1 _ v' rfl rfl) hd'
 obtain ⟨by', rfl, hb⟩ := arg_int Tryz.underlying21 (hval 2 _ v'' rfl rfl) hd''
 exact lturn_any ins many by' ai mi cai W hmi (wf_j32 hb) (wf_b8 hm) hf hfj hj
end Go.Proofs.YtcjllibeaiofpaaGreatDoor
