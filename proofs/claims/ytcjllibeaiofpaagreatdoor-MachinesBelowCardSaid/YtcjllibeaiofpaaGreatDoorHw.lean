/-
  Machines: MachinesBelow, walked.
-/
import Derived.Test.YtcjllibeaiofpaaGreatDoorHv
set_option linter.all false
set_option maxRecDepth 100000
namespace Go.Proofs.YtcjllibeaiofpaaGreatDoor
open Go.RowKit Mach
set_option maxHeartbeats 4000000 in
theorem lbelow_far (ad ai ab : Option Addr) (m cap mi cai mb cab : Nat) (w : World) (hj : Sx.J w) (h : 300 < m \/ 50 < mi \/ 20 < mb) :
  Calls Tryz.prog 4 #[.slice ad m cap, .slice ai mi cai, .slice ab mb cab] w (LV w) := by
 have HV := Lib.hid (lives_any w hj)
 by_cases g1 : 300 < m
 ·have c1 : decide ((m : Int) > 300) = true := by simp; omega
  go_enter Tryz.func4, Tryz.ntmps4
  go_wp2_with (go_at_call 10; refine HV.out.mono ?_; rintro e w1 ⟨rfl, hB1⟩)
  go_ret
  exact ⟨rfl, hB1⟩
 have c1 : decide ((m : Int) > 300) = false := by simp; omega
 by_cases g2 : 50 < mi
 ·have c2 : decide ((mi : Int) > 50) = true := by simp; omega
  go_enter Tryz.func4, Tryz.ntmps4
  go_wp2_with (go_at_call 10; refine HV.out.mono ?_; rintro e w1 ⟨rfl, hB1⟩)
  go_ret
  exact ⟨rfl, hB1⟩
 ·have c2 : decide ((mi : Int) > 50) = false := by simp; omega
  have c3 : decide ((mb : Int) > 20) = true := by simp; omega
  go_enter Tryz.func4, Tryz.ntmps4
  go_wp2_with (go_at_call 10; refine HV.out.mono ?_; rintro e w1 ⟨rfl, hB1⟩)
  go_ret
  exact ⟨rfl, hB1⟩
set_option maxHeartbeats 40000000 in
theorem lbelow_any (c : List Cod) (ins bel : List Int) (ad ai ab : Option Addr) (m cap mi cai mb cab : Nat) (w : World) (hm : m = c.length) (hmi : mi = ins.length) (hmb : mb = bel.length) (hc : Cods w.heap.size w ad c) (hok : CodOk c) (hf : Fixs w.heap.size w ai ins) (hfj : ∀ x ∈ ins, J32 x) (hni : ai = none -> mi = 0 /\ cai = 0) (hf2 : Fixs w.heap.size w ab bel) (hfj2 : ∀ x ∈ bel, J32 x) (hnb : ab = none -> mb = 0 /\ cab = 0) (hj : Sx.J w) :
  Calls Tryz.prog 4 #[.slice ad m cap, .slice ai mi cai, .slice ab mb cab] w (LV w) := by
 by_cases hfar : 300 < m \/ 50 < mi \/ 20 < mb
 ·exact lbelow_far ad ai ab m cap mi cai mb cab w hj hfar
 have hl1 : m <= 300 := by omega
 have hl2 : mi <= 50 := by omega
 have hl3 : mb <= 20 := by omega
 have c1 : decide ((m : Int) > 300) = false := by simp; omega
 have c2 : decide ((mi : Int) > 50) = false := by simp; omega
 have c3 : decide ((mb : Int) > 20) = false := by simp; omega
 have HR1 := Lib.hid (fun (W : World) (hB : Below w.heap.size w W) => run_any c ins ad ai m cap mi cai W hm hmi (by omega) (by omega) (hc.on hB) hok (hf.on hB) hfj (Sx.J_kept hB hj))
 have HR2 := Lib.hid (fun (W : World) (hB : Below w.heap.size w W) (aa : Option Addr) (n ca : Nat) (hn : n = (bel ++ ins).length) (hF : Fixs W.heap.size W aa (bel ++ ins)) => run_any c (bel ++ ins) ad aa m cap n ca W hm hn (by rw [List.length_append]; omega) (by omega) (hc.on hB) hok hF (fun x hx => by
  rcases List.mem_append.1 hx with h | h
  ·exact hfj2 x h
  ·exact hfj x h) (Sx.J_kept hB hj))
 have HL := Lib.hid (fun (W : World) (hB : Below w.heap.size w W) => lives_any W (Sx.J_kept hB hj))
 have HBL := Lib.hid (fun v h => below_law (N := NN) c ins bel (by omega) (v := v) h)
 have HA := Lib.hid (fun l h => (runF_all (N := NN) nn_ok (c := c) (fun x hx => (hok x hx).2) (ins := ins) hfj (l := l) h))
 have HF := Lib.hid (And.intro hf hni)
 have HF2 := Lib.hid (And.intro hf2 hnb)
 have HM := Lib.hid (And.intro hmi hmb)
 have HS1 := Lib.hid (show (bel.map (Value.int .i32)).length = mb * 1 by rw [List.length_map]; omega)
 have HS2 := Lib.hid (show (ins.map (Value.int .i32)).length = mi * 1 by rw [List.length_map]; omega)
 obtain ⟨i0, hin, hz0, hz1, hz2⟩ := info_parts info_fix
 have hzc : (Value.int .i32 0).cells.size = 1 := rfl
 clear hm hmi hmb hc hok hf hfj hni hf2 hfj2 hnb hfar
 have hb0 : Below w.heap.size w w := Below.refl _ _
 have t1 : True := trivial
 have t2 : True := trivial
 cases h1 : runF NN c ins with
 | error er =>
  have hne := run_ne h1
  have e1 : (er != 0) = true := by simpa using hne
  have e2 : (er == 0) = false := by simpa using hne
  have HE1 := Lib.hid h1
  clear h1 hne
  cases h2 : runF NN c (bel ++ ins) with
  | error er2 =>
   have HE2 := Lib.hid h2
   clear h2
   go_enter Tryz.func4, Tryz.ntmps4
   go_wp2_with (first
    | (clear t1; go_at_call 12; refine (HR1.out _ hb0).mono ?_; rintro e w1 hP; obtain ⟨rfl, hB1⟩ := hP.2 _ HE1.out; replace hb0 := bstep hb0 hB1; have hR := RW.nil w1 36 1 (Sx.J_kept hb0 hj); clear hP)
    | (clear t2; at_builtin; (refine wpList_append_src rfl _ _ 23 rfl w1.heap.size 36 i0 _ 1 4 Tryz.underlying23 hin hz0 hz1 hz2 hzc (by decide) _ 0 [] rfl hR.o ab mb cab (bel.map (Value.int .i32)) rfl HS1.out (Fixs.src (HF2.out.1.on (bstep hb0 hR.b))) HF2.out.2 (ints_one _ _) (by unfold maxLen; omega) (by omega) hR.b.size ?_); intro v1 w2 hown hgrow; replace hR : RW w1 w2 36 1 v1 (0 + mb) ([] ++ bel.map (Value.int .i32)) := hR.step (Below.refl _ _) hown hgrow (Sx.J_kept hb0 hj); clear hown hgrow)
    | (at_builtin; (refine wpList_append_src rfl _ _ 23 rfl w1.heap.size 36 i0 _ 1 4 Tryz.underlying23 hin hz0 hz1 hz2 hzc (by decide) _ (0 + mb) ([] ++ bel.map (Value.int .i32)) rfl hR.o ai mi cai (ins.map (Value.int .i32)) rfl HS2.out (Fixs.src (HF.out.1.on (bstep hb0 hR.b))) HF.out.2 (ints_one _ _) (by unfold maxLen; omega) (by omega) hR.b.size ?_); intro v2 w3 hown hgrow; have hX := hR.step (Below.refl _ _) hown hgrow (Sx.J_kept hb0 hj); rw [Nat.zero_add mb] at hX; have hY : RW w1 w3 36 1 v2 (mb + mi) ((bel ++ ins).map (Value.int .i32)) := (by rw [List.map_append]; exact hX); obtain ⟨aa, ca, rfl, hlen, hff⟩ := hY.fixs; have HLEN := Lib.hid hlen; clear hlen)
    | (go_at_call 12; refine (HR2.out _ (bstep hb0 hY.b) _ _ _ HLEN.out hff).mono ?_; rintro e w4 hP; obtain ⟨rfl, hB2⟩ := hP.2 _ HE2.out; have hb4 := bstep (bstep hb0 hY.b) hB2; clear hP)
    | (go_at_call 10; refine (HL.out _ hb4).mono ?_; rintro e w5 ⟨rfl, hB5⟩))
   go_ret
   exact ⟨rfl, bstep hb4 hB5⟩
  | ok v2 =>
   have HE2 := Lib.hid h2
   obtain ⟨l2, hl2⟩ : ∃ n, v2.length = n := ⟨_, rfl⟩
   have HVL2 := Lib.hid hl2
   clear hl2
   clear h2
   go_enter Tryz.func4, Tryz.ntmps4
   go_wp2_with (first
    | (clear t1; go_at_call 12; refine (HR1.out _ hb0).mono ?_; rintro e w1 hP; obtain ⟨rfl, hB1⟩ := hP.2 _ HE1.out; replace hb0 := bstep hb0 hB1; have hR := RW.nil w1 36 1 (Sx.J_kept hb0 hj); clear hP)
    | (clear t2; at_builtin; (refine wpList_append_src rfl _ _ 23 rfl w1.heap.size 36 i0 _ 1 4 Tryz.underlying23 hin hz0 hz1 hz2 hzc (by decide) _ 0 [] rfl hR.o ab mb cab (bel.map (Value.int .i32)) rfl HS1.out (Fixs.src (HF2.out.1.on (bstep hb0 hR.b))) HF2.out.2 (ints_one _ _) (by unfold maxLen; omega) (by omega) hR.b.size ?_); intro v1 w2 hown hgrow; replace hR : RW w1 w2 36 1 v1 (0 + mb) ([] ++ bel.map (Value.int .i32)) := hR.step (Below.refl _ _) hown hgrow (Sx.J_kept hb0 hj); clear hown hgrow)
    | (at_builtin; (refine wpList_append_src rfl _ _ 23 rfl w1.heap.size 36 i0 _ 1 4 Tryz.underlying23 hin hz0 hz1 hz2 hzc (by decide) _ (0 + mb) ([] ++ bel.map (Value.int .i32)) rfl hR.o ai mi cai (ins.map (Value.int .i32)) rfl HS2.out (Fixs.src (HF.out.1.on (bstep hb0 hR.b))) HF.out.2 (ints_one _ _) (by unfold maxLen; omega) (by omega) hR.b.size ?_); intro v2 w3 hown hgrow; have hX := hR.step (Below.refl _ _) hown hgrow (Sx.J_kept hb0 hj); rw [Nat.zero_add mb] at hX; have hY : RW w1 w3 36 1 v2 (mb + mi) ((bel ++ ins).map (Value.int .i32)) := (by rw [List.map_append]; exact hX); obtain ⟨aa, ca, rfl, hlen, hff⟩ := hY.fixs; have HLEN := Lib.hid hlen; clear hlen)
    | (go_at_call 12; refine (HR2.out _ (bstep hb0 hY.b) _ _ _ HLEN.out hff).mono ?_; rintro e w4 hP; obtain ⟨⟨vv, rfl, hVA⟩, hB2⟩ := hP.1 _ HE2.out; obtain ⟨g2, k2, rfl, hcap, hv2⟩ := hVA.vals2; rw [HVL2.out] at hcap ⊢; have hb4 := bstep (bstep hb0 hY.b) hB2; clear hP hVA)
    | (go_at_call 10; refine (HL.out _ hb4).mono ?_; rintro e w5 ⟨rfl, hB5⟩))
   go_ret
   exact ⟨rfl, bstep hb4 hB5⟩
 | ok v =>
  have HE1 := Lib.hid h1
  obtain ⟨_, h100⟩ := HA.out v h1
  obtain ⟨vl, hvl⟩ : ∃ n, v.length = n := ⟨_, rfl⟩
  rw [hvl] at h100
  have HVL := Lib.hid hvl
  have hbl := HBL.out v h1
  clear h1 hvl
  rcases hbl with h2 | h2
  ·have HE2 := Lib.hid h2
   have HVL2 := Lib.hid (show (bel.map real ++ v).length = vl + mb by rw [List.length_append, List.length_map, HVL.out, HM.out.2]; omega)
   clear h2
   go_enter Tryz.func4, Tryz.ntmps4
   go_wp2_with (first
    | (clear t1; go_at_call 12; refine (HR1.out _ hb0).mono ?_; rintro e w1 hP; obtain ⟨⟨vv, rfl, hVA⟩, hB1⟩ := hP.1 _ HE1.out; obtain ⟨g1, k1, rfl, hvv⟩ := hVA.vals; rw [HVL.out]; replace hb0 := bstep hb0 hB1; have hR := RW.nil w1 36 1 (Sx.J_kept hb0 hj); clear hP hVA)
    | (clear t2; at_builtin; (refine wpList_append_src rfl _ _ 23 rfl w1.heap.size 36 i0 _ 1 4 Tryz.underlying23 hin hz0 hz1 hz2 hzc (by decide) _ 0 [] rfl hR.o ab mb cab (bel.map (Value.int .i32)) rfl HS1.out (Fixs.src (HF2.out.1.on (bstep hb0 hR.b))) HF2.out.2 (ints_one _ _) (by unfold maxLen; omega) (by omega) hR.b.size ?_); intro v1 w2 hown hgrow; replace hR : RW w1 w2 36 1 v1 (0 + mb) ([] ++ bel.map (Value.int .i32)) := hR.step (Below.refl _ _) hown hgrow (Sx.J_kept hb0 hj); clear hown hgrow)
    | (at_builtin; (refine wpList_append_src rfl _ _ 23 rfl w1.heap.size 36 i0 _ 1 4 Tryz.underlying23 hin hz0 hz1 hz2 hzc (by decide) _ (0 + mb) ([] ++ bel.map (Value.int .i32)) rfl hR.o ai mi cai (ins.map (Value.int .i32)) rfl HS2.out (Fixs.src (HF.out.1.on (bstep hb0 hR.b))) HF.out.2 (ints_one _ _) (by unfold maxLen; omega) (by omega) hR.b.size ?_); intro v2 w3 hown hgrow; have hX := hR.step (Below.refl _ _) hown hgrow (Sx.J_kept hb0 hj); rw [Nat.zero_add mb] at hX; have hY : RW w1 w3 36 1 v2 (mb + mi) ((bel ++ ins).map (Value.int .i32)) := (by rw [List.map_append]; exact hX); obtain ⟨aa, ca, rfl, hlen, hff⟩ := hY.fixs; have HLEN := Lib.hid hlen; clear hlen)
    | (go_at_call 12; refine (HR2.out _ (bstep hb0 hY.b) _ _ _ HLEN.out hff).mono ?_; rintro e w4 hP; obtain ⟨⟨vv, rfl, hVA⟩, hB2⟩ := hP.1 _ HE2.out; obtain ⟨g2, k2, rfl, hcap, hv2⟩ := hVA.vals2; rw [HVL2.out] at hcap ⊢; have hb4 := bstep (bstep hb0 hY.b) hB2; replace hvv := (hvv.on hY.b).on hB2; clear hP hVA)
    | (go_at_call 10; refine (HL.out _ hb4).mono ?_; rintro e w5 ⟨rfl, hB5⟩))
   have HVV := Lib.hid hvv
   have HV2 := Lib.hid hv2
   have hgd := gd_val
   clear hvv hv2
   obtain ⟨Vs, hVs⟩ : ∃ V, V = w4 := ⟨_, rfl⟩
   subst hVs
   go_loopw [11] (fun i V => ∃ k : Nat, k <= mb /\ i = .int .i64 k /\ Below w.heap.size w V /\ Below Vs.heap.size Vs V) (fun i _ => mb - (intOf i).toNat)
   case atStart => exact ⟨0, by omega, rfl, hb4, Below.refl _ _⟩
   case round =>
    obtain ⟨k, hk, rfl, hB, hB3⟩ := hrel
    by_cases hlt : k < mb
    ·have hkb : k < bel.length := by have := HM.out.2; omega
     obtain ⟨y, hy⟩ : ∃ y, bel[k]? = some y := ⟨_, List.getElem?_eq_getElem hkb⟩
     have hy2 : (bel.map real ++ v)[k]? = some (real y) := by rw [List.getElem?_append_left (by simpa using hkb), List.getElem?_map, hy]; rfl
     obtain ⟨b1, o1, e1, hb1, p0, p1⟩ := vals_some (HV2.out.on hB3) hy2
     cases e1
     obtain ⟨b2, o2, rfl, hb2, q0⟩ := fix_cell (HF2.out.1.on hB) hy
     rw [Nat.zero_add] at p0 p1
     simp only [real] at p0 p1
     clear hy hy2 hkb
     go_wp2
     go_quiet (fail)
     go_wp2
     go_roundw
     case rel => exact ⟨k + 1, by omega, by go_num, below_drewN hB _, below_drewN hB3 _⟩
     case measure => simp [intOf]; omega
    ·obtain rfl : k = mb := by omega
     have hT := (HV2.out.on hB3).tail (off := k * 2) (by rw [List.length_map, HM.out.2])
     have hvv3 := HVV.out.on hB3
     go_wp2_with (first
      | (have hk2 : ¬ k2 = k := (by omega); go_at_call 13; refine (samev_any v v (some ⟨g2, k * 2, none⟩) (some ⟨g1, 0, none⟩) vl vl _ _ _ HVL.out.symm HVL.out.symm hT hvv3 (by omega) (by omega)).mono ?_; rintro e w5 ⟨rfl, hB5⟩; rw [same_kn]; replace hb4 := bstep hB hB5)
      | (have hk2 : k2 = k := (by omega); go_at_call 13; refine (samev_any v v (some ⟨g2, 0, none⟩) (some ⟨g1, 0, none⟩) vl vl _ _ _ HVL.out.symm HVL.out.symm (.inl (List.eq_nil_of_length_eq_zero (by rw [HVL.out]; omega))) hvv3 (by omega) (by omega)).mono ?_; rintro e w5 ⟨rfl, hB5⟩; rw [same_kn]; replace hb4 := bstep hB hB5)
      | (go_at_call 10; refine (HL.out _ hb4).mono ?_; rintro e w6 ⟨rfl, hB6⟩))
     all_goals go_ret
     all_goals exact ⟨rfl, bstep hb4 hB6⟩
  ·have HE2 := Lib.hid h2
   clear h2
   go_enter Tryz.func4, Tryz.ntmps4
   go_wp2_with (first
    | (clear t1; go_at_call 12; refine (HR1.out _ hb0).mono ?_; rintro e w1 hP; obtain ⟨⟨vv, rfl, hVA⟩, hB1⟩ := hP.1 _ HE1.out; obtain ⟨g1, k1, rfl, hvv⟩ := hVA.vals; rw [HVL.out]; replace hb0 := bstep hb0 hB1; have hR := RW.nil w1 36 1 (Sx.J_kept hb0 hj); clear hP hVA)
    | (clear t2; at_builtin; (refine wpList_append_src rfl _ _ 23 rfl w1.heap.size 36 i0 _ 1 4 Tryz.underlying23 hin hz0 hz1 hz2 hzc (by decide) _ 0 [] rfl hR.o ab mb cab (bel.map (Value.int .i32)) rfl HS1.out (Fixs.src (HF2.out.1.on (bstep hb0 hR.b))) HF2.out.2 (ints_one _ _) (by unfold maxLen; omega) (by omega) hR.b.size ?_); intro v1 w2 hown hgrow; replace hR : RW w1 w2 36 1 v1 (0 + mb) ([] ++ bel.map (Value.int .i32)) := hR.step (Below.refl _ _) hown hgrow (Sx.J_kept hb0 hj); clear hown hgrow)
    | (at_builtin; (refine wpList_append_src rfl _ _ 23 rfl w1.heap.size 36 i0 _ 1 4 Tryz.underlying23 hin hz0 hz1 hz2 hzc (by decide) _ (0 + mb) ([] ++ bel.map (Value.int .i32)) rfl hR.o ai mi cai (ins.map (Value.int .i32)) rfl HS2.out (Fixs.src (HF.out.1.on (bstep hb0 hR.b))) HF.out.2 (ints_one _ _) (by unfold maxLen; omega) (by omega) hR.b.size ?_); intro v2 w3 hown hgrow; have hX := hR.step (Below.refl _ _) hown hgrow (Sx.J_kept hb0 hj); rw [Nat.zero_add mb] at hX; have hY : RW w1 w3 36 1 v2 (mb + mi) ((bel ++ ins).map (Value.int .i32)) := (by rw [List.map_append]; exact hX); obtain ⟨aa, ca, rfl, hlen, hff⟩ := hY.fixs; have HLEN := Lib.hid hlen; clear hlen)
    | (go_at_call 12; refine (HR2.out _ (bstep hb0 hY.b) _ _ _ HLEN.out hff).mono ?_; rintro e w4 hP; obtain ⟨rfl, hB2⟩ := hP.2 _ HE2.out; have hb4 := bstep (bstep hb0 hY.b) hB2; replace hvv := (hvv.on hY.b).on hB2; clear hP)
    | (go_at_call 10; refine (HL.out _ hb4).mono ?_; rintro e w5 ⟨rfl, hB5⟩))
   go_ret
   exact ⟨rfl, bstep hb4 hB5⟩
theorem walk_below : WalkT 4 [22, 23, 23] := by
 intro H enc W base b0 spare held args ds p hval hA hj
 obtain ⟨v, v', v'', d, d', d'', p1, p2, p3, rfl, _, _, ⟨f1, hd⟩, ⟨f2, hd'⟩, ⟨f3, hd''⟩⟩ := Go.ChangeShapes.trodAll_three hA
 obtain ⟨ad, m, cap, rfl, ec⟩ := arg_slice Tryz.underlying22 (hval 0 _ v rfl rfl)
 obtain ⟨ai, mi, cai, rfl, ec'⟩ := arg_slice Tryz.underlying23 (hval 1 _ v' rfl rfl)
 obtain ⟨ab, mb, cab, rfl, ec''⟩ := arg_slice Tryz.underlying23 (hval 2 _ v'' rfl rfl)
 rw [ec] at hd
 rw [ec'] at hd'
 rw [ec''] at hd''
 obtain ⟨_, _, _, c, e1, hm, hc, hok, _⟩ := cods_arg hd
 obtain ⟨_, _, _, ins, e2, hmi, hf, hfj, hni, _⟩ := fixs_arg hd'
 obtain ⟨_, _, _, bel, e3, hmb, hf2, hfj2, hnb, _⟩ := fixs_arg hd''
 cases e1
 cases e2
 cases e3
 exact lbelow_any c ins bel ad ai ab m cap mi cai mb cab W hm hmi hmb hc hok hf hfj hni hf2 hfj2 hnb hj
end Go.Proofs.YtcjllibeaiofpaaGreatDoor
