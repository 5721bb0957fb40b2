/-
  Machines: MachinesBoth, walked.
-/
import Derived.Test.YtcjllibeaiofpaaGreatDoorHv
set_option linter.all false
set_option maxRecDepth 100000
namespace Go.Proofs.YtcjllibeaiofpaaGreatDoor
open Go.RowKit Mach
set_option maxHeartbeats 4000000 in
theorem lboth_far (ad dd ai : Option Addr) (m cap md dap mi cai : Nat) (w : World) (hj : Sx.J w) (h : 200 < m \/ 200 < md \/ 50 < mi) :
  Calls Tryz.prog 5 #[.slice ad m cap, .slice dd md dap, .slice ai mi cai] w (LV w) := by
 have HV := Lib.hid (lives_any w hj)
 by_cases g1 : 200 < m
 ·have c1 : decide ((m : Int) > 200) = true := by simp; omega
  go_enter Tryz.func5, Tryz.ntmps5
  go_wp2_with (go_at_call 10; refine HV.out.mono ?_; rintro e w1 ⟨rfl, hB1⟩)
  go_ret
  exact ⟨rfl, hB1⟩
 have c1 : decide ((m : Int) > 200) = false := by simp; omega
 by_cases g2 : 200 < md
 ·have c2 : decide ((md : Int) > 200) = true := by simp; omega
  go_enter Tryz.func5, Tryz.ntmps5
  go_wp2_with (go_at_call 10; refine HV.out.mono ?_; rintro e w1 ⟨rfl, hB1⟩)
  go_ret
  exact ⟨rfl, hB1⟩
 ·have c2 : decide ((md : Int) > 200) = false := by simp; omega
  have c3 : decide ((mi : Int) > 50) = true := by simp; omega
  go_enter Tryz.func5, Tryz.ntmps5
  go_wp2_with (go_at_call 10; refine HV.out.mono ?_; rintro e w1 ⟨rfl, hB1⟩)
  go_ret
  exact ⟨rfl, hB1⟩
structure BothA (w : World) (c d : List Cod) (ins : List Int) (ad dd ai : Option Addr) (m md mi : Nat) : Prop where
 m : m = c.length
 md : md = d.length
 mi : mi = ins.length
 hc : Cods w.heap.size w ad c
 ck : CodOk c
 hd : Cods w.heap.size w dd d
 dk : CodOk d
 f : Fixs w.heap.size w ai ins
 fj : ∀ x ∈ ins, J32 x
 j : Sx.J w
theorem BothA.on {w W : World} {c d : List Cod} {ins : List Int} {ad dd ai : Option Addr} {m md mi : Nat} (h : BothA w c d ins ad dd ai m md mi) (hB : Below w.heap.size w W) : BothA W c d ins ad dd ai m md mi :=
 ⟨h.m, h.md, h.mi, h.hc.on hB, h.ck, h.hd.on hB, h.dk, h.f.on hB, h.fj, Sx.J_kept hB h.j⟩
theorem both_next {c d : List Cod} {k n : Nat} {x : Cod} (hx : d[k]? = some x) : c ++ (d.take (k + 1)).map (goesN n) = (c ++ (d.take k).map (goesN n)) ++ [goesN n x] := by
 rw [take_map (goesN n) d hx, List.append_assoc]
theorem codok_add {c : List Cod} {x : Cod} (h : CodOk c) (h0 : 0 <= x.op /\ x.op <= 255) (h1 : J32 x.n) : CodOk (c ++ [x]) := by
 intro y hy
 rcases List.mem_append.1 hy with q | q
 ·exact h y q
 ·obtain rfl : y = x := by simpa using q
  exact ⟨h0, h1⟩
set_option maxHeartbeats 40000000 in
theorem lboth_any (c d : List Cod) (ins : List Int) (ad dd ai : Option Addr) (m cap md dap mi cai : Nat) (w : World) (hA : BothA w c d ins ad dd ai m md mi) (hnc : ad = none -> m = 0 /\ cap = 0) :
  Calls Tryz.prog 5 #[.slice ad m cap, .slice dd md dap, .slice ai mi cai] w (LV w) := by
 by_cases hfar : 200 < m \/ 200 < md \/ 50 < mi
 ·exact lboth_far ad dd ai m cap md dap mi cai w hA.j hfar
 have hl1 : m <= 200 := by omega
 have hl2 : md <= 200 := by omega
 have hl3 : mi <= 50 := by omega
 have c1 : decide ((m : Int) > 200) = false := by simp; omega
 have c2 : decide ((md : Int) > 200) = false := by simp; omega
 have c3 : decide ((mi : Int) > 50) = false := by simp; omega
 have HR1 := Lib.hid (run_any c ins ad ai m cap mi cai w hA.m hA.mi (by have := hA.mi; omega) (by have := hA.m; omega) hA.hc hA.ck hA.f hA.fj hA.j)
 have HAL := Lib.hid (fun l h => (runF_all (N := NN) nn_ok (c := c) (fun x hx => (hA.ck x hx).2) (ins := ins) hA.fj (l := l) h))
 have HA := Lib.hid hA
 have HNC := Lib.hid hnc
 clear hA hfar hnc
 cases h1 : runF NN c ins with
 | error er =>
  have hne := run_ne h1
  have e1 : (er != 0) = true := by simpa using hne
  have HE1 := Lib.hid h1
  clear h1 hne
  go_enter Tryz.func5, Tryz.ntmps5
  go_wp2_with (first
   | (go_at_call 12; refine HR1.out.mono ?_; rintro e w1 hP; obtain ⟨rfl, hB1⟩ := hP.2 _ HE1.out; clear hP)
   | (go_at_call 10; refine (lives_any w1 (HA.out.on hB1).j).mono ?_; rintro e w2 ⟨rfl, hB2⟩))
  go_ret
  exact ⟨rfl, bstep hB1 hB2⟩
 | ok v =>
  have HE1 := Lib.hid h1
  obtain ⟨hall, h100⟩ := HAL.out v h1
  obtain ⟨vl, hvl⟩ : ∃ n, v.length = n := ⟨_, rfl⟩
  rw [hvl] at h100
  have HVL := Lib.hid hvl
  have HAV := Lib.hid hall
  clear h1 hvl hall
  obtain ⟨i0, hin, hz0, hz1, hz2⟩ := info_parts info_fix
  have hzc : (Value.int .i32 0).cells.size = 1 := rfl
  obtain ⟨i2, hin2, hz02, hz12, hz22⟩ := info_parts info_cod
  have hzc2 : (Value.agg #[.int .u8 0, .int .i32 0]).cells.size = 2 := rfl
  go_enter Tryz.func5, Tryz.ntmps5
  go_wp2_with (go_at_call 12; refine HR1.out.mono ?_; rintro e w1 hP; obtain ⟨⟨vv, rfl, hVA⟩, hB1⟩ := hP.1 _ HE1.out; obtain ⟨g1, k1, rfl, hvv⟩ := hVA.vals; rw [HVL.out]; clear hP hVA)
  have HVV := Lib.hid hvv
  have HB1 := Lib.hid hB1
  have HA1 := Lib.hid (HA.out.on hB1)
  have HJ1 := Lib.hid HA1.out.j
  have hR0 := Lib.hid (RW.nil w1 36 1 HJ1.out)
  clear hvv hB1
  go_loopw [10, 9] (fun i lv V => ∃ k : Nat, k <= vl /\ i = .int .i64 k /\ RW w1 V 36 1 lv k (((v.take k).map (·.n)).map (Value.int .i32)) /\ ∀ j a, j < k -> v[j]? = some a -> a.k = 1) (fun i _ _ => vl - (intOf i).toNat)
  case atStart => exact ⟨0, by omega, rfl, hR0.out, fun j a h => absurd h (by omega)⟩
  case round =>
   obtain ⟨k, hk, rfl, hR, hpre⟩ := hrel
   have HP := Lib.hid hpre
   clear hpre
   by_cases hlt : k < vl
   ·obtain ⟨x, hx⟩ : ∃ x, v[k]? = some x := ⟨_, List.getElem?_eq_getElem (by have := HVL.out; omega)⟩
    obtain ⟨b1, o1, e1, hb1, p0, p1⟩ := vals_some (HVV.out.on hR.b) hx
    cases e1
    rw [Nat.zero_add] at p0 p1
    have HX := Lib.hid hx
    clear hx
    obtain ⟨xk, xn, xkn⟩ := x
    simp only at p0 p1
    generalize hxs : (((v.take k).map (·.n)).map (Value.int .i32)) = xs at hR
    have HXS := Lib.hid hxs
    clear hxs
    obtain ⟨la, lc, rfl, _, _, _⟩ := row_shape hR.o
    by_cases e1 : xk = 1
    ·subst e1
     go_wp2_with (first
      | (at_builtin; (refine wpList_append_own_at _ rfl _ _ 23 rfl w1.heap.size 36 i0 _ 1 4 Tryz.underlying23 hin hz0 hz1 hz2 hzc (by decide) _ k _ rfl (hR.kB ((Below.refl _ _).alloc (Nat.le_refl _) _)).o _ 1 1 ([xn].map (Value.int .i32)) rfl rfl ((fixs_at wr [xn] 36 _ rfl).hc) (ints_one _ _) (by unfold maxLen; omega) (by omega) (by have := hR.b.size; simp; omega) ?_); intro v' w6 hown6 hgrow6 _ _; replace hR := hR.step ((Below.refl _ _).alloc (Nat.le_refl _) _) hown6 hgrow6 HJ1.out; clear hgrow6 hown6))
     have HR1 := Lib.hid hR
     clear hR
     go_roundw
     case rel => exact ⟨k + 1, by omega, by go_num, by rw [take_map _ v HX.out, List.map_append, HXS.out]; exact HR1.out, fun j a hj ha => by
      by_cases q : j = k
      ·subst q; rw [HX.out] at ha; cases ha; rfl
      ·exact HP.out j a (by omega) ha⟩
     case measure => simp [intOf]; omega
    ·have e2 : (xk != 1) = true := by simpa using e1
     have hb3 : Below w.heap.size w wr := bstep HB1.out hR.b
     have hj3 := hR.j
     clear hR
     go_wp2_with (go_at_call 10; refine (lives_any wr hj3).mono ?_; rintro e w2 ⟨rfl, hB2⟩)
     go_ret
     exact ⟨rfl, bstep hb3 hB2⟩
   ·obtain rfl : vl = k := by omega
    rw [List.take_of_length_le (by have := HVL.out; omega)] at hR
    have hreal : ∀ a ∈ v, a.k = 1 /\ a.kn = false := fun a ha => by
     obtain ⟨j, hjl, hja⟩ := List.mem_iff_getElem.1 ha
     have h1 := HP.out j a (by have := HVL.out; omega) (by rw [List.getElem?_eq_getElem hjl, hja])
     refine ⟨h1, ?_⟩
     cases hq : a.kn with
     | false => rfl
     | true => have := (HAV.out a ha).kn hq; omega
    have hlaw := both_law (N := NN) (d := d) HE1.out hreal (by have h1 := HA.out.m; have h2 := HA.out.md; omega) (by have := HVL.out; omega)
    rw [<- HA.out.m] at hlaw
    have HLAW := Lib.hid hlaw
    have HA3 := Lib.hid (HA1.out.on hR.b)
    have hb3 := Lib.hid (show Below w.heap.size w wr from bstep HB1.out hR.b)
    have hmj : ∀ x ∈ v.map (·.n), J32 x := fun x hx => by
     obtain ⟨a, ha, rfl⟩ := List.mem_map.1 hx
     exact (HAV.out a ha).r
    obtain ⟨aa, ca, rfl, hlen, hff⟩ := hR.fixs
    have HFM := Lib.hid (And.intro hff hmj)
    have HLM := Lib.hid (show vl = (v.map (·.n)).length by rw [List.length_map]; exact HVL.out.symm)
    have hR2 := RW.nil wr 41 2 HA3.out.j
    have HS1 := Lib.hid (show (cfl c).length = m * 2 by rw [cfl_len, HA.out.m])
    clear hreal hlaw hmj hff hlen hR
    go_wp2_with (at_builtin; (refine wpList_append_src rfl _ _ 22 rfl wr.heap.size 41 i2 _ 2 8 Tryz.underlying22 hin2 hz02 hz12 hz22 hzc2 (by decide) _ 0 [] rfl hR2.o ad m cap (cfl c) rfl HS1.out (Cods.src (HA3.out.hc)) HNC.out (cfl_one _) (by unfold maxLen; omega) (by omega) (Nat.le_refl _) ?_); intro v2 w3 hown hgrow; replace hR2 := hR2.step (Below.refl _ _) hown hgrow HA3.out.j; clear hown hgrow)
    replace hR2 : RW wr w3 41 2 v2 (m + 0) (cfl (c ++ (d.take 0).map (goesN m))) := by simpa using hR2
    have HR2 := Lib.hid hR2
    clear hR2
    obtain ⟨Wm, hWm⟩ : ∃ V, V = wr := ⟨_, rfl⟩
    subst hWm
    go_loopw [12, 11] (fun i lv V => ∃ k : Nat, k <= md /\ i = .int .i64 k /\ RW Wm V 41 2 lv (m + k) (cfl (c ++ (d.take k).map (goesN m))) /\ CodOk (c ++ (d.take k).map (goesN m))) (fun i _ _ => md - (intOf i).toNat)
    case atStart => exact ⟨0, by omega, rfl, HR2.out, by simpa using HA3.out.ck⟩
    case round =>
     obtain ⟨k, hk, rfl, hR2, hck⟩ := hrel
     have HCK := Lib.hid hck
     clear hck
     by_cases hlt2 : k < md
     ·obtain ⟨x, hx⟩ : ∃ x, d[k]? = some x := ⟨_, List.getElem?_eq_getElem (by have := HA3.out.md; omega)⟩
      obtain ⟨b2, o2, rfl, hb2, q0, q1⟩ := cod_some (HA3.out.on hR2.b).hd hx
      obtain ⟨⟨y0, y1⟩, y2, y3⟩ := HA3.out.dk x (List.mem_of_getElem? hx)
      have HX := Lib.hid (both_next (c := c) (n := m) hx)
      obtain ⟨xo, xn⟩ := x
      simp only at q0 q1 y0 y1 y2 y3
      clear hx
      have hb9 : Below w.heap.size w wr := bstep hb3.out hR2.b
      have hj9 := hR2.j
      obtain ⟨ra, rc, rfl, _, _, _⟩ := row_shape hR2.o
      have hA9 : Below wr.heap.size wr (wr.alloc (.cells #[.int .u8 xo, .int .i32 xn] 41)) := (Below.refl _ _).alloc (Nat.le_refl _) _
      have hb8 := Lib.hid (bstep hb9 hA9)
      have hj8 := Lib.hid (Sx.J_kept hA9 hj9)
      clear hA9 hb9 hj9
      by_cases g3 : xo = 3 \/ xo = 4
      ·have hG := Lib.hid (goesN_is (k := m) (n := xn) g3)
       have hF : ((xo == 3) = true /\ True) \/ ((xo == 3) = false /\ (xo == 4) = true) := by
        rcases g3 with rfl | rfl
        ·exact .inl ⟨rfl, trivial⟩
        ·exact .inr ⟨rfl, rfl⟩
       clear g3
       by_cases g5 : xn < 0 \/ (md : Int) < xn
       ·clear hR2
        by_cases g6 : xn < 0
        ·have f1 : decide (xn < 0) = true := by simpa using g6
         rcases hF with ⟨f3, f4⟩ | ⟨f3, f4⟩
         all_goals
          go_wp2_with (go_at_call 10; refine (lives_any _ hj8.out).mono ?_; rintro e w2 ⟨rfl, hB2⟩)
          go_ret
          exact ⟨rfl, bstep hb8.out hB2⟩
        ·have f1 : decide (xn < 0) = false := by simpa using g6
         have f2 : decide (xn > (md : Int)) = true := by simp; omega
         rcases hF with ⟨f3, f4⟩ | ⟨f3, f4⟩
         all_goals
          go_wp2_with (go_at_call 10; refine (lives_any _ hj8.out).mono ?_; rintro e w2 ⟨rfl, hB2⟩)
          go_ret
          exact ⟨rfl, bstep hb8.out hB2⟩
       ·have f1 : decide (xn < 0) = false := by simp; omega
        have f2 : decide (xn > (md : Int)) = false := by simp; omega
        rcases hF with ⟨f3, f4⟩ | ⟨f3, f4⟩
        all_goals
         go_wp2_with (at_builtin; (refine wpList_append_own_at _ rfl _ _ 22 rfl Wm.heap.size 41 i2 _ 2 8 Tryz.underlying22 hin2 hz02 hz12 hz22 hzc2 (by decide) _ (m + k) _ rfl (hR2.kB (((Below.refl _ _).alloc (Nat.le_refl _) _).alloc (by simp) _)).o _ 1 1 (cfl [⟨xo, xn + m⟩]) rfl rfl ((cods_at _ [⟨xo, xn + m⟩] 41 _ (by simp)).hc) (cfl_one _) (by unfold maxLen; omega) (by omega) (by have := hR2.b.size; simp; omega) ?_); intro v' w6 hown6 hgrow6 _ _; replace hR2 := hR2.step (((Below.refl _ _).alloc (Nat.le_refl _) _).alloc (by simp) _) hown6 hgrow6 HA3.out.j; clear hgrow6 hown6)
         have HR3 := Lib.hid hR2
         clear hR2
         go_roundw
         case rel => exact ⟨k + 1, by omega, by go_num, by rw [HX.out, hG.out, cfl_app]; exact HR3.out, by rw [HX.out, hG.out]; exact codok_add HCK.out ⟨y0, y1⟩ ⟨by simp; omega, by simp; omega⟩⟩
         case measure => simp [intOf]; omega
      ·have h3 : ¬ xo = 3 := fun q => g3 (.inl q)
       have h4 : ¬ xo = 4 := fun q => g3 (.inr q)
       have hG := Lib.hid (goesN_not (k := m) (n := xn) h3 h4)
       have f3 : (xo == 3) = false := by simpa using h3
       have f4 : (xo == 4) = false := by simpa using h4
       clear h3 h4 g3
       go_wp2_with (at_builtin; (refine wpList_append_own_at _ rfl _ _ 22 rfl Wm.heap.size 41 i2 _ 2 8 Tryz.underlying22 hin2 hz02 hz12 hz22 hzc2 (by decide) _ (m + k) _ rfl (hR2.kB (((Below.refl _ _).alloc (Nat.le_refl _) _).alloc (by simp) _)).o _ 1 1 (cfl [⟨xo, xn⟩]) rfl rfl ((cods_at _ [⟨xo, xn⟩] 41 _ (by simp)).hc) (cfl_one _) (by unfold maxLen; omega) (by omega) (by have := hR2.b.size; simp; omega) ?_); intro v' w6 hown6 hgrow6 _ _; replace hR2 := hR2.step (((Below.refl _ _).alloc (Nat.le_refl _) _).alloc (by simp) _) hown6 hgrow6 HA3.out.j; clear hgrow6 hown6)
       have HR3 := Lib.hid hR2
       clear hR2
       go_roundw
       case rel => exact ⟨k + 1, by omega, by go_num, by rw [HX.out, hG.out, cfl_app]; exact HR3.out, by rw [HX.out, hG.out]; exact codok_add HCK.out ⟨y0, y1⟩ ⟨by assumption, by assumption⟩⟩
       case measure => simp [intOf]; omega
     ·obtain rfl : k = md := by omega
      rw [List.take_of_length_le (by have := HA3.out.md; omega)] at hR2
      have hck := HCK.out
      rw [List.take_of_length_le (by have := HA3.out.md; omega)] at hck
      obtain ⟨ra, rc, rfl, hlen, hcods⟩ := hR2.cods
      have hA4 := HA3.out.on hR2.b
      have HRD := Lib.hid (run_any d (v.map (·.n)) dd aa k dap vl ca wr hA4.md HLM.out (by have := HLM.out; omega) (by have := hA4.md; omega) hA4.hd hA4.dk (HFM.out.1.on hR2.b) HFM.out.2 hA4.j)
      have HRB := Lib.hid (fun (W : World) (hB : Below wr.heap.size wr W) => run_any (c ++ d.map (goesN m)) ins ra ai (m + k) rc mi cai W hlen hA4.mi (by have := hA4.mi; omega) (by rw [<- hlen]; omega) (hcods.on hB) hck (hA4.f.on hB) hA4.fj (Sx.J_kept hB hA4.j))
      have hj5 := hA4.j
      have hb5 : Below w.heap.size w wr := bstep hb3.out hR2.b
      clear hck hlen hcods hA4 hR2
      cases hr : runF NN d (v.map (·.n)) with
      | error er =>
       have HE2 := Lib.hid hr
       have HE3 := Lib.hid (HLAW.out.trans hr)
       clear hr
       have t1 : True := trivial
       go_wp2_with (first
        | (clear t1; go_at_call 12; refine HRD.out.mono ?_; rintro e w4 hP; obtain ⟨rfl, hB4⟩ := hP.2 _ HE2.out; clear hP)
        | (go_at_call 12; refine (HRB.out _ hB4).mono ?_; rintro e w5 hP; obtain ⟨rfl, hB5⟩ := hP.2 _ HE3.out; clear hP; have hb6 := bstep (bstep hb5 hB4) hB5; have hj6 := Sx.J_kept (bstep hB4 hB5) hj5)
        | (go_at_call 13; refine (samev_any [] [] none none 0 0 0 0 _ rfl rfl (.inl rfl) (.inl rfl) (by decide) (by decide)).mono ?_; rintro e w7 ⟨rfl, hB7⟩; rw [same_kn]; replace hb6 := bstep hb6 hB7; replace hj6 := Sx.J_kept hB7 hj6)
        | (go_at_call 10; refine (lives_any _ hj6).mono ?_; rintro e w8 ⟨rfl, hB8⟩))
       go_ret
       exact ⟨rfl, bstep hb6 hB8⟩
      | ok u =>
       have hu := (runF_all (N := NN) nn_ok (c := d) (fun x hx => (HA3.out.dk x hx).2) (ins := v.map (·.n)) HFM.out.2 (l := u) hr).2
       obtain ⟨ul, hul⟩ : ∃ n, u.length = n := ⟨_, rfl⟩
       rw [hul] at hu
       have HUL := Lib.hid hul
       have HE2 := Lib.hid hr
       have HE3 := Lib.hid (HLAW.out.trans hr)
       clear hr hul
       have t1 : True := trivial
       go_wp2_with (first
        | (clear t1; go_at_call 12; refine HRD.out.mono ?_; rintro e w4 hP; obtain ⟨⟨v4, rfl, hV4⟩, hB4⟩ := hP.1 _ HE2.out; obtain ⟨g4, c4, rfl, hu4⟩ := hV4.vals; rw [HUL.out]; clear hP hV4)
        | (go_at_call 12; refine (HRB.out _ hB4).mono ?_; rintro e w5 hP; obtain ⟨⟨v5, rfl, hV5⟩, hB5⟩ := hP.1 _ HE3.out; obtain ⟨g5, c5, rfl, hu5⟩ := hV5.vals; rw [HUL.out]; clear hP hV5; replace hu4 := hu4.on hB5; have hb6 := bstep (bstep hb5 hB4) hB5; have hj6 := Sx.J_kept (bstep hB4 hB5) hj5)
        | (go_at_call 13; refine (samev_any u u (some ⟨g4, 0, none⟩) (some ⟨g5, 0, none⟩) ul ul _ _ _ HUL.out.symm HUL.out.symm hu4 hu5 (by omega) (by omega)).mono ?_; rintro e w7 ⟨rfl, hB7⟩; rw [same_kn]; replace hb6 := bstep hb6 hB7; replace hj6 := Sx.J_kept hB7 hj6)
        | (go_at_call 10; refine (lives_any _ hj6).mono ?_; rintro e w8 ⟨rfl, hB8⟩))
       go_ret
       exact ⟨rfl, bstep hb6 hB8⟩
theorem walk_both : WalkT 5 [22, 22, 23] := by
 intro H enc W base b0 spare held args ds p hval hA hj
 obtain ⟨v, v', v'', d, d', d'', p1, p2, p3, rfl, _, _, ⟨f1, hd⟩, ⟨f2, hd'⟩, ⟨f3, hd''⟩⟩ := Go.ChangeShapes.trodAll_three hA
 obtain ⟨ad, m, cap, rfl, ec⟩ := arg_slice Tryz.underlying22 (hval 0 _ v rfl rfl)
 obtain ⟨dd, md, dap, rfl, ec'⟩ := arg_slice Tryz.underlying22 (hval 1 _ v' rfl rfl)
 obtain ⟨ai, mi, cai, rfl, ec''⟩ := arg_slice Tryz.underlying23 (hval 2 _ v'' rfl rfl)
 rw [ec] at hd
 rw [ec'] at hd'
 rw [ec''] at hd''
 obtain ⟨_, _, _, c, e1, hm, hc, hok, hn, _⟩ := cods_arg hd
 obtain ⟨_, _, _, c', e2, hm', hc', hok', _⟩ := cods_arg hd'
 obtain ⟨_, _, _, ins, e3, hmi, hf, hfj, _⟩ := fixs_arg hd''
 cases e1
 cases e2
 cases e3
 exact lboth_any c c' ins ad dd ai m cap md dap mi cai W ⟨hm, hm', hmi, hc, hok, hc', hok', hf, hfj, hj⟩ hn
end Go.Proofs.YtcjllibeaiofpaaGreatDoor
