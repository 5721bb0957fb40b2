/-
  Machines: Run, walked.
-/
import Derived.Test.YtcjllibeaiofpaaGreatDoorHh
set_option linter.all false
set_option maxRecDepth 100000
namespace Go.Proofs.YtcjllibeaiofpaaGreatDoor
open Go.RowKit Mach
structure RF (w V : World) (mb n : Nat) (lv : Value) (cs : List Cel) : Prop where
 b : Below w.heap.size w V
 m : MapO oRd V mb n opG
 o : V.ownsRow w.heap.size 72 3 lv cs.length (fl cs)
 ne : ∀ g, lv.ownBlock = some g -> g ≠ mb
 j : Sx.J V
theorem RF.kB {w V V' : World} {mb n : Nat} {lv : Value} {cs : List Cel} (h : RF w V mb n lv cs) (hB : Below V.heap.size V V') : RF w V' mb n lv cs :=
 ⟨bstep h.b hB, mapO_of h.m (hB.block mb (mapO_lt h.m)), row_keep h.o (fun g hg => hB.block g (own_lt h.o g hg).1), h.ne, Sx.J_kept hB h.j⟩
theorem rf_a {w W V : World} {mb n ins : Nat} (hb : Below w.heap.size w W) (hB : Below W.heap.size W V) (hM : MapO oRd V mb n opG) (hi : ins <= 2000) (hj : Sx.J w) :
  RF w (V.alloc (.cells (madeCells #[.int .u8 0, .int .i32 0, .bool false] (ins * 3)) 72)) mb n (.slice (some ⟨V.heap.size, 0, none⟩) 0 ins) [] := by
 have hb2 := bstep hb hB
 refine ⟨hb2.alloc hb2.size _, mapO_of hM ((World.grownBy_alloc V _ none).block mb (mapO_lt hM) (by simp)), ?_, fun g hg => ?_, Sx.J_kept (hb2.alloc hb2.size _) hj⟩
 ·exact World.ownsRow_made V _ ins hb2.size (by unfold maxLen; omega) (size_madeCells _ _)
 ·have := mapO_lt hM
  simp [Value.ownBlock] at hg
  omega
theorem rf_b {w W V : World} {mb n ins : Nat} (hb : Below w.heap.size w W) (hB : Below (W.alloc (.cells (madeCells #[.int .u8 0, .int .i32 0, .bool false] (ins * 3)) 72)).drew.heap.size (W.alloc (.cells (madeCells #[.int .u8 0, .int .i32 0, .bool false] (ins * 3)) 72)).drew V)
  (hM : MapO oRd V mb n opG) (hmb : (W.alloc (.cells (madeCells #[.int .u8 0, .int .i32 0, .bool false] (ins * 3)) 72)).drew.heap.size <= mb) (hi : ins <= 2000) (hj : Sx.J w) :
  RF w V mb n (.slice (some ⟨W.heap.size, 0, none⟩) 0 ins) [] := by
 have hb2 : Below w.heap.size w V := bstep ((hb.alloc hb.size _).drew) hB
 refine ⟨hb2, hM, ?_, fun g hg => ?_, Sx.J_kept hb2 hj⟩
 ·refine row_keep (World.ownsRow_made W _ ins hb.size (by unfold maxLen; omega) (size_madeCells _ _)) (fun g hg => hB.block g ?_)
  simp [Value.ownBlock] at hg
  simp; omega
 ·simp [Value.ownBlock] at hg
  simp at hmb
  omega
theorem rf_row {w V V' : World} {mb n k : Nat} {lv : Value} {cs : List Cel} (h : RF w V mb n lv cs) (hk : cs.length = k) (hB : Below V.heap.size V V') : V'.ownsRow w.heap.size 72 3 lv k (fl cs) := hk ▸ (h.kB hB).o
theorem rf_step {w V V1 V2 : World} {mb n k : Nat} {lv v2 : Value} {cs : List Cel} {a : Cel} (h : RF w V mb n lv cs) (hk : cs.length = k) (hB : Below V.heap.size V V1) (ho : V2.ownsRow w.heap.size 72 3 v2 (k + 1) (fl cs ++ fl [a])) (hg : V1.grownBy V2 lv.ownBlock) (hat : v2.ownBlock = lv.ownBlock \/ v2.ownBlock = some V1.heap.size) (hj : Sx.J w) : RF w V2 mb n v2 (cs ++ [a]) := by
 have hm := mapO_lt h.m
 have hs := hB.size
 have own : ∀ g, lv.ownBlock = some g -> w.heap.size <= g := fun g hg => (own_lt h.o g hg).2
 have bb : Below w.heap.size w V2 := ⟨hg.os.trans (hB.os.trans h.b.os), hg.tape.trans (hB.tape.trans h.b.tape), hg.output.trans (hB.output.trans h.b.output), by have := h.b.size; have := hg.size; omega,
  fun i hi => (hg.block i (by have := h.b.size; omega) (fun q => by have := own i q.symm; omega)).trans ((hB.block i (by have := h.b.size; omega)).trans (h.b.block i hi))⟩
 refine ⟨bb, mapO_of h.m ((hg.block mb (by omega) (fun q => h.ne mb q.symm rfl)).trans (hB.block mb hm)), ?_, fun g hg2 => ?_, Sx.J_kept bb hj⟩
 ·rw [List.length_append, List.length_singleton, hk, fl_app]; exact ho
 ·rcases hat with e | e
  ·exact h.ne g (by rw [<- e]; exact hg2)
  ·rw [e] at hg2; cases hg2; omega
structure RS (w V : World) (mb n : Nat) (lv : Value) (cs : List Cel) : Prop where
 b : Below w.heap.size w V
 m : MapO oRd V mb n opG
 s : StkAt w.heap.size V lv cs
 j : Sx.J V
 al : All cs
 l : cs.length <= 100
theorem rs_next {w V V' : World} {mb n : Nat} {lv lv' : Value} {cs cs' : List Cel} (h : RS w V mb n lv cs) (hB : Below V.heap.size V V') (hs : StkAt w.heap.size V' lv' cs') (ha : All cs') (hl : cs'.length <= 100) : RS w V' mb n lv' cs' :=
 ⟨bstep h.b hB, mapO_of h.m (hB.block mb (mapO_lt h.m)), hs, Sx.J_kept hB h.j, ha, hl⟩
theorem aft_len {c : Cod} {s s' : List Cel} (h : aft NN c s = .ok s') : s'.length <= 100 := by
 obtain ⟨_, _, _, _, _, _, h⟩ := aft_ok h
 exact h
theorem aft_unless {xn : Int} {s s' : List Cel} (h : aft NN ⟨4, xn⟩ s = .ok s') : 0 < s.length := by
 obtain ⟨m, cl, x, ho, ht, _⟩ := aft_ok h
 have : opTab 4 = some (1, 2) := by decide
 rw [this] at ho
 cases ho
 unfold takes at ht
 split at ht
 ·omega
 ·cases ht
theorem next3 (k tt : Nat) (cs : List Cel) : nextI k ⟨3, (tt : Int)⟩ cs = tt := by
 unfold nextI; rw [if_pos (.inl rfl)]; rfl
theorem next4 (k tt m : Nat) (cs : List Cel) (a : Cel) (hm : cs.length = m + 1) (ha : cs[m]? = some a) : nextI k ⟨4, (tt : Int)⟩ cs = if a.n = 0 then tt else k + 1 := by
 have hl : cs.getLast? = some a := by rw [List.getLast?_eq_getElem?, hm]; exact ha
 unfold nextI
 simp only [hl, Option.map_some, Option.some.injEq]
 by_cases h : a.n = 0
 ·rw [if_pos h, if_pos (by simp [h])]; rfl
 ·rw [if_neg h, if_neg (by simp [h])]
theorem next0 {op xn : Int} (k : Nat) (cs : List Cel) (h3 : ¬ op = 3) (h4 : ¬ op = 4) : nextI k ⟨op, xn⟩ cs = k + 1 := by
 unfold nextI
 rw [if_neg]
 rintro (q | ⟨q, _⟩)
 ·exact h3 q
 ·exact h4 q
set_option maxHeartbeats 8000000 in
theorem run_no (c : List Cod) (ins : List Int) (ad ai : Option Addr) (cap cai : Nat) (w : World) (hi : ins.length <= 2000) (hl : c.length <= 2000) (hc : Cods w.heap.size w ad c) (hok : CodOk c) (hj : Sx.J w) (er : Int) (he : typeW NN c ins.length = .error er) :
  Calls Tryz.prog 12 #[.slice ad c.length cap, .slice ai ins.length cai] w (RunP c ins w) := by
 have HC := Lib.hid hc
 have HOK := Lib.hid hok
 have HE := Lib.hid he
 have HR := Lib.hid (run_err.2 he)
 have hne : (er != 0) = true := by simpa using type_ne he
 clear hc hok he
 go_enter Tryz.func12, Tryz.ntmps12
 go_wp2_with (go_at_call 11; refine (type_any c ins.length ad cap _ hi hl HC.out HOK.out hj).mono ?_; rintro e w2 hP; obtain ⟨rfl, hB2⟩ := hP.2 _ HE.out)
 go_ret2
 exact runP_err HR.out hB2
set_option maxHeartbeats 8000000 in
theorem run_ok (c : List Cod) (ins : List Int) (ad ai : Option Addr) (cap cai : Nat) (w : World) (hi : ins.length <= 2000) (hl : c.length <= 2000) (hc : Cods w.heap.size w ad c) (hok : CodOk c) (hj : Sx.J w) (s vs : List Cel) (ht : typeW NN c ins.length = .ok s) (hr : runF NN c ins = .ok vs) (hf : Fixs w.heap.size w ai ins) (hfj : ∀ x ∈ ins, J32 x) :
  Calls Tryz.prog 12 #[.slice ad c.length cap, .slice ai ins.length cai] w (RunP c ins w) := by
 have h100 : ins.length <= 100 := (type_ok ht).1
 have HF := Lib.hid (type_ok ht).2.2.1
 have HC := Lib.hid hc
 have HOK := Lib.hid hok
 have HT := Lib.hid ht
 have HR := Lib.hid hr
 have HX := Lib.hid hf
 have HXJ := Lib.hid hfj
 have HS := Lib.hid (steps_run hr)
 obtain ⟨i0, hin, hz0, hz1, hz2⟩ := info_parts info72
 have hzc : (Value.agg #[.int .u8 0, .int .i32 0, .bool false]).cells.size = 3 := rfl
 have hmk : ∀ V : World, (Instr.makeSlice 66 (.int .i64 0) (.int .i64 (ins.length : Int))).run Tryz.prog V = .ok (.slice (some ⟨V.heap.size, 0, none⟩) 0 ins.length) (V.alloc (.cells (madeCells (Value.agg #[.int .u8 0, .int .i32 0, .bool false]).cells (ins.length * 3)) 72)) := by
  intro V
  have := run_make (P := Tryz.prog) V 66 72 i0 _ Tryz.underlying66 hin hz0 .i64 .i64 0 ins.length (Int.le_refl _) (by omega) (by rw [hz2]; omega) (by omega)
  rw [this, hz1]
  rfl
 clear hc hok ht hr hf hfj
 go_enter Tryz.func12, Tryz.ntmps12
 go_wp2_with (go_at_call 11; refine (type_any c ins.length ad cap _ hi hl HC.out HOK.out hj).mono ?_; rintro e w2 hP; obtain ⟨⟨v2, rfl, hK2⟩, hB2⟩ := hP.1 _ HT.out)
 go_region_held3 (fun _ => True) (trivial)
  (first
   | (go_at_call 23; refine (ops_any _).mono ?_; rintro e w3 ⟨mb, n, rfl, hM, hB3, hmb⟩))
 ·skip
  rename_i hhd
  clear hhd
  have hRF := rf_a (ins := ins.length) hB2.drew hB3 hM hi hj
  generalize w3.heap.size = g at hRF ⊢
  clear hM hB3 hmb hB2 hK2
  go_wp2
  go_loopw [34, 9] (fun i lv V => ∃ k : Nat, k <= ins.length /\ i = .int .i64 k /\ RF w V mb n lv ((ins.take k).map real)) (fun i _ _ => ins.length - (intOf i).toNat)
  case atStart => exact ⟨0, by omega, rfl, hRF⟩
  case round =>
   obtain ⟨k, hk, rfl, hR⟩ := hrel
   by_cases hlt : k < ins.length
   ·obtain ⟨x, hx⟩ : ∃ x, ins[k]? = some x := ⟨_, List.getElem?_eq_getElem hlt⟩
    obtain ⟨b, off, rfl, hbl, hcells⟩ : ∃ b off, ai = some ⟨b, off, none⟩ /\ b < w.heap.size /\ ∀ j x, ins[j]? = some x -> w.cell? ⟨b, off + j, none⟩ = some (.int .i32 x) := by
     rcases HX.out with e | h
     ·rw [e] at hx; simp at hx
     ·exact h
    have hbr : b < wr.heap.size := Nat.lt_of_lt_of_le hbl hR.b.size
    have c0 := (hR.b.cell (p := ⟨b, off + k, none⟩) hbl).trans (hcells k x hx)
    have hlk : ((ins.take k).map real).length = k := by simp; omega
    have hnx : (ins.take (k + 1)).map real = (ins.take k).map real ++ [real x] := by rw [List.take_succ, hx]; simp
    have HNX := Lib.hid hnx
    clear hnx hcells hx
    generalize (ins.take k).map real = cs at hR hlk HNX
    obtain ⟨la, lc, rfl, _, _, _⟩ := row_shape hR.o
    rw [hlk] at hR ⊢
    have HR1 := Lib.hid hR
    have HLK := Lib.hid hlk
    clear hR hlk
    go_wp2_with (first
     | (go_at_call 28; refine (real_any x _).mono ?_; rintro e w4 ⟨rfl, hB4⟩; unfold cv)
     | (at_builtin; go_loud (refine wpList_append_own_at _ rfl _ _ 66 rfl w.heap.size 72 i0 _ 3 12 Tryz.underlying66 hin hz0 hz1 hz2 hzc (by decide) _ k (fl cs) rfl (rf_row HR1.out HLK.out (hB4.alloc hB4.size _)) _ 1 1 (fl [real x]) rfl rfl ((cels_new w4 (real x) _).hc) (fl_one _) (by unfold maxLen; omega) (by omega) (by have := HR1.out.b.size; have := hB4.size; simp; omega) ?_); intro v' w6 hown6 hgrow6 hnil6 hat6; have hR6 := rf_step HR1.out HLK.out (hB4.alloc hB4.size _) hown6 hgrow6 hat6 hj; clear hnil6 hat6 hgrow6 hown6))
    go_roundw
    case rel => exact ⟨k + 1, by omega, by go_num, by rw [HNX.out]; exact hR6⟩
    case measure => simp [intOf]; omega
   ·obtain rfl : k = ins.length := by omega
    rw [List.take_length] at hR
    obtain ⟨la, lc, hlv, hst⟩ := stk_row hR.o rfl
    subst hlv
    have hRS : RS w wr mb n (.slice la (ins.map real).length lc) (ins.map real) := ⟨hR.b, hR.m, hst, hR.j, fun a ha => by
     obtain ⟨x, hx, rfl⟩ := List.mem_map.1 ha
     exact gd_real (HXJ.out x hx), by simp; exact h100⟩
    clear hR hst
    go_wp2
    go_loopw [12, 9] (fun i lv V => ∃ (k : Nat) (cs : List Cel), k <= c.length /\ i = .int .i64 k /\ RS w V mb n lv cs /\ Mach.Steps NN c k cs c.length vs) (fun i _ _ => c.length - (intOf i).toNat)
    case atStart => exact ⟨0, _, by omega, rfl, hRS, HS.out⟩
    case round =>
     clear hRS
     obtain ⟨k, cs, hk, rfl, hRS, hSt⟩ := hrel
     by_cases hlt : k < c.length
     ·obtain ⟨x, l', hx, haf, hS2⟩ := steps_next hSt hlt
      obtain ⟨⟨x0, x1⟩, xj⟩ := HOK.out x (List.mem_of_getElem? hx)
      obtain ⟨b, off, rfl, hbl, hcells⟩ : ∃ b off, ad = some ⟨b, off, none⟩ /\ b < w.heap.size /\ ∀ j x, c[j]? = some x -> w.cell? ⟨b, off + j * 2, none⟩ = some (.int .u8 x.op) /\ w.cell? ⟨b, off + j * 2 + 1, none⟩ = some (.int .i32 x.n) := by
       rcases HC.out with e | h
       ·rw [e] at hx; simp at hx
       ·exact h
      have hbr : b < wr.heap.size := Nat.lt_of_lt_of_le hbl hRS.b.size
      have c0 := (hRS.b.cell (p := ⟨b, off + k * 2, none⟩) hbl).trans (hcells k x hx).1
      have c1 := (hRS.b.cell (p := ⟨b, off + k * 2 + 1, none⟩) hbl).trans (hcells k x hx).2
      have hfa : formedAt c.length k x = true := by have := at_formed c 0 k HF.out hx; rwa [Nat.zero_add] at this
      obtain ⟨op, xn⟩ := x
      simp only at c0 c1 x0 x1 xj
      obtain ⟨t, cl, hop⟩ := formed_tab hfa
      simp only at hop
      have hB1 : Below wr.heap.size wr (wr.alloc (.cells #[.int .u8 op, .int .i32 xn] 41)) := (Below.refl _ _).alloc (Nat.le_refl _) _
      have lk := ((look_op (mapO_of hRS.m (hB1.block mb (mapO_lt hRS.m))) op x0 x1).1 t cl hop).2
      have dd1 : (wr.alloc (.cells #[.int .u8 op, .int .i32 xn] 41)).cell? ⟨wr.heap.size, 1, none⟩ = some (.int .i32 xn) := by simp [go_sem]
      have hJ1 := Sx.J_kept hB1 hRS.j
      obtain ⟨ax, cx, rfl, hsn, hsc⟩ := hRS.s
      have hS1 : StkAt w.heap.size (wr.alloc (.cells #[.int .u8 op, .int .i32 xn] 41)) (.slice ax cs.length cx) cs := StkAt.on ⟨ax, cx, rfl, hsn, hsc⟩ hB1.size (fun k _ hk => hB1.block k hk)
      obtain ⟨_, hn1, hc1⟩ := hS1.cels
      have h100s := hRS.l
      have hl7 := aft_len haf
      have hbw := hRS.b.size
      have hAl7 : All l' := aft_all nn_ok haf hRS.al xj
      have HAL := Lib.hid hRS.al
      have HAL7 := Lib.hid hAl7
      have HAF := Lib.hid haf
      have HFA := Lib.hid hfa
      have HOP := Lib.hid hop
      have HRS := Lib.hid hRS
      have HS2 := Lib.hid hS2
      clear hcells hx hfa hop hSt hRS hS2 hAl7 haf hS1 hsn hsc
      unfold J32 at xj
      obtain ⟨xj1, xj2⟩ := xj
      by_cases o3 : op = 3
      ·subst o3
       obtain ⟨tt, rfl, hkt, htl⟩ := formed_goes HFA.out (.inl rfl)
       go_wp2_with (go_at_call 29; refine (after_any 3 tt t cl HOP.out ax cs.length cx cs _ rfl hc1 hn1 HAL.out h100s hJ1).mono ?_; rintro e w7 hP; obtain ⟨v7, rfl, hr7, hB7⟩ := hP.1 _ HAF.out; obtain ⟨a7, c7, rfl, hS7⟩ := stk_row hr7 rfl; have hR7 := rs_next HRS.out (hB1.trans (hB7.mono hB1.size)) (hS7.lo (by simp; omega)) HAL7.out hl7; have d1 := (hB7.cell (p := ⟨wr.heap.size, 1, none⟩) (by simp)).trans dd1; clear hP hr7 hS7)
       go_roundw
       case rel => exact ⟨tt, l', htl, by go_num, hR7, by have := HS2.out; rw [next3] at this; exact this⟩
       case measure => simp [intOf]; omega
      have o3b : (op == 3) = false := by simpa using o3
      by_cases o4 : op = 4
      ·subst o4
       obtain ⟨tt, rfl, hkt, htl⟩ := formed_goes HFA.out (.inr rfl)
       obtain ⟨m, hm⟩ : ∃ m, cs.length = m + 1 := ⟨cs.length - 1, by have := aft_unless HAF.out; omega⟩
       obtain ⟨a, ha⟩ : ∃ a, cs[m]? = some a := ⟨_, List.getElem?_eq_getElem (by omega)⟩
       obtain ⟨sb, so, rfl, hsb⟩ := cels_some hc1 ha
       obtain ⟨p0, p1, p2⟩ := cel_at hc1 ha
       have HN := Lib.hid (next4 k tt m cs a hm ha)
       have HA := Lib.hid ha
       obtain ⟨ak, an, akn⟩ := a
       simp only at p0 p1 p2
       have hmz : (cs.length : Int) - 1 = m := by omega
       have hml : m < cs.length := by omega
       have HM := Lib.hid hm
       clear ha hm
       by_cases h0 : an = 0
       ·subst h0
        go_wp2_with (go_at_call 29; refine (after_any 4 tt t cl HOP.out (some ⟨sb, so, none⟩) cs.length cx cs _ rfl hc1 hn1 HAL.out h100s hJ1).mono ?_; rintro e w7 hP; obtain ⟨v7, rfl, hr7, hB7⟩ := hP.1 _ HAF.out; obtain ⟨a7, c7, rfl, hS7⟩ := stk_row hr7 rfl; have hR7 := rs_next HRS.out (hB1.trans (hB7.mono hB1.size)) (hS7.lo (by simp; omega)) HAL7.out hl7; have d1 := (hB7.cell (p := ⟨wr.heap.size, 1, none⟩) (by simp)).trans dd1; clear hP hr7 hS7)
        go_roundw
        case rel => exact ⟨tt, l', htl, by go_num, hR7, by simpa [HN.out] using HS2.out⟩
        case measure => simp [intOf]; omega
       ·have h0b : (an == 0) = false := by simpa using h0
        go_wp2_with (go_at_call 29; refine (after_any 4 tt t cl HOP.out (some ⟨sb, so, none⟩) cs.length cx cs _ rfl hc1 hn1 HAL.out h100s hJ1).mono ?_; rintro e w7 hP; obtain ⟨v7, rfl, hr7, hB7⟩ := hP.1 _ HAF.out; obtain ⟨a7, c7, rfl, hS7⟩ := stk_row hr7 rfl; have hR7 := rs_next HRS.out (hB1.trans (hB7.mono hB1.size)) (hS7.lo (by simp; omega)) HAL7.out hl7; have d1 := (hB7.cell (p := ⟨wr.heap.size, 1, none⟩) (by simp)).trans dd1; clear hP hr7 hS7)
        go_roundw
        case rel => exact ⟨k + 1, l', by omega, by go_num, hR7, by have := HS2.out; rw [HN.out, if_neg h0] at this; exact this⟩
        case measure => simp [intOf]; omega
      have o4b : (op == 4) = false := by simpa using o4
      go_wp2_with (go_at_call 29; refine (after_any op xn t cl HOP.out ax cs.length cx cs _ rfl hc1 hn1 HAL.out h100s hJ1).mono ?_; rintro e w7 hP; obtain ⟨v7, rfl, hr7, hB7⟩ := hP.1 _ HAF.out; obtain ⟨a7, c7, rfl, hS7⟩ := stk_row hr7 rfl; have hR7 := rs_next HRS.out (hB1.trans (hB7.mono hB1.size)) (hS7.lo (by simp; omega)) HAL7.out hl7; have d1 := (hB7.cell (p := ⟨wr.heap.size, 1, none⟩) (by simp)).trans dd1; clear hP hr7 hS7)
      go_roundw
      case rel => exact ⟨k + 1, l', by omega, by go_num, hR7, by have := HS2.out; rw [next0 k cs o3 o4] at this; exact this⟩
      case measure => simp [intOf]; omega
     ·obtain rfl : k = c.length := by omega
      obtain rfl := steps_end hSt
      obtain ⟨a9, c9, rfl, hsn, hsc⟩ := hRS.s
      have hS9 : StkAt w.heap.size wr (.slice a9 cs.length c9) cs := ⟨a9, c9, rfl, hsn, hsc⟩
      have hl9 := hRS.l
      obtain ⟨iv, hvin, hvz0, hvz1, hvz2⟩ := info_parts infoVal
      have hmk2 : ∀ V : World, (Instr.makeSlice 29 (.int .i64 (cs.length : Int)) (.int .i64 (cs.length : Int))).run Tryz.prog V = .ok (.slice (some ⟨V.heap.size, 0, none⟩) cs.length cs.length) (V.alloc (.cells (madeCells (Value.agg #[.int .u8 0, .int .i32 0]).cells (cs.length * 2)) 34)) := by
       intro V
       have := run_make (P := Tryz.prog) V 29 34 iv _ Tryz.underlying29 hvin hvz0 .i64 .i64 cs.length cs.length (by omega) (Int.le_refl _) (by rw [hvz2]; omega) (by omega)
       rw [this, hvz1]
       rfl
      have hO := out_new (vs := cs) hRS.b 34
      have HS9 := Lib.hid hS9
      have hnew := hRS.b.size
      have hBn : Below wr.heap.size wr (wr.alloc (.cells (madeCells (Value.agg #[.int .u8 0, .int .i32 0]).cells (cs.length * 2)) 34)) := (Below.refl _ _).alloc (Nat.le_refl _) _
      have HB9 := Lib.hid hBn
      have HO := Lib.hid hO
      clear hRS hS9 hsn hsc hO hBn
      go_wp2
      obtain ⟨Vs, hVs⟩ : ∃ V, V = wr := ⟨_, rfl⟩
      subst hVs
      generalize hgv : Vs.heap.size = gv at HO hnew ⊢
      clear hRF
      go_loopw [89] (fun i V => ∃ k : Nat, k <= cs.length /\ i = .int .i64 k /\ OutAt w V gv cs k /\ Below Vs.heap.size Vs V) (fun i _ => cs.length - (intOf i).toNat)
      case atStart => exact ⟨0, by omega, rfl, HO.out, HB9.out⟩
      case round =>
       obtain ⟨k, hk, rfl, hOk, hBk⟩ := hrel
       by_cases hlt : k < cs.length
       ·obtain ⟨a, ha⟩ : ∃ x, cs[k]? = some x := ⟨_, List.getElem?_eq_getElem hlt⟩
        obtain ⟨_, _, hC⟩ := HS9.out.cels
        obtain ⟨sb, so, rfl, hsb⟩ := cels_some hC ha
        obtain ⟨p0, p1, p2⟩ := cel_at (hC.on hBk) ha
        have hsr : sb < wr.heap.size := Nat.lt_of_lt_of_le hsb hBk.size
        have hgr := hOk.l
        have s0 := hOk.s (k * 2) (by omega)
        have s1 := hOk.s (k * 2 + 1) (by omega)
        have f0 := hOk.f (k * 2)
        have f1 := hOk.f (k * 2 + 1)
        have HOK2 := Lib.hid hOk
        have HA := Lib.hid ha
        obtain ⟨u0, hu0⟩ := Option.isSome_iff_exists.1 s0
        obtain ⟨u1, hu1⟩ := Option.isSome_iff_exists.1 s1
        have hgv2 : Vs.heap.size <= gv := by omega
        obtain ⟨ak, an, akn⟩ := a
        simp only at p0 p1 p2
        clear hOk ha hC s0 s1
        have hOn := Lib.hid ((out_set (a := ⟨ak, an, akn⟩) HOK2.out HA.out).kB ((Below.refl _ _).alloc (Nat.le_refl _) (.cells #[.int .u8 ak, .int .i32 an, .bool akn] 72)))
        have hBn := Lib.hid ((((hBk.setCell (p := ⟨gv, k * 2, none⟩) hgv2 (.int .u8 ak)).setCell (p := ⟨gv, k * 2 + 1, none⟩) hgv2 (.int .i32 an))).alloc (by have := hBk.size; simp; omega) (.cells #[.int .u8 ak, .int .i32 an, .bool akn] 72))
        go_wp2
        go_roundw
        case rel => exact ⟨k + 1, by omega, by go_num, hOn.out, hBn.out⟩
        case measure => simp [intOf]; omega
       ·obtain rfl : k = cs.length := by omega
        go_wp2
        go_ret2
        exact runP_ok HR.out ⟨gv, cs.length, rfl, Nat.le_refl _, hOk.gb, hOk.l, fun j a ha => hOk.c j a (List.getElem?_eq_some_iff.1 ha).1 ha⟩ hOk.b
 ·skip
  rename_i hhd
  clear hhd
  have hRF := rf_b (ins := ins.length) hB2 hB3 hM hmb hi hj
  generalize w2.heap.size = g at hRF ⊢
  clear hM hB3 hmb hB2 hK2
  go_wp2
  go_loopw [34, 9] (fun i lv V => ∃ k : Nat, k <= ins.length /\ i = .int .i64 k /\ RF w V mb n lv ((ins.take k).map real)) (fun i _ _ => ins.length - (intOf i).toNat)
  case atStart => exact ⟨0, by omega, rfl, hRF⟩
  case round =>
   obtain ⟨k, hk, rfl, hR⟩ := hrel
   by_cases hlt : k < ins.length
   ·obtain ⟨x, hx⟩ : ∃ x, ins[k]? = some x := ⟨_, List.getElem?_eq_getElem hlt⟩
    obtain ⟨b, off, rfl, hbl, hcells⟩ : ∃ b off, ai = some ⟨b, off, none⟩ /\ b < w.heap.size /\ ∀ j x, ins[j]? = some x -> w.cell? ⟨b, off + j, none⟩ = some (.int .i32 x) := by
     rcases HX.out with e | h
     ·rw [e] at hx; simp at hx
     ·exact h
    have hbr : b < wr.heap.size := Nat.lt_of_lt_of_le hbl hR.b.size
    have c0 := (hR.b.cell (p := ⟨b, off + k, none⟩) hbl).trans (hcells k x hx)
    have hlk : ((ins.take k).map real).length = k := by simp; omega
    have hnx : (ins.take (k + 1)).map real = (ins.take k).map real ++ [real x] := by rw [List.take_succ, hx]; simp
    have HNX := Lib.hid hnx
    clear hnx hcells hx
    generalize (ins.take k).map real = cs at hR hlk HNX
    obtain ⟨la, lc, rfl, _, _, _⟩ := row_shape hR.o
    rw [hlk] at hR ⊢
    have HR1 := Lib.hid hR
    have HLK := Lib.hid hlk
    clear hR hlk
    go_wp2_with (first
     | (go_at_call 28; refine (real_any x _).mono ?_; rintro e w4 ⟨rfl, hB4⟩; unfold cv)
     | (at_builtin; go_loud (refine wpList_append_own_at _ rfl _ _ 66 rfl w.heap.size 72 i0 _ 3 12 Tryz.underlying66 hin hz0 hz1 hz2 hzc (by decide) _ k (fl cs) rfl (rf_row HR1.out HLK.out (hB4.alloc hB4.size _)) _ 1 1 (fl [real x]) rfl rfl ((cels_new w4 (real x) _).hc) (fl_one _) (by unfold maxLen; omega) (by omega) (by have := HR1.out.b.size; have := hB4.size; simp; omega) ?_); intro v' w6 hown6 hgrow6 hnil6 hat6; have hR6 := rf_step HR1.out HLK.out (hB4.alloc hB4.size _) hown6 hgrow6 hat6 hj; clear hnil6 hat6 hgrow6 hown6))
    go_roundw
    case rel => exact ⟨k + 1, by omega, by go_num, by rw [HNX.out]; exact hR6⟩
    case measure => simp [intOf]; omega
   ·obtain rfl : k = ins.length := by omega
    rw [List.take_length] at hR
    obtain ⟨la, lc, hlv, hst⟩ := stk_row hR.o rfl
    subst hlv
    have hRS : RS w wr mb n (.slice la (ins.map real).length lc) (ins.map real) := ⟨hR.b, hR.m, hst, hR.j, fun a ha => by
     obtain ⟨x, hx, rfl⟩ := List.mem_map.1 ha
     exact gd_real (HXJ.out x hx), by simp; exact h100⟩
    clear hR hst
    go_wp2
    go_loopw [12, 9] (fun i lv V => ∃ (k : Nat) (cs : List Cel), k <= c.length /\ i = .int .i64 k /\ RS w V mb n lv cs /\ Mach.Steps NN c k cs c.length vs) (fun i _ _ => c.length - (intOf i).toNat)
    case atStart => exact ⟨0, _, by omega, rfl, hRS, HS.out⟩
    case round =>
     clear hRS
     obtain ⟨k, cs, hk, rfl, hRS, hSt⟩ := hrel
     by_cases hlt : k < c.length
     ·obtain ⟨x, l', hx, haf, hS2⟩ := steps_next hSt hlt
      obtain ⟨⟨x0, x1⟩, xj⟩ := HOK.out x (List.mem_of_getElem? hx)
      obtain ⟨b, off, rfl, hbl, hcells⟩ : ∃ b off, ad = some ⟨b, off, none⟩ /\ b < w.heap.size /\ ∀ j x, c[j]? = some x -> w.cell? ⟨b, off + j * 2, none⟩ = some (.int .u8 x.op) /\ w.cell? ⟨b, off + j * 2 + 1, none⟩ = some (.int .i32 x.n) := by
       rcases HC.out with e | h
       ·rw [e] at hx; simp at hx
       ·exact h
      have hbr : b < wr.heap.size := Nat.lt_of_lt_of_le hbl hRS.b.size
      have c0 := (hRS.b.cell (p := ⟨b, off + k * 2, none⟩) hbl).trans (hcells k x hx).1
      have c1 := (hRS.b.cell (p := ⟨b, off + k * 2 + 1, none⟩) hbl).trans (hcells k x hx).2
      have hfa : formedAt c.length k x = true := by have := at_formed c 0 k HF.out hx; rwa [Nat.zero_add] at this
      obtain ⟨op, xn⟩ := x
      simp only at c0 c1 x0 x1 xj
      obtain ⟨t, cl, hop⟩ := formed_tab hfa
      simp only at hop
      have hB1 : Below wr.heap.size wr (wr.alloc (.cells #[.int .u8 op, .int .i32 xn] 41)) := (Below.refl _ _).alloc (Nat.le_refl _) _
      have lk := ((look_op (mapO_of hRS.m (hB1.block mb (mapO_lt hRS.m))) op x0 x1).1 t cl hop).2
      have dd1 : (wr.alloc (.cells #[.int .u8 op, .int .i32 xn] 41)).cell? ⟨wr.heap.size, 1, none⟩ = some (.int .i32 xn) := by simp [go_sem]
      have hJ1 := Sx.J_kept hB1 hRS.j
      obtain ⟨ax, cx, rfl, hsn, hsc⟩ := hRS.s
      have hS1 : StkAt w.heap.size (wr.alloc (.cells #[.int .u8 op, .int .i32 xn] 41)) (.slice ax cs.length cx) cs := StkAt.on ⟨ax, cx, rfl, hsn, hsc⟩ hB1.size (fun k _ hk => hB1.block k hk)
      obtain ⟨_, hn1, hc1⟩ := hS1.cels
      have h100s := hRS.l
      have hl7 := aft_len haf
      have hbw := hRS.b.size
      have hAl7 : All l' := aft_all nn_ok haf hRS.al xj
      have HAL := Lib.hid hRS.al
      have HAL7 := Lib.hid hAl7
      have HAF := Lib.hid haf
      have HFA := Lib.hid hfa
      have HOP := Lib.hid hop
      have HRS := Lib.hid hRS
      have HS2 := Lib.hid hS2
      clear hcells hx hfa hop hSt hRS hS2 hAl7 haf hS1 hsn hsc
      unfold J32 at xj
      obtain ⟨xj1, xj2⟩ := xj
      by_cases o3 : op = 3
      ·subst o3
       obtain ⟨tt, rfl, hkt, htl⟩ := formed_goes HFA.out (.inl rfl)
       go_wp2_with (go_at_call 29; refine (after_any 3 tt t cl HOP.out ax cs.length cx cs _ rfl hc1 hn1 HAL.out h100s hJ1).mono ?_; rintro e w7 hP; obtain ⟨v7, rfl, hr7, hB7⟩ := hP.1 _ HAF.out; obtain ⟨a7, c7, rfl, hS7⟩ := stk_row hr7 rfl; have hR7 := rs_next HRS.out (hB1.trans (hB7.mono hB1.size)) (hS7.lo (by simp; omega)) HAL7.out hl7; have d1 := (hB7.cell (p := ⟨wr.heap.size, 1, none⟩) (by simp)).trans dd1; clear hP hr7 hS7)
       go_roundw
       case rel => exact ⟨tt, l', htl, by go_num, hR7, by have := HS2.out; rw [next3] at this; exact this⟩
       case measure => simp [intOf]; omega
      have o3b : (op == 3) = false := by simpa using o3
      by_cases o4 : op = 4
      ·subst o4
       obtain ⟨tt, rfl, hkt, htl⟩ := formed_goes HFA.out (.inr rfl)
       obtain ⟨m, hm⟩ : ∃ m, cs.length = m + 1 := ⟨cs.length - 1, by have := aft_unless HAF.out; omega⟩
       obtain ⟨a, ha⟩ : ∃ a, cs[m]? = some a := ⟨_, List.getElem?_eq_getElem (by omega)⟩
       obtain ⟨sb, so, rfl, hsb⟩ := cels_some hc1 ha
       obtain ⟨p0, p1, p2⟩ := cel_at hc1 ha
       have HN := Lib.hid (next4 k tt m cs a hm ha)
       have HA := Lib.hid ha
       obtain ⟨ak, an, akn⟩ := a
       simp only at p0 p1 p2
       have hmz : (cs.length : Int) - 1 = m := by omega
       have hml : m < cs.length := by omega
       have HM := Lib.hid hm
       clear ha hm
       by_cases h0 : an = 0
       ·subst h0
        go_wp2_with (go_at_call 29; refine (after_any 4 tt t cl HOP.out (some ⟨sb, so, none⟩) cs.length cx cs _ rfl hc1 hn1 HAL.out h100s hJ1).mono ?_; rintro e w7 hP; obtain ⟨v7, rfl, hr7, hB7⟩ := hP.1 _ HAF.out; obtain ⟨a7, c7, rfl, hS7⟩ := stk_row hr7 rfl; have hR7 := rs_next HRS.out (hB1.trans (hB7.mono hB1.size)) (hS7.lo (by simp; omega)) HAL7.out hl7; have d1 := (hB7.cell (p := ⟨wr.heap.size, 1, none⟩) (by simp)).trans dd1; clear hP hr7 hS7)
        go_roundw
        case rel => exact ⟨tt, l', htl, by go_num, hR7, by simpa [HN.out] using HS2.out⟩
        case measure => simp [intOf]; omega
       ·have h0b : (an == 0) = false := by simpa using h0
        go_wp2_with (go_at_call 29; refine (after_any 4 tt t cl HOP.out (some ⟨sb, so, none⟩) cs.length cx cs _ rfl hc1 hn1 HAL.out h100s hJ1).mono ?_; rintro e w7 hP; obtain ⟨v7, rfl, hr7, hB7⟩ := hP.1 _ HAF.out; obtain ⟨a7, c7, rfl, hS7⟩ := stk_row hr7 rfl; have hR7 := rs_next HRS.out (hB1.trans (hB7.mono hB1.size)) (hS7.lo (by simp; omega)) HAL7.out hl7; have d1 := (hB7.cell (p := ⟨wr.heap.size, 1, none⟩) (by simp)).trans dd1; clear hP hr7 hS7)
        go_roundw
        case rel => exact ⟨k + 1, l', by omega, by go_num, hR7, by have := HS2.out; rw [HN.out, if_neg h0] at this; exact this⟩
        case measure => simp [intOf]; omega
      have o4b : (op == 4) = false := by simpa using o4
      go_wp2_with (go_at_call 29; refine (after_any op xn t cl HOP.out ax cs.length cx cs _ rfl hc1 hn1 HAL.out h100s hJ1).mono ?_; rintro e w7 hP; obtain ⟨v7, rfl, hr7, hB7⟩ := hP.1 _ HAF.out; obtain ⟨a7, c7, rfl, hS7⟩ := stk_row hr7 rfl; have hR7 := rs_next HRS.out (hB1.trans (hB7.mono hB1.size)) (hS7.lo (by simp; omega)) HAL7.out hl7; have d1 := (hB7.cell (p := ⟨wr.heap.size, 1, none⟩) (by simp)).trans dd1; clear hP hr7 hS7)
      go_roundw
      case rel => exact ⟨k + 1, l', by omega, by go_num, hR7, by have := HS2.out; rw [next0 k cs o3 o4] at this; exact this⟩
      case measure => simp [intOf]; omega
     ·obtain rfl : k = c.length := by omega
      obtain rfl := steps_end hSt
      obtain ⟨a9, c9, rfl, hsn, hsc⟩ := hRS.s
      have hS9 : StkAt w.heap.size wr (.slice a9 cs.length c9) cs := ⟨a9, c9, rfl, hsn, hsc⟩
      have hl9 := hRS.l
      obtain ⟨iv, hvin, hvz0, hvz1, hvz2⟩ := info_parts infoVal
      have hmk2 : ∀ V : World, (Instr.makeSlice 29 (.int .i64 (cs.length : Int)) (.int .i64 (cs.length : Int))).run Tryz.prog V = .ok (.slice (some ⟨V.heap.size, 0, none⟩) cs.length cs.length) (V.alloc (.cells (madeCells (Value.agg #[.int .u8 0, .int .i32 0]).cells (cs.length * 2)) 34)) := by
       intro V
       have := run_make (P := Tryz.prog) V 29 34 iv _ Tryz.underlying29 hvin hvz0 .i64 .i64 cs.length cs.length (by omega) (Int.le_refl _) (by rw [hvz2]; omega) (by omega)
       rw [this, hvz1]
       rfl
      have hO := out_new (vs := cs) hRS.b 34
      have HS9 := Lib.hid hS9
      have hnew := hRS.b.size
      have hBn : Below wr.heap.size wr (wr.alloc (.cells (madeCells (Value.agg #[.int .u8 0, .int .i32 0]).cells (cs.length * 2)) 34)) := (Below.refl _ _).alloc (Nat.le_refl _) _
      have HB9 := Lib.hid hBn
      have HO := Lib.hid hO
      clear hRS hS9 hsn hsc hO hBn
      go_wp2
      obtain ⟨Vs, hVs⟩ : ∃ V, V = wr := ⟨_, rfl⟩
      subst hVs
      generalize hgv : Vs.heap.size = gv at HO hnew ⊢
      clear hRF
      go_loopw [89] (fun i V => ∃ k : Nat, k <= cs.length /\ i = .int .i64 k /\ OutAt w V gv cs k /\ Below Vs.heap.size Vs V) (fun i _ => cs.length - (intOf i).toNat)
      case atStart => exact ⟨0, by omega, rfl, HO.out, HB9.out⟩
      case round =>
       obtain ⟨k, hk, rfl, hOk, hBk⟩ := hrel
       by_cases hlt : k < cs.length
       ·obtain ⟨a, ha⟩ : ∃ x, cs[k]? = some x := ⟨_, List.getElem?_eq_getElem hlt⟩
        obtain ⟨_, _, hC⟩ := HS9.out.cels
        obtain ⟨sb, so, rfl, hsb⟩ := cels_some hC ha
        obtain ⟨p0, p1, p2⟩ := cel_at (hC.on hBk) ha
        have hsr : sb < wr.heap.size := Nat.lt_of_lt_of_le hsb hBk.size
        have hgr := hOk.l
        have s0 := hOk.s (k * 2) (by omega)
        have s1 := hOk.s (k * 2 + 1) (by omega)
        have f0 := hOk.f (k * 2)
        have f1 := hOk.f (k * 2 + 1)
        have HOK2 := Lib.hid hOk
        have HA := Lib.hid ha
        obtain ⟨u0, hu0⟩ := Option.isSome_iff_exists.1 s0
        obtain ⟨u1, hu1⟩ := Option.isSome_iff_exists.1 s1
        have hgv2 : Vs.heap.size <= gv := by omega
        obtain ⟨ak, an, akn⟩ := a
        simp only at p0 p1 p2
        clear hOk ha hC s0 s1
        have hOn := Lib.hid ((out_set (a := ⟨ak, an, akn⟩) HOK2.out HA.out).kB ((Below.refl _ _).alloc (Nat.le_refl _) (.cells #[.int .u8 ak, .int .i32 an, .bool akn] 72)))
        have hBn := Lib.hid ((((hBk.setCell (p := ⟨gv, k * 2, none⟩) hgv2 (.int .u8 ak)).setCell (p := ⟨gv, k * 2 + 1, none⟩) hgv2 (.int .i32 an))).alloc (by have := hBk.size; simp; omega) (.cells #[.int .u8 ak, .int .i32 an, .bool akn] 72))
        go_wp2
        go_roundw
        case rel => exact ⟨k + 1, by omega, by go_num, hOn.out, hBn.out⟩
        case measure => simp [intOf]; omega
       ·obtain rfl : k = cs.length := by omega
        go_wp2
        go_ret2
        exact runP_ok HR.out ⟨gv, cs.length, rfl, Nat.le_refl _, hOk.gb, hOk.l, fun j a ha => hOk.c j a (List.getElem?_eq_some_iff.1 ha).1 ha⟩ hOk.b
theorem run_any (c : List Cod) (ins : List Int) (ad ai : Option Addr) (m cap mi cai : Nat) (w : World) (hm : m = c.length) (hmi : mi = ins.length) (hi : ins.length <= 2000) (hl : c.length <= 2000) (hc : Cods w.heap.size w ad c) (hok : CodOk c) (hf : Fixs w.heap.size w ai ins) (hfj : ∀ x ∈ ins, J32 x) (hj : Sx.J w) :
  Calls Tryz.prog 12 #[.slice ad m cap, .slice ai mi cai] w (RunP c ins w) := by
 subst hm hmi
 match ht : typeW NN c ins.length with
 | .error er => exact run_no c ins ad ai cap cai w hi hl hc hok hj er ht
 | .ok s =>
  obtain ⟨vs, hr, _⟩ := sound ht
  exact run_ok c ins ad ai cap cai w hi hl hc hok hj s vs ht hr hf hfj
end Go.Proofs.YtcjllibeaiofpaaGreatDoor
