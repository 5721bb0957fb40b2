/-
  Machines: MachinesUnless, walked.
-/
import Derived.Test.YtcjllibeaiofpaaGreatDoorHv
set_option linter.all false
set_option maxRecDepth 100000
namespace Go.Proofs.YtcjllibeaiofpaaGreatDoor
open Go.RowKit Mach
set_option maxHeartbeats 4000000 in
theorem lknds_any (xs : List Cel) (a : Option Addr) (m c : Nat) (w : World) (h : m = xs.length) (hx : Vals w.heap.size w a xs) (hl : m <= 2000) (hj : Sx.J w) :
  Calls Tryz.prog 17 #[.slice a m c] w fun e w' => (∃ ad cp, e = .returned (.slice ad m cp) /\ Knds w'.heap.size w' ad (xs.map (·.k))) /\ Below w.heap.size w w' := by
 have H := Lib.hid h
 have HX := Lib.hid hx
 have HJ := Lib.hid hj
 have hR := Lib.hid (RW.nil w 32 1 hj)
 obtain ⟨i0, hin, hz0, hz1, hz2⟩ := info_parts info_knd
 have hzc : (Value.int .u8 0).cells.size = 1 := rfl
 clear h hx hj
 go_enter Tryz.func17, Tryz.ntmps17
 go_wp2
 go_loopw [4, 3] (fun i lv V => ∃ k : Nat, k <= m /\ i = .int .i64 k /\ RW w V 32 1 lv k (((xs.take k).map (·.k)).map (Value.int .u8))) (fun i _ _ => m - (intOf i).toNat)
 case atStart => exact ⟨0, by omega, rfl, hR.out⟩
 case round =>
  obtain ⟨k, hk, rfl, hR⟩ := hrel
  by_cases hlt : k < m
  ·obtain ⟨x, hx⟩ : ∃ x, xs[k]? = some x := ⟨_, List.getElem?_eq_getElem (by have := H.out; omega)⟩
   obtain ⟨b1, o1, rfl, hb1, p0, p1⟩ := vals_some (HX.out.on hR.b) hx
   have HK := Lib.hid hx
   clear hx
   obtain ⟨xk, xn, xkn⟩ := x
   simp only at p0 p1
   generalize hxs : (((xs.take k).map (·.k)).map (Value.int .u8)) = ys at hR
   have HXS := Lib.hid hxs
   clear hxs
   obtain ⟨la, lc, rfl, _, _, _⟩ := row_shape hR.o
   go_wp2_with (at_builtin; (refine wpList_append_own_at _ rfl _ _ 25 rfl w.heap.size 32 i0 _ 1 1 Tryz.underlying25 hin hz0 hz1 hz2 hzc (by decide) _ k _ rfl (hR.kB ((Below.refl _ _).alloc (Nat.le_refl _) _)).o _ 1 1 [.int .u8 xk] rfl rfl (cell_one_new _ _ _) (ints_one .u8 [xk]) (by unfold maxLen; omega) (by omega) (by have := hR.b.size; simp; omega) ?_); intro v' w6 hown6 hgrow6 _ _; replace hR := hR.step ((Below.refl _ _).alloc (Nat.le_refl _) _) hown6 hgrow6 HJ.out; clear hgrow6 hown6)
   have HR1 := Lib.hid hR
   clear hR
   go_roundw
   case rel => exact ⟨k + 1, by omega, by go_num, by rw [take_map _ xs HK.out, List.map_append, HXS.out]; exact HR1.out⟩
   case measure => simp [intOf]; omega
  ·obtain rfl : m = k := by omega
   rw [List.take_of_length_le (by have := H.out; omega)] at hR
   obtain ⟨ra, rc, rfl, hlen, hkn⟩ := hR.knds
   have hb := hR.b
   go_wp2
   go_ret
   exact ⟨⟨ra, rc, rfl, hkn⟩, hb⟩
theorem ks_ext {xs ys : List Int} {k : Nat} {x y : Int} (h : ∀ j a b, j < k -> xs[j]? = some a -> ys[j]? = some b -> a = b) (hx : xs[k]? = some x) (hy : ys[k]? = some y) (e : x = y) : ∀ j a b, j < k + 1 -> xs[j]? = some a -> ys[j]? = some b -> a = b := by
 intro j a b hj ha hb
 by_cases c : j = k
 ·subst c; rw [hx] at ha; rw [hy] at hb; cases ha; cases hb; exact e
 ·exact h j a b (by omega) ha hb
theorem ks_all {xs ys : List Int} (hl : xs.length = ys.length) (h : ∀ j a b, j < xs.length -> xs[j]? = some a -> ys[j]? = some b -> a = b) : xs = ys := by
 refine List.ext_getElem? fun j => ?_
 by_cases hj : j < xs.length
 ·have h1 := List.getElem?_eq_getElem hj
  have h2 := List.getElem?_eq_getElem (l := ys) (i := j) (by omega)
  rw [h1, h2, h j _ _ hj h1 h2]
 ·rw [List.getElem?_eq_none (by omega), List.getElem?_eq_none (by omega)]
set_option maxHeartbeats 4000000 in
theorem samek_any (xs ys : List Int) (a1 a2 : Option Addr) (m1 m2 c1 c2 : Nat) (w : World) (h1 : m1 = xs.length) (h2 : m2 = ys.length) (hx : Knds w.heap.size w a1 xs) (hy : Knds w.heap.size w a2 ys) (hl : m1 <= 2000) (hl2 : m2 <= 2000) :
  Calls Tryz.prog 16 #[.slice a1 m1 c1, .slice a2 m2 c2] w fun e w' => e = .returned (.bool (decide (xs = ys))) /\ Below w.heap.size w w' := by
 have H1 := Lib.hid h1
 have H2 := Lib.hid h2
 have HX := Lib.hid hx
 have HY := Lib.hid hy
 clear h1 h2 hx hy
 by_cases hne : m1 = m2
 case neg =>
  have hb : ((m1 : Int) != (m2 : Int)) = true := by simp; omega
  have HF := Lib.hid (show decide (xs = ys) = false by
   simp only [decide_eq_false_iff_not]
   intro e
   have := congrArg List.length e
   have := H1.out
   have := H2.out
   omega)
  go_enter Tryz.func16, Tryz.ntmps16
  go_wp2
  go_ret
  exact ⟨congrArg (fun b => Ending.returned (Value.bool b)) HF.out.symm, Below.refl _ _⟩
 subst hne
 go_enter Tryz.func16, Tryz.ntmps16
 go_wp2
 go_loopw [5] (fun i V => ∃ k : Nat, k <= m1 /\ i = .int .i64 k /\ (∀ j a b, j < k -> xs[j]? = some a -> ys[j]? = some b -> a = b) /\ Below w.heap.size w V) (fun i _ => m1 - (intOf i).toNat)
 case atStart => exact ⟨0, by omega, rfl, fun j a b h => absurd h (by omega), Below.refl _ _⟩
 case round =>
  obtain ⟨k, hk, rfl, hpre, hB⟩ := hrel
  have HP := Lib.hid hpre
  clear hpre
  by_cases hlt : k < m1
  ·obtain ⟨x, hx⟩ : ∃ x, xs[k]? = some x := ⟨_, List.getElem?_eq_getElem (by have := H1.out; omega)⟩
   obtain ⟨y, hy⟩ : ∃ y, ys[k]? = some y := ⟨_, List.getElem?_eq_getElem (by have := H2.out; omega)⟩
   obtain ⟨b1, o1, rfl, hb1, p0⟩ := knds_some (HX.out.on hB) hx
   obtain ⟨b2, o2, rfl, hb2, q0⟩ := knds_some (HY.out.on hB) hy
   have HXK := Lib.hid hx
   have HYK := Lib.hid hy
   clear hx hy
   by_cases e : x = y
   ·subst e
    go_wp2
    go_quiet (fail)
    go_wp2
    go_roundw
    case rel => exact ⟨k + 1, by omega, by go_num, ks_ext HP.out HXK.out HYK.out rfl, below_drewN hB _⟩
    case measure => simp [intOf]; omega
   ·have e2 : (x != y) = true := by simpa using e
    have HF := Lib.hid (show decide (xs = ys) = false by
     simp only [decide_eq_false_iff_not]
     intro q
     subst q
     have h1 := HXK.out
     rw [HYK.out] at h1
     cases h1
     exact e rfl)
    go_wp2
    go_quiet (fail)
    go_wp2
    go_ret
    exact ⟨congrArg (fun b => Ending.returned (Value.bool b)) HF.out.symm, below_drewN hB _⟩
  ·obtain rfl : k = m1 := by omega
   have HF := Lib.hid (show decide (xs = ys) = true by
    simp only [decide_eq_true_eq]
    have l1 := H1.out
    have l2 := H2.out
    exact ks_all (by omega) (fun j a b hj => HP.out j a b (by omega)))
   go_wp2
   go_ret
   exact ⟨congrArg (fun b => Ending.returned (Value.bool b)) HF.out.symm, hB⟩
structure UW (Wm : World) (L : Nat) (e : TypeId) (s : Nat) (V : World) (lv : Value) (n : Nat) (xs : List Value) : Prop where
 o : V.ownsRow L e s lv n xs
 g : ∀ g, lv.ownBlock = some g -> g = L \/ Wm.heap.size <= g
 k : ∀ i, i < Wm.heap.size -> i ≠ L -> V.heap[i]? = Wm.heap[i]?
 z : Wm.heap.size <= V.heap.size
 os : V.os = Wm.os
 tape : V.tape = Wm.tape
 output : V.output = Wm.output
section
variable {w Wm V V1 V2 : World} {L s n n2 : Nat} {e : TypeId} {lv v2 : Value} {xs xs2 : List Value}
theorem UW.kB (h : UW Wm L e s V lv n xs) (hB : Below V.heap.size V V1) : UW Wm L e s V1 lv n xs :=
 ⟨row_keep h.o (fun g hg => hB.block g (own_lt h.o g hg).1), h.g, fun i hi hn => (hB.block i (Nat.lt_of_lt_of_le hi h.z)).trans (h.k i hi hn), Nat.le_trans h.z hB.size, hB.os.trans h.os, hB.tape.trans h.tape, hB.output.trans h.output⟩
theorem UW.step (h : UW Wm L e s V lv n xs) (hB : Below V.heap.size V V1) (ho : V2.ownsRow L e s v2 n2 xs2) (hg : V1.grownBy V2 lv.ownBlock) (hv : v2.ownBlock = lv.ownBlock \/ v2.ownBlock = some V1.heap.size) : UW Wm L e s V2 v2 n2 xs2 := by
 have k1 := h.kB hB
 refine ⟨ho, fun g hg => ?_, fun i hi hn => ?_, Nat.le_trans k1.z hg.size, hg.os.trans k1.os, hg.tape.trans k1.tape, hg.output.trans k1.output⟩
 ·rcases hv with q | q
  ·exact h.g g (by rw [<- q]; exact hg)
  ·rw [q] at hg; cases hg; exact .inr k1.z
 ·refine (hg.block i (Nat.lt_of_lt_of_le hi k1.z) (fun q => ?_)).trans (k1.k i hi hn)
  rcases h.g i q.symm with r | r
  ·exact hn r
  ·omega
theorem UW.below (h : UW Wm L e s V lv n xs) (hw : Below w.heap.size w Wm) (hL : w.heap.size <= L) : Below w.heap.size w V :=
 ⟨h.os.trans hw.os, h.tape.trans hw.tape, h.output.trans hw.output, Nat.le_trans hw.size h.z, fun i hi => (h.k i (Nat.lt_of_lt_of_le hi hw.size) (by omega)).trans (hw.block i hi)⟩
theorem UW.cell (h : UW Wm L e s V lv n xs) {p : Addr} (hp : p.block < Wm.heap.size) (hn : p.block ≠ L) : V.cell? p = Wm.cell? p := World.cell?_of_block (w := Wm) (h.k _ hp hn)
end
set_option maxHeartbeats 4000000 in
theorem lunless_far (y : Int) (ad dd ai : Option Addr) (m cap md dap mi cai : Nat) (w : World) (hj : Sx.J w) (h : 200 < m \/ 200 < md \/ 50 < mi) :
  Calls Tryz.prog 8 #[.slice ad m cap, .slice dd md dap, .agg #[.int .i32 y, .slice ai mi cai]] w (LV w) := by
 have hB0 := (Below.refl w.heap.size w).alloc (Nat.le_refl _) (.cells #[.int .i32 y, .slice ai mi cai] 50)
 have hj1 := Sx.J_kept hB0 hj
 by_cases g1 : 200 < m
 ·have c1 : decide ((m : Int) > 200) = true := by simp; omega
  go_enter Tryz.func8, Tryz.ntmps8
  go_wp2_with (go_at_call 10; refine (lives_any _ hj1).mono ?_; rintro e w1 ⟨rfl, hB1⟩)
  go_ret
  exact ⟨rfl, bstep hB0 hB1⟩
 have c1 : decide ((m : Int) > 200) = false := by simp; omega
 by_cases g2 : 200 < md
 ·have c2 : decide ((md : Int) > 200) = true := by simp; omega
  go_enter Tryz.func8, Tryz.ntmps8
  go_wp2_with (go_at_call 10; refine (lives_any _ hj1).mono ?_; rintro e w1 ⟨rfl, hB1⟩)
  go_ret
  exact ⟨rfl, bstep hB0 hB1⟩
 ·have c2 : decide ((md : Int) > 200) = false := by simp; omega
  have c3 : decide ((mi : Int) > 50) = true := by simp; omega
  go_enter Tryz.func8, Tryz.ntmps8
  go_wp2_with (go_at_call 10; refine (lives_any _ hj1).mono ?_; rintro e w1 ⟨rfl, hB1⟩)
  go_ret
  exact ⟨rfl, bstep hB0 hB1⟩
def preU (y : Int) (c d : List Cod) : Nat -> List Cod
 | 0 => [⟨2, y⟩, ⟨4, c.length + 3⟩]
 | 1 => [⟨2, y⟩, ⟨4, c.length + 3⟩] ++ c.map (goesN 2) ++ [⟨3, c.length + d.length + 3⟩]
 | _ => [⟨2, y⟩, ⟨4, c.length + 3⟩] ++ c.map (goesN 2) ++ [⟨3, c.length + d.length + 3⟩] ++ d.map (goesN (c.length + 3))
theorem preU_end (y : Int) (c d : List Cod) : preU y c d 2 = choice y c d := by simp [preU, choice]
theorem preU_len (y : Int) (c d : List Cod) (k : Nat) : (preU y c d k).length <= c.length + d.length + 3 := by
 match k with
 | 0 => simp [preU]
 | 1 => simp [preU]
 | k + 2 => simp [preU]; omega
structure PartK (y : Int) (c d : List Cod) (w Wm : World) (P Q k : Nat) (pa : Option Addr) (pn pc : Nat) (part : List Cod) (fr : Nat) : Prop where
 hp : Wm.cell? ⟨P, k, none⟩ = some (.slice pa pn pc)
 hq : Wm.cell? ⟨Q, k, none⟩ = some (.int .i32 fr)
 hc : Cods w.heap.size w pa part
 ck : CodOk part
 n : pn = part.length
 n2 : pn <= 200
 fr2 : fr <= 203
 pre : preU y c d (k + 1) = preU y c d k ++ part.map (goesN fr) ++ (if k = 0 then [⟨3, c.length + d.length + 3⟩] else [])
 isc : k = 0 -> part = c
 isd : k = 1 -> part = d
theorem partK {y : Int} {c d : List Cod} {w Wm : World} {P Q : Nat} {ad dd : Option Addr} {m cap md dap k : Nat} (hk : k < 2) (hm : m = c.length) (hmd : md = d.length) (hl : m <= 200) (hl2 : md <= 200) (hc : Cods w.heap.size w ad c) (hok : CodOk c) (hd : Cods w.heap.size w dd d) (hdk : CodOk d)
  (p0 : Wm.cell? ⟨P, 0, none⟩ = some (.slice ad m cap)) (p1 : Wm.cell? ⟨P, 1, none⟩ = some (.slice dd md dap)) (q0 : Wm.cell? ⟨Q, 0, none⟩ = some (.int .i32 2)) (q1 : Wm.cell? ⟨Q, 1, none⟩ = some (.int .i32 (m + 3))) : ∃ pa pn pc part fr, PartK y c d w Wm P Q k pa pn pc part fr := by
 match k, hk with
 | 0, _ => exact ⟨ad, m, cap, c, 2, p0, q0, hc, hok, hm, hl, by omega, by simp [preU], fun _ => rfl, fun h => absurd h (by omega)⟩
 | 1, _ => exact ⟨dd, md, dap, d, m + 3, p1, q1, hd, hdk, hmd, hl2, by omega, by subst hm; simp [preU], fun h => absurd h (by omega), fun _ => rfl⟩
theorem goes_le_next {c : List Cod} {j : Nat} {x : Cod} {b : Int} (h : ∀ x ∈ c.take j, goes x = true -> x.n <= b) (hx : c[j]? = some x) (hn : goes x = true -> x.n <= b) : ∀ x ∈ c.take (j + 1), goes x = true -> x.n <= b := by
 intro z hz
 rw [List.take_add_one, hx] at hz
 rcases List.mem_append.1 hz with q | q
 ·exact h z q
 ·obtain rfl : z = x := by simpa using q
  exact hn
theorem both_next {c d : List Cod} {k n : Nat} {x : Cod} (hx : d[k]? = some x) : c ++ (d.take (k + 1)).map (goesN n) = (c ++ (d.take k).map (goesN n)) ++ [goesN n x] := by
 rw [take_map (goesN n) d hx, List.append_assoc]
theorem codok_add {c : List Cod} {x : Cod} (h : CodOk c) (h0 : 0 <= x.op /\ x.op <= 255) (h1 : J32 x.n) : CodOk (c ++ [x]) := by
 intro y hy
 rcases List.mem_append.1 hy with q | q
 ·exact h y q
 ·obtain rfl : y = x := by simpa using q
  exact ⟨h0, h1⟩
structure UZ (w wr V : World) (y : Int) (S1 : Value) : Prop where
 z0 : V.cell? ⟨w.heap.size, 0, none⟩ = some (.int .i32 y)
 z1 : V.cell? ⟨w.heap.size, 1, none⟩ = some S1
 l : w.heap.size < V.heap.size
 bw : Below w.heap.size w V
 br : Below wr.heap.size wr V
 j : Sx.J V
theorem UZ.kB {w wr V W : World} {y : Int} {S1 : Value} (h : UZ w wr V y S1) (hB : Below V.heap.size V W) : UZ w wr W y S1 :=
 ⟨(hB.cell (p := ⟨w.heap.size, 0, none⟩) h.l).trans h.z0, (hB.cell (p := ⟨w.heap.size, 1, none⟩) h.l).trans h.z1, Nat.lt_of_lt_of_le h.l hB.size, bstep h.bw hB, bstep h.br hB, Sx.J_kept hB h.j⟩
theorem unl_start (y : Int) (m : Nat) (w : World) (S1 S2 S3 : Value) :
  UW ((((w.alloc (.cells #[.int .i32 y, S1] 50)).alloc (.cells #[.int .u8 2, .int .i32 y, .int .u8 4, .int .i32 (m + 3)] 41)).alloc (.cells #[S2, S3] 22)).alloc (.cells #[.int .i32 2, .int .i32 (m + 3)] 21)) (w.heap.size + 1) 41 2 ((((w.alloc (.cells #[.int .i32 y, S1] 50)).alloc (.cells #[.int .u8 2, .int .i32 y, .int .u8 4, .int .i32 (m + 3)] 41)).alloc (.cells #[S2, S3] 22)).alloc (.cells #[.int .i32 2, .int .i32 (m + 3)] 21)) (.slice (some ⟨w.heap.size + 1, 0, none⟩) 2 2) 2 (cfl [⟨2, y⟩, ⟨4, m + 3⟩]) /\ Below w.heap.size w ((((w.alloc (.cells #[.int .i32 y, S1] 50)).alloc (.cells #[.int .u8 2, .int .i32 y, .int .u8 4, .int .i32 (m + 3)] 41)).alloc (.cells #[S2, S3] 22)).alloc (.cells #[.int .i32 2, .int .i32 (m + 3)] 21)) /\
  Below (w.alloc (.cells #[.int .i32 y, S1] 50)).heap.size (w.alloc (.cells #[.int .i32 y, S1] 50)) ((((w.alloc (.cells #[.int .i32 y, S1] 50)).alloc (.cells #[.int .u8 2, .int .i32 y, .int .u8 4, .int .i32 (m + 3)] 41)).alloc (.cells #[S2, S3] 22)).alloc (.cells #[.int .i32 2, .int .i32 (m + 3)] 21)) /\ (((((w.alloc (.cells #[.int .i32 y, S1] 50)).alloc (.cells #[.int .u8 2, .int .i32 y, .int .u8 4, .int .i32 (m + 3)] 41)).alloc (.cells #[S2, S3] 22)).alloc (.cells #[.int .i32 2, .int .i32 (m + 3)] 21))).heap.size = w.heap.size + 4 /\
  ((((((w.alloc (.cells #[.int .i32 y, S1] 50)).alloc (.cells #[.int .u8 2, .int .i32 y, .int .u8 4, .int .i32 (m + 3)] 41)).alloc (.cells #[S2, S3] 22)).alloc (.cells #[.int .i32 2, .int .i32 (m + 3)] 21))).cell? ⟨w.heap.size, 0, none⟩ = some (.int .i32 y) /\ (((((w.alloc (.cells #[.int .i32 y, S1] 50)).alloc (.cells #[.int .u8 2, .int .i32 y, .int .u8 4, .int .i32 (m + 3)] 41)).alloc (.cells #[S2, S3] 22)).alloc (.cells #[.int .i32 2, .int .i32 (m + 3)] 21))).cell? ⟨w.heap.size, 1, none⟩ = some S1) /\ ((((((w.alloc (.cells #[.int .i32 y, S1] 50)).alloc (.cells #[.int .u8 2, .int .i32 y, .int .u8 4, .int .i32 (m + 3)] 41)).alloc (.cells #[S2, S3] 22)).alloc (.cells #[.int .i32 2, .int .i32 (m + 3)] 21))).cell? ⟨w.heap.size + 1 + 1, 0, none⟩ = some S2 /\ (((((w.alloc (.cells #[.int .i32 y, S1] 50)).alloc (.cells #[.int .u8 2, .int .i32 y, .int .u8 4, .int .i32 (m + 3)] 41)).alloc (.cells #[S2, S3] 22)).alloc (.cells #[.int .i32 2, .int .i32 (m + 3)] 21))).cell? ⟨w.heap.size + 1 + 1, 1, none⟩ = some S3) /\
  ((((((w.alloc (.cells #[.int .i32 y, S1] 50)).alloc (.cells #[.int .u8 2, .int .i32 y, .int .u8 4, .int .i32 (m + 3)] 41)).alloc (.cells #[S2, S3] 22)).alloc (.cells #[.int .i32 2, .int .i32 (m + 3)] 21))).cell? ⟨w.heap.size + 1 + 1 + 1, 0, none⟩ = some (.int .i32 2) /\ (((((w.alloc (.cells #[.int .i32 y, S1] 50)).alloc (.cells #[.int .u8 2, .int .i32 y, .int .u8 4, .int .i32 (m + 3)] 41)).alloc (.cells #[S2, S3] 22)).alloc (.cells #[.int .i32 2, .int .i32 (m + 3)] 21))).cell? ⟨w.heap.size + 1 + 1 + 1, 1, none⟩ = some (.int .i32 (m + 3))) := by
 have h1 := (Below.refl w.heap.size w).alloc (Nat.le_refl _) (.cells #[.int .i32 y, S1] 50)
 have h2 := (((Below.refl (w.alloc (.cells #[.int .i32 y, S1] 50)).heap.size (w.alloc (.cells #[.int .i32 y, S1] 50))).alloc (Nat.le_refl _) (.cells #[.int .u8 2, .int .i32 y, .int .u8 4, .int .i32 (m + 3)] 41)).alloc (by simp) (.cells #[S2, S3] 22)).alloc (by simp) (.cells #[.int .i32 2, .int .i32 (m + 3)] 21)
 have e0 : ((w.alloc (.cells #[.int .i32 y, S1] 50)).alloc (.cells #[.int .u8 2, .int .i32 y, .int .u8 4, .int .i32 (m + 3)] 41)).heap[w.heap.size + 1]? = some (.cells #[.int .u8 2, .int .i32 y, .int .u8 4, .int .i32 (m + 3)] 41) := by
  rw [show w.heap.size + 1 = (w.alloc (.cells #[.int .i32 y, S1] 50)).heap.size by simp]
  exact Array.getElem?_push_size
 have h3 := ((Below.refl ((w.alloc (.cells #[.int .i32 y, S1] 50)).alloc (.cells #[.int .u8 2, .int .i32 y, .int .u8 4, .int .i32 (m + 3)] 41)).heap.size ((w.alloc (.cells #[.int .i32 y, S1] 50)).alloc (.cells #[.int .u8 2, .int .i32 y, .int .u8 4, .int .i32 (m + 3)] 41))).alloc (Nat.le_refl _) (.cells #[S2, S3] 22)).alloc (by simp) (.cells #[.int .i32 2, .int .i32 (m + 3)] 21)
 refine ⟨⟨⟨rfl, .inr ⟨w.heap.size + 1, 2, #[.int .u8 2, .int .i32 y, .int .u8 4, .int .i32 (m + 3)], rfl, Nat.le_refl _, (h3.block _ (by simp)).trans e0, Nat.le_refl _, by unfold maxLen; omega, rfl, rfl⟩⟩, fun g hg => ?_, fun i _ _ => rfl, Nat.le_refl _, rfl, rfl, rfl⟩, bstep h1 h2, h2, by simp, ⟨by simp [go_sem], by simp [go_sem]⟩, ⟨by simp [go_sem], by simp [go_sem]⟩, by simp [go_sem], by simp [go_sem]⟩
 cases hg
 exact .inl rfl
set_option maxHeartbeats 40000000 in
theorem lunless_any (y : Int) (c d : List Cod) (ins : List Int) (ad dd ai : Option Addr) (m cap md dap mi cai : Nat) (w : World) (hm : m = c.length) (hmd : md = d.length) (hmi : mi = ins.length) (hc : Cods w.heap.size w ad c) (hok : CodOk c) (hd : Cods w.heap.size w dd d) (hdk : CodOk d) (hf : Fixs w.heap.size w ai ins) (hfj : ∀ x ∈ ins, J32 x) (hy : J32 y) (hj : Sx.J w) :
  Calls Tryz.prog 8 #[.slice ad m cap, .slice dd md dap, .agg #[.int .i32 y, .slice ai mi cai]] w (LV w) := by
 by_cases hfar : 200 < m \/ 200 < md \/ 50 < mi
 ·exact lunless_far y ad dd ai m cap md dap mi cai w hj hfar
 have hl1 : m <= 200 := by omega
 have hl2 : md <= 200 := by omega
 have hl3 : mi <= 50 := by omega
 have c1 : decide ((m : Int) > 200) = false := by simp; omega
 have c2 : decide ((md : Int) > 200) = false := by simp; omega
 have c3 : decide ((mi : Int) > 50) = false := by simp; omega
 obtain ⟨hU0, hW0, hW1, hz4, hzz, hpp, hqq⟩ := unl_start y m w (.slice ai mi cai) (.slice ad m cap) (.slice dd md dap)
 have HC := Lib.hid (fun (W : World) (hB : Below w.heap.size w W) => run_any c ins ad ai m cap mi cai W hm hmi (by omega) (by omega) (hc.on hB) hok (hf.on hB) hfj (Sx.J_kept hB hj))
 have HD := Lib.hid (fun (W : World) (hB : Below w.heap.size w W) => run_any d ins dd ai md dap mi cai W hmd hmi (by omega) (by omega) (hd.on hB) hdk (hf.on hB) hfj (Sx.J_kept hB hj))
 have HJ := Lib.hid hj
 have HF := Lib.hid (And.intro hf hfj)
 have HM := Lib.hid (show m = c.length /\ md = d.length /\ mi = ins.length from ⟨hm, hmd, hmi⟩)
 obtain ⟨Wm, hWm⟩ : ∃ V, V = ((((w.alloc (.cells #[.int .i32 y, .slice ai mi cai] 50)).alloc (.cells #[.int .u8 2, .int .i32 y, .int .u8 4, .int .i32 (m + 3)] 41)).alloc (.cells #[.slice ad m cap, .slice dd md dap] 22)).alloc (.cells #[.int .i32 2, .int .i32 (m + 3)] 21)) := ⟨_, rfl⟩
 rw [<- hWm] at hU0 hW0 hW1 hz4 hzz hpp hqq
 have HPK := Lib.hid (fun k (hk : k < 2) => partK (y := y) hk hm hmd hl1 hl2 hc hok hd hdk hpp.1 hpp.2 hqq.1 hqq.2)
 have HOK := Lib.hid (show CodOk (preU y c d 0) from fun x hx => by
  unfold J32 at hy
  simp only [preU, List.mem_cons, List.not_mem_nil, or_false] at hx
  rcases hx with rfl | rfl <;> exact ⟨⟨by simp, by simp⟩, by simp; omega, by simp; omega⟩)
 have HY := Lib.hid hy
 have HU0 := Lib.hid (show UW Wm (w.heap.size + 1) 41 2 Wm (.slice (some ⟨w.heap.size + 1, 0, none⟩) 2 2) 2 (cfl (preU y c d 0)) by rw [show preU y c d 0 = [⟨2, y⟩, ⟨4, (m : Int) + 3⟩] by rw [hm]; rfl]; exact hU0)
 have HW := Lib.hid (And.intro hW0 hW1)
 have HZ := Lib.hid hzz
 have HZ4 := Lib.hid hz4
 have HWM := Lib.hid hWm
 obtain ⟨i2, hin2, hz02, hz12, hz22⟩ := info_parts info_cod
 have hzc2 : (Value.agg #[.int .u8 0, .int .i32 0]).cells.size = 2 := rfl
 clear hfar hm hmd hmi hc hok hd hdk hf hfj hy hj hU0 hW0 hW1 hz4 hzz hpp hqq hWm
 go_enter Tryz.func8, Tryz.ntmps8
 go_wp2
 rw [<- HWM.out]
 go_loopw [12, 9] (fun i lv V => ∃ k n : Nat, k <= 2 /\ i = .int .i64 k /\ n = (preU y c d k).length /\ UW Wm (w.heap.size + 1) 41 2 V lv n (cfl (preU y c d k)) /\ CodOk (preU y c d k) /\ (1 <= k -> ∀ x ∈ c, goes x = true -> x.n <= c.length)) (fun i _ _ => 2 - (intOf i).toNat)
 case atStart => exact ⟨0, 2, by omega, rfl, rfl, HU0.out, HOK.out, fun h => absurd h (by omega)⟩
 case round =>
  obtain ⟨k, n0, hk, rfl, hn0, hU, hck, hgl⟩ := hrel
  have hn3 : n0 <= 403 := by have := preU_len y c d k; have := HM.out.1; have := HM.out.2.1; omega
  have HN0 := Lib.hid hn0
  have HCK0 := Lib.hid hck
  have HGC := Lib.hid hgl
  clear hck hgl hn0
  by_cases hlt : k < 2
  ·have hk2 : decide ((k : Int) < 2) = true := by simp; omega
   obtain ⟨pa, pn, pc, part, fr, hPK⟩ := HPK.out k hlt
   have h200 := hPK.n2
   have h203 := hPK.fr2
   have HPT := Lib.hid hPK
   clear hPK
   have HU1 := Lib.hid hU
   clear hU
   go_wp2
   go_loopw [13, 9] (fun i lv V => ∃ j : Nat, j <= pn /\ i = .int .i64 j /\ UW Wm (w.heap.size + 1) 41 2 V lv (n0 + j) (cfl (preU y c d k ++ (part.take j).map (goesN fr))) /\ CodOk (preU y c d k ++ (part.take j).map (goesN fr)) /\ ∀ x ∈ part.take j, goes x = true -> x.n <= (pn : Int)) (fun i _ _ => pn - (intOf i).toNat)
   case atStart => exact ⟨0, by omega, rfl, by simpa using HU1.out, by simpa using HCK0.out, fun x hx => by simp at hx⟩
   case round =>
    obtain ⟨j, hjn, rfl, hU, hck, hgl⟩ := hrel
    have HCK := Lib.hid hck
    have HGL := Lib.hid hgl
    clear hck hgl
    have hp0 : wr.cell? ⟨w.heap.size + 1 + 1, k, none⟩ = some (.slice pa pn pc) := (hU.cell (p := ⟨w.heap.size + 1 + 1, k, none⟩) (by have := HZ4.out; simp; omega) (by simp)).trans HPT.out.hp
    have hq0 : wr.cell? ⟨w.heap.size + 1 + 1 + 1, k, none⟩ = some (.int .i32 fr) := (hU.cell (p := ⟨w.heap.size + 1 + 1 + 1, k, none⟩) (by have := HZ4.out; simp; omega) (by simp; omega)).trans HPT.out.hq
    by_cases hlt2 : j < pn
    ·obtain ⟨x, hx⟩ : ∃ x, part[j]? = some x := ⟨_, List.getElem?_eq_getElem (by have := HPT.out.n; omega)⟩
     have hbw := hU.below HW.out.1 (Nat.le_succ _)
     obtain ⟨b2, o2, rfl, hb2, r0, r1⟩ := cod_some (HPT.out.hc.on hbw) hx
     obtain ⟨⟨y0, y1⟩, y2, y3⟩ := HPT.out.ck x (List.mem_of_getElem? hx)
     have HX := Lib.hid (both_next (c := preU y c d k) (n := fr) hx)
     have HXJ := Lib.hid hx
     obtain ⟨xo, xn⟩ := x
     simp only at r0 r1 y0 y1 y2 y3
     clear hx
     obtain ⟨ra, rc, rfl, _, _, _⟩ := row_shape hU.o
     have hA9 : Below wr.heap.size wr (wr.alloc (.cells #[.int .u8 xo, .int .i32 xn] 41)) := (Below.refl _ _).alloc (Nat.le_refl _) _
     have hb9 := Lib.hid (fun n => bstep hbw (below_drewN ((Below.refl wr.heap.size wr).alloc (Nat.le_refl _) (.cells #[.int .u8 xo, .int .i32 xn] 41)) n))
     have hbz : wr.heap.size < (wr.alloc (.cells #[.int .u8 xo, .int .i32 xn] 41)).heap.size := by simp
     have hw4 : w.heap.size + 4 <= wr.heap.size := by have := hU.z; have := HZ4.out; omega
     have hp1 := (hA9.cell (p := ⟨w.heap.size + 1 + 1, k, none⟩) (show w.heap.size + 1 + 1 < wr.heap.size by omega)).trans hp0
     have hq1 := (hA9.cell (p := ⟨w.heap.size + 1 + 1 + 1, k, none⟩) (show w.heap.size + 1 + 1 + 1 < wr.heap.size by omega)).trans hq0
     clear hA9 hbw
     by_cases g3 : xo = 3 \/ xo = 4
     ·have hG := Lib.hid (goesN_is (k := fr) (n := xn) g3)
      have hF : ((xo == 3) = true /\ True) \/ ((xo == 3) = false /\ (xo == 4) = true) := by
       rcases g3 with rfl | rfl
       ·exact .inl ⟨rfl, trivial⟩
       ·exact .inr ⟨rfl, rfl⟩
      clear g3
      by_cases g5 : xn < 0 \/ (pn : Int) < xn
      ·clear hU
       by_cases g6 : xn < 0
       ·have f1 : decide (xn < 0) = true := by simpa using g6
        rcases hF with ⟨f3, f4⟩ | ⟨f3, f4⟩
        all_goals
         go_wp2
         go_quiet (fail)
         go_wp2_with (go_at_call 10; refine (lives_any _ (Sx.J_kept (hb9.out _) HJ.out)).mono ?_; rintro e w2 ⟨rfl, hB2⟩)
         go_ret
         exact ⟨rfl, bstep (hb9.out _) hB2⟩
       ·have f1 : decide (xn < 0) = false := by simpa using g6
        have f2 : decide (xn > (pn : Int)) = true := by simp; omega
        rcases hF with ⟨f3, f4⟩ | ⟨f3, f4⟩
        all_goals
         go_wp2
         go_quiet (fail)
         go_wp2_with (go_at_call 10; refine (lives_any _ (Sx.J_kept (hb9.out _) HJ.out)).mono ?_; rintro e w2 ⟨rfl, hB2⟩)
         go_ret
         exact ⟨rfl, bstep (hb9.out _) hB2⟩
      ·have f1 : decide (xn < 0) = false := by simp; omega
       have f2 : decide (xn > (pn : Int)) = false := by simp; omega
       rcases hF with ⟨f3, f4⟩ | ⟨f3, f4⟩
       all_goals
        go_wp2
        go_quiet (fail)
        go_wp2
        go_region
        go_wp2_with (at_builtin; (refine wpList_append_own_at _ rfl _ _ 22 rfl (w.heap.size + 1) 41 i2 _ 2 8 Tryz.underlying22 hin2 hz02 hz12 hz22 hzc2 (by decide) _ (n0 + j) _ rfl (hU.kB (((below_drewN ((Below.refl _ _).alloc (Nat.le_refl _) _) _).setCell (p := ⟨_, 1, none⟩) (Nat.le_refl _) _).alloc (by simp) _)).o _ 1 1 (cfl [⟨xo, xn + fr⟩]) rfl rfl ((cods_at _ [⟨xo, xn + fr⟩] 41 _ (by simp)).hc) (cfl_one _) (by unfold maxLen; omega) (by omega) (by have := hU.z; simp; omega) ?_); intro v' w6 hown6 hgrow6 _ hblk6; replace hU := hU.step (((below_drewN ((Below.refl _ _).alloc (Nat.le_refl _) _) _).setCell (p := ⟨_, 1, none⟩) (Nat.le_refl _) _).alloc (by simp) _) hown6 hgrow6 hblk6; clear hgrow6 hown6 hblk6)
        have HU9 := Lib.hid hU
        clear hU
        go_roundw
        case rel => exact ⟨j + 1, by omega, by go_num, by rw [HX.out, hG.out, cfl_app]; exact HU9.out, by rw [HX.out, hG.out]; exact codok_add HCK.out ⟨y0, y1⟩ ⟨by simp; omega, by simp; omega⟩, goes_le_next HGL.out HXJ.out (fun q => by show xn <= (pn : Int); omega)⟩
        case measure => simp [intOf]; omega
     ·have h3 : ¬ xo = 3 := fun q => g3 (.inl q)
      have h4 : ¬ xo = 4 := fun q => g3 (.inr q)
      have hG := Lib.hid (goesN_not (k := fr) (n := xn) h3 h4)
      have HNG := Lib.hid (not_goes (x := ⟨xo, xn⟩) h3 h4)
      have f3 : (xo == 3) = false := by simpa using h3
      have f4 : (xo == 4) = false := by simpa using h4
      clear h3 h4 g3
      go_wp2_with (at_builtin; (refine wpList_append_own_at _ rfl _ _ 22 rfl (w.heap.size + 1) 41 i2 _ 2 8 Tryz.underlying22 hin2 hz02 hz12 hz22 hzc2 (by decide) _ (n0 + j) _ rfl (hU.kB (((Below.refl _ _).alloc (Nat.le_refl _) _).alloc (by simp) _)).o _ 1 1 (cfl [⟨xo, xn⟩]) rfl rfl ((cods_at _ [⟨xo, xn⟩] 41 _ (by simp)).hc) (cfl_one _) (by unfold maxLen; omega) (by omega) (by have := hU.z; simp; omega) ?_); intro v' w6 hown6 hgrow6 _ hblk6; replace hU := hU.step (((Below.refl _ _).alloc (Nat.le_refl _) _).alloc (by simp) _) hown6 hgrow6 hblk6; clear hgrow6 hown6 hblk6)
      have HU9 := Lib.hid hU
      clear hU
      go_roundw
      case rel => exact ⟨j + 1, by omega, by go_num, by rw [HX.out, hG.out, cfl_app]; exact HU9.out, by rw [HX.out, hG.out]; exact codok_add HCK.out ⟨y0, y1⟩ ⟨by assumption, by assumption⟩, goes_le_next HGL.out HXJ.out (fun q => by rw [HNG.out] at q; cases q)⟩
      case measure => simp [intOf]; omega
    ·obtain rfl : j = pn := by omega
     have hck := HCK.out
     have hgl := HGL.out
     have hln := HPT.out.n
     rw [List.take_of_length_le (by omega)] at hU hck hgl
     have hpre := HPT.out.pre
     have HCK3 := Lib.hid hck
     have HGL3 := Lib.hid hgl
     have HPRE := Lib.hid hpre
     have HLN := Lib.hid hln
     have hw4 : w.heap.size + 4 <= wr.heap.size := by have := hU.z; have := HZ4.out; omega
     clear hck hgl hln hpre
     obtain ⟨ra, rc, rfl, _, _, _⟩ := row_shape hU.o
     by_cases h0 : k = 0
     ·have hk0 : ((k : Int) == 0) = true := by simpa using h0
      have H0 := Lib.hid h0
      clear h0
      go_wp2_with (at_builtin; (refine wpList_append_own_at _ rfl _ _ 22 rfl (w.heap.size + 1) 41 i2 _ 2 8 Tryz.underlying22 hin2 hz02 hz12 hz22 hzc2 (by decide) _ (n0 + j) _ rfl (hU.kB ((Below.refl _ _).alloc (Nat.le_refl _) _)).o _ 1 1 (cfl [⟨3, m + md + 3⟩]) rfl rfl ((cods_at _ [⟨3, m + md + 3⟩] 41 _ (by simp)).hc) (cfl_one _) (by unfold maxLen; omega) (by omega) (by have := hU.z; simp; omega) ?_); intro v' w6 hown6 hgrow6 _ hblk6; replace hU := hU.step ((Below.refl _ _).alloc (Nat.le_refl _) _) hown6 hgrow6 hblk6; clear hgrow6 hown6 hblk6)
      have HU9 := Lib.hid hU
      clear hU
      go_roundw
      case rel =>
       have e1 := HPRE.out
       rw [if_pos H0.out] at e1
       have e2 := HM.out
       rw [<- e2.1, <- e2.2.1] at e1
       refine ⟨k + 1, n0 + j + 1, by omega, by go_num, ?_, ?_, ?_, fun _ => ?_⟩
       ·rw [e1, List.length_append, List.length_append, <- HN0.out, List.length_map, <- HLN.out]; rfl
       ·rw [e1, cfl_app]; exact HU9.out
       ·rw [e1]; exact codok_add HCK3.out ⟨by simp, by simp⟩ ⟨by simp; omega, by simp; omega⟩
       ·have := HGL3.out
        rw [HPT.out.isc H0.out] at this
        rw [<- e2.1, e2.1, <- HPT.out.isc H0.out, <- HLN.out, HPT.out.isc H0.out]
        exact this
      case measure => simp [intOf]; omega
     ·have hk0 : ((k : Int) == 0) = false := by simpa using h0
      have HU9 := Lib.hid hU
      clear hU
      go_wp2
      go_roundw
      case rel =>
       have e1 := HPRE.out
       rw [if_neg h0, List.append_nil] at e1
       refine ⟨k + 1, n0 + j, by omega, by go_num, ?_, ?_, ?_, fun _ => HGC.out (by omega)⟩
       ·rw [e1, List.length_append, <- HN0.out, List.length_map, <- HLN.out]
       ·rw [e1]; exact HU9.out
       ·rw [e1]; exact HCK3.out
      case measure => simp [intOf]; omega
  ·obtain rfl : k = 2 := by omega
   rw [preU_end] at hU
   have hck := HCK0.out
   have hgc := HGC.out (by omega)
   have hn0 := HN0.out
   rw [preU_end] at hck hn0
   have hj1 := Sx.J_kept (hU.below HW.out.1 (Nat.le_succ _)) HJ.out
   have hRW : RW (w.alloc (.cells #[.int .i32 y, .slice ai mi cai] 50)) wr 41 2 u9 n0 (cfl (choice y c d)) := ⟨hU.below HW.out.2 (by simp), by simpa using hU.o, hj1⟩
   obtain ⟨ra, rc, rfl, hlen, hcods⟩ := hRW.cods
   have hbw := hU.below HW.out.1 (Nat.le_succ _)
   have hz0 : wr.cell? ⟨w.heap.size, 0, none⟩ = some (.int .i32 y) := (hU.cell (p := ⟨w.heap.size, 0, none⟩) (by have := HZ4.out; simp; omega) (by simp)).trans HZ.out.1
   have hz1 : wr.cell? ⟨w.heap.size, 1, none⟩ = some (.slice ai mi cai) := (hU.cell (p := ⟨w.heap.size, 1, none⟩) (by have := HZ4.out; simp; omega) (by simp)).trans HZ.out.2
   have hS : UZ w wr wr y (.slice ai mi cai) := ⟨hz0, hz1, by have := hU.z; have := HZ4.out; omega, hbw, Below.refl _ _, hj1⟩
   have HV := Lib.hid (fun (W : World) (hB : Below wr.heap.size wr W) => run_any (choice y c d) ins ra ai n0 rc mi cai W hlen HM.out.2.2 (by have := HM.out.2.2; omega) (by rw [<- hn0]; omega) (hcods.on hB) hck ((HF.out.1.on hbw).on hB) HF.out.2 (Sx.J_kept hB hj1))
   have hLAW := unless_law (N := NN) y c d ins (by have := HM.out.2.2; omega) (by have := HM.out.1; omega) (by have := HM.out.2.1; omega) hgc
   have t1 : True := trivial
   have t2 : True := trivial
   have t3 : True := trivial
   have HAL := Lib.hid (fun (c : List Cod) (hc : CodOk c) l h => (runF_all (N := NN) nn_ok (c := c) (fun x hx => (hc x hx).2) (ins := ins) HF.out.2 (l := l) h).2)
   have HLC := Lib.hid (fun l h => HAL.out c (HPK.out 0 (by omega) |> fun ⟨_, _, _, _, _, h⟩ => (h.isc rfl) ▸ h.ck) l h)
   have hn3 : n0 <= 403 := hn3
   clear hU hRW hck hgc hlen hcods hn0
   by_cases hg : ∃ a b, runF NN c ins = .ok a /\ runF NN d ins = .ok b /\ a.map (·.k) = b.map (·.k)
   ·obtain ⟨a, b, hra, hrb, hab⟩ := hg
    have hrv := hLAW.1 a b hra hrb hab
    obtain ⟨al, hal⟩ : ∃ n, a.length = n := ⟨_, rfl⟩
    obtain ⟨bl, hbl⟩ : ∃ n, b.length = n := ⟨_, rfl⟩
    have hab2 : bl = al := by have := congrArg List.length hab; simp at this; omega
    subst hab2
    have ha100 := HLC.out a hra
    rw [hal] at ha100
    have HKD := Lib.hid (show decide (a.map (·.k) = b.map (·.k)) = true by simpa using hab)
    have HE1 := Lib.hid hra
    have HE2 := Lib.hid hrb
    have HL1 := Lib.hid hal
    have HL2 := Lib.hid hbl
    have HK1 := Lib.hid (show bl = (a.map (·.k)).length by rw [List.length_map]; exact hal.symm)
    have HK2 := Lib.hid (show bl = (b.map (·.k)).length by rw [List.length_map]; exact hbl.symm)
    clear hLAW hra hrb hab hal hbl
    by_cases hy0 : y = 0
    ·have y1 : (y != 0) = false := by simpa using hy0
     rw [if_neg (by simpa using hy0)] at hrv
     have HE3 := Lib.hid hrv
     clear hrv hy0
     go_wp2_with (first
      | (clear t1; go_at_call 12; refine (HC.out _ hS.bw).mono ?_; rintro e w4 hP; obtain ⟨⟨v4, rfl, hV4⟩, hB⟩ := hP.1 _ HE1.out; obtain ⟨g1, c1, rfl, hu1⟩ := hV4.vals; rw [HL1.out]; clear hP hV4; replace hS := hS.kB hB; replace hz0 := hS.z0; replace hz1 := hS.z1; clear hB)
      | (clear t2; go_at_call 12; refine (HD.out _ hS.bw).mono ?_; rintro e w5 hP; obtain ⟨⟨v5, rfl, hV5⟩, hB⟩ := hP.1 _ HE2.out; obtain ⟨g2, c2, rfl, hu2⟩ := hV5.vals; rw [HL2.out]; clear hP hV5; replace hS := hS.kB hB; replace hz0 := hS.z0; replace hz1 := hS.z1; replace hu1 := hu1.on hB; clear hB)
      | (go_at_call 12; refine (HV.out _ hS.br).mono ?_; rintro e w6 hP; obtain ⟨⟨v6, rfl, hV6⟩, hB⟩ := hP.1 _ HE3.out; obtain ⟨g3, c3, rfl, hu3⟩ := hV6.vals; rw [HL2.out]; clear hP hV6; replace hS := hS.kB hB; replace hz0 := hS.z0; replace hz1 := hS.z1; replace hu1 := hu1.on hB; replace hu2 := hu2.on hB; clear hB)
      | (clear t3; go_at_call 17; refine (lknds_any a (some ⟨g1, 0, none⟩) bl c1 _ HL1.out.symm hu1 (by omega) hS.j).mono ?_; rintro e w7 ⟨⟨ka, kc, rfl, huk⟩, hB⟩; replace hS := hS.kB hB; replace hz0 := hS.z0; replace hz1 := hS.z1; replace hu1 := hu1.on hB; replace hu2 := hu2.on hB; replace hu3 := hu3.on hB; clear hB)
      | (go_at_call 17; refine (lknds_any b (some ⟨g2, 0, none⟩) bl c2 _ HL2.out.symm hu2 (by omega) hS.j).mono ?_; rintro e w8 ⟨⟨kb, kd, rfl, hul⟩, hB⟩; replace hS := hS.kB hB; replace hz0 := hS.z0; replace hz1 := hS.z1; replace hu1 := hu1.on hB; replace hu2 := hu2.on hB; replace hu3 := hu3.on hB; replace huk := huk.on hB; clear hB)
      | (go_at_call 16; refine (samek_any (a.map (·.k)) (b.map (·.k)) ka kb bl bl kc kd _ HK1.out HK2.out huk hul (by omega) (by omega)).mono ?_; rintro e w9 ⟨rfl, hB⟩; rw [HKD.out]; replace hS := hS.kB hB; replace hz0 := hS.z0; replace hz1 := hS.z1; replace hu1 := hu1.on hB; replace hu2 := hu2.on hB; replace hu3 := hu3.on hB; clear hB)
      | (go_at_call 13; refine (samev_any b b (some ⟨g3, 0, none⟩) (some ⟨g2, 0, none⟩) bl bl _ _ _ HL2.out.symm HL2.out.symm hu3 hu2 (by omega) (by omega)).mono ?_; rintro e w10 ⟨rfl, hB⟩; rw [same_kn]; replace hS := hS.kB hB; replace hz0 := hS.z0; replace hz1 := hS.z1; clear hB)
      | (go_at_call 10; refine (lives_any _ hS.j).mono ?_; rintro e w11 ⟨rfl, hB⟩))
     go_ret
     exact ⟨rfl, bstep hS.bw hB⟩
    ·have y1 : (y != 0) = true := by simpa using hy0
     rw [if_pos hy0] at hrv
     have HE3 := Lib.hid hrv
     clear hrv hy0
     go_wp2_with (first
      | (clear t1; go_at_call 12; refine (HC.out _ hS.bw).mono ?_; rintro e w4 hP; obtain ⟨⟨v4, rfl, hV4⟩, hB⟩ := hP.1 _ HE1.out; obtain ⟨g1, c1, rfl, hu1⟩ := hV4.vals; rw [HL1.out]; clear hP hV4; replace hS := hS.kB hB; replace hz0 := hS.z0; replace hz1 := hS.z1; clear hB)
      | (clear t2; go_at_call 12; refine (HD.out _ hS.bw).mono ?_; rintro e w5 hP; obtain ⟨⟨v5, rfl, hV5⟩, hB⟩ := hP.1 _ HE2.out; obtain ⟨g2, c2, rfl, hu2⟩ := hV5.vals; rw [HL2.out]; clear hP hV5; replace hS := hS.kB hB; replace hz0 := hS.z0; replace hz1 := hS.z1; replace hu1 := hu1.on hB; clear hB)
      | (go_at_call 12; refine (HV.out _ hS.br).mono ?_; rintro e w6 hP; obtain ⟨⟨v6, rfl, hV6⟩, hB⟩ := hP.1 _ HE3.out; obtain ⟨g3, c3, rfl, hu3⟩ := hV6.vals; rw [HL1.out]; clear hP hV6; replace hS := hS.kB hB; replace hz0 := hS.z0; replace hz1 := hS.z1; replace hu1 := hu1.on hB; replace hu2 := hu2.on hB; clear hB)
      | (clear t3; go_at_call 17; refine (lknds_any a (some ⟨g1, 0, none⟩) bl c1 _ HL1.out.symm hu1 (by omega) hS.j).mono ?_; rintro e w7 ⟨⟨ka, kc, rfl, huk⟩, hB⟩; replace hS := hS.kB hB; replace hz0 := hS.z0; replace hz1 := hS.z1; replace hu1 := hu1.on hB; replace hu2 := hu2.on hB; replace hu3 := hu3.on hB; clear hB)
      | (go_at_call 17; refine (lknds_any b (some ⟨g2, 0, none⟩) bl c2 _ HL2.out.symm hu2 (by omega) hS.j).mono ?_; rintro e w8 ⟨⟨kb, kd, rfl, hul⟩, hB⟩; replace hS := hS.kB hB; replace hz0 := hS.z0; replace hz1 := hS.z1; replace hu1 := hu1.on hB; replace hu2 := hu2.on hB; replace hu3 := hu3.on hB; replace huk := huk.on hB; clear hB)
      | (go_at_call 16; refine (samek_any (a.map (·.k)) (b.map (·.k)) ka kb bl bl kc kd _ HK1.out HK2.out huk hul (by omega) (by omega)).mono ?_; rintro e w9 ⟨rfl, hB⟩; rw [HKD.out]; replace hS := hS.kB hB; replace hz0 := hS.z0; replace hz1 := hS.z1; replace hu1 := hu1.on hB; replace hu2 := hu2.on hB; replace hu3 := hu3.on hB; clear hB)
      | (go_at_call 13; refine (samev_any a a (some ⟨g3, 0, none⟩) (some ⟨g1, 0, none⟩) bl bl _ _ _ HL1.out.symm HL1.out.symm hu3 hu1 (by omega) (by omega)).mono ?_; rintro e w10 ⟨rfl, hB⟩; rw [same_kn]; replace hS := hS.kB hB; replace hz0 := hS.z0; replace hz1 := hS.z1; clear hB)
      | (go_at_call 10; refine (lives_any _ hS.j).mono ?_; rintro e w11 ⟨rfl, hB⟩))
     go_ret
     exact ⟨rfl, bstep hS.bw hB⟩
   ·cases hrv : runF NN (choice y c d) ins with
    | ok u => exact absurd (hLAW.2 u hrv) hg
    | error ev =>
     have HE3 := Lib.hid hrv
     have hev := run_ne hrv
     have e3 : (ev != 0) = true := by simpa using hev
     clear hrv hev hLAW
     cases hra : runF NN c ins with
     | error ea =>
      have HE1 := Lib.hid hra
      have hea := run_ne hra
      have e1 : (ea != 0) = true := by simpa using hea
      clear hg hea hra
      cases hrb : runF NN d ins with
      | error eb =>
       have HE2 := Lib.hid hrb
       clear hrb
       go_wp2_with (first
        | (clear t1; go_at_call 12; refine (HC.out _ hS.bw).mono ?_; rintro e w4 hP; obtain ⟨rfl, hB⟩ := hP.2 _ HE1.out; clear hP; replace hS := hS.kB hB; replace hz0 := hS.z0; replace hz1 := hS.z1; clear hB)
        | (clear t2; go_at_call 12; refine (HD.out _ hS.bw).mono ?_; rintro e w5 hP; obtain ⟨rfl, hB⟩ := hP.2 _ HE2.out; clear hP; replace hS := hS.kB hB; replace hz0 := hS.z0; replace hz1 := hS.z1; clear hB)
        | (go_at_call 12; refine (HV.out _ hS.br).mono ?_; rintro e w6 hP; obtain ⟨rfl, hB⟩ := hP.2 _ HE3.out; clear hP; replace hS := hS.kB hB; replace hz0 := hS.z0; replace hz1 := hS.z1; clear hB)
        | (go_at_call 10; refine (lives_any _ hS.j).mono ?_; rintro e w11 ⟨rfl, hB⟩))
       go_ret
       exact ⟨rfl, bstep hS.bw hB⟩
      | ok b =>
       have HE2 := Lib.hid hrb
       obtain ⟨bl, hbl⟩ : ∃ n, b.length = n := ⟨_, rfl⟩
       have HL2 := Lib.hid hbl
       clear hrb hbl
       go_wp2_with (first
        | (clear t1; go_at_call 12; refine (HC.out _ hS.bw).mono ?_; rintro e w4 hP; obtain ⟨rfl, hB⟩ := hP.2 _ HE1.out; clear hP; replace hS := hS.kB hB; replace hz0 := hS.z0; replace hz1 := hS.z1; clear hB)
        | (clear t2; go_at_call 12; refine (HD.out _ hS.bw).mono ?_; rintro e w5 hP; obtain ⟨⟨v5, rfl, hV5⟩, hB⟩ := hP.1 _ HE2.out; obtain ⟨g2, c2, rfl, hu2⟩ := hV5.vals; rw [HL2.out]; clear hP hV5; replace hS := hS.kB hB; replace hz0 := hS.z0; replace hz1 := hS.z1; clear hB)
        | (go_at_call 12; refine (HV.out _ hS.br).mono ?_; rintro e w6 hP; obtain ⟨rfl, hB⟩ := hP.2 _ HE3.out; clear hP; replace hS := hS.kB hB; replace hz0 := hS.z0; replace hz1 := hS.z1; replace hu2 := hu2.on hB; clear hB)
        | (go_at_call 10; refine (lives_any _ hS.j).mono ?_; rintro e w11 ⟨rfl, hB⟩))
       go_ret
       exact ⟨rfl, bstep hS.bw hB⟩
     | ok a =>
      have HE1 := Lib.hid hra
      obtain ⟨al, hal⟩ : ∃ n, a.length = n := ⟨_, rfl⟩
      have ha100 := HLC.out a hra
      rw [hal] at ha100
      have HL1 := Lib.hid hal
      have HK1 := Lib.hid (show al = (a.map (·.k)).length by rw [List.length_map]; exact hal.symm)
      clear hal
      cases hrb : runF NN d ins with
      | error eb =>
       have HE2 := Lib.hid hrb
       have heb := run_ne hrb
       have e2 : (eb != 0) = true := by simpa using heb
       clear hg heb hrb hra
       go_wp2_with (first
        | (clear t1; go_at_call 12; refine (HC.out _ hS.bw).mono ?_; rintro e w4 hP; obtain ⟨⟨v4, rfl, hV4⟩, hB⟩ := hP.1 _ HE1.out; obtain ⟨g1, c1, rfl, hu1⟩ := hV4.vals; rw [HL1.out]; clear hP hV4; replace hS := hS.kB hB; replace hz0 := hS.z0; replace hz1 := hS.z1; clear hB)
        | (clear t2; go_at_call 12; refine (HD.out _ hS.bw).mono ?_; rintro e w5 hP; obtain ⟨rfl, hB⟩ := hP.2 _ HE2.out; clear hP; replace hS := hS.kB hB; replace hz0 := hS.z0; replace hz1 := hS.z1; replace hu1 := hu1.on hB; clear hB)
        | (go_at_call 12; refine (HV.out _ hS.br).mono ?_; rintro e w6 hP; obtain ⟨rfl, hB⟩ := hP.2 _ HE3.out; clear hP; replace hS := hS.kB hB; replace hz0 := hS.z0; replace hz1 := hS.z1; replace hu1 := hu1.on hB; clear hB)
        | (go_at_call 10; refine (lives_any _ hS.j).mono ?_; rintro e w11 ⟨rfl, hB⟩))
       go_ret
       exact ⟨rfl, bstep hS.bw hB⟩
      | ok b =>
       have HE2 := Lib.hid hrb
       have hb100 := HAL.out d (HPK.out 1 (by omega) |> fun ⟨_, _, _, _, _, h⟩ => (h.isd rfl) ▸ h.ck) b hrb
       obtain ⟨bl, hbl⟩ : ∃ n, b.length = n := ⟨_, rfl⟩
       rw [hbl] at hb100
       have HL2 := Lib.hid hbl
       have HK2 := Lib.hid (show bl = (b.map (·.k)).length by rw [List.length_map]; exact hbl.symm)
       have HKD := Lib.hid (show decide (a.map (·.k) = b.map (·.k)) = false by simp only [decide_eq_false_iff_not]; exact fun q => hg ⟨a, b, hra, hrb, q⟩)
       clear hg hra hrb hbl
       go_wp2_with (first
        | (clear t1; go_at_call 12; refine (HC.out _ hS.bw).mono ?_; rintro e w4 hP; obtain ⟨⟨v4, rfl, hV4⟩, hB⟩ := hP.1 _ HE1.out; obtain ⟨g1, c1, rfl, hu1⟩ := hV4.vals; rw [HL1.out]; clear hP hV4; replace hS := hS.kB hB; replace hz0 := hS.z0; replace hz1 := hS.z1; clear hB)
        | (clear t2; go_at_call 12; refine (HD.out _ hS.bw).mono ?_; rintro e w5 hP; obtain ⟨⟨v5, rfl, hV5⟩, hB⟩ := hP.1 _ HE2.out; obtain ⟨g2, c2, rfl, hu2⟩ := hV5.vals; rw [HL2.out]; clear hP hV5; replace hS := hS.kB hB; replace hz0 := hS.z0; replace hz1 := hS.z1; replace hu1 := hu1.on hB; clear hB)
        | (go_at_call 12; refine (HV.out _ hS.br).mono ?_; rintro e w6 hP; obtain ⟨rfl, hB⟩ := hP.2 _ HE3.out; clear hP; replace hS := hS.kB hB; replace hz0 := hS.z0; replace hz1 := hS.z1; replace hu1 := hu1.on hB; replace hu2 := hu2.on hB; clear hB)
        | (clear t3; go_at_call 17; refine (lknds_any a (some ⟨g1, 0, none⟩) al c1 _ HL1.out.symm hu1 (by omega) hS.j).mono ?_; rintro e w7 ⟨⟨ka, kc, rfl, huk⟩, hB⟩; replace hS := hS.kB hB; replace hz0 := hS.z0; replace hz1 := hS.z1; replace hu1 := hu1.on hB; replace hu2 := hu2.on hB; clear hB)
        | (go_at_call 17; refine (lknds_any b (some ⟨g2, 0, none⟩) bl c2 _ HL2.out.symm hu2 (by omega) hS.j).mono ?_; rintro e w8 ⟨⟨kb, kd, rfl, hul⟩, hB⟩; replace hS := hS.kB hB; replace hz0 := hS.z0; replace hz1 := hS.z1; replace hu1 := hu1.on hB; replace hu2 := hu2.on hB; replace huk := huk.on hB; clear hB)
        | (go_at_call 16; refine (samek_any (a.map (·.k)) (b.map (·.k)) ka kb al bl kc kd _ HK1.out HK2.out huk hul (by omega) (by omega)).mono ?_; rintro e w9 ⟨rfl, hB⟩; rw [HKD.out]; replace hS := hS.kB hB; replace hz0 := hS.z0; replace hz1 := hS.z1; replace hu1 := hu1.on hB; replace hu2 := hu2.on hB; clear hB)
        | (go_at_call 10; refine (lives_any _ hS.j).mono ?_; rintro e w11 ⟨rfl, hB⟩))
       go_ret
       exact ⟨rfl, bstep hS.bw hB⟩
theorem walk_unless : WalkT 8 [22, 22, 50] := by
 intro H enc W base b0 spare held args ds p hval hA hj
 obtain ⟨v, v', v'', d, d', d'', p1, p2, p3, rfl, _, _, ⟨f1, hd⟩, ⟨f2, hd'⟩, ⟨f3, hd''⟩⟩ := Go.ChangeShapes.trodAll_three hA
 obtain ⟨ad, m, cap, rfl, ec⟩ := arg_slice Tryz.underlying22 (hval 0 _ v rfl rfl)
 obtain ⟨dd, md, dap, rfl, ec'⟩ := arg_slice Tryz.underlying22 (hval 1 _ v' rfl rfl)
 obtain ⟨cs, rfl, _⟩ := Go.WideShapes.okWide_struct Tryz.underlying50 (hval 2 _ v'' rfl rfl)
 rw [ec] at hd
 rw [ec'] at hd'
 obtain ⟨_, _, _, c, e1, hm, hc, hok, _⟩ := cods_arg hd
 obtain ⟨_, _, _, c', e2, hm', hc', hok', _⟩ := cods_arg hd'
 cases e1
 cases e2
 simp only [Value.cells] at hd''
 obtain ⟨zs, n, e3, _, hlen, hzs, hf⟩ := DataW.trod_struct Tryz.underlying50 hd''
 rw [show Tryz.prog.cellsOf 50 = 2 by kernel_rfl] at hlen
 match zs, hzs, cs, hlen with
 | [z0, z1], _, ⟨[c0, c1]⟩, _ =>
  have g0 := hf 0 _ rfl
  have g1 := hf 1 _ rfl
  simp only [show Tryz.prog.cellsOf 21 = 1 by kernel_rfl, show Tryz.prog.cellsOf 23 = 1 by kernel_rfl, List.drop_zero, List.drop_succ_cons, List.take_succ_cons, List.take_zero, List.getElem?_cons_zero, List.getElem?_cons_succ] at g0 g1
  obtain ⟨y, e4, _, hy⟩ := DataW.trod_int Tryz.underlying21 g0
  obtain ⟨ai, mi, cai, ins, e5, hmi, hfx, hfj, _⟩ := fixs_arg g1
  cases e4
  cases e5
  exact lunless_any y c c' ins ad dd ai m cap md dap mi cai W hm hm' hmi hc hok hc' hok' hfx hfj (wf_j32 hy) hj
end Go.Proofs.YtcjllibeaiofpaaGreatDoor
