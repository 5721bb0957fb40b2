/-
  Machines: the table of operators, walked.
-/
import Derived.Test.YtcjllibeaiofpaaGreatDoorGm
set_option linter.all false
set_option maxRecDepth 100000
namespace Go.Proofs.YtcjllibeaiofpaaGreatDoor
open Go.RowKit Mach
def Ks (w : World) (ad : Addr) (xs : List Int) : Prop := ∀ j x, xs[j]? = some x -> w.cell? (ad.add j) = some (.int .u8 x)
def updL (g : Int -> Option DW) (xs : List Int) (d : DW) : Int -> Option DW := fun y => if y ∈ xs then some d else g y
theorem updL_nil (g : Int -> Option DW) (d : DW) : updL g [] d = g := by funext y; simp [updL]
theorem updL_take (g : Int -> Option DW) (xs : List Int) (d : DW) {k : Nat} {x : Int} (h : xs[k]? = some x) : (fun y => if y = x then some d else updL g (xs.take k) d y) = updL g (xs.take (k + 1)) d := by
 funext y
 unfold updL
 rw [List.take_succ, h]
 simp only [Option.toList, List.mem_append, List.mem_singleton]
 by_cases c : y = x
 ·simp [c]
 ·simp [c]
set_option maxHeartbeats 1000000 in
theorem put_any (t : Int) (f : Nat) (xs : List Int) (bl off m c vb mb n : Nat) (g : Int -> Option DW) (w : World) (hm : m = xs.length) (hx : Ks w ⟨bl, off, none⟩ xs) (hk : ∀ x ∈ xs, 0 <= x /\ x <= 255)
  (hbl : bl < w.heap.size) (hbm : bl ≠ mb) (hvl : vb < w.heap.size) (hvm : vb ≠ mb) (hv : w.cell? ⟨vb, 0, none⟩ = some (.map (some mb))) (hM : MapO oRd w mb n g) (hn : n + m <= 1000) :
  Calls Tryz.prog 45 #[.agg #[.int .i64 t, .func (.func f) #[] #[]], .slice (some ⟨bl, off, none⟩) m c, .pointer (some ⟨vb, 0, none⟩)] w fun e w' =>
   e = .returned (.tuple #[]) /\ MapO oRd w' mb (n + m) (updL g xs (.agg [.lit (.int .i64 t), .lit (.int .i64 f)])) /\ w.grownBy w' (some mb) := by
 have hml := mapO_lt hM
 have HM := Lib.hid hm
 have HX := Lib.hid hx
 have HK := Lib.hid hk
 have hM0 := Lib.hid (mapO_of hM (show (w.alloc (.cells #[.int .i64 t, .func (.func f) #[] #[]] 76)).heap[mb]? = w.heap[mb]? from (World.grownBy_alloc w _ none).block mb hml (by simp)))
 have hG0 := World.grownBy_alloc w (.cells #[.int .i64 t, .func (.func f) #[] #[]] 76) (some mb)
 clear hm hx hk hM
 go_enter Tryz.func45, Tryz.ntmps45
 go_wp2
 go_loopw [9] (fun i V => ∃ k : Nat, k <= m /\ i = .int .i64 k /\ MapO oRd V mb (n + k) (updL g (xs.take k) (.agg [.lit (.int .i64 t), .lit (.int .i64 f)])) /\ w.grownBy V (some mb) /\ V.cell? ⟨w.heap.size, 0, none⟩ = some (.int .i64 t) /\ V.cell? ⟨w.heap.size, 1, none⟩ = some (.func (.func f) #[] #[]) /\ w.heap.size < V.heap.size) (fun i _ => m - (intOf i).toNat)
 case atStart => exact ⟨0, by omega, rfl, by rw [List.take_zero, updL_nil]; exact hM0.out, hG0, by simp [go_sem], by simp [go_sem], by simp⟩
 case round =>
  obtain ⟨k, hk, rfl, hMk, hGk, q0, q1, qs⟩ := hrel
  have HMk := Lib.hid hMk
  clear hMk
  by_cases hlt : k < m
  ·have hxk : xs[k]? = some (xs[k]'(by have := HM.out; omega)) := List.getElem?_eq_getElem (by have := HM.out; omega)
   generalize xs[k]'(by have := HM.out; omega) = x at hxk
   have hkx := HK.out x (List.mem_of_getElem? hxk)
   have hc : wr.cell? ⟨bl, off + k, none⟩ = some (.int .u8 x) := hGk.cell (by have := HX.out k x hxk; rw [Addr.add_lit] at this; exact this) (by simp; exact hbm)
   have hcv : wr.cell? ⟨vb, 0, none⟩ = some (.map (some mb)) := hGk.cell hv (by simp; exact hvm)
   have hG0' := hGk
   go_wp2_with (refine wpList_update_o (R := oRd) _ rfl _ _ _ 62 rfl 76 Tryz.underlying62 mb (n + k) _ x rfl HMk.out (by unfold maxLen; omega) rfl hkx.1 hkx.2 _ rfl _ [] (oRd_fn t f) ?_; intro w2 hM2 hg2 hz2; have HM2 := Lib.hid hM2; clear hM2)
   go_roundw
   case rel => exact ⟨k + 1, by omega, by go_num, by rw [<- updL_take g xs _ hxk]; exact HM2.out, hGk.trans hg2, hg2.cell q0 (by simp; omega), hg2.cell q1 (by simp; omega), by omega⟩
   case measure => simp [intOf]; omega
  ·obtain rfl : k = m := by omega
   go_wp2
   refine bodyPost_end (v := .tuple #[]) (by simp [results, Tryz.f45]) rfl ?_
   refine ⟨rfl, ?_, hGk⟩
   have := HMk.out
   rwa [List.take_of_length_le (by have := HM.out; omega)] at this
def ent (t : Int) (f : Nat) : DW := .agg [.lit (.int .i64 t), .lit (.int .i64 f)]
def fnOf (cl : Nat) : Nat :=
 match cl with
 | 0 => 46
 | 1 => 36
 | 2 => 37
 | 3 => 47
 | 4 => 48
 | 5 => 49
 | 6 => 38
 | 7 => 50
 | 8 => 51
 | 9 => 52
 | 10 => 53
 | 11 => 54
 | 12 => 39
 | 13 => 40
 | 14 => 41
 | 15 => 42
 | 16 => 43
 | 17 => 44
 | _ => 0
def opG (x : Int) : Option DW := (opTab x).map fun p => ent p.1 (fnOf p.2)
def g10 : Int -> Option DW := fun y => if y = 36 then some (ent 2 44) else if y = 24 then some (ent 1 43) else if y = 11 then some (ent 1 42) else if y = 18 then some (ent 2 41) else if y = 16 then some (ent 1 40) else if y = 35 then some (ent 1 36) else if y = 33 then some (ent 1 39) else if y = 13 then some (ent 1 38) else if y = 4 then some (ent 1 37) else if y = 3 then some (ent 0 36) else none
def gF : Int -> Option DW := (updL (updL (updL (updL (updL (updL (updL (updL (updL g10 [0, 1, 2] (ent 0 46)) [5, 32] (ent 1 47)) [10, 20, 37, 41] (ent 1 48)) [38, 12, 39, 26, 27, 14] (ent 1 49)) [6, 40, 30] (ent 2 50)) [15, 19, 8] (ent 2 51)) [23, 29, 9] (ent 2 52)) [7, 34, 42] (ent 2 53)) [17, 31, 28, 25, 22, 21] (ent 2 54))
theorem gF_eq : gF = opG := by
 funext x
 by_cases h : 0 <= x /\ x <= 42
 ·have : x = 0 \/ x = 1 \/ x = 2 \/ x = 3 \/ x = 4 \/ x = 5 \/ x = 6 \/ x = 7 \/ x = 8 \/ x = 9 \/ x = 10 \/ x = 11 \/ x = 12 \/ x = 13 \/ x = 14 \/ x = 15 \/ x = 16 \/ x = 17 \/ x = 18 \/ x = 19 \/ x = 20 \/ x = 21 \/ x = 22 \/ x = 23 \/ x = 24 \/ x = 25 \/ x = 26 \/ x = 27 \/ x = 28 \/ x = 29 \/ x = 30 \/ x = 31 \/ x = 32 \/ x = 33 \/ x = 34 \/ x = 35 \/ x = 36 \/ x = 37 \/ x = 38 \/ x = 39 \/ x = 40 \/ x = 41 \/ x = 42 := by omega
  rcases this with rfl | rfl | rfl | rfl | rfl | rfl | rfl | rfl | rfl | rfl | rfl | rfl | rfl | rfl | rfl | rfl | rfl | rfl | rfl | rfl | rfl | rfl | rfl | rfl | rfl | rfl | rfl | rfl | rfl | rfl | rfl | rfl | rfl | rfl | rfl | rfl | rfl | rfl | rfl | rfl | rfl | rfl | rfl
  all_goals rfl
 ·have hn : ∀ i : Int, 0 <= i -> i <= 42 -> ¬ x = i := fun i h0 h1 e => h (by omega)
  have e1 : opG x = none := by
   unfold opG opTab
   simp [hn 0 (by decide) (by decide), hn 1 (by decide) (by decide), hn 2 (by decide) (by decide), hn 3 (by decide) (by decide), hn 4 (by decide) (by decide), hn 5 (by decide) (by decide), hn 6 (by decide) (by decide), hn 7 (by decide) (by decide), hn 8 (by decide) (by decide), hn 9 (by decide) (by decide), hn 10 (by decide) (by decide), hn 11 (by decide) (by decide), hn 12 (by decide) (by decide), hn 13 (by decide) (by decide), hn 14 (by decide) (by decide), hn 15 (by decide) (by decide), hn 16 (by decide) (by decide), hn 17 (by decide) (by decide), hn 18 (by decide) (by decide), hn 19 (by decide) (by decide), hn 20 (by decide) (by decide), hn 21 (by decide) (by decide), hn 22 (by decide) (by decide), hn 23 (by decide) (by decide), hn 24 (by decide) (by decide), hn 25 (by decide) (by decide), hn 26 (by decide) (by decide), hn 27 (by decide) (by decide), hn 28 (by decide) (by decide), hn 29 (by decide) (by decide), hn 30 (by decide) (by decide), hn 31 (by decide) (by decide), hn 32 (by decide) (by decide), hn 33 (by decide) (by decide), hn 34 (by decide) (by decide), hn 35 (by decide) (by decide), hn 36 (by decide) (by decide), hn 37 (by decide) (by decide), hn 38 (by decide) (by decide), hn 39 (by decide) (by decide), hn 40 (by decide) (by decide), hn 41 (by decide) (by decide), hn 42 (by decide) (by decide)]
  rw [e1]
  unfold gF updL g10
  simp [hn 0 (by decide) (by decide), hn 1 (by decide) (by decide), hn 2 (by decide) (by decide), hn 3 (by decide) (by decide), hn 4 (by decide) (by decide), hn 5 (by decide) (by decide), hn 6 (by decide) (by decide), hn 7 (by decide) (by decide), hn 8 (by decide) (by decide), hn 9 (by decide) (by decide), hn 10 (by decide) (by decide), hn 11 (by decide) (by decide), hn 12 (by decide) (by decide), hn 13 (by decide) (by decide), hn 14 (by decide) (by decide), hn 15 (by decide) (by decide), hn 16 (by decide) (by decide), hn 17 (by decide) (by decide), hn 18 (by decide) (by decide), hn 19 (by decide) (by decide), hn 20 (by decide) (by decide), hn 21 (by decide) (by decide), hn 22 (by decide) (by decide), hn 23 (by decide) (by decide), hn 24 (by decide) (by decide), hn 25 (by decide) (by decide), hn 26 (by decide) (by decide), hn 27 (by decide) (by decide), hn 28 (by decide) (by decide), hn 29 (by decide) (by decide), hn 30 (by decide) (by decide), hn 31 (by decide) (by decide), hn 32 (by decide) (by decide), hn 33 (by decide) (by decide), hn 34 (by decide) (by decide), hn 35 (by decide) (by decide), hn 36 (by decide) (by decide), hn 37 (by decide) (by decide), hn 38 (by decide) (by decide), hn 39 (by decide) (by decide), hn 40 (by decide) (by decide), hn 41 (by decide) (by decide), hn 42 (by decide) (by decide)]
structure OT (w V : World) (mb vb n : Nat) (g : Int -> Option DW) : Prop where
 m : MapO oRd V mb n g
 b : Below w.heap.size w V
 c : V.cell? ⟨vb, 0, none⟩ = some (.map (some mb))
 l : vb < V.heap.size
 s : w.heap.size <= mb
 v : vb ≠ mb
theorem put_step (t : Int) (f : Nat) (xs : List Int) {w V : World} {mb vb n : Nat} {g : Int -> Option DW} (h : OT w V mb vb n g) (ks : Array Value) (ty : TypeId) (bl : Nat) (hbl : bl = V.heap.size) (m : Nat) (hm : m = xs.length) (hks : ks = (xs.map (Value.int .u8)).toArray) (hk : ∀ x ∈ xs, 0 <= x /\ x <= 255) (hn : n + m <= 1000) :
  Calls Tryz.prog 45 #[.agg #[.int .i64 t, .func (.func f) #[] #[]],
   .slice (some ⟨bl, 0, none⟩) m m, .pointer (some ⟨vb, 0, none⟩)] (V.alloc (.cells ks ty)) fun e w' =>
   e = .returned (.tuple #[]) /\ OT w w' mb vb (n + m) (updL g xs (ent t f)) := by
 subst hbl
 have hml := mapO_lt h.m
 have hB : Below V.heap.size V (V.alloc (.cells ks ty)) := (Below.refl _ _).alloc (Nat.le_refl _) _
 have hl := h.l
 refine (put_any t f xs V.heap.size 0 m m vb mb n g _ hm (fun j x hx => ?_) hk (by simp) (by omega) (by simp; omega) h.v ((hB.cell (p := ⟨vb, 0, none⟩) h.l).trans h.c) (mapO_of h.m (hB.block mb hml)) hn).mono ?_
 ·rw [Addr.add_lit, Nat.zero_add]
  have : ks[j]? = some (.int .u8 x) := by rw [hks]; simp [hx]
  simp [go_sem, this]
 ·rintro e w' ⟨rfl, hM, hg⟩
  have hb2 : Below w.heap.size w (V.alloc (.cells ks ty)) := h.b.alloc h.b.size _
  refine ⟨rfl, hM, ⟨hg.os.trans hb2.os, hg.tape.trans hb2.tape, hg.output.trans hb2.output, Nat.le_trans hb2.size hg.size, fun k hk => (hg.block k (Nat.lt_of_lt_of_le hk hb2.size) (by have := h.s; simp; omega)).trans (hb2.block k hk)⟩, hg.cell ((hB.cell (p := ⟨vb, 0, none⟩) h.l).trans h.c) (by simp; exact h.v), ?_, h.s, h.v⟩
  have := hg.size
  simp at this
  omega
theorem below_upd' {w W W' : World} {mb : Nat} (h : Below w.heap.size w W) (hm : w.heap.size <= mb) (g : W.grownBy W' (some mb)) : Below w.heap.size w W' :=
 ⟨g.os.trans h.os, g.tape.trans h.tape, g.output.trans h.output, Nat.le_trans h.size g.size, fun k hk => (g.block k (Nat.lt_of_lt_of_le hk h.size) (by simp; omega)).trans (h.block k hk)⟩
theorem ot_of {w W : World} {n : Nat} {g : Int -> Option DW} (hB : Below w.heap.size w W) (hM : MapO oRd W w.heap.size n g) (ty : TypeId) : OT w (W.alloc (.cells #[.map (some w.heap.size)] ty)) w.heap.size W.heap.size n g := by
 have hl := mapO_lt hM
 exact ⟨mapO_of hM ((World.grownBy_alloc W _ none).block _ hl (by simp)), hB.alloc hB.size _, by simp [go_sem], by simp, Nat.le_refl _, by omega⟩
set_option maxHeartbeats 4000000 in
theorem ops_any (w : World) : Calls Tryz.prog 23 #[] w fun e w' => ∃ mb n, e = .returned (.map (some mb)) /\ MapO oRd w' mb n opG /\ Below w.heap.size w w' /\ w.heap.size <= mb := by
 have hmm := @run_makeMap Tryz.prog
 have hmf : ∀ (fn : Fn) (first cap : Array Value) (w : World), (Instr.makeFunc fn first cap).run Tryz.prog w = .ok (.func fn first cap) w := fun _ _ _ _ => rfl
 have hM := Lib.hid (mapO_made w oRd)
 have hG := Lib.hid ((Below.refl w.heap.size w).alloc (Nat.le_refl _) (.map #[] 0))
 go_enter Tryz.func23, Tryz.ntmps23
 go_wp2_with (first
  | (refine wpList_insert_o (R := oRd) _ rfl _ _ _ 62 rfl 76 Tryz.underlying62 w.heap.size _ _ _ rfl hM.out (by unfold maxLen; omega) rfl (by decide) (by decide) _ rfl _ [] (oRd_fn _ _) ?_; clear hM; intro wm hm hg hz; have hM := Lib.hid hm; clear hm; replace hG := Lib.hid (below_upd' hG.out (Nat.le_refl _) hg); clear hg hz)
  | (go_at_call 45; have hO0 := Lib.hid (ot_of hG.out hM.out 62); clear hM hG; refine (put_step 0 46 [0, 1, 2] hO0.out _ _ _ (by simp) 3 rfl rfl (by decide) (by decide)).mono ?_; clear hO0; rintro e wp1 ⟨rfl, hp1⟩; have hO1 := Lib.hid hp1; clear hp1)
  | (go_at_call 45; refine (put_step 1 47 [5, 32] hO1.out _ _ _ rfl 2 rfl rfl (by decide) (by decide)).mono ?_; clear hO1; rintro e wp2 ⟨rfl, hp2⟩; have hO2 := Lib.hid hp2; clear hp2)
  | (go_at_call 45; refine (put_step 1 48 [10, 20, 37, 41] hO2.out _ _ _ rfl 4 rfl rfl (by decide) (by decide)).mono ?_; clear hO2; rintro e wp3 ⟨rfl, hp3⟩; have hO3 := Lib.hid hp3; clear hp3)
  | (go_at_call 45; refine (put_step 1 49 [38, 12, 39, 26, 27, 14] hO3.out _ _ _ rfl 6 rfl rfl (by decide) (by decide)).mono ?_; clear hO3; rintro e wp4 ⟨rfl, hp4⟩; have hO4 := Lib.hid hp4; clear hp4)
  | (go_at_call 45; refine (put_step 2 50 [6, 40, 30] hO4.out _ _ _ rfl 3 rfl rfl (by decide) (by decide)).mono ?_; clear hO4; rintro e wp5 ⟨rfl, hp5⟩; have hO5 := Lib.hid hp5; clear hp5)
  | (go_at_call 45; refine (put_step 2 51 [15, 19, 8] hO5.out _ _ _ rfl 3 rfl rfl (by decide) (by decide)).mono ?_; clear hO5; rintro e wp6 ⟨rfl, hp6⟩; have hO6 := Lib.hid hp6; clear hp6)
  | (go_at_call 45; refine (put_step 2 52 [23, 29, 9] hO6.out _ _ _ rfl 3 rfl rfl (by decide) (by decide)).mono ?_; clear hO6; rintro e wp7 ⟨rfl, hp7⟩; have hO7 := Lib.hid hp7; clear hp7)
  | (go_at_call 45; refine (put_step 2 53 [7, 34, 42] hO7.out _ _ _ rfl 3 rfl rfl (by decide) (by decide)).mono ?_; clear hO7; rintro e wp8 ⟨rfl, hp8⟩; have hO8 := Lib.hid hp8; clear hp8)
  | (go_at_call 45; refine (put_step 2 54 [17, 31, 28, 25, 22, 21] hO8.out _ _ _ rfl 6 rfl rfl (by decide) (by decide)).mono ?_; clear hO8; rintro e wp9 ⟨rfl, hp9⟩; have hO9 := Lib.hid hp9; clear hp9; have q0 := hO9.out.c))
 go_ret
 have hm9 := hO9.out.m
 have hm : MapO oRd wp9 w.heap.size _ gF := hm9
 rw [gF_eq] at hm
 exact ⟨_, _, rfl, hm, hO9.out.b, hO9.out.s⟩
end Go.Proofs.YtcjllibeaiofpaaGreatDoor
