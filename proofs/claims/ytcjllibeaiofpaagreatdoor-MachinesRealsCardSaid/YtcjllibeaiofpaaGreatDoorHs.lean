/-
  Machines: MachinesReals, walked.
-/
import Derived.Test.YtcjllibeaiofpaaGreatDoorHq
import Derived.Test.YtcjllibeaiofpaaGreatDoorHt
set_option linter.all false
set_option maxRecDepth 100000
namespace Go.Proofs.YtcjllibeaiofpaaGreatDoor
open Go.RowKit Mach
theorem fj1 {a : Int} (ha : J32 a) : ∀ x ∈ [a], J32 x := fun x hx => by simp at hx; subst hx; exact ha
theorem fj2 {a b : Int} (ha : J32 a) (hb : J32 b) : ∀ x ∈ [a, b], J32 x := fun x hx => by
 simp at hx
 rcases hx with rfl | rfl
 ·exact ha
 ·exact hb
set_option maxHeartbeats 8000000 in
theorem lreals_any (a b n : Int) (w : World) (ha : J32 a) (hb : J32 b) (hn : -32768 <= n /\ n <= 32767) (hj : Sx.J w) :
  Calls Tryz.prog 9 #[.int .i32 a, .int .i32 b, .int .i16 n] w (LV w) := by
 have hnj : J32 n := ⟨by omega, by omega⟩
 have X1 := Lib.hid (run_new2 [⟨6, 0⟩] [a, b] [real (clp (a + b))] #[.int .u8 6, .int .i32 0] #[.int .i32 a, .int .i32 b] 1 2 1 rfl rfl rfl rfl rfl (by simp) (by simp) (codok_cons (by decide) j0 codok_nil) (fj2 ha hb) (by rw [sum_law (.inl rfl)]; rfl))
 have X2 := Lib.hid (run_new2 [⟨40, 0⟩] [a, b] [real (clp (a - b))] #[.int .u8 40, .int .i32 0] #[.int .i32 a, .int .i32 b] 1 2 1 rfl rfl rfl rfl rfl (by simp) (by simp) (codok_cons (by decide) j0 codok_nil) (fj2 ha hb) (by rw [sum_law (.inr (.inl rfl))]; rfl))
 have X3 := Lib.hid (run_new2 [⟨30, 0⟩] [a, b] [real (clp (mulR a b))] #[.int .u8 30, .int .i32 0] #[.int .i32 a, .int .i32 b] 1 2 1 rfl rfl rfl rfl rfl (by simp) (by simp) (codok_cons (by decide) j0 codok_nil) (fj2 ha hb) (by rw [sum_law (.inr (.inr rfl))]; rfl))
 have X4 := Lib.hid (run_new2 [⟨20, 0⟩] [a] [real (cutR a 0)] #[.int .u8 20, .int .i32 0] #[.int .i32 a] 1 1 1 rfl rfl rfl rfl rfl (by simp) (by simp) (codok_cons (by decide) j0 codok_nil) (fj1 ha) (by rw [floor_law]; exact congrArg (fun x => Except.ok [real x]) (clp_id (clp_j _))))
 have X5 := Lib.hid (run_new2 [⟨0, n⟩, ⟨6, 0⟩] [a] [real (clp (a + clp (n * 65536)))] #[.int .u8 0, .int .i32 n, .int .u8 6, .int .i32 0] #[.int .i32 a] 2 1 1 rfl rfl rfl rfl rfl (by simp) (by simp) (codok_cons (by decide) hnj (codok_cons (by decide) j0 codok_nil)) (fj1 ha) (by rw [mixed_law]; rfl))
 have X6 := Lib.hid (run_new2 [⟨28, 0⟩] [a, b] [truth (decide (a < b))] #[.int .u8 28, .int .i32 0] #[.int .i32 a, .int .i32 b] 1 2 1 rfl rfl rfl rfl rfl (by simp) (by simp) (codok_cons (by decide) j0 codok_nil) (fj2 ha hb) (below2_law a b))
 obtain ⟨y1, hy1⟩ : ∃ x, x = clp (a + b) := ⟨_, rfl⟩
 obtain ⟨y2, hy2⟩ : ∃ x, x = clp (a - b) := ⟨_, rfl⟩
 obtain ⟨y3, hy3⟩ : ∃ x, x = clp (mulR a b) := ⟨_, rfl⟩
 obtain ⟨y4, hy4⟩ : ∃ x, x = cutR a 0 := ⟨_, rfl⟩
 obtain ⟨z, hz⟩ : ∃ x, x = clp (n * 65536) := ⟨_, rfl⟩
 obtain ⟨y5, hy5⟩ : ∃ x, x = clp (a + z) := ⟨_, rfl⟩
 rw [<- hy1] at X1
 rw [<- hy2] at X2
 rw [<- hy3] at X3
 rw [<- hy4] at X4
 rw [<- hz, <- hy5] at X5
 have Y1 := Lib.hid (fun W hJ => hy1 ▸ add_any a b ha hb W hJ : ∀ W, Sx.J W -> I2 18 a b y1 W)
 have Y2 := Lib.hid (fun W hJ => hy2 ▸ sub_any a b ha hb W hJ : ∀ W, Sx.J W -> I2 19 a b y2 W)
 have Y3 := Lib.hid (fun W hJ => (mul_any a b ha hb W hJ).mono (fun e w' h => by obtain ⟨h1, h2, h3⟩ := h; rw [hy3, clp_id h2]; exact ⟨h1, h2, h3⟩) : ∀ W, Sx.J W -> I2 20 a b y3 W)
 have Y4 := Lib.hid (fun W hJ => hy4 ▸ floor_any a ha W hJ : ∀ W, Sx.J W -> I1 21 a y4 W)
 have Y6 := Lib.hid (fun W hJ => hz ▸ of_any n hn W hJ : ∀ W, Sx.J W -> Calls Tryz.prog 22 #[.int .i64 n] W fun e w' => e = .returned (.int .i32 z) /\ Below W.heap.size W w')
 have Y5 := Lib.hid (fun W hJ => hy5 ▸ add_any a z ha (hz ▸ clp_j _) W hJ : ∀ W, Sx.J W -> I2 18 a z y5 W)
 have hL : LM w w [] := ⟨Below.refl _ _, hj, fun x hx => by simp at hx⟩
 clear hy1 hy2 hy3 hy4 hy5 hz
 have hlt : (if decide (a < b) then (1 : Int) else 0) = 1 <-> a < b := by by_cases h : a < b <;> simp [h]
 have HLT := Lib.hid hlt
 clear hlt
 unfold J32 at ha hb hnj
 have t1 : True := trivial
 have t2 : True := trivial
 have t3 : True := trivial
 have t4 : True := trivial
 have t5 : True := trivial
 have t6 : True := trivial
 have t7 : True := trivial
 have t8 : True := trivial
 go_enter Tryz.func9, Tryz.ntmps9
 go_wp2_with (first
  | (go_at_call 15; refine (lop_any _ _).mono ?_; rintro e w1 ⟨rfl, hB1⟩; replace hL := (hL.kB (by first | exact Below.refl _ _ | exact (Below.refl _ _).alloc (Nat.le_refl _) _ | exact ((Below.refl _ _).alloc (Nat.le_refl _) _).alloc (by simp) _)).kB hB1; clear hB1)
  | (go_at_call 14; refine (lnum_any _ _).mono ?_; rintro e w1 ⟨rfl, hB1⟩; replace hL := (hL.kB (by first | exact Below.refl _ _ | exact (Below.refl _ _).alloc (Nat.le_refl _) _ | exact ((Below.refl _ _).alloc (Nat.le_refl _) _).alloc (by simp) _)).kB hB1; clear hB1)
  | (clear t1; go_at_call 12; refine (X1.out _ _ _ rfl (by simp) (hL.kB (by first | exact Below.refl _ _ | exact (Below.refl _ _).alloc (Nat.le_refl _) _ | exact ((Below.refl _ _).alloc (Nat.le_refl _) _).alloc (by simp) _)).j).mono ?_; rintro e w1 ⟨⟨g1, c1, rfl, hv⟩, hB1⟩; replace hL := ((hL.kB (by first | exact Below.refl _ _ | exact (Below.refl _ _).alloc (Nat.le_refl _) _ | exact ((Below.refl _ _).alloc (Nat.le_refl _) _).alloc (by simp) _)).kB hB1).add hv; clear hv hB1)
  | (clear t2; go_at_call 12; refine (X2.out _ _ _ rfl (by simp) (hL.kB (by first | exact Below.refl _ _ | exact (Below.refl _ _).alloc (Nat.le_refl _) _ | exact ((Below.refl _ _).alloc (Nat.le_refl _) _).alloc (by simp) _)).j).mono ?_; rintro e w1 ⟨⟨g2, c2, rfl, hv⟩, hB1⟩; replace hL := ((hL.kB (by first | exact Below.refl _ _ | exact (Below.refl _ _).alloc (Nat.le_refl _) _ | exact ((Below.refl _ _).alloc (Nat.le_refl _) _).alloc (by simp) _)).kB hB1).add hv; clear hv hB1)
  | (clear t3; go_at_call 12; refine (X3.out _ _ _ rfl (by simp) (hL.kB (by first | exact Below.refl _ _ | exact (Below.refl _ _).alloc (Nat.le_refl _) _ | exact ((Below.refl _ _).alloc (Nat.le_refl _) _).alloc (by simp) _)).j).mono ?_; rintro e w1 ⟨⟨g3, c3, rfl, hv⟩, hB1⟩; replace hL := ((hL.kB (by first | exact Below.refl _ _ | exact (Below.refl _ _).alloc (Nat.le_refl _) _ | exact ((Below.refl _ _).alloc (Nat.le_refl _) _).alloc (by simp) _)).kB hB1).add hv; clear hv hB1)
  | (clear t4; go_at_call 12; refine (X4.out _ _ _ rfl (by simp) (hL.kB (by first | exact Below.refl _ _ | exact (Below.refl _ _).alloc (Nat.le_refl _) _ | exact ((Below.refl _ _).alloc (Nat.le_refl _) _).alloc (by simp) _)).j).mono ?_; rintro e w1 ⟨⟨g4, c4, rfl, hv⟩, hB1⟩; replace hL := ((hL.kB (by first | exact Below.refl _ _ | exact (Below.refl _ _).alloc (Nat.le_refl _) _ | exact ((Below.refl _ _).alloc (Nat.le_refl _) _).alloc (by simp) _)).kB hB1).add hv; clear hv hB1)
  | (clear t5; go_at_call 12; refine (X5.out _ _ _ rfl (by simp) (hL.kB (by first | exact Below.refl _ _ | exact (Below.refl _ _).alloc (Nat.le_refl _) _ | exact ((Below.refl _ _).alloc (Nat.le_refl _) _).alloc (by simp) _)).j).mono ?_; rintro e w1 ⟨⟨g5, c5, rfl, hv⟩, hB1⟩; replace hL := ((hL.kB (by first | exact Below.refl _ _ | exact (Below.refl _ _).alloc (Nat.le_refl _) _ | exact ((Below.refl _ _).alloc (Nat.le_refl _) _).alloc (by simp) _)).kB hB1).add hv; clear hv hB1)
  | (clear t6; go_at_call 12; refine (X6.out _ _ _ rfl (by simp) (hL.kB (by first | exact Below.refl _ _ | exact (Below.refl _ _).alloc (Nat.le_refl _) _ | exact ((Below.refl _ _).alloc (Nat.le_refl _) _).alloc (by simp) _)).j).mono ?_; rintro e w1 ⟨⟨g6, c6, rfl, hv⟩, hB1⟩; replace hL := ((hL.kB (by first | exact Below.refl _ _ | exact (Below.refl _ _).alloc (Nat.le_refl _) _ | exact ((Below.refl _ _).alloc (Nat.le_refl _) _).alloc (by simp) _)).kB hB1).add hv; clear hv hB1)
  | (clear t7; go_at_call 18; refine (Y1.out _ hL.j).mono ?_; rintro e w1 ⟨rfl, hJ1, hB1⟩; replace hL := hL.kB hB1; clear hB1 hJ1)
  | (clear t8; go_at_call 18; refine (Y5.out _ hL.j).mono ?_; rintro e w1 ⟨rfl, hJ1, hB1⟩; replace hL := hL.kB hB1; clear hB1 hJ1)
  | (go_at_call 19; refine (Y2.out _ hL.j).mono ?_; rintro e w1 ⟨rfl, hJ1, hB1⟩; replace hL := hL.kB hB1; clear hB1 hJ1)
  | (go_at_call 20; refine (Y3.out _ hL.j).mono ?_; rintro e w1 ⟨rfl, hJ1, hB1⟩; replace hL := hL.kB hB1; clear hB1 hJ1)
  | (go_at_call 21; refine (Y4.out _ hL.j).mono ?_; rintro e w1 ⟨rfl, hJ1, hB1⟩; replace hL := hL.kB hB1; clear hB1 hJ1)
  | (go_at_call 22; refine (Y6.out _ hL.j).mono ?_; rintro e w1 ⟨rfl, hB1⟩; replace hL := hL.kB hB1; clear hB1))
 obtain ⟨hg1, p1, q1⟩ := val_one (hL.v (some ⟨g1, 0, none⟩, [real y1]) (by simp))
 obtain ⟨hg2, p2, q2⟩ := val_one (hL.v (some ⟨g2, 0, none⟩, [real y2]) (by simp))
 obtain ⟨hg3, p3, q3⟩ := val_one (hL.v (some ⟨g3, 0, none⟩, [real y3]) (by simp))
 obtain ⟨hg4, p4, q4⟩ := val_one (hL.v (some ⟨g4, 0, none⟩, [real y4]) (by simp))
 obtain ⟨hg5, p5, q5⟩ := val_one (hL.v (some ⟨g5, 0, none⟩, [real y5]) (by simp))
 obtain ⟨hg6, p6, q6⟩ := val_one (hL.v (some ⟨g6, 0, none⟩, [truth (decide (a < b))]) (by simp))
 obtain ⟨Vs, hVs⟩ : ∃ V, V = (w1.alloc (.cells #[.int .i32 y1, .int .i32 y2, .int .i32 y3, .int .i32 y4, .int .i32 y5] 36)).alloc (.cells #[.slice (some ⟨g1, 0, none⟩) 1 c1, .slice (some ⟨g2, 0, none⟩) 1 c2, .slice (some ⟨g3, 0, none⟩) 1 c3, .slice (some ⟨g4, 0, none⟩) 1 c4, .slice (some ⟨g5, 0, none⟩) 1 c5] 29) := ⟨_, rfl⟩
 have hU : Below w1.heap.size w1 Vs := hVs ▸ ((Below.refl _ _).alloc (Nat.le_refl _) _).alloc (by simp) _
 have hsz : Vs.heap.size = w1.heap.size + 2 := by rw [hVs]; simp
 have a1 : Vs.cell? ⟨w1.heap.size, 0, none⟩ = some (.int .i32 y1) := by rw [hVs]; simp [go_sem]
 have b1 : Vs.cell? ⟨w1.heap.size + 1, 0, none⟩ = some (.slice (some ⟨g1, 0, none⟩) 1 c1) := by rw [hVs]; simp [go_sem]
 have a2 : Vs.cell? ⟨w1.heap.size, 1, none⟩ = some (.int .i32 y2) := by rw [hVs]; simp [go_sem]
 have b2 : Vs.cell? ⟨w1.heap.size + 1, 1, none⟩ = some (.slice (some ⟨g2, 0, none⟩) 1 c2) := by rw [hVs]; simp [go_sem]
 have a3 : Vs.cell? ⟨w1.heap.size, 2, none⟩ = some (.int .i32 y3) := by rw [hVs]; simp [go_sem]
 have b3 : Vs.cell? ⟨w1.heap.size + 1, 2, none⟩ = some (.slice (some ⟨g3, 0, none⟩) 1 c3) := by rw [hVs]; simp [go_sem]
 have a4 : Vs.cell? ⟨w1.heap.size, 3, none⟩ = some (.int .i32 y4) := by rw [hVs]; simp [go_sem]
 have b4 : Vs.cell? ⟨w1.heap.size + 1, 3, none⟩ = some (.slice (some ⟨g4, 0, none⟩) 1 c4) := by rw [hVs]; simp [go_sem]
 have a5 : Vs.cell? ⟨w1.heap.size, 4, none⟩ = some (.int .i32 y5) := by rw [hVs]; simp [go_sem]
 have b5 : Vs.cell? ⟨w1.heap.size + 1, 4, none⟩ = some (.slice (some ⟨g5, 0, none⟩) 1 c5) := by rw [hVs]; simp [go_sem]
 rw [<- hVs]
 clear hVs
 have hU2 := hL.kB hU
 have HU := Lib.hid hU2
 clear hU2
 replace p1 := (hU.cell (p := ⟨g1, 0, none⟩) hg1).trans p1
 replace q1 := (hU.cell (p := ⟨g1, 1, none⟩) hg1).trans q1
 replace p2 := (hU.cell (p := ⟨g2, 0, none⟩) hg2).trans p2
 replace q2 := (hU.cell (p := ⟨g2, 1, none⟩) hg2).trans q2
 replace p3 := (hU.cell (p := ⟨g3, 0, none⟩) hg3).trans p3
 replace q3 := (hU.cell (p := ⟨g3, 1, none⟩) hg3).trans q3
 replace p4 := (hU.cell (p := ⟨g4, 0, none⟩) hg4).trans p4
 replace q4 := (hU.cell (p := ⟨g4, 1, none⟩) hg4).trans q4
 replace p5 := (hU.cell (p := ⟨g5, 0, none⟩) hg5).trans p5
 replace q5 := (hU.cell (p := ⟨g5, 1, none⟩) hg5).trans q5
 replace p6 := (hU.cell (p := ⟨g6, 0, none⟩) hg6).trans p6
 replace q6 := (hU.cell (p := ⟨g6, 1, none⟩) hg6).trans q6
 simp only [real, truth] at p1 p2 p3 p4 p5 p6 q1 q2 q3 q4 q5 q6
 have hgd := gd_val
 go_loopw [21] (fun i V => ∃ k : Nat, k <= 5 /\ i = .int .i64 k /\ Below Vs.heap.size Vs V) (fun i _ => 5 - (intOf i).toNat)
 case atStart => exact ⟨0, by omega, rfl, Below.refl _ _⟩
 case round =>
  obtain ⟨k, hk, rfl, hB⟩ := hrel
  rcases (show k = 0 \/ k = 1 \/ k = 2 \/ k = 3 \/ k = 4 \/ k = 5 by omega) with rfl | rfl | rfl | rfl | rfl | rfl
  ·replace a1 := (hB.cell (p := ⟨w1.heap.size, 0, none⟩) (by simp only; omega)).trans a1
   replace b1 := (hB.cell (p := ⟨w1.heap.size + 1, 0, none⟩) (by simp only; omega)).trans b1
   replace p1 := (hB.cell (p := ⟨g1, 0, none⟩) (by simp only; omega)).trans p1
   replace q1 := (hB.cell (p := ⟨g1, 1, none⟩) (by simp only; omega)).trans q1
   go_wp2
   go_quiet (fail)
   go_wp2
   go_roundw
   case rel => exact ⟨1, by omega, by go_num, below_drewN hB _⟩
   case measure => simp [intOf]
  ·replace a2 := (hB.cell (p := ⟨w1.heap.size, 1, none⟩) (by simp only; omega)).trans a2
   replace b2 := (hB.cell (p := ⟨w1.heap.size + 1, 1, none⟩) (by simp only; omega)).trans b2
   replace p2 := (hB.cell (p := ⟨g2, 0, none⟩) (by simp only; omega)).trans p2
   replace q2 := (hB.cell (p := ⟨g2, 1, none⟩) (by simp only; omega)).trans q2
   go_wp2
   go_quiet (fail)
   go_wp2
   go_roundw
   case rel => exact ⟨2, by omega, by go_num, below_drewN hB _⟩
   case measure => simp [intOf]
  ·replace a3 := (hB.cell (p := ⟨w1.heap.size, 2, none⟩) (by simp only; omega)).trans a3
   replace b3 := (hB.cell (p := ⟨w1.heap.size + 1, 2, none⟩) (by simp only; omega)).trans b3
   replace p3 := (hB.cell (p := ⟨g3, 0, none⟩) (by simp only; omega)).trans p3
   replace q3 := (hB.cell (p := ⟨g3, 1, none⟩) (by simp only; omega)).trans q3
   go_wp2
   go_quiet (fail)
   go_wp2
   go_roundw
   case rel => exact ⟨3, by omega, by go_num, below_drewN hB _⟩
   case measure => simp [intOf]
  ·replace a4 := (hB.cell (p := ⟨w1.heap.size, 3, none⟩) (by simp only; omega)).trans a4
   replace b4 := (hB.cell (p := ⟨w1.heap.size + 1, 3, none⟩) (by simp only; omega)).trans b4
   replace p4 := (hB.cell (p := ⟨g4, 0, none⟩) (by simp only; omega)).trans p4
   replace q4 := (hB.cell (p := ⟨g4, 1, none⟩) (by simp only; omega)).trans q4
   go_wp2
   go_quiet (fail)
   go_wp2
   go_roundw
   case rel => exact ⟨4, by omega, by go_num, below_drewN hB _⟩
   case measure => simp [intOf]
  ·replace a5 := (hB.cell (p := ⟨w1.heap.size, 4, none⟩) (by simp only; omega)).trans a5
   replace b5 := (hB.cell (p := ⟨w1.heap.size + 1, 4, none⟩) (by simp only; omega)).trans b5
   replace p5 := (hB.cell (p := ⟨g5, 0, none⟩) (by simp only; omega)).trans p5
   replace q5 := (hB.cell (p := ⟨g5, 1, none⟩) (by simp only; omega)).trans q5
   go_wp2
   go_quiet (fail)
   go_wp2
   go_roundw
   case rel => exact ⟨5, by omega, by go_num, below_drewN hB _⟩
   case measure => simp [intOf]
  ·replace p6 := (hB.cell (p := ⟨g6, 0, none⟩) (by simp only; omega)).trans p6
   replace q6 := (hB.cell (p := ⟨g6, 1, none⟩) (by simp only; omega)).trans q6
   have LF := Lib.hid ((lives_any wr (HU.out.kB hB).j).mono fun e w' h => (⟨h.1, bstep (HU.out.kB hB).b h.2⟩ : LV w e w'))
   by_cases c1 : a < b
   ·have c2 : ((if decide (a < b) then (1 : Int) else 0)) = 1 := HLT.out.2 c1
    rw [c2] at q6
    go_wp2_with (go_at_call 10; refine LF.out.mono ?_; rintro e w2 ⟨rfl, hB2⟩)
    go_ret
    exact ⟨rfl, hB2⟩
   ·have c2 : ((if decide (a < b) then (1 : Int) else 0)) = 0 := by simp [c1]
    rw [c2] at q6
    go_wp2_with (go_at_call 10; refine LF.out.mono ?_; rintro e w2 ⟨rfl, hB2⟩)
    go_ret
    exact ⟨rfl, hB2⟩
theorem walk_reals : WalkT 9 [36, 36, 56] := by
 intro H enc W base b0 spare held args ds p hval hA hj
 obtain ⟨v, v', v'', d, d', d'', p1, p2, p3, rfl, _, _, ⟨f1, hd⟩, ⟨f2, hd'⟩, ⟨f3, hd''⟩⟩ := Go.ChangeShapes.trodAll_three hA
 obtain ⟨a, rfl, ha⟩ := arg_int Tryz.underlying36 (hval 0 _ v rfl rfl) hd
 obtain ⟨b, rfl, hb⟩ := arg_int Tryz.underlying36 (hval 1 _ v' rfl rfl) hd'
 obtain ⟨n, rfl, hn⟩ := arg_int Tryz.underlying56 (hval 2 _ v'' rfl rfl) hd''
 have hn2 : -32768 <= n /\ n <= 32767 := by
  simp only [Lit.wf, Bool.and_eq_true, decide_eq_true_eq] at hn
  exact hn
 exact lreals_any a b n W (wf_j32 ha) (wf_j32 hb) hn2 hj
end Go.Proofs.YtcjllibeaiofpaaGreatDoor
