/-
  Curves: CurvesSame, walked.
-/
import Derived.Test.YtlclmanhkhfilaaDoorVh
set_option linter.all false
namespace Go.Proofs.YtlclmanhkhfilaaDoor
open Go.RowKit
set_option maxRecDepth 100000 in
set_option maxHeartbeats 2000000 in
theorem lsame_any (k : Int) (f4 : Value) (ad ar a3 a5 a6 a7 a0 a1 a11 a12 : Option Addr) (dl rl l3 l5 l6 l7 l0 l1 l11 l12 pd pr p3 p5 p6 p7 p0 p1 p11 p12 : Nat) (t : ByteArray) (n x : Int) (ds rs : List (Int × Int)) (xs ys : List Int) (w : World) (hn : I32 n) (hx : I32 x) (hj : Sx.J w)
    (hF : FOk w.heap.size w ad dl ar rl a0 l0 a1 l1 ds rs xs ys) :
    Calls Tryd.prog 4 #[.agg #[.int .u8 k, .slice ad dl pd, .slice ar rl pr, .slice a3 l3 p3, f4, .slice a5 l5 p5, .slice a6 l6 p6, .slice a7 l7 p7, .slice a0 l0 p0, .slice a1 l1 p1, .int .i32 n, .slice a11 l11 p11, .slice a12 l12 p12, .string t], .int .i32 x] w (LV w) := by
  have hF' := Lib.hid hF
  have hle : ¬ (w.heap.size < w.heap.size) := by omega
  have great := great_g (.int .u8 k) f4 (.int .i32 n) ad ar a3 a5 a6 a7 a0 a1 a11 a12 dl rl l3 l5 l6 l7 l0 l1 l11 l12 pd pr p3 p5 p6 p7 p0 p1 p11 p12 t w
  have HG := Lib.hid great; clear great
  by_cases hl : l0 = 0
  · have hl2 : (l0 : Int) = 0 := by omega
    clear hl
    go_enter Tryd.func4, Tryd.ntmps4
    go_wp2_with (first
      | (go_at_call 7; refine HG.out.mono ?_; rintro e w1 ⟨⟨b, rfl⟩, hBw, hsz, ⟨f0, f1, f2, f3, f4, f5, f6, f7, f8, f9, f10, f11, f12, f13⟩, hfz⟩; have hA := (hBw.setCell (p := ⟨w.heap.size, 9, none⟩) (Nat.le_refl _) (.slice a0 l0 p0)).setCell (p := ⟨w.heap.size, 2, none⟩) (Nat.le_refl _) (.slice none 0 0); cases b)
      | (go_at_call 8; refine (lives_any _ (Sx.J_kept (by assumption) hj)).mono ?_; rintro e wl ⟨rfl, hBl⟩))
    all_goals (go_ret; exact LV.of (by assumption) hBl)
  · have hl2 : ¬ ((l0 : Int) = 0) := by omega
    have hne : xs ≠ [] := by rintro rfl; exact hl hF.c0.1
    clear hl
    have hq : ((l0 : Int) == 0) = false := by simp; omega
    by_cases hc : chkAll k ds [] l0 l0 n = 0
    · have hC := Lib.hid hc; clear hc
      go_enter Tryd.func4, Tryd.ntmps4
      go_wp2_with (first
        | (go_at_call 7; refine HG.out.mono ?_; rintro e w1 ⟨⟨b, rfl⟩, hBw, hsz, hbox, hfz⟩; have hbox2 := (hbox.set9 (.slice a0 l0 p0)).set2 (.slice none 0 0); obtain ⟨f0, f1, f2, f3, f4, f5, f6, f7, f8, f9, f10, f11, f12, f13⟩ := hbox; have hA := (hBw.setCell (p := ⟨w.heap.size, 9, none⟩) (Nat.le_refl _) (.slice a0 l0 p0)).setCell (p := ⟨w.heap.size, 2, none⟩) (Nat.le_refl _) (.slice none 0 0); have hsz2 : w.heap.size < ((w1.setCell ⟨w.heap.size, 9, none⟩ (.slice a0 l0 p0)).setCell ⟨w.heap.size, 2, none⟩ (.slice none 0 0)).heap.size := (by simpa using hsz); cases b)
        | (go_at_call 9; refine (check_one (ds := ds) (rs := []) (xs := xs) (ys := xs) hn (Sx.J_kept hA hj) ⟨(hF'.out.on hA).d, rngs_nil _ _, (hF'.out.on hA).c0, (hF'.out.on hA).c0, hF'.out.id, hF'.out.ix, hF'.out.ix⟩).mono ?_; rintro e w2 ⟨rfl, hB2⟩; rw [hC.out]; obtain ⟨g0, g1, g2, g3, g4, g5, g6, g7, g8, g9, g10, g11, g12, g13⟩ := hbox2.on hB2 hsz2; have hA2 := andB hA hB2; have hsz3 := Nat.lt_of_lt_of_le hsz2 hB2.size; have hbox3 : Box14 w.heap.size w2 _ _ _ _ _ _ _ _ _ _ _ _ _ _ := ⟨g0, g1, g2, g3, g4, g5, g6, g7, g8, g9, g10, g11, g12, g13⟩)
        | (go_at_call 11; refine (eval_one (ds := ds) (rs := []) (xs := xs) (ys := xs) (x := x) hn hx (Sx.J_kept (hA2.alloc hA2.size _) hj) (FOk.on ⟨(hF'.out.on hA2).d, rngs_nil _ _, (hF'.out.on hA2).c0, (hF'.out.on hA2).c0, hF'.out.id, hF'.out.ix, hF'.out.ix⟩ ((Below.refl _ _).alloc (Nat.le_refl _) _)) (fixs_new _ _ _ _ (by simp)) hC.out).mono ?_; rintro e w3 ⟨⟨a, len, cap, rfl, hx2⟩, hB3⟩; rw [at_same ds n x hF'.out.ix hne] at hx2; have hA3 := andB (hA2.alloc hA2.size _) hB3; obtain ⟨k0, k1, k2, k3, k4, k5, k6, k7, k8, k9, k10, k11, k12, k13⟩ := (hbox3.on ((Below.refl _ _).alloc (Nat.le_refl _) _) hsz3).on hB3 (by simp; omega))
        | (go_at_call 12; refine (samefix_any _ _ _ _ _ _ xs xs (by have := (chk_zero hC.out).2.2.2.1; have := hF'.out.c0.1; omega) _ hx2 (hF'.out.on hA3).c0).mono ?_; rintro e w4 ⟨rfl, hB4⟩; rw [decide_eq_true rfl]; have hA4 := andB hA3 hB4)
        | (go_at_call 8; refine (lives_any _ (Sx.J_kept (by assumption) hj)).mono ?_; rintro e wl ⟨rfl, hBl⟩))
      all_goals (go_ret; exact LV.of (by assumption) hBl)
    · have hcb : (chkAll k ds [] l0 l0 n != 0) = true := by simpa using hc
      go_enter Tryd.func4, Tryd.ntmps4
      go_wp2_with (first
        | (go_at_call 7; refine HG.out.mono ?_; rintro e w1 ⟨⟨b, rfl⟩, hBw, hsz, hbox, hfz⟩; have hbox2 := (hbox.set9 (.slice a0 l0 p0)).set2 (.slice none 0 0); obtain ⟨f0, f1, f2, f3, f4, f5, f6, f7, f8, f9, f10, f11, f12, f13⟩ := hbox; have hA := (hBw.setCell (p := ⟨w.heap.size, 9, none⟩) (Nat.le_refl _) (.slice a0 l0 p0)).setCell (p := ⟨w.heap.size, 2, none⟩) (Nat.le_refl _) (.slice none 0 0); cases b)
        | (go_at_call 9; refine (check_one (ds := ds) (rs := []) (xs := xs) (ys := xs) hn (Sx.J_kept hA hj) ⟨(hF'.out.on hA).d, rngs_nil _ _, (hF'.out.on hA).c0, (hF'.out.on hA).c0, hF'.out.id, hF'.out.ix, hF'.out.ix⟩).mono ?_; rintro e w2 ⟨rfl, hB2⟩; have hA2 := andB hA hB2)
        | (go_at_call 8; refine (lives_any _ (Sx.J_kept (by assumption) hj)).mono ?_; rintro e wl ⟨rfl, hBl⟩))
      all_goals (go_ret; exact LV.of (by assumption) hBl)
end Go.Proofs.YtlclmanhkhfilaaDoor
