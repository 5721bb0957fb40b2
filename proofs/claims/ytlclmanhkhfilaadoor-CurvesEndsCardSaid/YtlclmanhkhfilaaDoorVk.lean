/-
  Curves: CurvesEnds, walked.
-/
import Derived.Test.YtlclmanhkhfilaaDoorVh
set_option linter.all false
namespace Go.Proofs.YtlclmanhkhfilaaDoor
open Go.RowKit
theorem Rngs.on {w W : World} {a : Option Addr} {len : Nat} {rs : List (Int × Int)} (h : Rngs w.heap.size w a len rs) (hB : Below w.heap.size w W) : Rngs W.heap.size W a len rs := (h.below hB).more hB.size
theorem rngs_two (w w1 : World) (x : Int) (hsz : w.heap.size < w1.heap.size) : Rngs (((((w1.setCell ⟨w.heap.size, 0, none⟩ (.int .u8 2)).setCell ⟨w.heap.size, 10, none⟩ (.int .i32 x)).setCell ⟨w.heap.size, 1, none⟩ (.slice (some ⟨w1.heap.size, 0, none⟩) 1 1)).setCell ⟨w.heap.size, 2, none⟩ (.slice none 0 0)).alloc (.cells #[.int .i32 0, .int .i32 65536] 34)).heap.size (((((w1.setCell ⟨w.heap.size, 0, none⟩ (.int .u8 2)).setCell ⟨w.heap.size, 10, none⟩ (.int .i32 x)).setCell ⟨w.heap.size, 1, none⟩ (.slice (some ⟨w1.heap.size, 0, none⟩) 1 1)).setCell ⟨w.heap.size, 2, none⟩ (.slice none 0 0)).alloc (.cells #[.int .i32 0, .int .i32 65536] 34)) (some ⟨w1.heap.size, 0, none⟩) 1 [(0, 65536)] := by
  refine ⟨rfl, .inr ⟨_, 0, rfl, by simp, fun j hj => ?_⟩⟩
  obtain rfl : j = 0 := by simpa using hj
  have hne : ¬ w.heap.size = w1.heap.size := by omega
  have hne2 : ¬ w1.heap.size = w.heap.size := by omega
  constructor <;> simp [go_sem, hne, hne2]
set_option maxRecDepth 100000 in
set_option maxHeartbeats 4000000 in
theorem lends0_any : Walk 3 := by
  intro k f4 ad ar a3 a5 a6 a7 a0 a1 a11 a12 dl rl l3 l5 l6 l7 l0 l1 l11 l12 pd pr p3 p5 p6 p7 p0 p1 p11 p12 t n x ds rs xs ys w hn hx hj hF
  have hF' := Lib.hid hF
  have HG := Lib.hid (great_g (.int .u8 k) f4 (.int .i32 n) ad ar a3 a5 a6 a7 a0 a1 a11 a12 dl rl l3 l5 l6 l7 l0 l1 l11 l12 pd pr p3 p5 p6 p7 p0 p1 p11 p12 t w)
  by_cases hp : x ≤ 0
  · go_enter Tryd.func3, Tryd.ntmps3
    go_wp2_with (first
      | (go_at_call 7; refine HG.out.mono ?_; rintro e w1 ⟨⟨b, rfl⟩, hBw, hsz, hbox, hfz⟩; cases b)
      | (go_at_call 8; refine (lives_any _ (Sx.J_kept (by assumption) hj)).mono ?_; rintro e wl ⟨rfl, hBl⟩))
    all_goals (go_ret; exact LV.of (by assumption) hBl)
  have hpos : 0 < x := by omega
  clear hF
  by_cases hc : chkAll 2 [(0, 65536)] [] l0 l1 x = 0
  · have hC := Lib.hid hc
    obtain ⟨_, _, hll, hm4, _⟩ := chk_zero hc
    have hlen : xs.length = ys.length := by rw [← hF'.out.c0.1, ← hF'.out.c1.1]; exact hll
    have hl0 : (ends0 xs ys).length ≤ 8 := by have := hF'.out.c0.1; unfold ends0; split <;> (try simp) <;> omega
    have hl1 : (ends1 xs ys).length ≤ 8 := by have := hF'.out.c0.1; unfold ends1; split <;> (try simp) <;> omega
    have hlen' := Lib.hid hlen
    have hlen := hlen'.out
    clear hc hll hm4 hlen
    have hl0' := Lib.hid hl0; have hl1' := Lib.hid hl1; clear hl0 hl1
    go_enter Tryd.func3, Tryd.ntmps3
    go_wp2_with (first
      | (go_at_call 7; refine HG.out.mono ?_; rintro e w1 ⟨⟨b, rfl⟩, hBw, hsz, hbox, hfz⟩; have hbox2 := ((((hbox.set0 (.int .u8 2)).set10 (.int .i32 x)).set1 (.slice (some ⟨w1.heap.size, 0, none⟩) 1 1)).set2 (.slice none 0 0)).on ((Below.refl _ _).alloc (Nat.le_refl _) (.cells #[.int .i32 0, .int .i32 65536] 34)) (by simpa using hsz); obtain ⟨f0, f1, f2, f3, f4', f5, f6, f7, f8, f9, f10, f11, f12, f13⟩ := hbox; have hA := ((((hBw.setCell (p := ⟨w.heap.size, 0, none⟩) (Nat.le_refl _) (.int .u8 2)).setCell (p := ⟨w.heap.size, 10, none⟩) (Nat.le_refl _) (.int .i32 x)).setCell (p := ⟨w.heap.size, 1, none⟩) (Nat.le_refl _) (.slice (some ⟨w1.heap.size, 0, none⟩) 1 1)).setCell (p := ⟨w.heap.size, 2, none⟩) (Nat.le_refl _) (.slice none 0 0)).alloc (by simp; omega) (.cells #[.int .i32 0, .int .i32 65536] 34); have hRd : Rngs (((((w1.setCell ⟨w.heap.size, 0, none⟩ (.int .u8 2)).setCell ⟨w.heap.size, 10, none⟩ (.int .i32 x)).setCell ⟨w.heap.size, 1, none⟩ (.slice (some ⟨w1.heap.size, 0, none⟩) 1 1)).setCell ⟨w.heap.size, 2, none⟩ (.slice none 0 0)).alloc (.cells #[.int .i32 0, .int .i32 65536] 34)).heap.size (((((w1.setCell ⟨w.heap.size, 0, none⟩ (.int .u8 2)).setCell ⟨w.heap.size, 10, none⟩ (.int .i32 x)).setCell ⟨w.heap.size, 1, none⟩ (.slice (some ⟨w1.heap.size, 0, none⟩) 1 1)).setCell ⟨w.heap.size, 2, none⟩ (.slice none 0 0)).alloc (.cells #[.int .i32 0, .int .i32 65536] 34)) (some ⟨w1.heap.size, 0, none⟩) 1 [(0, 65536)] := (rngs_two w w1 x hsz); have hsz2 : w.heap.size < (((((w1.setCell ⟨w.heap.size, 0, none⟩ (.int .u8 2)).setCell ⟨w.heap.size, 10, none⟩ (.int .i32 x)).setCell ⟨w.heap.size, 1, none⟩ (.slice (some ⟨w1.heap.size, 0, none⟩) 1 1)).setCell ⟨w.heap.size, 2, none⟩ (.slice none 0 0)).alloc (.cells #[.int .i32 0, .int .i32 65536] 34)).heap.size := (by simp; omega); cases b)
      | (go_at_call 9; refine (check_one (ds := [(0, 65536)]) (rs := []) (xs := xs) (ys := ys) hx (Sx.J_kept hA hj) ⟨hRd, rngs_nil _ _, (hF'.out.on hA).c0, (hF'.out.on hA).c1, allR_one (by unfold I32; omega) (by unfold I32; omega), hF'.out.ix, hF'.out.iy⟩).mono ?_; rintro e w2 ⟨rfl, hB2⟩; rw [hC.out]; obtain ⟨g0, g1, g2, g3, g4, g5, g6, g7, g8, g9, g10, g11, g12, g13⟩ := hbox2.on hB2 hsz2; have hA2 := andB hA hB2; have hsz3 := Nat.lt_of_lt_of_le hsz2 hB2.size; have hbox3 : Box14 w.heap.size w2 _ _ _ _ _ _ _ _ _ _ _ _ _ _ := ⟨g0, g1, g2, g3, g4, g5, g6, g7, g8, g9, g10, g11, g12, g13⟩; have hRd2 := Rngs.on hRd hB2)
      | (go_at_call 10; refine (lends_any _ _ _ _ _ _ _ _ _ _ _ _ _ _ _ _ _ _ xs ys _ (hF'.out.on hA2).c0 (hF'.out.on hA2).c1).mono ?_; rintro e w3 ⟨⟨b0, b1, m0, m1, q0, q1, rfl, hE0, hE1⟩, hB3⟩; have hA3 := andB hA2 hB3; have hbox4 := hbox3.on hB3 hsz3; obtain ⟨k0, k1, k2, k3, k4, k5, k6, k7, k8, k9, k10, k11, k12, k13⟩ := hbox4; have hsz4 := Nat.lt_of_lt_of_le hsz3 hB3.size; have hRd3 := Rngs.on hRd2 hB3)
      | (go_at_call 11; refine (eval_one (ds := [(0, 65536)]) (rs := []) (xs := xs) (ys := ys) (x := 65536) hx (by unfold I32; omega) (Sx.J_kept (hA4.alloc hA4.size _) hj) (FOk.on ⟨hRd4, rngs_nil _ _, (hF'.out.on hA4).c0, (hF'.out.on hA4).c1, allR_one (by unfold I32; omega) (by unfold I32; omega), hF'.out.ix, hF'.out.iy⟩ ((Below.refl _ _).alloc (Nat.le_refl _) _)) (fixs_new _ _ _ _ (by simp)) hC.out).mono ?_; rintro e w5 ⟨⟨u5, n5, c5, rfl, hv5⟩, hB5⟩; rw [at_one x hlen'.out hF'.out.ix hF'.out.iy] at hv5; have hB5' := andB ((Below.refl _ _).alloc (Nat.le_refl _) _) hB5; have hA5 := andB hA4 hB5'; have hE0'' := Fixs.on hE0' hB5'; have hE1'' := Fixs.on hE1' hB5'; have hv4' := Fixs.on hv4 hB5')
      | (go_at_call 11; refine (eval_one (ds := [(0, 65536)]) (rs := []) (xs := xs) (ys := ys) (x := 0) hx (by unfold I32; omega) (Sx.J_kept (hA3.alloc hA3.size _) hj) (FOk.on ⟨hRd3, rngs_nil _ _, (hF'.out.on hA3).c0, (hF'.out.on hA3).c1, allR_one (by unfold I32; omega) (by unfold I32; omega), hF'.out.ix, hF'.out.iy⟩ ((Below.refl _ _).alloc (Nat.le_refl _) _)) (fixs_new _ _ _ _ (by simp)) hC.out).mono ?_; rintro e w4 ⟨⟨u4, n4, c4, rfl, hv4⟩, hB4⟩; rw [at_zero hpos hlen'.out hF'.out.ix hF'.out.iy] at hv4; have hB4' := andB ((Below.refl _ _).alloc (Nat.le_refl _) _) hB4; have hA4 := andB hA3 hB4'; have hbox5 := Box14.on ⟨k0, k1, k2, k3, k4, k5, k6, k7, k8, k9, k10, k11, k12, k13⟩ hB4' hsz4; obtain ⟨i0, i1, i2, i3, i4, i5, i6, i7, i8, i9, i10, i11, i12, i13⟩ := hbox5; have hRd4 := Rngs.on hRd3 hB4'; have hE0' := Fixs.on hE0 hB4'; have hE1' := Fixs.on hE1 hB4'; clear k0 k1 k2 k3 k4 k5 k6 k7 k8 k9 k10 k11 k12 k13)
      | (go_at_call 12; refine (samefix_any _ _ _ _ _ _ (ends1 xs ys) (ends1 xs ys) hl1'.out _ hv5' hE1''').mono ?_; rintro e w7 ⟨rfl, hB7⟩; rw [decide_eq_true rfl]; have hA7 := andB hA6 hB7)
      | (go_at_call 12; refine (samefix_any _ _ _ _ _ _ (ends0 xs ys) (ends0 xs ys) hl0'.out _ hv4' hE0'').mono ?_; rintro e w6 ⟨rfl, hB6⟩; rw [decide_eq_true rfl]; have hA6 := andB hA5 hB6; have hv5' := Fixs.on hv5 hB6; have hE1''' := Fixs.on hE1'' hB6)
      | (go_at_call 8; refine (lives_any _ (Sx.J_kept (by assumption) hj)).mono ?_; rintro e wl ⟨rfl, hBl⟩))
    all_goals (go_ret; exact LV.of (by assumption) hBl)
  · have hcb : (chkAll 2 [(0, 65536)] [] l0 l1 x != 0) = true := by simpa using hc
    go_enter Tryd.func3, Tryd.ntmps3
    go_wp2_with (first
      | (go_at_call 7; refine HG.out.mono ?_; rintro e w1 ⟨⟨b, rfl⟩, hBw, hsz, hbox, hfz⟩; have hbox2 := ((((hbox.set0 (.int .u8 2)).set10 (.int .i32 x)).set1 (.slice (some ⟨w1.heap.size, 0, none⟩) 1 1)).set2 (.slice none 0 0)).on ((Below.refl _ _).alloc (Nat.le_refl _) (.cells #[.int .i32 0, .int .i32 65536] 34)) (by simpa using hsz); obtain ⟨f0, f1, f2, f3, f4', f5, f6, f7, f8, f9, f10, f11, f12, f13⟩ := hbox; have hA := ((((hBw.setCell (p := ⟨w.heap.size, 0, none⟩) (Nat.le_refl _) (.int .u8 2)).setCell (p := ⟨w.heap.size, 10, none⟩) (Nat.le_refl _) (.int .i32 x)).setCell (p := ⟨w.heap.size, 1, none⟩) (Nat.le_refl _) (.slice (some ⟨w1.heap.size, 0, none⟩) 1 1)).setCell (p := ⟨w.heap.size, 2, none⟩) (Nat.le_refl _) (.slice none 0 0)).alloc (by simp; omega) (.cells #[.int .i32 0, .int .i32 65536] 34); have hRd : Rngs (((((w1.setCell ⟨w.heap.size, 0, none⟩ (.int .u8 2)).setCell ⟨w.heap.size, 10, none⟩ (.int .i32 x)).setCell ⟨w.heap.size, 1, none⟩ (.slice (some ⟨w1.heap.size, 0, none⟩) 1 1)).setCell ⟨w.heap.size, 2, none⟩ (.slice none 0 0)).alloc (.cells #[.int .i32 0, .int .i32 65536] 34)).heap.size (((((w1.setCell ⟨w.heap.size, 0, none⟩ (.int .u8 2)).setCell ⟨w.heap.size, 10, none⟩ (.int .i32 x)).setCell ⟨w.heap.size, 1, none⟩ (.slice (some ⟨w1.heap.size, 0, none⟩) 1 1)).setCell ⟨w.heap.size, 2, none⟩ (.slice none 0 0)).alloc (.cells #[.int .i32 0, .int .i32 65536] 34)) (some ⟨w1.heap.size, 0, none⟩) 1 [(0, 65536)] := (rngs_two w w1 x hsz); have hsz2 : w.heap.size < (((((w1.setCell ⟨w.heap.size, 0, none⟩ (.int .u8 2)).setCell ⟨w.heap.size, 10, none⟩ (.int .i32 x)).setCell ⟨w.heap.size, 1, none⟩ (.slice (some ⟨w1.heap.size, 0, none⟩) 1 1)).setCell ⟨w.heap.size, 2, none⟩ (.slice none 0 0)).alloc (.cells #[.int .i32 0, .int .i32 65536] 34)).heap.size := (by simp; omega); cases b)
      | (go_at_call 9; refine (check_one (ds := [(0, 65536)]) (rs := []) (xs := xs) (ys := ys) hx (Sx.J_kept hA hj) ⟨hRd, rngs_nil _ _, (hF'.out.on hA).c0, (hF'.out.on hA).c1, allR_one (by unfold I32; omega) (by unfold I32; omega), hF'.out.ix, hF'.out.iy⟩).mono ?_; rintro e w2 ⟨rfl, hB2⟩; have hA2 := andB hA hB2)
      | (go_at_call 8; refine (lives_any _ (Sx.J_kept (by assumption) hj)).mono ?_; rintro e wl ⟨rfl, hBl⟩))
    all_goals (go_ret; exact LV.of (by assumption) hBl)
end Go.Proofs.YtlclmanhkhfilaaDoor
