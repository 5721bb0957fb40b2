/-
  Curves: CurvesHeld, walked.
-/
import Derived.Test.YtlclmanhkhfilaaDoorVh
set_option linter.all false
namespace Go.Proofs.YtlclmanhkhfilaaDoor
open Go.RowKit
theorem fixs_cells2 {n₀ : Nat} {W : World} {a : Option Addr} {xs : List Int} {k len : Nat} (h : Fixs n₀ W a len xs) (hk : k < len) : ∃ b off, a = some ⟨b, off, none⟩ ∧ b < n₀ ∧ W.cell? ⟨b, off + k, none⟩ = some (.int .i32 (xs[k]?.getD 0)) := by
  obtain ⟨h1, h2 | ⟨b, off, e, hb, hc⟩⟩ := h
  · subst h2; simp at h1; omega
  · exact ⟨b, off, e, hb, hc k (by omega)⟩
theorem rngs_cells2 {n₀ : Nat} {W : World} {a : Option Addr} {rs : List (Int × Int)} {k len : Nat} (h : Rngs n₀ W a len rs) (hk : k < len) : ∃ b off, a = some ⟨b, off, none⟩ ∧ b < n₀ ∧ W.cell? ⟨b, off + k * 2, none⟩ = some (.int .i32 (rs[k]?.getD (0, 0)).1) ∧ W.cell? ⟨b, off + k * 2 + 1, none⟩ = some (.int .i32 (rs[k]?.getD (0, 0)).2) := by
  obtain ⟨h1, h2 | ⟨b, off, e, hb, hc⟩⟩ := h
  · subst h2; simp at h1; omega
  · exact ⟨b, off, e, hb, (hc k (by omega)).1, (hc k (by omega)).2⟩
theorem d0c (w2 : World) (lo hi x : Int) : ((w2.alloc (.cells #[.int .i32 lo, .int .i32 hi] 34)).alloc (.cells #[.int .i32 x] 27)).cell? ⟨w2.heap.size, 0, none⟩ = some (.int .i32 lo) := by simp [go_sem]
theorem d1c (w2 : World) (lo hi x : Int) : ((w2.alloc (.cells #[.int .i32 lo, .int .i32 hi] 34)).alloc (.cells #[.int .i32 x] 27)).cell? ⟨w2.heap.size, 1, none⟩ = some (.int .i32 hi) := by simp [go_sem]
set_option maxRecDepth 100000 in
set_option maxHeartbeats 8000000 in
theorem lheld_ok (k : Int) (f4 : Value) (ar a3 a5 a6 a7 a0 a1 a11 a12 : Option Addr) (rl l3 l5 l6 l7 l0 l1 l11 l12 pd pr p3 p5 p6 p7 p0 p1 p11 p12 bd od L : Nat) (t : ByteArray) (n x lo hi : Int) (ds rs : List (Int × Int)) (xs ys : List Int) (w : World) (hn : I32 n) (hx : I32 x) (hj : Sx.J w)
    (hF' : Go.RowKit.Hid (FOk w.heap.size w (some ⟨bd, od, none⟩) 1 ar rl a0 l0 a1 l1 ds rs xs ys)) (hC : Go.RowKit.Hid (chkAll k ds rs l0 l1 n = 0)) (hL : Go.RowKit.Hid (L = (endsL xs ys).length))
    (hLe : Go.RowKit.Hid ((ends0 xs ys).length = (endsL xs ys).length)) (hl8 : Go.RowKit.Hid ((evalL ds rs xs ys n x).length ≤ 8)) (HZ : Go.RowKit.Hid (I32 (if lo < if hi < x then hi else x then if hi < x then hi else x else lo) ∧ evalL ds rs xs ys n (if lo < if hi < x then hi else x then if hi < x then hi else x else lo) = evalL ds rs xs ys n x))
    (hR : Go.RowKit.Hid (rngB rs = true)) (hRL : Go.RowKit.Hid (rl = 0 ∨ rl = L)) (hbd : bd < w.heap.size) (hlo : w.cell? ⟨bd, od, none⟩ = some (.int .i32 lo)) (hhi : w.cell? ⟨bd, od + 1, none⟩ = some (.int .i32 hi)) :
    Calls Tryd.prog 5 #[.agg #[.int .u8 k, .slice (some ⟨bd, od, none⟩) 1 pd, .slice ar rl pr, .slice a3 l3 p3, f4, .slice a5 l5 p5, .slice a6 l6 p6, .slice a7 l7 p7, .slice a0 l0 p0, .slice a1 l1 p1, .int .i32 n, .slice a11 l11 p11, .slice a12 l12 p12, .string t], .int .i32 x] w (LV w) := by
  have HG := Lib.hid (great_g (.int .u8 k) f4 (.int .i32 n) (some ⟨bd, od, none⟩) ar a3 a5 a6 a7 a0 a1 a11 a12 1 rl l3 l5 l6 l7 l0 l1 l11 l12 pd pr p3 p5 p6 p7 p0 p1 p11 p12 t w)
  go_enter Tryd.func5, Tryd.ntmps5
  go_wp2_with (first
      | (go_at_call 7; refine HG.out.mono ?_; rintro e w1 ⟨⟨b, rfl⟩, hBw, hsz, hbox, hfz⟩; clear hfz; have hbx := hbox; obtain ⟨f0, f1, f2, f3, f4q, f5, f6, f7, f8, f9, f10, f11, f12, f13⟩ := hbox; cases b)
      | (go_at_call 9; refine (check_one (ds := ds) (rs := rs) (xs := xs) (ys := ys) hn (Sx.J_kept hBw hj) (hF'.out.on hBw)).mono ?_; rintro e w2 ⟨rfl, hB2⟩; rw [hC.out]; have hA2 := andB hBw hB2; have hbg := hbx.on hB2 hsz; have hsz2 := Nat.lt_of_lt_of_le hsz hB2.size; clear hbx hB2 hsz hBw f0 f1 f2 f3 f4q f5 f6 f7 f8 f9 f10 f11 f12 f13; have hbg2 := hbg; obtain ⟨g0, g1, g2, g3, g4, g5, g6, g7, g8, g9, g10, g11, g12, g13⟩ := hbg2; have hlo2 := (hA2.cell (p := ⟨bd, od, none⟩) hbd).trans hlo; have hhi2 := (hA2.cell (p := ⟨bd, od + 1, none⟩) hbd).trans hhi)
      | (go_at_call 11; generalize hz : (if lo < if hi < x then hi else x then if hi < x then hi else x else lo) = z; have hz2 : (if lo < if hi < x then hi else x then if hi < x then hi else x else lo) = z := hz; have hzz := HZ.out; rw [hz2] at hzz; clear hz hz2; have hA4q := hA4.alloc hA4.size (.cells #[.int .i32 z] 27); have q1 := Sx.J_kept hA4q hj; have q2 := hF'.out.on hA4q; have q4 := fixs_new w4 27 z (w4.alloc (.cells #[.int .i32 z] 27)).heap.size (by simp); refine (eval_one hn hzz.1 q1 q2 q4 hC.out).mono ?_; clear q1 q2 q4 hA4q; rintro e w5 ⟨⟨u5, n5, c5, rfl, hv5⟩, hB5⟩; rw [hzz.2] at hv5; have hB5' := andB ((Below.refl _ _).alloc (Nat.le_refl _) _) hB5; have hA5 := andB hA4 hB5'; have hbk := Box14.on hbj hB5' hsz4; have hsz5 := Nat.lt_of_lt_of_le hsz4 hB5'.size; have hv4' := Fixs.on hv4 hB5'; clear hzz hbj hv4 hd0 hd1 hA4 hsz4 hB5 hB5' i0 i1 i2 i3 i4 i5 i6 i7 i8 i9 i10 i11 i12 i13; have hbl := hbk; obtain ⟨k0, k1, k2, k3, k4, k5, k6, k7, k8, k9, k10, k11, k12, k13⟩ := hbk; obtain rfl : L = n5 := (hv5.1.trans ((evalL_len ..).trans hL.out.symm)).symm)
      | (go_at_call 11; have hQ := ((Below.refl w2.heap.size w2).alloc (Nat.le_refl _) (.cells #[.int .i32 lo, .int .i32 hi] 34)).alloc (by simp) (.cells #[.int .i32 x] 27); have hA3 := andB hA2 hQ; have q1 := Sx.J_kept hA3 hj; have q2 := hF'.out.on hA3; have q3 := fixs_new (w2.alloc (.cells #[.int .i32 lo, .int .i32 hi] 34)) 27 x (w2.heap.size + 1 + 1) (by simp); have q4 : Fixs ((w2.alloc (.cells #[.int .i32 lo, .int .i32 hi] 34)).alloc (.cells #[.int .i32 x] 27)).heap.size ((w2.alloc (.cells #[.int .i32 lo, .int .i32 hi] 34)).alloc (.cells #[.int .i32 x] 27)) (some ⟨w2.heap.size + 1, 0, none⟩) 1 [x] := (by simpa using q3); refine (eval_one hn hx q1 q2 q4 hC.out).mono ?_; clear q1 q2 q3 q4; rintro e w4 ⟨⟨u4, n4, c4, rfl, hv4⟩, hB4⟩; have hA4 := andB hA3 hB4; have hQ4 := andB hQ hB4; have hbi := Box14.on hbg hQ4 hsz2; have hsz4 := Nat.lt_of_lt_of_le hsz2 hQ4.size; clear hbg hlo2 hhi2 hsz2 hA2 hA3 hQ g0 g1 g2 g3 g4 g5 g6 g7 g8 g9 g10 g11 g12 g13; have hd0 := (hB4.cell (p := ⟨w2.heap.size, 0, none⟩) (by simp; omega)).trans (d0c w2 lo hi x); have hd1 := (hB4.cell (p := ⟨w2.heap.size, 1, none⟩) (by simp; omega)).trans (d1c w2 lo hi x); clear hB4 hQ4; have hbj := hbi; obtain ⟨i0, i1, i2, i3, i4, i5, i6, i7, i8, i9, i10, i11, i12, i13⟩ := hbi; obtain rfl : L = n4 := (hv4.1.trans ((evalL_len ..).trans hL.out.symm)).symm)
      | (go_at_call 10; refine (lends_any _ _ _ _ _ _ _ _ _ _ _ _ _ _ _ _ _ _ xs ys _ (hF'.out.on hA5).c0 (hF'.out.on hA5).c1).mono ?_; rintro e w6 ⟨⟨b0, b1, m0, m1, q0, q1, rfl, hE0, hE1⟩, hB6⟩; have hA6 := andB hA5 hB6; have hbm := Box14.on hbl hB6 hsz5; have hsz6 := Nat.lt_of_lt_of_le hsz5 hB6.size; have hv4'' := Fixs.on hv4' hB6; have hv5' := Fixs.on hv5 hB6; obtain rfl : L = m0 := (hE0.1.trans (hLe.out.trans hL.out.symm)).symm; clear hbl hE0 hE1 hv4' hv5 hA5 hsz5 hB6 k0 k1 k2 k3 k4 k5 k6 k7 k8 k9 k10 k11 k12 k13)
      | (go_at_call 12; refine (samefix_any _ _ _ _ _ _ _ _ hl8.out _ hv4'' hv5').mono ?_; rintro e w7 ⟨rfl, hB7⟩; rw [decide_eq_true rfl]; have hA7 := andB hA6 hB7; have hbn := Box14.on hbm hB7 hsz6; have hsz7 := Nat.lt_of_lt_of_le hsz6 hB7.size; have hv7 := Fixs.on hv4'' hB7; clear hbm hv4'' hv5' hA6 hsz6 hB7; have hbo := hbn; obtain ⟨n0, n1, n2, n3, n4, n5, n6, n7, n8, n9, n10, n11, n12, n13⟩ := hbn)
      | (go_at_call 8; refine (lives_any _ (Sx.J_kept (by assumption) hj)).mono ?_; rintro e wl ⟨rfl, hBl⟩))
  all_goals try (go_ret; exact LV.of (by assumption) hBl)
  all_goals (
    clear hbo n0 n1 n3 n4 n5 n6 n7 n8 n9 n10 n11 n12 n13
    go_loopw [12] (fun i V => ∃ j : Nat, j ≤ rl ∧ i = .int .i64 j ∧ Below w7.heap.size w7 V) (fun i _ => rl - (intOf i).toNat)
    case atStart => exact ⟨0, Nat.zero_le _, rfl, Below.refl _ _⟩
    case round =>
      obtain ⟨j, hjl, rfl, hBV⟩ := hrel
      have hr2 := (hBV.cell (p := ⟨w.heap.size, 2, none⟩) hsz7).trans n2
      by_cases hlt : j < rl
      · have hjL : j < L := by rcases hRL.out with h | h <;> omega
        have hlt2 : (j : Int) < rl := by omega
        have hL4 : L ≤ 8 := by have := hl8.out; rw [evalL_len, ← hL.out] at this; exact this
        have hj8 : j < 8 := by omega
        have hjr : j < rs.length := by rw [← hF'.out.r.1]; exact hlt
        have hin := in_rng (p := powR (min (max x (ds[0]?.getD (0, 0)).1) (ds[0]?.getD (0, 0)).2) n) (z := (endsL xs ys)[j]?.getD (0, 0)) hR.out hjr
        rw [← evalL_at (by rw [← hL.out]; exact hjL)] at hin
        obtain ⟨ba, oa, ea, hba, hca⟩ := fixs_cells2 (hv7.below hBV) hjL
        obtain ⟨br, or, er, hbr, hcr1, hcr2⟩ := rngs_cells2 (hF'.out.r.below (hA7.trans (hBV.mono hA7.size))) hlt
        subst ea er
        obtain ⟨A, eA⟩ : ∃ A, A = (evalL ds rs xs ys n x)[j]?.getD 0 := ⟨_, rfl⟩
        obtain ⟨B, eB⟩ : ∃ B, B = (rs[j]?.getD (0, 0)).1 := ⟨_, rfl⟩
        obtain ⟨C, eC⟩ : ∃ C, C = (rs[j]?.getD (0, 0)).2 := ⟨_, rfl⟩
        rw [← eA, ← eB, ← eC] at hin
        rw [← eA] at hca
        rw [← eB] at hcr1
        rw [← eC] at hcr2
        obtain ⟨hin1, hin2⟩ := hin
        have hq1 : decide (A < B) = false := by simp; omega
        have hq2 : decide (C < A) = false := by simp; omega
        clear eA eB eC
        go_wp2_with (fail)
        go_quiet (fail)
        go_wp2_with (fail)
        go_roundw
        case rel => exact ⟨j + 1, by omega, by go_num, below_drewN hBV _⟩
        case measure => simp [intOf]; omega
      · obtain rfl : j = rl := by omega
        have hBW := andB hA7 hBV
        go_wp2_with ((go_at_call 8; refine (lives_any _ (Sx.J_kept hBW hj)).mono ?_; rintro e wl ⟨rfl, hBl⟩))
        go_ret
        exact LV.of (by assumption) hBl)
set_option maxRecDepth 100000 in
set_option maxHeartbeats 4000000 in
theorem lheld_any : Walk 5 := by
  intro k f4 ad ar a3 a5 a6 a7 a0 a1 a11 a12 dl rl l3 l5 l6 l7 l0 l1 l11 l12 pd pr p3 p5 p6 p7 p0 p1 p11 p12 t n x ds rs xs ys w hn hx hj hF
  by_cases hc : chkAll k ds rs l0 l1 n = 0
  · obtain ⟨hk2, hd1, hll, hm4, hrl, hcF⟩ := chk_zero hc
    obtain ⟨hrng, hlt⟩ := chkF_lt hcF
    have hlen : xs.length = ys.length := by rw [← hF.c0.1, ← hF.c1.1]; exact hll
    have hLm : (endsL xs ys).length = max l0 1 := by have := endsL_len (xs := xs) (ys := ys) (m := l0) hF.c0.1 (by rw [hll]; exact hF.c1.1); omega
    obtain ⟨e1, e2⟩ := hF.d
    obtain ⟨bd, od, rfl, hb, hcd⟩ := e2.resolve_left (by rintro rfl; simp at hd1)
    obtain rfl : dl = 1 := e1.trans hd1
    have hcd0 := hcd 0 (by omega)
    exact lheld_ok k f4 ar a3 a5 a6 a7 a0 a1 a11 a12 rl l3 l5 l6 l7 l0 l1 l11 l12 pd pr p3 p5 p6 p7 p0 p1 p11 p12 bd od (endsL xs ys).length t n x (ds[0]?.getD (0, 0)).1 (ds[0]?.getD (0, 0)).2 ds rs xs ys w hn hx hj (Lib.hid hF) (Lib.hid hc) (Lib.hid rfl)
      (Lib.hid (by rw [← (endsL_ends hlen).1, List.length_map])) (Lib.hid (by rw [evalL_len]; omega)) (Lib.hid (by
        have hz : (if (ds[0]?.getD (0, 0)).1 < if (ds[0]?.getD (0, 0)).2 < x then (ds[0]?.getD (0, 0)).2 else x then if (ds[0]?.getD (0, 0)).2 < x then (ds[0]?.getD (0, 0)).2 else x else (ds[0]?.getD (0, 0)).1) = max (ds[0]?.getD (0, 0)).1 (min x (ds[0]?.getD (0, 0)).2) := by (repeat' split) <;> omega
        rw [hz]
        exact ⟨by have := hF.id 0; unfold I32 at *; omega, at_held xs ys n x hlt⟩)) (Lib.hid hrng) (Lib.hid (by rw [hF.r.1, hLm]; exact hrl)) hb (by simpa using hcd0.1) (by simpa using hcd0.2)
  · have hF' := Lib.hid hF
    have HG := Lib.hid (great_g (.int .u8 k) f4 (.int .i32 n) ad ar a3 a5 a6 a7 a0 a1 a11 a12 dl rl l3 l5 l6 l7 l0 l1 l11 l12 pd pr p3 p5 p6 p7 p0 p1 p11 p12 t w)
    clear hF
    have hcb : (chkAll k ds rs l0 l1 n != 0) = true := by simpa using hc
    go_enter Tryd.func5, Tryd.ntmps5
    go_wp2_with (first
      | (go_at_call 7; refine HG.out.mono ?_; rintro e w1 ⟨⟨b, rfl⟩, hBw, hsz, hbox, hfz⟩; clear hfz; have hbx := hbox; obtain ⟨f0, f1, f2, f3, f4q, f5, f6, f7, f8, f9, f10, f11, f12, f13⟩ := hbox; cases b)
      | (go_at_call 9; refine (check_one (ds := ds) (rs := rs) (xs := xs) (ys := ys) hn (Sx.J_kept hBw hj) (hF'.out.on hBw)).mono ?_; rintro e w2 ⟨rfl, hB2⟩; have hA2 := andB hBw hB2)
      | (go_at_call 8; refine (lives_any _ (Sx.J_kept (by assumption) hj)).mono ?_; rintro e wl ⟨rfl, hBl⟩))
    all_goals (go_ret; exact LV.of (by assumption) hBl)
end Go.Proofs.YtlclmanhkhfilaaDoor
