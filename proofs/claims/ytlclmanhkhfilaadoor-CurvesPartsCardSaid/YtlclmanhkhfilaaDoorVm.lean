/-
  Curves: CurvesParts, walked.
-/
import Derived.Test.YtlclmanhkhfilaaDoorVh
set_option linter.all false
namespace Go.Proofs.YtlclmanhkhfilaaDoor
open Go.RowKit
theorem endsL_at {xs ys : List Int} (h : xs.length = ys.length) {j : Nat} (hj : j < (endsL xs ys).length) : (endsL xs ys)[j]?.getD (0, 0) = ((ends0 xs ys)[j]?.getD 0, (ends1 xs ys)[j]?.getD 0) := by
  rw [← (endsL_ends h).1, ← (endsL_ends h).2]
  simp [hj]
theorem part_eval {ds rs : List (Int × Int)} {xs ys : List Int} {n x : Int} {j : Nat} (h : xs.length = ys.length) (hj : j < (endsL xs ys).length) (hr : rs = [] ∨ j < rs.length) :
    evalL ds (if rs = [] then [] else [rs[j]?.getD (0, 0)]) [(ends0 xs ys)[j]?.getD 0] [(ends1 xs ys)[j]?.getD 0] n x = [(evalL ds rs xs ys n x)[j]?.getD 0] := by
  rw [evalL_at hj, endsL_at h hj]
  generalize (ends0 xs ys)[j]?.getD 0 = a
  generalize (ends1 xs ys)[j]?.getD 0 = b
  show [outAt _ _ 0 (a, b)] = _
  congr 1
  rcases hr with rfl | hr
  · rfl
  · have hne : rs ≠ [] := by rintro rfl; simp at hr
    simp only [outAt, hne, if_false, List.length_singleton, Nat.zero_lt_one, if_true, hr]
    rfl
theorem part_chk {k : Int} {ds rs : List (Int × Int)} {l0 l1 j : Nat} {n : Int} (h : chkAll k ds rs l0 l1 n = 0) (hr : rs = [] ∨ j < rs.length) : chkAll k ds (if rs = [] then [] else [rs[j]?.getD (0, 0)]) 1 1 n = 0 := by
  obtain ⟨rfl, e1, e2, e3, e4, e5⟩ := chk_zero h
  have hB : rngB rs = true ∧ chkB (ds[0]?.getD (0, 0)).1 (ds[0]?.getD (0, 0)).2 n = true := by
    unfold chkF at e5
    split at e5
    · rename_i hh; simpa using hh
    · omega
  have hB2 : rngB (if rs = [] then [] else [rs[j]?.getD (0, 0)]) = true := by
    rcases hr with rfl | hr
    · rfl
    · have hne : rs ≠ [] := by rintro rfl; simp at hr
      rw [if_neg hne]
      have := rng_at hB.1 hr
      simp [rngB, this]
  unfold chkAll
  rw [if_pos ⟨rfl, e1, rfl, by omega, by split <;> simp⟩]
  unfold chkF
  rw [hB2, hB.2]
  rfl
theorem fixs_cell {W : World} {b n : Nat} {a : Int} (hb : b < n) (hc : W.cell? ⟨b, 0, none⟩ = some (.int .i32 a)) : Fixs n W (some ⟨b, 0, none⟩) 1 [a] :=
  ⟨rfl, .inr ⟨b, 0, rfl, hb, fun j hj => by obtain rfl : j = 0 := by simpa using hj
                                            simpa using hc⟩⟩
theorem rngs_cell {W : World} {b n : Nat} {r : Int × Int} (hb : b < n) (hc : W.cell? ⟨b, 0, none⟩ = some (.int .i32 r.1)) (hd : W.cell? ⟨b, 1, none⟩ = some (.int .i32 r.2)) : Rngs n W (some ⟨b, 0, none⟩) 1 [r] :=
  ⟨rfl, .inr ⟨b, 0, rfl, hb, fun j hj => by obtain rfl : j = 0 := by simpa using hj
                                            exact ⟨by simpa using hc, by simpa using hd⟩⟩⟩
theorem ends_I32 {xs ys : List Int} (h : xs.length = ys.length) (ix : AllI xs) (iy : AllI ys) (j : Nat) : I32 ((ends0 xs ys)[j]?.getD 0) ∧ I32 ((ends1 xs ys)[j]?.getD 0) := by
  unfold ends0 ends1
  split
  · rcases j with _ | j <;> simp [I32]
  · exact ⟨ix j, iy j⟩
/-- Eval of one part. -/
theorem eval_part {k n x : Int} {siz bits enc dec dat fns bnd txt : Value} {pd pr' p0 p1 pi dl rl l0 l1 j rl' b0 b1 bi : Nat} {ad ar a0 a1 ar' : Option Addr} {ds rs : List (Int × Int)} {xs ys : List Int} {w V W9 : World} (hn : I32 n) (hx : I32 x) (hj : Sx.J w)
    (hF : FOk w.heap.size w ad dl ar rl a0 l0 a1 l1 ds rs xs ys) (hlen : xs.length = ys.length) (hjl : j < (endsL xs ys).length) (hr : rs = [] ∨ j < rs.length) (hc : chkAll k ds rs l0 l1 n = 0) (hA : Below w.heap.size w V)
    (hQ : Below V.heap.size V W9) (hR : Rngs W9.heap.size W9 ar' rl' (if rs = [] then [] else [rs[j]?.getD (0, 0)])) (hRI : AllR rs)
    (c0 : W9.cell? ⟨b0, 0, none⟩ = some (.int .i32 ((ends0 xs ys)[j]?.getD 0))) (c1 : W9.cell? ⟨b1, 0, none⟩ = some (.int .i32 ((ends1 xs ys)[j]?.getD 0))) (ci : W9.cell? ⟨bi, 0, none⟩ = some (.int .i32 x)) (h0 : b0 < W9.heap.size) (h1 : b1 < W9.heap.size) (hi : bi < W9.heap.size) :
    Calls Tryd.prog 11 #[.agg #[.int .u8 k, .slice ad dl pd, .slice ar' rl' pr', siz, bits, enc, dec, dat, .slice (some ⟨b0, 0, none⟩) 1 p0, .slice (some ⟨b1, 0, none⟩) 1 p1, .int .i32 n, fns, bnd, txt], .slice (some ⟨bi, 0, none⟩) 1 pi] W9 fun e w' =>
      (∃ g o cap, e = .returned (.tuple #[.slice (some ⟨g, o, none⟩) 1 cap, .int .i64 0]) ∧ w'.cell? ⟨g, o, none⟩ = some (.int .i32 ((evalL ds rs xs ys n x)[j]?.getD 0))) ∧ Below W9.heap.size W9 w' := by
  have hAW := andB hA hQ
  have hI := ends_I32 hlen hF.ix hF.iy j
  refine (eval_one (ds := ds) (rs := if rs = [] then [] else [rs[j]?.getD (0, 0)]) (xs := [(ends0 xs ys)[j]?.getD 0]) (ys := [(ends1 xs ys)[j]?.getD 0]) hn hx (Sx.J_kept hAW hj) ⟨(hF.on hAW).d, hR, fixs_cell h0 c0, fixs_cell h1 c1, hF.id, allI_one hI.1, allI_one hI.2⟩ (fixs_cell hi ci) (part_chk hc hr)).mono ?_
  rintro e w' ⟨⟨a, len, cap, rfl, hf⟩, hB⟩
  rw [part_eval hlen hjl hr] at hf
  obtain ⟨f1, f2⟩ := hf
  obtain rfl : len = 1 := f1
  obtain ⟨g, o, rfl, hg, hcc⟩ := f2.resolve_left (by simp)
  exact ⟨⟨g, o, cap, rfl, by simpa using hcc 0 (by simp)⟩, hB⟩
theorem rngs_zero (a : Option Addr) (n : Nat) (W : World) : Rngs n W a 0 [] := ⟨rfl, .inl rfl⟩
theorem fixs_cells2 {n₀ : Nat} {W : World} {a : Option Addr} {xs : List Int} {k len : Nat} (h : Fixs n₀ W a len xs) (hk : k < len) : ∃ b off, a = some ⟨b, off, none⟩ ∧ b < n₀ ∧ W.cell? ⟨b, off + k, none⟩ = some (.int .i32 (xs[k]?.getD 0)) := by
  obtain ⟨h1, h2 | ⟨b, off, e, hb, hc⟩⟩ := h
  · subst h2; simp at h1; omega
  · exact ⟨b, off, e, hb, hc k (by omega)⟩
theorem rngs_cells2 {n₀ : Nat} {W : World} {a : Option Addr} {rs : List (Int × Int)} {k len : Nat} (h : Rngs n₀ W a len rs) (hk : k < len) : ∃ b off, a = some ⟨b, off, none⟩ ∧ b < n₀ ∧ W.cell? ⟨b, off + k * 2, none⟩ = some (.int .i32 (rs[k]?.getD (0, 0)).1) ∧ W.cell? ⟨b, off + k * 2 + 1, none⟩ = some (.int .i32 (rs[k]?.getD (0, 0)).2) := by
  obtain ⟨h1, h2 | ⟨b, off, e, hb, hc⟩⟩ := h
  · subst h2; simp at h1; omega
  · exact ⟨b, off, e, hb, (hc k (by omega)).1, (hc k (by omega)).2⟩
set_option maxRecDepth 100000 in
set_option maxHeartbeats 8000000 in
theorem lparts_ok (k q4 : Int) (ad ar a3 a5 a6 a7 a0 a1 a11 a12 : Option Addr) (dl rl l3 l5 l6 l7 l0 l1 l11 l12 pd pr p3 p5 p6 p7 p0 p1 p11 p12 L : Nat) (t : ByteArray) (n x : Int) (ds rs : List (Int × Int)) (xs ys : List Int) (w : World) (hn : I32 n) (hx : I32 x) (hj : Sx.J w)
    (hF' : Go.RowKit.Hid (FOk w.heap.size w ad dl ar rl a0 l0 a1 l1 ds rs xs ys)) (hC : Go.RowKit.Hid (chkAll k ds rs l0 l1 n = 0)) (hL : Go.RowKit.Hid (L = (endsL xs ys).length)) (hlen : Go.RowKit.Hid (xs.length = ys.length))
    (hLe : Go.RowKit.Hid ((ends0 xs ys).length = L)) (hLe1 : Go.RowKit.Hid ((ends1 xs ys).length = L)) (hL8 : L ≤ 8) (hRL : Go.RowKit.Hid (rl = 0 ∨ rl = L)) (hF'r : Go.RowKit.Hid (AllR rs)) :
    Calls Tryd.prog 6 #[.agg #[.int .u8 k, .slice ad dl pd, .slice ar rl pr, .slice a3 l3 p3, .int .i64 q4, .slice a5 l5 p5, .slice a6 l6 p6, .slice a7 l7 p7, .slice a0 l0 p0, .slice a1 l1 p1, .int .i32 n, .slice a11 l11 p11, .slice a12 l12 p12, .string t], .int .i32 x] w (LV w) := by
  have HG := Lib.hid (great_g (.int .u8 k) (.int .i64 q4) (.int .i32 n) ad ar a3 a5 a6 a7 a0 a1 a11 a12 dl rl l3 l5 l6 l7 l0 l1 l11 l12 pd pr p3 p5 p6 p7 p0 p1 p11 p12 t w)
  go_enter Tryd.func6, Tryd.ntmps6
  go_wp2_with (first
      | (go_at_call 7; refine HG.out.mono ?_; rintro e w1 ⟨⟨b, rfl⟩, hBw, hsz, hbox, hfz⟩; clear hfz; have hbx := hbox; obtain ⟨f0, f1, f2, f3, f4q, f5, f6, f7, f8, f9, f10, f11, f12, f13⟩ := hbox; cases b)
      | (go_at_call 9; refine (check_one (ds := ds) (rs := rs) (xs := xs) (ys := ys) hn (Sx.J_kept hBw hj) (hF'.out.on hBw)).mono ?_; rintro e w2 ⟨rfl, hB2⟩; rw [hC.out]; have hA2 := andB hBw hB2; have hbg := hbx.on hB2 hsz; have hsz2 := Nat.lt_of_lt_of_le hsz hB2.size; clear hbx hB2 hsz hBw f0 f1 f2 f3 f4q f5 f6 f7 f8 f9 f10 f11 f12 f13; have hbh := hbg; obtain ⟨g0, g1, g2, g3, g4, g5, g6, g7, g8, g9, g10, g11, g12, g13⟩ := hbg)
      | (go_at_call 10; refine (lends_any _ _ _ _ _ _ _ _ _ _ _ _ _ _ _ _ _ _ xs ys _ (hF'.out.on hA2).c0 (hF'.out.on hA2).c1).mono ?_; rintro e w3 ⟨⟨b0, b1, m0, m1, q0, q1, rfl, hE0, hE1⟩, hB3⟩; have hA3 := andB hA2 hB3; have hbi := Box14.on hbh hB3 hsz2; have hsz3 := Nat.lt_of_lt_of_le hsz2 hB3.size; obtain rfl : L = m0 := (hE0.1.trans hLe.out).symm; obtain rfl : L = m1 := (hE1.1.trans hLe1.out).symm; clear hbh hA2 hsz2 hB3 g0 g1 g2 g3 g4 g5 g6 g7 g8 g9 g10 g11 g12 g13; have hbj := hbi; obtain ⟨i0, i1, i2, i3, i4, i5, i6, i7, i8, i9, i10, i11, i12, i13⟩ := hbi)
      | (go_at_call 11; have hA3q := hA3.alloc hA3.size (.cells #[.int .i32 x] 27); have q1 := Sx.J_kept hA3q hj; have q2 := hF'.out.on hA3q; have q4 := fixs_new w3 27 x (w3.alloc (.cells #[.int .i32 x] 27)).heap.size (by simp); refine (eval_one hn hx q1 q2 q4 hC.out).mono ?_; clear q1 q2 q4 hA3q; rintro e w5 ⟨⟨u5, n5, c5, rfl, hv5⟩, hB5⟩; have hB5' := andB ((Below.refl _ _).alloc (Nat.le_refl _) _) hB5; have hA5 := andB hA3 hB5'; have hbk := Box14.on hbj hB5' hsz3; have hsz5 := Nat.lt_of_lt_of_le hsz3 hB5'.size; have hE0' := Fixs.on hE0 hB5'; have hE1' := Fixs.on hE1 hB5'; clear hbj hE0 hE1 hA3 hsz3 hB5 hB5' i0 i1 i2 i3 i4 i5 i6 i7 i8 i9 i10 i11 i12 i13; obtain rfl : L = n5 := (hv5.1.trans ((evalL_len ..).trans hL.out.symm)).symm)
      | (go_at_call 8; refine (lives_any _ (Sx.J_kept (by assumption) hj)).mono ?_; rintro e wl ⟨rfl, hBl⟩))
  all_goals try (go_ret; exact LV.of (by assumption) hBl)
  go_loopw [9] (fun i V => ∃ j : Nat, j ≤ L ∧ i = .int .i64 j ∧ Below w5.heap.size w5 V) (fun i _ => L - (intOf i).toNat)
  case atStart => exact ⟨0, Nat.zero_le _, rfl, Below.refl _ _⟩
  case round =>
    obtain ⟨j, hjl, rfl, hBV⟩ := hrel
    by_cases hjL : j < L
    · have hlt2 : (j : Int) < L := by omega
      have hj8 : j < 8 := by omega
      have hAV := andB hA5 hBV
      obtain ⟨i0, i1, i2, i3, i4, i5, i6, i7, i8, i9, i10, i11, i12, i13⟩ := Box14.on hbk hBV hsz5
      have hszV := Nat.lt_of_lt_of_le hsz5 hBV.size
      obtain ⟨ba, oa, ea, hba, hca⟩ := fixs_cells2 (hE0'.below hBV) hjL
      obtain ⟨bb, ob, eb, hbb, hcb⟩ := fixs_cells2 (hE1'.below hBV) hjL
      obtain ⟨bz, oz, ez, hbz, hcz⟩ := fixs_cells2 (hv5.below hBV) hjL
      subst ea eb ez
      obtain ⟨A, eA⟩ : ∃ A, A = (evalL ds rs xs ys n x)[j]?.getD 0 := ⟨_, rfl⟩
      rw [← eA] at hcz
      have eA' := Lib.hid eA; clear eA
      have hWV := hBV.size
      have hbaV : ba < wr.heap.size := by omega
      have hbbV : bb < wr.heap.size := by omega
      have hbzV : bz < wr.heap.size := by omega
      have hs2 : w.heap.size < wr.heap.size + 1 + 1 := by omega
      have hs3 : w.heap.size < wr.heap.size + 1 + 1 + 1 := by omega
      have hne1 : ¬ (wr.heap.size = w.heap.size) := by omega
      have hne2 : ¬ (w.heap.size = wr.heap.size) := by omega
      have hne3 : ¬ (ba = wr.heap.size) := by omega
      have hne4 : ¬ (bb = wr.heap.size) := by omega
      have hne5 : ¬ (wr.heap.size = ba) := by omega
      have hne6 : ¬ (wr.heap.size = bb) := by omega
      by_cases hr0 : rl = 0
      · have hr02 : ¬ (0 < (rl : Int)) := by omega
        have hrs0 : rs = [] := List.eq_nil_of_length_eq_zero (by rw [← hF'.out.r.1]; exact hr0)
        have hrr : rs = [] ∨ j < rs.length := .inl hrs0
        subst hr0
        go_wp2_with (fail)
        have hQ : Below wr.heap.size wr ((((wr.alloc (.cells #[.int .u8 k, .slice ad dl pd, .slice ar 0 pr, .slice a3 l3 p3, .int .i64 q4, .slice a5 l5 p5, .slice a6 l6 p6, .slice a7 l7 p7, .slice (some ⟨wr.heap.size + 1, 0, none⟩) 1 1, .slice (some ⟨wr.heap.size + 1 + 1, 0, none⟩) 1 1, .int .i32 n, .slice a11 l11 p11, .slice a12 l12 p12, .string t] 30)).alloc (.cells #[.int .i32 ((ends0 xs ys)[j]?.getD 0)] 27)).alloc (.cells #[.int .i32 ((ends1 xs ys)[j]?.getD 0)] 27)).alloc (.cells #[.int .i32 x] 27)) := by (repeat (first | exact Below.refl _ _ | refine Below.alloc ?_ (by simp <;> omega) _))
        refine (eval_part (V := wr) hn hx hj hF'.out hlen.out (j := j) (by rw [← hL.out]; exact hjL) hrr hC.out hAV hQ (by rw [if_pos hrs0]; exact rngs_zero _ _ _) hF'r.out (by simp [go_sem]) (by simp [go_sem]) (by simp [go_sem]) (by simp <;> omega) (by simp <;> omega) (by simp)).mono ?_
        rintro e w9 ⟨⟨g, o, cap, rfl, hg⟩, hB9⟩
        rw [← eA'.out] at hg
        have hVW := andB hQ hB9
        have hcz9 := (hVW.cell (p := ⟨bz, oz + j, none⟩) hbzV).trans hcz
        clear hQ hB9
        go_wp2_with (fail)
        go_quiet (fail)
        go_wp2_with (fail)
        go_roundw
        case rel => exact ⟨j + 1, by omega, by go_num, below_drewN (andB hBV hVW) _⟩
        case measure => simp [intOf]; omega
      · have hr02 : 0 < (rl : Int) := by omega
        have hrlL : rl = L := by rcases hRL.out with h | h <;> omega
        have hjr : j < rs.length := by rw [← hF'.out.r.1, hrlL]; exact hjL
        have hrs1 : ¬ rs = [] := by rintro rfl; simp at hjr
        have hrr : rs = [] ∨ j < rs.length := .inr hjr
        obtain ⟨br, or, er, hbr, hcr1, hcr2⟩ := rngs_cells2 (hF'.out.r.below hAV) (show j < rl by omega)
        obtain ⟨B, eB⟩ : ∃ B, B = (rs[j]?.getD (0, 0)).1 := ⟨_, rfl⟩
        obtain ⟨C, eC⟩ : ∃ C, C = (rs[j]?.getD (0, 0)).2 := ⟨_, rfl⟩
        have eR := Lib.hid (show rs[j]?.getD (0, 0) = (B, C) by rw [eB, eC])
        rw [← eB] at hcr1
        rw [← eC] at hcr2
        clear eB eC
        have hrs1' := Lib.hid hrs1
        have hrr' := Lib.hid hrr
        have hwV := hAV.size
        have hlt5 : (j : Int) < rl := by omega
        clear hrs1 hrr hjr hrlL
        subst er
        have hbr1 : br < wr.heap.size := by omega
        have hbr2 : br < wr.heap.size + 1 + 1 := by omega
        have hbr3 : br < wr.heap.size + 1 + 1 + 1 := by omega
        have hne7 : ¬ (br = wr.heap.size) := by omega
        have hne8 : ¬ (wr.heap.size = br) := by omega
        go_wp2_with (fail)
        have hQ : Below wr.heap.size wr (((((wr.alloc (.cells #[.int .u8 k, .slice ad dl pd, .slice (some ⟨wr.heap.size + 1 + 1 + 1, 0, none⟩) 1 1, .slice a3 l3 p3, .int .i64 q4, .slice a5 l5 p5, .slice a6 l6 p6, .slice a7 l7 p7, .slice (some ⟨wr.heap.size + 1, 0, none⟩) 1 1, .slice (some ⟨wr.heap.size + 1 + 1, 0, none⟩) 1 1, .int .i32 n, .slice a11 l11 p11, .slice a12 l12 p12, .string t] 30)).alloc (.cells #[.int .i32 ((ends0 xs ys)[j]?.getD 0)] 27)).alloc (.cells #[.int .i32 ((ends1 xs ys)[j]?.getD 0)] 27)).alloc (.cells #[.int .i32 B, .int .i32 C] 34)).alloc (.cells #[.int .i32 x] 27)) := by (repeat (first | exact Below.refl _ _ | refine Below.alloc ?_ (by simp <;> omega) _))
        refine (eval_part (V := wr) hn hx hj hF'.out hlen.out (j := j) (by rw [← hL.out]; exact hjL) hrr'.out hC.out hAV hQ (by rw [if_neg hrs1'.out, eR.out]; exact rngs_cell (r := (B, C)) (by simp <;> omega) (by simp [go_sem]) (by simp [go_sem])) hF'r.out (by simp [go_sem]) (by simp [go_sem]) (by simp [go_sem]) (by simp <;> omega) (by simp <;> omega) (by simp)).mono ?_
        rintro e w9 ⟨⟨g, o, cap, rfl, hg⟩, hB9⟩
        rw [← eA'.out] at hg
        have hVW := andB hQ hB9
        have hcz9 := (hVW.cell (p := ⟨bz, oz + j, none⟩) hbzV).trans hcz
        clear hQ hB9
        go_wp2_with (fail)
        go_quiet (fail)
        go_wp2_with (fail)
        go_roundw
        case rel => exact ⟨j + 1, by omega, by go_num, below_drewN (andB hBV hVW) _⟩
        case measure => simp [intOf]; omega
    · obtain rfl : j = L := by omega
      have hBW := andB hA5 hBV
      go_wp2_with ((go_at_call 8; refine (lives_any _ (Sx.J_kept hBW hj)).mono ?_; rintro e wl ⟨rfl, hBl⟩))
      go_ret
      exact LV.of (by assumption) hBl
set_option maxRecDepth 100000 in
set_option maxHeartbeats 4000000 in
theorem lparts_any (k q4 : Int) (ad ar a3 a5 a6 a7 a0 a1 a11 a12 : Option Addr) (dl rl l3 l5 l6 l7 l0 l1 l11 l12 pd pr p3 p5 p6 p7 p0 p1 p11 p12 : Nat) (t : ByteArray) (n x : Int) (ds rs : List (Int × Int)) (xs ys : List Int) (w : World) (hn : I32 n) (hx : I32 x) (hj : Sx.J w)
    (hF : FOk w.heap.size w ad dl ar rl a0 l0 a1 l1 ds rs xs ys) (hRI : AllR rs) :
    Calls Tryd.prog 6 #[.agg #[.int .u8 k, .slice ad dl pd, .slice ar rl pr, .slice a3 l3 p3, .int .i64 q4, .slice a5 l5 p5, .slice a6 l6 p6, .slice a7 l7 p7, .slice a0 l0 p0, .slice a1 l1 p1, .int .i32 n, .slice a11 l11 p11, .slice a12 l12 p12, .string t], .int .i32 x] w (LV w) := by
  by_cases hc : chkAll k ds rs l0 l1 n = 0
  · obtain ⟨hk2, hd1, hll, hm4, hrl, hcF⟩ := chk_zero hc
    have hlen : xs.length = ys.length := by rw [← hF.c0.1, ← hF.c1.1]; exact hll
    have hLm : (endsL xs ys).length = max l0 1 := by have := endsL_len (xs := xs) (ys := ys) (m := l0) hF.c0.1 (by rw [hll]; exact hF.c1.1); omega
    exact lparts_ok k q4 ad ar a3 a5 a6 a7 a0 a1 a11 a12 dl rl l3 l5 l6 l7 l0 l1 l11 l12 pd pr p3 p5 p6 p7 p0 p1 p11 p12 (endsL xs ys).length t n x ds rs xs ys w hn hx hj (Lib.hid hF) (Lib.hid hc) (Lib.hid rfl) (Lib.hid hlen)
      (Lib.hid (by rw [← (endsL_ends hlen).1, List.length_map])) (Lib.hid (by rw [← (endsL_ends hlen).2, List.length_map])) (by omega) (Lib.hid (by rw [hF.r.1, hLm]; exact hrl)) (Lib.hid hRI)
  · have hF' := Lib.hid hF
    have HG := Lib.hid (great_g (.int .u8 k) (.int .i64 q4) (.int .i32 n) ad ar a3 a5 a6 a7 a0 a1 a11 a12 dl rl l3 l5 l6 l7 l0 l1 l11 l12 pd pr p3 p5 p6 p7 p0 p1 p11 p12 t w)
    clear hF
    have hcb : (chkAll k ds rs l0 l1 n != 0) = true := by simpa using hc
    go_enter Tryd.func6, Tryd.ntmps6
    go_wp2_with (first
      | (go_at_call 7; refine HG.out.mono ?_; rintro e w1 ⟨⟨b, rfl⟩, hBw, hsz, hbox, hfz⟩; clear hfz; have hbx := hbox; obtain ⟨f0, f1, f2, f3, f4q, f5, f6, f7, f8, f9, f10, f11, f12, f13⟩ := hbox; cases b)
      | (go_at_call 9; refine (check_one (ds := ds) (rs := rs) (xs := xs) (ys := ys) hn (Sx.J_kept hBw hj) (hF'.out.on hBw)).mono ?_; rintro e w2 ⟨rfl, hB2⟩; have hA2 := andB hBw hB2)
      | (go_at_call 8; refine (lives_any _ (Sx.J_kept (by assumption) hj)).mono ?_; rintro e wl ⟨rfl, hBl⟩))
    all_goals (go_ret; exact LV.of (by assumption) hBl)
end Go.Proofs.YtlclmanhkhfilaaDoor

set_option maxRecDepth 100000

namespace Go.Proofs.YtlclmanhkhfilaaDoor
open Go Go.RowKit Go.ChangeShapes Go.WideShapes Go.ChangeAt
section
variable {H : Type} {enc : TypeId × Value → H} {w : World} {base : Nat} {spare : Nat → Bool} {held : Bool} {fuel : Nat}
/-- what an argument of the type of functions is. -/
theorem func_of4 {cs : List Value} {x : DataW H × List MemPlace} (h : DataW.trod enc Tryd.prog w base spare held fuel 30 cs = some x) :
    ∃ (k q4 : Int) (ad ar a3 a5 a6 a7 a0 a1 a11 a12 : Option Addr) (dl rl l3 l5 l6 l7 l0 l1 l11 l12 pd pr p3 p5 p6 p7 p0 p1 p11 p12 : Nat) (t : ByteArray) (n : Int) (ds rs : List (Int × Int)) (xs ys : List Int),
      cs = [.int .u8 k, .slice ad dl pd, .slice ar rl pr, .slice a3 l3 p3, .int .i64 q4, .slice a5 l5 p5, .slice a6 l6 p6, .slice a7 l7 p7, .slice a0 l0 p0, .slice a1 l1 p1, .int .i32 n, .slice a11 l11 p11, .slice a12 l12 p12, .string t] ∧ I32 n ∧
      FOk w.heap.size w ad dl ar rl a0 l0 a1 l1 ds rs xs ys ∧ AllR rs := by
  obtain ⟨zs, m, rfl, _, hlen, hzs, hf⟩ := DataW.trod_struct Tryd.underlying30 h
  rw [show Tryd.prog.cellsOf 30 = 14 by kernel_rfl] at hlen
  match zs, hzs, cs, hlen with
  | [y0, y1, y2, y3, y4, y5, y6, y7, y8, y9, y10, y11, y12, y13], _, [c0, c1, c2, c3, c4, c5, c6, c7, c8, c9, c10, c11, c12, c13], _ =>
    have g0 := hf 0 _ rfl
    have g1 := hf 1 _ rfl
    have g2 := hf 2 _ rfl
    have g3 := hf 3 _ rfl
    have g4 := hf 4 _ rfl
    have g5 := hf 5 _ rfl
    have g6 := hf 6 _ rfl
    have g7 := hf 7 _ rfl
    have g8 := hf 8 _ rfl
    have g9 := hf 9 _ rfl
    have g10 := hf 10 _ rfl
    have g11 := hf 11 _ rfl
    have g12 := hf 12 _ rfl
    have g13 := hf 13 _ rfl
    simp only [show Tryd.prog.cellsOf 3 = 1 by kernel_rfl, show Tryd.prog.cellsOf 22 = 1 by kernel_rfl, show Tryd.prog.cellsOf 23 = 1 by kernel_rfl, show Tryd.prog.cellsOf 24 = 1 by kernel_rfl, show Tryd.prog.cellsOf 25 = 1 by kernel_rfl, show Tryd.prog.cellsOf 26 = 1 by kernel_rfl, show Tryd.prog.cellsOf 27 = 1 by kernel_rfl, show Tryd.prog.cellsOf 28 = 1 by kernel_rfl, show Tryd.prog.cellsOf 9 = 1 by kernel_rfl,
      List.drop_zero, List.drop_succ_cons, List.take_succ_cons, List.take_zero, List.getElem?_cons_zero, List.getElem?_cons_succ] at g0 g1 g2 g3 g4 g5 g6 g7 g8 g9 g10 g11 g12 g13
    obtain ⟨k, e0, _, _⟩ := DataW.trod_int Tryd.underlying22 g0
    obtain ⟨ad, dl, pd, ds, e1, r1, q1⟩ := rngs_of g1
    obtain ⟨ar, rl, pr, rs, e2, r2, q2⟩ := rngs_of g2
    obtain ⟨a3, l3, p3, e3⟩ := slice_of Tryd.underlying24 g3
    obtain ⟨q4, e4, _, _⟩ := DataW.trod_int (show Tryd.prog.underlying 3 = some (.int .i64) by kernel_rfl) g4
    obtain ⟨a5, l5, p5, e5⟩ := slice_of Tryd.underlying23 g5
    obtain ⟨a6, l6, p6, e6⟩ := slice_of Tryd.underlying23 g6
    obtain ⟨a7, l7, p7, e7⟩ := slice_of Tryd.underlying25 g7
    obtain ⟨a0, l0, p0, xs, e8, r8, q8⟩ := fixs_of g8
    obtain ⟨a1, l1, p1, ys, e9, r9, q9⟩ := fixs_of g9
    obtain ⟨n, e10, _, w10⟩ := DataW.trod_int Tryd.underlying27 g10
    obtain ⟨a11, l11, p11, e11⟩ := slice_of Tryd.underlying28 g11
    obtain ⟨a12, l12, p12, e12⟩ := slice_of Tryd.underlying26 g12
    obtain ⟨t, e13, _, _⟩ := DataW.trod_string Tryd.underlying9 g13
    have h0 : c0 = _ := (List.cons.inj e0).1
    have h1 : c1 = _ := (List.cons.inj e1).1
    have h2 : c2 = _ := (List.cons.inj e2).1
    have h3 : c3 = _ := (List.cons.inj e3).1
    have h4 : c4 = _ := (List.cons.inj e4).1
    have h5 : c5 = _ := (List.cons.inj e5).1
    have h6 : c6 = _ := (List.cons.inj e6).1
    have h7 : c7 = _ := (List.cons.inj e7).1
    have h8 : c8 = _ := (List.cons.inj e8).1
    have h9 : c9 = _ := (List.cons.inj e9).1
    have h10 : c10 = _ := (List.cons.inj e10).1
    have h11 : c11 = _ := (List.cons.inj e11).1
    have h12 : c12 = _ := (List.cons.inj e12).1
    have h13 : c13 = _ := (List.cons.inj e13).1
    subst h0 h1 h2 h3 h4 h5 h6 h7 h8 h9 h10 h11 h12 h13
    exact ⟨k, q4, ad, ar, a3, a5, a6, a7, a0, a1, a11, a12, dl, rl, l3, l5, l6, l7, l0, l1, l11, l12, pd, pr, p3, p5, p6, p7, p0, p1, p11, p12, t, n, ds, rs, xs, ys, rfl, wf_i32 w10, ⟨r1, r2, r8, r9, q1, q8, q9⟩, q2⟩
end
/-- what a law of a function and a number must be shown. -/
def Walk4 (f : FuncId) : Prop :=
  ∀ (k q4 : Int) (ad ar a3 a5 a6 a7 a0 a1 a11 a12 : Option Addr) (dl rl l3 l5 l6 l7 l0 l1 l11 l12 pd pr p3 p5 p6 p7 p0 p1 p11 p12 : Nat) (t : ByteArray) (n x : Int) (ds rs : List (Int × Int)) (xs ys : List Int) (w : World), I32 n → I32 x → Sx.J w →
    FOk w.heap.size w ad dl ar rl a0 l0 a1 l1 ds rs xs ys → AllR rs →
    Calls Tryd.prog f #[.agg #[.int .u8 k, .slice ad dl pd, .slice ar rl pr, .slice a3 l3 p3, .int .i64 q4, .slice a5 l5 p5, .slice a6 l6 p6, .slice a7 l7 p7, .slice a0 l0 p0, .slice a1 l1 p1, .int .i32 n, .slice a11 l11 p11, .slice a12 l12 p12, .string t], .int .i32 x] w (LV w)

theorem law_lifted_curve4 {os : Os} {H : Type} {enc : TypeId × Value → H} {f : FuncId} {fn : Func} {s : ChangeSpec} {conds : List PathCond} {tb : TypeId}
    (own : ownKnob Tryd.checked.prog.godebug = none) (started : os.Started) (noInit : Tryd.checked.prog.inits.idxOf? f = none) (hfn : Tryd.checked.prog.funcs[f]? = some fn)
    (laid : laidOutB Tryd.checked.prog = true) (hps : fn.params = #[30, 27])
    (hrd : (fn.params.toList.all fun t => Tryd.checked.prog.readableRec t && decide (t < Tryd.checked.prog.types.size)) = true)
    (hvars : s.vars = []) (hspec : ∀ ds : List (DataW H), ds.length = fn.params.size → s.fn H ds = { results := [.lit (.bool true)], args := ds })
    (hres : fn.resultTypes = #[tb]) (hb : Tryd.checked.prog.underlying tb = some .bool)
    (witness : ∃ (w : World) (tape : Tape) (i : Input), w.os = os ∧ (w.forCall tape i).Shaped Tryd.checked.prog ∧ i.vars = [] ∧ Input.okWide Tryd.checked.prog (w.forCall tape i) .any w.heap.size f i ∧
      ((s.pre enc Tryd.checked.prog fn conds false (w.forCall tape i).memory i.args ∧ laidMetH Tryd.prog Sx.laidL (w.forCall tape i).memory) ∧ sizedMet enc Tryd.checked.prog fn (OpenSpec.ofChange s) false (w.forCall tape i).memory i.args) ∧ Assume.holds {} Tryd.checked.prog (lone (Frame.enter Tryd.checked.prog f i.args .normal) [] (w.forCall tape i)))
    (walk : Walk4 f) :
    ReturnsInHanded {} Tryd.checked os f .any (fun w args => (s.pre enc Tryd.checked.prog fn conds false w args ∧ laidMetH Tryd.prog Sx.laidL w) ∧ sizedMet enc Tryd.checked.prog fn (OpenSpec.ofChange s) false w args) (s.post enc Tryd.checked.prog fn false true false false) := by
  refine returnsInHanded_of_change_and (X := fun w _ => laidMetH Tryd.prog Sx.laidL w) (fun _ _ _ hh h => h.of_heap hh) own started noInit hfn witness ?_
  intro W base args ds gs before hval hW _ _ hL _
  have hW' := hW
  obtain ⟨p, q, hA, hV, rfl, hfz, hnd⟩ := hW
  rw [hvars] at hV
  obtain ⟨rfl, rfl⟩ := trodVars_none hV
  obtain ⟨l1, l2⟩ := Sx.trodAll_len hA
  have hA2 := hA
  rw [hps] at hA2
  obtain ⟨v, v', d, d', p1, p2, rfl, rfl, rfl, hd, hd'⟩ := trodAll_two hA2
  have hv := hval 0 30 v (by rw [hps]; rfl) rfl
  have hv' := hval 1 27 v' (by rw [hps]; rfl) rfl
  obtain ⟨cs, rfl, _⟩ := okWide_struct Tryd.underlying30 hv
  obtain ⟨x, rfl⟩ := okWide_int Tryd.underlying27 hv'
  obtain ⟨fu, hd⟩ := hd
  obtain ⟨fu', hd'⟩ := hd'
  simp only [Value.cells] at hd hd'
  obtain ⟨k, q4, ad, ar, a3, a5, a6, a7, a0, a1, a11, a12, dl, rl, l3, l5, l6, l7, l0, l1', l11, l12, pd, pr, p3, p5, p6, p7, p0, p1', p11, p12, t, n, ds, rs, xs, ys, hcs, hn, hF, hRI⟩ := func_of4 hd
  obtain ⟨x', hx1, _, hx2⟩ := DataW.trod_int Tryd.underlying27 hd'
  obtain rfl : x = x' := by simpa using hx1
  obtain rfl : cs = #[.int .u8 k, .slice ad dl pd, .slice ar rl pr, .slice a3 l3 p3, .int .i64 q4, .slice a5 l5 p5, .slice a6 l6 p6, .slice a7 l7 p7, .slice a0 l0 p0, .slice a1 l1' p1', .int .i32 n, .slice a11 l11 p11, .slice a12 l12 p12, .string t] := by
    cases cs; simpa using hcs
  refine (walk k q4 ad ar a3 a5 a6 a7 a0 a1 a11 a12 dl rl l3 l5 l6 l7 l0 l1' l11 l12 pd pr p3 p5 p6 p7 p0 p1' p11 p12 t n x ds rs xs ys W hn (wf_i32 hx2) (Sx.J_of_laid hL) hF hRI).mono ?_
  rintro e W' ⟨rfl, hs⟩
  have hlt : ∀ x ∈ p1 ++ p2, x.block < W.heap.size := fun x hx => by simpa using hW'.lt x (by simpa using hx)
  have hsp := hspec [d, d'] (by simpa using l2)
  have hr : ∀ t ∈ fn.params.toList, Tryd.checked.prog.readableRec t = true ∧ t < Tryd.checked.prog.types.size := by
    intro t ht
    have := List.all_eq_true.1 hrd t ht
    simpa using this
  refine ⟨_, rfl, [d, d'], [], (p1 ++ p2) ++ [], [], p1 ++ p2, [], hW', ?_, ?_, ?_, hs.frame _, fun h => by cases h⟩
  · rw [List.append_nil, hsp, hres]
    exact trodAll_mk1 (shut_bool hb _)
  · rw [List.append_nil, hsp]
    exact Sx.trodAll_below laid hs hA hr hlt
  · rw [List.append_nil, hsp, hvars]
    rfl
end Go.Proofs.YtlclmanhkhfilaaDoor
