/-
  Curves: both Evals, whatever they are handed; CurvesOf, walked.
-/
import Derived.Test.YtogcbmadcgjljaaDoorVt
import Derived.Test.YtogcbmadcgjljaaDoorTie
import Derived.Test.YtogcbmadcgjljaaDoorCards
set_option linter.all false
namespace Go.Proofs.YtogcbmadcgjljaaDoor
open Go.RowKit
attribute [local go_sem] Oper.semAt_some
set_option maxHeartbeats 1000000 in
theorem reval_b (f0 f1 f2 f3 f4 f5 f6 f7 f8 f9 f10 f11 f12 f13 vi : Value) (c : Int) (hc : c ≠ 0) (w : World)
    (hchk : ∀ W, Below w.heap.size w W → Calls Tryd.prog 10 #[.agg #[f0, f1, f2, f3, f4, f5, f6, f7, f8, f9, f10, f11, f12, f13]] W fun e w' => e = .returned (.int .i64 c) ∧ Below W.heap.size W w') :
    Calls Tryd.prog 8 #[.agg #[f0, f1, f2, f3, f4, f5, f6, f7, f8, f9, f10, f11, f12, f13], vi] w fun e w' => e = .returned (.tuple #[.slice none 0 0, .int .i64 c]) ∧ Below w.heap.size w w' := by
  have HC := Lib.hid hchk; clear hchk
  have hcb : (c == 0) = false := by simpa using hc
  go_enter Tryd.func8, Tryd.ntmps8
  go_wp2_with (go_at_call 10; refine (HC.out _ ?_).mono ?_; (first | exact (Below.refl _ w).alloc (Nat.le_refl _) _ | done); rintro e w' ⟨rfl, hBk⟩)
  go_ret2
  exact ⟨rfl, ((Below.refl _ w).alloc (Nat.le_refl _) _).trans (hBk.mono (by simp))⟩
set_option maxHeartbeats 1000000 in
theorem reval_l (f0 f1 f2 f3 f4 f5 f6 f7 f8 f9 f10 f11 f12 f13 : Value) (ai : Option Addr) (li pi : Nat) (hl : li ≠ 1) (hl' : ¬ ((li : Int) = 1)) (w : World)
    (hchk : ∀ W, Below w.heap.size w W → Calls Tryd.prog 10 #[.agg #[f0, f1, f2, f3, f4, f5, f6, f7, f8, f9, f10, f11, f12, f13]] W fun e w' => e = .returned (.int .i64 0) ∧ Below W.heap.size W w') :
    Calls Tryd.prog 8 #[.agg #[f0, f1, f2, f3, f4, f5, f6, f7, f8, f9, f10, f11, f12, f13], .slice ai li pi] w fun e w' => e = .returned (.tuple #[.slice none 0 0, .int .i64 1]) ∧ Below w.heap.size w w' := by
  have HC := Lib.hid hchk; clear hchk
  go_enter Tryd.func8, Tryd.ntmps8
  go_wp2_with (go_at_call 10; refine (HC.out _ ?_).mono ?_; (first | exact (Below.refl _ w).alloc (Nat.le_refl _) _ | done); rintro e w' ⟨rfl, hBk⟩)
  go_ret2
  exact ⟨rfl, ((Below.refl _ w).alloc (Nat.le_refl _) _).trans (hBk.mono (by simp))⟩
def evC (k : Int) (ds rs : List (Int × Int)) (l0 l1 : Nat) (n : Int) (is : List Int) : Int := if chkAll k ds rs l0 l1 n ≠ 0 then chkAll k ds rs l0 l1 n else if is.length ≠ 1 then 1 else 0
def evZ (k : Int) (ds rs : List (Int × Int)) (l0 l1 : Nat) (n : Int) (xs ys is : List Int) : List Int := if chkAll k ds rs l0 l1 n ≠ 0 then [] else if is.length ≠ 1 then [] else evalL ds rs xs ys n (is[0]?.getD 0)
/-- what either Eval leaves. -/
def EV (w : World) (c : Int) (zs : List Int) (e : Ending) (w' : World) : Prop :=
  (∃ a len cap, e = .returned (.tuple #[.slice a len cap, .int .i64 c]) ∧ Fixs w'.heap.size w' a len zs) ∧ Below w.heap.size w w'
section
variable {k n : Int} {ad ar a0 a1 ai : Option Addr} {dl rl l0 l1 li pd pr p0 p1 pi : Nat} {ds rs : List (Int × Int)} {xs ys is : List Int} {w : World}
theorem evz_len (h0 : l0 = xs.length) (h1 : l1 = ys.length) : (evZ k ds rs l0 l1 n xs ys is).length ≤ 8 := by
  unfold evZ
  split
  · simp
  split
  · simp
  · rename_i c _
    have c1' : chkAll k ds rs l0 l1 n = 0 := by omega
    obtain ⟨_, _, e3, e4, _⟩ := chk_zero c1'
    rw [evalL_len, endsL_len (m := l0) h0 (by omega)]
    omega
theorem eval_ev (siz bits enc dec dat fns bnd txt : Value) (hn : I32 n) (hj : Sx.J w) (hF : FOk w.heap.size w ad dl ar rl a0 l0 a1 l1 ds rs xs ys) (hi : Fixs w.heap.size w ai li is) (ii : AllI is) :
    Calls Tryd.prog 7 #[.agg #[.int .u8 k, .slice ad dl pd, .slice ar rl pr, siz, bits, enc, dec, dat, .slice a0 l0 p0, .slice a1 l1 p1, .int .i32 n, fns, bnd, txt], .slice ai li pi] w (EV w (evC k ds rs l0 l1 n is) (evZ k ds rs l0 l1 n xs ys is)) := by
  refine (eval_any k siz bits enc dec dat fns bnd txt ad ar a0 a1 ai dl rl l0 l1 li pd pr p0 p1 pi n ds rs xs ys is w hn hj hF.d hF.r hF.c0 hF.c1 hi hF.id hF.ix hF.iy ii).mono ?_
  rintro e w' ⟨⟨v, c, rfl, h1, h2, h3⟩, hB⟩
  refine ⟨?_, hB⟩
  unfold evC evZ
  by_cases c1 : chkAll k ds rs l0 l1 n ≠ 0
  · obtain ⟨rfl, rfl⟩ := h1 c1
    rw [if_pos c1, if_pos c1]
    exact ⟨_, _, _, rfl, fixs_nil _ _⟩
  · rw [if_neg c1, if_neg c1]
    have c1' : chkAll k ds rs l0 l1 n = 0 := by omega
    by_cases c2 : is.length ≠ 1
    · obtain ⟨rfl, rfl⟩ := h2 c1' c2
      rw [if_pos c2, if_pos c2]
      exact ⟨_, _, _, rfl, fixs_nil _ _⟩
    · obtain ⟨rfl, hr⟩ := h3 c1' (by omega)
      rw [if_neg c2, if_neg c2]
      obtain ⟨a, len, cap, rfl, hf⟩ := fixs_row hr (evalL_len ..)
      exact ⟨a, len, cap, rfl, hf⟩
theorem reval_ev (f3 f4 f5 f6 f7 f11 f12 f13 : Value) (hn : I32 n) (hj : Sx.J w) (hF : FOk w.heap.size w ad dl ar rl a0 l0 a1 l1 ds rs xs ys) (hi : Fixs w.heap.size w ai li is) (ii : AllI is) :
    Calls Tryd.prog 8 #[.agg #[.int .u8 k, .slice ad dl pd, .slice ar rl pr, f3, f4, f5, f6, f7, .slice a0 l0 p0, .slice a1 l1 p1, .int .i32 n, f11, f12, f13], .slice ai li pi] w (EV w (evC k ds rs l0 l1 n is) (evZ k ds rs l0 l1 n xs ys is)) := by
  have hW : ∀ W, Below w.heap.size w W → Calls Tryd.prog 10 #[.agg #[.int .u8 k, .slice ad dl pd, .slice ar rl pr, f3, f4, f5, f6, f7, .slice a0 l0 p0, .slice a1 l1 p1, .int .i32 n, f11, f12, f13]] W fun e w' => e = .returned (.int .i64 (chkAll k ds rs l0 l1 n)) ∧ Below W.heap.size W w' :=
    fun W hW => rcheck_any k f3 f4 f5 f6 f7 f11 f12 f13 ad ar a0 a1 dl rl l0 l1 pd pr p0 p1 n ds rs xs ys W hn (hF.on hW)
  unfold evC evZ
  by_cases c1 : chkAll k ds rs l0 l1 n ≠ 0
  · rw [if_pos c1, if_pos c1]
    refine (reval_b _ _ _ _ _ _ _ _ _ _ _ _ _ _ _ _ c1 w hW).mono ?_
    rintro e w' ⟨rfl, hB⟩
    exact ⟨⟨_, _, _, rfl, fixs_nil _ _⟩, hB⟩
  have c1' : chkAll k ds rs l0 l1 n = 0 := by omega
  rw [if_neg c1, if_neg c1]
  by_cases c2 : is.length ≠ 1
  · rw [if_pos c2, if_pos c2]
    rw [c1'] at hW
    refine (reval_l _ _ _ _ _ _ _ _ _ _ _ _ _ _ ai li pi (by rw [hi.1]; exact c2) (by rw [hi.1]; omega) w hW).mono ?_
    rintro e w' ⟨rfl, hB⟩
    exact ⟨⟨_, _, _, rfl, fixs_nil _ _⟩, hB⟩
  · rw [if_neg c2, if_neg c2]
    obtain ⟨rfl, e1, e3, e4, e5, e6⟩ := chk_zero c1'
    obtain ⟨q1, q2⟩ := hi
    obtain ⟨bi, oi, rfl, hbi, hci⟩ := q2.resolve_left (by rintro rfl; simp at c2)
    obtain rfl : li = 1 := by omega
    obtain ⟨d1, d2⟩ := hF.d
    obtain ⟨bd, od, rfl, hbd, hcd⟩ := d2.resolve_left (by rintro rfl; simp at e1)
    obtain rfl : dl = 1 := by omega
    have hlh := (chkF_lt e6).2
    refine (reval_t f3 f4 f5 f6 f7 f11 f12 f13 bd od bi oi pi ar a0 a1 rl l0 l1 pd pr p0 p1 n (is[0]?.getD 0) (ds[0]?.getD (0, 0)).1 (ds[0]?.getD (0, 0)).2 ds rs xs ys w hn (ii 0) (hF.id 0).1 (hF.id 0).2 hj hF c1' hbd (by simpa using (hcd 0 (by omega)).1) (by simpa using (hcd 0 (by omega)).2) hbi (by simpa using hci 0 (by omega)) _ rfl).mono ?_
    rintro e w' ⟨⟨v, rfl, hr⟩, hB⟩
    rw [held_both (by omega)] at hr
    obtain ⟨a, len, cap, rfl, hf⟩ := fixs_row hr (evalL_len ds rs xs ys n _)
    exact ⟨⟨a, len, cap, rfl, hf⟩, hB⟩
end
/-- what the last region reads. -/
def SF (b : Nat) (W : World) (f0 f1 f2 f3 f4 f5 f6 f7 f8 f9 f10 f11 f12 f13 : Value) (V : World) : Prop :=
  Box14 b V f0 f1 f2 f3 f4 f5 f6 f7 f8 f9 f10 f11 f12 f13 ∧ Below W.heap.size W V ∧ b < W.heap.size
section
variable {b : Nat} {W V V' : World} {f0 f1 f2 f3 f4 f5 f6 f7 f8 f9 f10 f11 f12 f13 : Value}
theorem SF.to (s : SF b W f0 f1 f2 f3 f4 f5 f6 f7 f8 f9 f10 f11 f12 f13 V) (hB : Below W.heap.size V V') : SF b W f0 f1 f2 f3 f4 f5 f6 f7 f8 f9 f10 f11 f12 f13 V' := ⟨s.1.on hB s.2.2, s.2.1.trans hB, s.2.2⟩
theorem SF.kD (s : SF b W f0 f1 f2 f3 f4 f5 f6 f7 f8 f9 f10 f11 f12 f13 V) : SF b W f0 f1 f2 f3 f4 f5 f6 f7 f8 f9 f10 f11 f12 f13 V.drew := s.to (Below.refl _ _).drew
theorem SF.kB (s : SF b W f0 f1 f2 f3 f4 f5 f6 f7 f8 f9 f10 f11 f12 f13 V) (hB : Below V.heap.size V V') : SF b W f0 f1 f2 f3 f4 f5 f6 f7 f8 f9 f10 f11 f12 f13 V' := s.to (hB.mono s.2.1.size)
theorem SF.bl (s : SF b W f0 f1 f2 f3 f4 f5 f6 f7 f8 f9 f10 f11 f12 f13 V) : Below W.heap.size W V := s.2.1
end
set_option maxRecDepth 100000 in
set_option maxHeartbeats 8000000 in
theorem lof_any (k : Int) (fv4 : Value) (ad ar a3 a5 a6 a7 a0 a1 a11 a12 ai : Option Addr) (dl rl l3 l5 l6 l7 l0 l1 l11 l12 li pd pr p3 p5 p6 p7 p0 p1 p11 p12 pi : Nat) (t : ByteArray) (n : Int) (ds rs : List (Int × Int)) (xs ys is : List Int) (w : World) (hn : I32 n) (hj : Sx.J w)
    (hF : FOk w.heap.size w ad dl ar rl a0 l0 a1 l1 ds rs xs ys) (hI : Fixs w.heap.size w ai li is) (hII : AllI is) (h0 : ai = none → pi = 0) :
    Calls Tryd.prog 3 #[.agg #[.int .u8 k, .slice ad dl pd, .slice ar rl pr, .slice a3 l3 p3, fv4, .slice a5 l5 p5, .slice a6 l6 p6, .slice a7 l7 p7, .slice a0 l0 p0, .slice a1 l1 p1, .int .i32 n, .slice a11 l11 p11, .slice a12 l12 p12, .string t], .slice ai li pi] w (LV w) := by
  have HF := Lib.hid hF
  obtain rfl := hI.1
  have HI := Lib.hid hI
  have HII := Lib.hid hII
  have H0 := Lib.hid h0
  have great := great_g (.int .u8 k) fv4 (.int .i32 n) ad ar a3 a5 a6 a7 a0 a1 a11 a12 dl rl l3 l5 l6 l7 l0 l1 l11 l12 pd pr p3 p5 p6 p7 p0 p1 p11 p12 t w
  have HG := Lib.hid great
  clear great hF hI hII h0
  by_cases h8 : 8 < is.length
  · have h8i : (8 : Int) < is.length := by omega
    clear h8
    go_enter Tryd.func3, Tryd.ntmps3
    go_wp2_with (first
      | (go_at_call 4; refine HG.out.mono ?_; rintro e w1 ⟨⟨b, rfl⟩, hBw, hsz, ⟨f0, f1, f2, f3, f4, f5, f6, f7, f8, f9, f10, f11, f12, f13⟩, hfz⟩; cases b)
      | (go_at_call 5; refine (lives_any _ (Sx.J_kept hBw hj)).mono ?_; rintro e wl ⟨rfl, hBl⟩))
    all_goals (go_ret; exact LV.of hBw hBl)
  have h8i : ¬ ((8 : Int) < is.length) := by omega
  have H8 : Go.RowKit.Hid (is.length ≤ 8) := Lib.hid (by omega)
  clear h8
  obtain ⟨cz, ecz⟩ : ∃ c, c = evC k ds rs l0 l1 n is := ⟨_, rfl⟩
  obtain ⟨zs, ezs⟩ : ∃ z, z = evZ k ds rs l0 l1 n xs ys is := ⟨_, rfl⟩
  have HZ := Lib.hid (evz_len (k := k) (ds := ds) (rs := rs) (n := n) (is := is) HF.out.c0.1 HF.out.c1.1)
  rw [← ezs] at HZ
  have ECZ := Lib.hid ecz
  have EZS := Lib.hid ezs
  clear ecz ezs
  go_enter Tryd.func3, Tryd.ntmps3
  go_wp2_with (first
    | (go_at_call 4; refine HG.out.mono ?_; rintro e w1 ⟨⟨b, rfl⟩, hBw, hsz, ⟨f0, f1, f2, f3, f4, f5, f6, f7, f8, f9, f10, f11, f12, f13⟩, hfz⟩; cases b)
    | (go_at_call 5; refine (lives_any _ (Sx.J_kept hBw hj)).mono ?_; rintro e wl ⟨rfl, hBl⟩)
    | (go_at_call 6; refine (twinf_any ai is.length pi is _ (HI.out.on hBw) H8.out H0.out).mono ?_; rintro e w2 ⟨⟨g, rfl, hT⟩, hB2⟩; have hA2 := andB hBw hB2; have hsz2 := Nat.lt_of_lt_of_le hsz hB2.size; have hbx2 := Box14.on ⟨f0, f1, f2, f3, f4, f5, f6, f7, f8, f9, f10, f11, f12, f13⟩ hB2 hsz; clear f0 f1 f2 f3 f4 f5 f6 f7 f8 f9 f10 f11 f12 f13 hBw hsz hfz hB2; obtain ⟨f0, f1, f2, f3, f4, f5, f6, f7, f8, f9, f10, f11, f12, f13⟩ := hbx2; have HT := Lib.hid hT; clear hT)
    | (go_at_call 7; refine (eval_ev _ _ _ _ _ _ _ _ hn (Sx.J_kept hA2 hj) (HF.out.on hA2) (fixs_take HT.out) HII.out).mono ?_; rintro e w3 ⟨⟨b3, n3, c3, rfl, hX⟩, hB3⟩; rw [← ECZ.out]; rw [← EZS.out] at hX; have hA3 := andB hA2 hB3; have hsz3 := Nat.lt_of_lt_of_le hsz2 hB3.size; have hbx3 := Box14.on ⟨f0, f1, f2, f3, f4, f5, f6, f7, f8, f9, f10, f11, f12, f13⟩ hB3 hsz2; have HT3 := Lib.hid (HT.out.on hB3); clear f0 f1 f2 f3 f4 f5 f6 f7 f8 f9 f10 f11 f12 f13 hA2 hsz2 hB3 HT; obtain ⟨f0, f1, f2, f3, f4, f5, f6, f7, f8, f9, f10, f11, f12, f13⟩ := hbx3; have HX := Lib.hid hX; clear hX)
    | (go_at_call 8; refine (reval_ev _ _ _ _ _ _ _ _ hn (Sx.J_kept hA3 hj) (HF.out.on hA3) (HI.out.on hA3) HII.out).mono ?_; rintro e w4 ⟨⟨b4, n4, c4, rfl, hY⟩, hB4⟩; rw [← ECZ.out]; rw [← EZS.out] at hY; have hA4 := andB hA3 hB4; have hsz4 := Nat.lt_of_lt_of_le hsz3 hB4.size; have hbx4 := Box14.on ⟨f0, f1, f2, f3, f4, f5, f6, f7, f8, f9, f10, f11, f12, f13⟩ hB4 hsz3; have HT4 := Lib.hid (HT3.out.on hB4); have HX4 := Lib.hid (HX.out.on hB4); clear f0 f1 f2 f3 f4 f5 f6 f7 f8 f9 f10 f11 f12 f13 hA3 hsz3 hB4 HT3 HX; have HY4 := Lib.hid hY; clear hY))
  rotate_left
  · go_ret
    exact LV.of hBw hBl
  have s0 : SF w.heap.size w4 (.int .u8 k) (.slice ad dl pd) (.slice ar rl pr) (.slice a3 l3 p3) fv4 (.slice a5 l5 p5) (.slice a6 l6 p6) (.slice a7 l7 p7) (.slice a0 l0 p0) (.slice a1 l1 p1) (.int .i32 n) (.slice a11 l11 p11) (.slice a12 l12 p12) (.string t) w4 := ⟨hbx4, Below.refl _ _, hsz4⟩
  go_region_held3 (fun V => (V.cell? ⟨w.heap.size, 0, none⟩ = some (.int .u8 k) ∧ V.cell? ⟨w.heap.size, 1, none⟩ = some (.slice ad dl pd) ∧ V.cell? ⟨w.heap.size, 2, none⟩ = some (.slice ar rl pr) ∧ V.cell? ⟨w.heap.size, 3, none⟩ = some (.slice a3 l3 p3) ∧ V.cell? ⟨w.heap.size, 4, none⟩ = some (fv4) ∧ V.cell? ⟨w.heap.size, 5, none⟩ = some (.slice a5 l5 p5) ∧ V.cell? ⟨w.heap.size, 6, none⟩ = some (.slice a6 l6 p6) ∧ V.cell? ⟨w.heap.size, 7, none⟩ = some (.slice a7 l7 p7) ∧ V.cell? ⟨w.heap.size, 8, none⟩ = some (.slice a0 l0 p0) ∧ V.cell? ⟨w.heap.size, 9, none⟩ = some (.slice a1 l1 p1) ∧ V.cell? ⟨w.heap.size, 10, none⟩ = some (.int .i32 n) ∧ V.cell? ⟨w.heap.size, 11, none⟩ = some (.slice a11 l11 p11) ∧ V.cell? ⟨w.heap.size, 12, none⟩ = some (.slice a12 l12 p12) ∧ V.cell? ⟨w.heap.size, 13, none⟩ = some (.string t)) ∧ Below w4.heap.size w4 V ∧ w.heap.size < w4.heap.size)
    (first | exact SF.kD s0 | exact SF.kD (by assumption) | exact SF.kB (by assumption) (by assumption) | assumption)
    (first
      | (go_at_call 9; refine (check_one hn (Sx.J_kept (andB hA4 (SF.bl (by assumption))) hj) (HF.out.on (andB hA4 (SF.bl (by assumption))))).mono ?_; rintro e w9 ⟨rfl, hB9⟩)
      | (go_at_call 10; refine (rcheck_any k _ _ _ _ _ _ _ _ _ _ _ _ _ _ _ _ _ _ _ _ n ds rs xs ys _ hn (HF.out.on (andB hA4 (SF.bl (by assumption))))).mono ?_; rintro e w9 ⟨rfl, hB9⟩)
      | (go_at_call 11; refine (samefix_any _ _ _ _ _ _ zs zs HZ.out _ (HX4.out.on (SF.bl (by assumption))) (HY4.out.on (SF.bl (by assumption)))).mono ?_; rintro e w9 ⟨rfl, hB9⟩; rw [decide_eq_true rfl])
      | (go_at_call 12; refine (leftf_any g ai is.length pi is _ (HT4.out.on (SF.bl (by assumption))) (HI.out.on (andB hA4 (SF.bl (by assumption)))) H8.out).mono ?_; rintro e w9 ⟨rfl, hB9⟩)
      | (go_at_call 5; refine (lives_any _ (Sx.J_kept (andB hA4 (SF.bl (by assumption))) hj)).mono ?_; rintro e w9 ⟨rfl, hB9⟩))
  all_goals (go_wp2_with (fail))
  all_goals (go_ret; first | exact ⟨rfl, andB hA4 (SF.bl (by assumption))⟩ | exact ⟨rfl, andB (andB hA4 (SF.bl (by assumption))) (by assumption)⟩)
end Go.Proofs.YtogcbmadcgjljaaDoor

/-
  Curves: from a row's premise (a function and fixes) to what the walk asks.
-/
set_option linter.all false
set_option maxRecDepth 100000
namespace Go.Proofs.YtogcbmadcgjljaaDoor
open Go Go.RowKit Go.ChangeShapes Go.WideShapes Go.ChangeAt
section
variable {H : Type} {enc : TypeId × Value → H} {w : World} {base : Nat} {spare : Nat → Bool} {held : Bool} {fuel : Nat}
theorem fixs_ofN {cs : List Value} {x : DataW H × List MemPlace} (h : DataW.trod enc Tryd.prog w base spare held fuel 26 cs = some x) : ∃ a len cap xs, cs = [.slice a len cap] ∧ Fixs w.heap.size w a len xs ∧ AllI xs ∧ (a = none → cap = 0) := by
  rcases Go.Deep.open_slice1 Tryd.underlying26 (by kernel_rfl) h with ⟨rfl, _⟩ | ⟨a, len, cap, m, n, V, D, Pl, rfl, hb, hl, hm, hmm, _, hV⟩
  · exact ⟨none, 0, 0, [], rfl, ⟨rfl, .inl rfl⟩, allI_nil, fun _ => rfl⟩
  · have hlm : len ≤ m := by rw [hmm]; split <;> omega
    have each : ∀ i, i < len → ∃ q : Int, w.cell? (a.add i) = some (.int .i32 q) ∧ I32 q := by
      intro i hi
      obtain ⟨h1, h2⟩ := hV i (by omega)
      obtain ⟨q, e1, _, e3⟩ := DataW.trod_int Tryd.underlying27 h2
      exact ⟨q, by rw [h1, List.cons.inj e1 |>.1], wf_i32 e3⟩
    obtain ⟨q, hq⟩ := Go.Deep.choose_lt each
    refine ⟨some a, len, cap, (List.range len).map q, rfl, ⟨by simp, ?_⟩, ?_, fun h => by cases h⟩
    · rcases Nat.eq_zero_or_pos len with h0 | h0
      · subst h0; exact .inl rfl
      · obtain ⟨b, off, spot⟩ := a
        obtain ⟨hs, hlt⟩ := addr_plain (a := ⟨b, off, spot⟩) (by simpa [Addr.add] using (hq 0 h0).1)
        simp only at hs hlt
        subst hs
        refine .inr ⟨b, off, rfl, hlt, fun j hj => ?_⟩
        simp only [List.length_map, List.length_range] at hj
        have := (hq j hj).1
        rw [Go.WideShapes.add_plain] at this
        simpa [hj] using this
    · intro j
      by_cases hj : j < len
      · simpa [hj] using (hq j hj).2
      · simp [hj, I32]
end
/-- what a law of a function and fixes must be shown. -/
def WalkI (f : FuncId) : Prop :=
  ∀ (k : Int) (f4 : Value) (ad ar a3 a5 a6 a7 a0 a1 a11 a12 : Option Addr) (dl rl l3 l5 l6 l7 l0 l1 l11 l12 pd pr p3 p5 p6 p7 p0 p1 p11 p12 : Nat) (t : ByteArray) (ai : Option Addr) (li pi : Nat) (n : Int) (ds rs : List (Int × Int)) (xs ys is : List Int) (w : World), I32 n → Sx.J w → Fixs w.heap.size w ai li is → AllI is → (ai = none → pi = 0) →
    FOk w.heap.size w ad dl ar rl a0 l0 a1 l1 ds rs xs ys →
    Calls Tryd.prog f #[.agg #[.int .u8 k, .slice ad dl pd, .slice ar rl pr, .slice a3 l3 p3, f4, .slice a5 l5 p5, .slice a6 l6 p6, .slice a7 l7 p7, .slice a0 l0 p0, .slice a1 l1 p1, .int .i32 n, .slice a11 l11 p11, .slice a12 l12 p12, .string t], .slice ai li pi] w (LV w)

theorem law_lifted_curveI {os : Os} {H : Type} {enc : TypeId × Value → H} {f : FuncId} {fn : Func} {s : ChangeSpec} {conds : List PathCond} {tb : TypeId}
    (own : ownKnob Tryd.checked.prog.godebug = none) (started : os.Started) (noInit : Tryd.checked.prog.inits.idxOf? f = none) (hfn : Tryd.checked.prog.funcs[f]? = some fn)
    (laid : laidOutB Tryd.checked.prog = true) (hps : fn.params = #[30, 26])
    (hrd : (fn.params.toList.all fun t => Tryd.checked.prog.readableRec t && decide (t < Tryd.checked.prog.types.size)) = true)
    (hvars : s.vars = []) (hspec : ∀ ds : List (DataW H), ds.length = fn.params.size → s.fn H ds = { results := [.lit (.bool true)], args := ds })
    (hres : fn.resultTypes = #[tb]) (hb : Tryd.checked.prog.underlying tb = some .bool)
    (witness : ∃ (w : World) (tape : Tape) (i : Input), w.os = os ∧ (w.forCall tape i).Shaped Tryd.checked.prog ∧ i.vars = [] ∧ Input.okWide Tryd.checked.prog (w.forCall tape i) .any w.heap.size f i ∧
      ((s.pre enc Tryd.checked.prog fn conds false (w.forCall tape i).memory i.args ∧ laidMetH Tryd.prog Sx.laidL (w.forCall tape i).memory) ∧ sizedMet enc Tryd.checked.prog fn (OpenSpec.ofChange s) false (w.forCall tape i).memory i.args) ∧ Assume.holds {} Tryd.checked.prog (lone (Frame.enter Tryd.checked.prog f i.args .normal) [] (w.forCall tape i)))
    (walk : WalkI f) :
    ReturnsInHanded {} Tryd.checked os f .any (fun w args => (s.pre enc Tryd.checked.prog fn conds false w args ∧ laidMetH Tryd.prog Sx.laidL w) ∧ sizedMet enc Tryd.checked.prog fn (OpenSpec.ofChange s) false w args) (s.post enc Tryd.checked.prog fn false true false false) := by
  refine returnsInHanded_of_change_and (X := fun w _ => laidMetH Tryd.prog Sx.laidL w) (fun _ _ _ hh h => h.of_heap hh) own started noInit hfn witness ?_
  intro W base args ds gs before hval hW _ _ hL _
  have hW' := hW
  obtain ⟨p, q, hA, hV, rfl, hfz, hnd⟩ := hW
  rw [hvars] at hV
  obtain ⟨rfl, rfl⟩ := trodVars_none hV
  obtain ⟨l1, l2⟩ := Sx.trodAll_len hA
  have hA2 := hA
  rw [hps] at hA2
  obtain ⟨v, v', d, d', p1, p2, rfl, rfl, rfl, hd, hd'⟩ := trodAll_two hA2
  have hv := hval 0 30 v (by rw [hps]; rfl) rfl
  have hv' := hval 1 26 v' (by rw [hps]; rfl) rfl
  obtain ⟨cs, rfl, _⟩ := okWide_struct Tryd.underlying30 hv
  obtain ⟨ai, li, pi, rfl⟩ := okWide_slice Tryd.underlying26 hv'
  obtain ⟨fu, hd⟩ := hd
  obtain ⟨fu', hd'⟩ := hd'
  simp only [Value.cells] at hd hd'
  obtain ⟨k, f4, ad, ar, a3, a5, a6, a7, a0, a1, a11, a12, dl, rl, l3, l5, l6, l7, l0, l1', l11, l12, pd, pr, p3, p5, p6, p7, p0, p1', p11, p12, t, n, ds, rs, xs, ys, hcs, hn, hF⟩ := func_of hd
  obtain ⟨ai2, li2, pi2, is, hx1, hI, hII, h0⟩ := fixs_ofN hd'
  obtain ⟨rfl, rfl, rfl⟩ : ai = ai2 ∧ li = li2 ∧ pi = pi2 := by simpa using hx1
  obtain rfl : cs = #[.int .u8 k, .slice ad dl pd, .slice ar rl pr, .slice a3 l3 p3, f4, .slice a5 l5 p5, .slice a6 l6 p6, .slice a7 l7 p7, .slice a0 l0 p0, .slice a1 l1' p1', .int .i32 n, .slice a11 l11 p11, .slice a12 l12 p12, .string t] := by
    cases cs; simpa using hcs
  refine (walk k f4 ad ar a3 a5 a6 a7 a0 a1 a11 a12 dl rl l3 l5 l6 l7 l0 l1' l11 l12 pd pr p3 p5 p6 p7 p0 p1' p11 p12 t ai li pi n ds rs xs ys is W hn (Sx.J_of_laid hL) hI hII h0 hF).mono ?_
  rintro e W' ⟨rfl, hs⟩
  have hlt : ∀ x ∈ p1 ++ p2, x.block < W.heap.size := fun x hx => by simpa using hW'.lt x (by simpa using hx)
  have hsp := hspec [d, d'] (by simpa using l2)
  have hr : ∀ t ∈ fn.params.toList, Tryd.checked.prog.readableRec t = true ∧ t < Tryd.checked.prog.types.size := by
    intro t ht
    have := List.all_eq_true.1 hrd t ht
    simpa using this
  refine ⟨_, rfl, [d, d'], [], (p1 ++ p2) ++ [], [], p1 ++ p2, [], hW', ?_, ?_, ?_, hs.frame _, fun h => by cases h⟩
  · rw [List.append_nil, hsp, hres]
    exact trodAll_mk1 (shut_bool hb _)
  · rw [List.append_nil, hsp]
    exact Sx.trodAll_below laid hs hA hr hlt
  · rw [List.append_nil, hsp, hvars]
    rfl
theorem walk_of : WalkI 3 := fun k f4 ad ar a3 a5 a6 a7 a0 a1 a11 a12 dl rl l3 l5 l6 l7 l0 l1 l11 l12 pd pr p3 p5 p6 p7 p0 p1 p11 p12 t ai li pi n ds rs xs ys is w hn hj hI hII h0 hF =>
  lof_any k f4 ad ar a3 a5 a6 a7 a0 a1 a11 a12 ai dl rl l3 l5 l6 l7 l0 l1 l11 l12 li pd pr p3 p5 p6 p7 p0 p1 p11 p12 pi t n ds rs xs ys is w hn hj hF hI hII h0
end Go.Proofs.YtogcbmadcgjljaaDoor

/-
  The law CurvesOf of the given program holds: whatever the input, it returns true, and its arguments read as they did. No condition.
-/
namespace Go.Proofs.YtogcbmadcgjljaaDoor
open Go Go.RowKit Go.ChangeShapes Go.WideShapes Go.ChangeAt

theorem lifted_curvesOf (os : Os) (started : os.Started) (H : Type) (enc : TypeId × Value → H) :
    ReturnsInHanded {} Tryd.checked os 3 .any (fun w args => (Rows.curvesOfSpec.pre enc Tryd.prog Tryd.f3 [] false w args ∧ laidMetH Tryd.prog Sx.laidL w) ∧ sizedMet enc Tryd.prog Tryd.f3 (OpenSpec.ofChange Rows.curvesOfSpec) false w args)
      (Rows.curvesOfSpec.post enc Tryd.prog Tryd.f3 false true false false) := by
  refine law_lifted_curveI (tb := Tryd.f3.resultTypes[0]!) (conds := []) (by kernel_rfl) started (by kernel_rfl) Tryd.func3 (by kernel_rfl) rfl (by kernel_rfl) rfl ?_ (by kernel_rfl) (by kernel_rfl)
    (ChangeSpec.witness_shaped (enc := enc) (C := Tryd.checked) (os := os) (X := fun w _ => laidMetH Tryd.prog Sx.laidL w) false (World.doorLaid Tryd.prog 400 os) #[.agg #[.int .u8 0, .slice none 0 0, .slice none 0 0, .slice none 0 0, .int .i64 0, .slice none 0 0, .slice none 0 0, .slice none 0 0, .slice none 0 0, .slice none 0 0, .int .i32 0, .slice none 0 0, .slice none 0 0, .string { data := #[] }], .slice none 0 0] 8 rfl (World.shaped_of_RefB (by kernel_rfl) (by kernel_rfl)) (by kernel_rfl) (by kernel_rfl) (by kernel_rfl) (Sx.door_met os _)) walk_of
  intro ds hl
  replace hl : ds.length = 2 := hl
  match ds, hl with
  | [d0, d1], _ => rfl

theorem row_curvesOf : Rows.CurvesOfSaid :=
  OpenClaim.holds_of_wide 3 Tryd.f3 rfl rfl rfl rfl rfl rfl rfl ⟨rfl, rfl, rfl, rfl, rfl⟩ rfl rfl rfl rfl rfl (by kernel_rfl) Tryd.func3 (by kernel_rfl)
    (of_decide_eq_true (by kernel_rfl)) (by unfold Func.isWrapper; first | (rw [if_pos (by decide +kernel)]; kernel_rfl) | (rw [if_neg (by decide +kernel)]; exact ⟨rfl, rfl⟩))
    (fun os started H enc _ => lifted_curvesOf os started H enc)

theorem proved_curvesOf : Rows.CurvesOfCardSaid :=
  Claim7.holds_tied_plain_at .later [] [.data] true (true, "5982192c3df97e16290ba56fc9799d5c2ecfbed6c473956a7c6d8e53c9f5c10f") false
    row_curvesOf (fun _ h => by cases h) (by kernel_rfl) (fun _ h => by cases h) curvesOf_row_tie rfl ⟨rfl, rfl⟩ (by kernel_rfl) rfl
    (fun f fn hf hfn => by
      obtain rfl : f = 3 := Option.some.inj ((show Tryd.prog.funcNamed "gouache/gouachelaw15.CurvesOf" = some 3 by kernel_rfl).symm.trans hf) |>.symm
      obtain rfl : fn = Tryd.f3 := (Option.some.inj (Tryd.func3.symm.trans hfn)).symm
      exact ⟨by kernel_rfl, fun j t ht => by
        rw [show Tryd.f3.params = #[30, 26] by kernel_rfl] at ht
        have hm : t ∈ [30, 26] := by simpa using Array.mem_of_getElem? ht
        have hall : ([30, 26].all fun u => !Tryd.prog.wantsStandIn u) = true := by kernel_rfl
        exact (show Tryd.prog.wantsStandIn t = false by simpa using List.all_eq_true.1 hall t hm)⟩)
    (by kernel_rfl)
#print axioms proved_curvesOf
end Go.Proofs.YtogcbmadcgjljaaDoor
