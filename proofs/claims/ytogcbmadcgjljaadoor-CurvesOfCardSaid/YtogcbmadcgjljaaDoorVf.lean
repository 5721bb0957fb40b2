/-
  Curves: the small functions of the laws.
-/
import Derived.Test.YtogcbmadcgjljaaDoorVd
set_option linter.all false
namespace Go.Proofs.YtogcbmadcgjljaaDoor
open Go.RowKit
theorem fixs_cells {n₀ : Nat} {W : World} {a : Option Addr} {xs : List Int} {k : Nat} (h : Fixs n₀ W a xs.length xs) (hk : k < xs.length) : ∃ b off, a = some ⟨b, off, none⟩ ∧ b < n₀ ∧ W.cell? ⟨b, off + k, none⟩ = some (.int .i32 (xs[k]?.getD 0)) := by
  obtain ⟨_, h2 | ⟨b, off, e, hb, hc⟩⟩ := h
  · subst h2; simp at hk
  · exact ⟨b, off, e, hb, hc k hk⟩
theorem eq_of_all {xs ys : List Int} (hl : xs.length = ys.length) (h : ∀ j, j < xs.length → xs[j]?.getD 0 = ys[j]?.getD 0) : xs = ys := by
  apply List.ext_getElem hl
  intro i h1 h2
  have := h i h1
  simpa [h1, h2] using this
set_option maxHeartbeats 1000000 in
theorem same_any (a b : Option Addr) (la lb pa pb : Nat) (xs ys : List Int) (h8 : xs.length ≤ 8) (w : World) (ha : Fixs w.heap.size w a la xs) (hb : Fixs w.heap.size w b lb ys) :
    Calls Tryd.prog 26 #[.slice a la pa, .slice b lb pb] w fun e w' => e = .returned (.bool (decide (xs = ys))) ∧ Below w.heap.size w w' := by
  by_cases hl : la = lb
  case neg =>
    have hl' : ¬ ((la : Int) = lb) := by omega
    have hne : decide (xs = ys) = false := by
      simp only [decide_eq_false_iff_not]
      rintro rfl
      exact hl (ha.1.trans hb.1.symm)
    rw [hne]
    go_enter Tryd.func26, Tryd.ntmps26
    go_wp2_with (fail)
    all_goals (go_ret; exact ⟨rfl, Below.refl _ _⟩)
  subst hl
  obtain rfl := ha.1
  have hlen := Lib.hid hb.1
  go_enter Tryd.func26, Tryd.ntmps26
  go_wp2_with (fail)
  go_loopw [5] (fun i V => ∃ k : Nat, k ≤ xs.length ∧ i = .int .i64 k ∧ (∀ j, j < k → xs[j]?.getD 0 = ys[j]?.getD 0) ∧ Below w.heap.size w V) (fun i _ => xs.length - (intOf i).toNat)
  case atStart => exact ⟨0, Nat.zero_le _, rfl, (fun j hj => absurd hj (by omega)), Below.refl _ _⟩
  case round =>
    obtain ⟨k, hk, rfl, hall, hB⟩ := hrel
    have hA := Lib.hid hall; clear hall
    by_cases hlt : k < xs.length
    · obtain ⟨ba, oa, ea, hba, hca⟩ := fixs_cells (ha.below hB) hlt
      obtain ⟨bb, ob, eb, hbb, hcb⟩ := fixs_cells (a := b) (xs := ys) (by rw [← hlen.out]; exact hb.below hB) (hlen.out ▸ hlt)
      subst ea eb
      have hlt2 : (k : Int) < xs.length := by omega
      go_wp2_with (fail)
      have hlt3 : k < ys.length := hlen.out ▸ hlt
      go_quiet (fail)
      by_cases hq : xs[k] = ys[k]
      · go_wp2_with (fail)
        go_roundw
        case rel => exact ⟨k + 1, by omega, by simp, (fun j hj => by
          rcases Nat.lt_or_ge j k with h | h
          · exact hA.out j h
          · obtain rfl : j = k := by omega
            simpa [hlt, hlt3] using hq), below_drewN hB _⟩
        case measure => simp [intOf]; omega
      · have hne : xs ≠ ys := by rintro rfl; exact hq rfl
        go_wp2_with (fail)
        go_ret
        exact ⟨by simp [hne], below_drewN hB _⟩
    · obtain rfl : k = xs.length := by omega
      have he := eq_of_all hlen.out hA.out
      clear hA
      have he' := Lib.hid he; clear he
      go_wp2_with (fail)
      go_ret
      exact ⟨by simp [he'.out], hB⟩
theorem samefix_any (a b : Option Addr) (la lb pa pb : Nat) (xs ys : List Int) (h8 : xs.length ≤ 8) (w : World) (ha : Fixs w.heap.size w a la xs) (hb : Fixs w.heap.size w b lb ys) :
    Calls Tryd.prog 11 #[.slice a la pa, .slice b lb pb] w fun e w' => e = .returned (.bool (decide (xs = ys))) ∧ Below w.heap.size w w' := by
  go_enter Tryd.func11, Tryd.ntmps11
  go_wp2_with (go_at_call 26; refine (same_any a b la lb pa pb xs ys h8 w ha hb).mono ?_; rintro e w' ⟨rfl, hB⟩)
  go_ret
  exact ⟨rfl, hB⟩
/-- the ends that the statement takes. -/
def ends0 (xs ys : List Int) : List Int := if xs.length + ys.length = 0 then [0] else xs
def ends1 (xs ys : List Int) : List Int := if xs.length + ys.length = 0 then [65536] else ys
def LR (w : World) (xs ys : List Int) (e : Ending) (w' : World) : Prop :=
  (∃ b0 b1 m0 m1 q0 q1, e = .returned (.tuple #[.slice b0 m0 q0, .slice b1 m1 q1]) ∧ Fixs w'.heap.size w' b0 m0 (ends0 xs ys) ∧ Fixs w'.heap.size w' b1 m1 (ends1 xs ys)) ∧ Below w.heap.size w w'
theorem fixs_new (w : World) (t : TypeId) (x : Int) (n : Nat) (hn : w.heap.size < n) : Fixs n (w.alloc (.cells #[.int .i32 x] t)) (some ⟨w.heap.size, 0, none⟩) 1 [x] := by
  refine ⟨rfl, .inr ⟨_, 0, rfl, hn, fun j hj => ?_⟩⟩
  obtain rfl : j = 0 := by simpa using hj
  simp [go_sem]
theorem fixs_drewN {n₀ : Nat} {W : World} {a : Option Addr} {len : Nat} {xs : List Int} (h : Fixs n₀ W a len xs) (k : Nat) : Fixs n₀ (W.drewN k) a len xs := h.below (below_drewN (Below.refl _ _) k)
set_option maxHeartbeats 400000 in
theorem rends_any (f0 f1 f2 f3 f4 f5 f6 f7 f10 f11 f12 f13 : Value) (a0 a1 : Option Addr) (l0 l1 p0 p1 : Nat) (xs ys : List Int) (w : World) (h0 : Fixs w.heap.size w a0 l0 xs) (h1 : Fixs w.heap.size w a1 l1 ys) :
    Calls Tryd.prog 22 #[.agg #[f0, f1, f2, f3, f4, f5, f6, f7, .slice a0 l0 p0, .slice a1 l1 p1, f10, f11, f12, f13]] w (LR w xs ys) := by
  have HL := Lib.hid (And.intro h0.1 h1.1)
  have HF := Lib.hid (And.intro h0 h1)
  clear h0 h1
  by_cases hn : l0 = 0 ∧ l1 = 0
  · obtain ⟨rfl, rfl⟩ := hn
    go_enter Tryd.func22, Tryd.ntmps22
    go_wp2_with (fail)
    go_ret2
    have e : xs.length + ys.length = 0 := by have := HL.out; omega
    refine ⟨⟨_, _, _, _, _, _, rfl, ?_, ?_⟩, ((((Below.refl _ w).alloc (Nat.le_refl _) _).alloc (by simp) _).alloc (by simp; omega) _)⟩
    · unfold ends0
      rw [if_pos e]
      have q := (fixs_new (w.alloc (Obj.cells #[f0, f1, f2, f3, f4, f5, f6, f7, Value.slice a0 0 p0, Value.slice a1 0 p1, f10, f11, f12, f13] 30)) 27 0 (w.heap.size + 1 + 1) (by simp)).below ((Below.refl _ _).alloc (by simp) (Obj.cells #[Value.int IntKind.i32 65536] 27))
      have q2 := q.more (n₁ := w.heap.size + 1 + 1 + 1) (by omega)
      simpa using q2
    · unfold ends1
      rw [if_pos e]
      have := fixs_new ((w.alloc (Obj.cells #[f0, f1, f2, f3, f4, f5, f6, f7, Value.slice a0 0 p0, Value.slice a1 0 p1, f10, f11, f12, f13] 30)).alloc (Obj.cells #[Value.int IntKind.i32 0] 27)) 27 65536 _ (Nat.lt_succ_self _)
      simpa using this
  · have e : ¬ (xs.length + ys.length = 0) := by have := HL.out; omega
    have fin : ∀ k, LR w xs ys (.returned (.tuple #[.slice a0 l0 p0, .slice a1 l1 p1])) ((w.alloc (Obj.cells #[f0, f1, f2, f3, f4, f5, f6, f7, .slice a0 l0 p0, .slice a1 l1 p1, f10, f11, f12, f13] 30)).drewN k) := by
      intro k
      have hB := (Below.refl w.heap.size w).alloc (Nat.le_refl _) (Obj.cells #[f0, f1, f2, f3, f4, f5, f6, f7, .slice a0 l0 p0, .slice a1 l1 p1, f10, f11, f12, f13] 30)
      refine ⟨⟨_, _, _, _, _, _, rfl, ?_, ?_⟩, below_drewN hB k⟩
      · unfold ends0; rw [if_neg e]; exact fixs_drewN ((HF.out.1.below hB).more (by simp)) k
      · unfold ends1; rw [if_neg e]; exact fixs_drewN ((HF.out.2.below hB).more (by simp)) k
    clear e
    by_cases hn2 : l0 = 0
    · have hn3 : ¬ ((l1 : Int) = 0) := by omega
      subst hn2
      go_enter Tryd.func22, Tryd.ntmps22
      go_wp2_with (fail)
      go_quiet (fail)
      go_wp2_with (fail)
      go_ret2
      exact fin _
    · have hn3 : ¬ ((l0 : Int) = 0) := by omega
      go_enter Tryd.func22, Tryd.ntmps22
      go_wp2_with (fail)
      go_quiet (fail)
      go_wp2_with (fail)
      go_ret2
      exact fin _
def PW (w : World) (n lo : Int) (e : Ending) (w' : World) : Prop :=
  e = .returned (.agg #[.int .u8 2, .slice (some ⟨w.heap.size + 1, 0, none⟩) 1 1, .slice none 0 0, .slice none 0 0, .int .i64 0, .slice none 0 0, .slice none 0 0, .slice none 0 0, .slice none 0 0, .slice none 0 0, .int .i32 n, .slice none 0 0, .slice none 0 0, .string { data := #[] }]) ∧
  Rngs w'.heap.size w' (some ⟨w.heap.size + 1, 0, none⟩) 1 [(lo, 65536)] ∧ Below w.heap.size w w'
set_option maxHeartbeats 400000 in
theorem power_any (n lo : Int) (w : World) :
    Calls Tryd.prog 13 #[.int .i32 n, .int .i32 lo] w (PW w n lo) := by
  go_enter Tryd.func13, Tryd.ntmps13
  go_wp2_with (fail)
  refine bodyPost_ret (v := .agg #[.int .u8 2, .slice (some ⟨w.heap.size + 1, 0, none⟩) 1 1, .slice none 0 0, .slice none 0 0, .int .i64 0, .slice none 0 0, .slice none 0 0, .slice none 0 0, .slice none 0 0, .slice none 0 0, .int .i32 n, .slice none 0 0, .slice none 0 0, .string { data := #[] }]) (by simp [results, Tryd.f13, go_sem]) rfl ?_
  refine ⟨rfl, ⟨rfl, .inr ⟨_, 0, rfl, by simp, fun j hj => ?_⟩⟩, ((Below.refl _ w).alloc (Nat.le_refl _) _).alloc (by simp) _⟩
  obtain rfl : j = 0 := by simpa using hj
  constructor <;> simp [go_sem]
theorem rngs_nil (n₀ : Nat) (W : World) : Rngs n₀ W none 0 [] := ⟨rfl, .inl rfl⟩
theorem fixs_nil (n₀ : Nat) (W : World) : Fixs n₀ W none 0 [] := ⟨rfl, .inl rfl⟩
theorem fixs_row {W : World} {base : Nat} {v : Value} {xs : List Int} {n : Nat} (h : W.ownsRow base 27 1 v n (xs.map (.int .i32))) (hx : xs.length = n) : ∃ a len cap, v = .slice a len cap ∧ Fixs W.heap.size W a len xs := by
  obtain ⟨h1, ⟨rfl, hn⟩ | ⟨g, cap, cur, rfl, hb, hg, hc, hm, hs, ht⟩⟩ := h
  · obtain rfl : xs = [] := List.eq_nil_of_length_eq_zero (by omega)
    exact ⟨none, 0, 0, rfl, rfl, .inl rfl⟩
  · refine ⟨_, _, _, rfl, hx.symm, .inr ⟨g, 0, rfl, (Array.getElem?_eq_some_iff.1 hg).1, fun j hj => ?_⟩⟩
    rw [cell_blk hg, ← Array.getElem?_toList]
    have : (cur.toList.take (n * 1))[0 + j]? = (xs.map (Value.int .i32))[0 + j]? := by rw [ht]
    rw [List.getElem?_take_of_lt (by omega)] at this
    rw [this]
    simp [hj]
theorem evalL_len (ds rs : List (Int × Int)) (xs ys : List Int) (n x : Int) : (evalL ds rs xs ys n x).length = (endsL xs ys).length := by simp [evalL, outs_len]
theorem lv1 : evalL [(0, 65536)] [] [] [] 131072 32768 = [16384] := by decide +kernel
theorem lv2 : chkAll 2 [(0, 65536)] [] 0 0 131072 = 0 := by decide +kernel
theorem lv3 : chkAll 2 [(-65536, 65536)] [] 0 0 32768 = 4 := by decide +kernel
theorem allI_one {x : Int} (h : I32 x) : AllI [x] := by
  intro j
  rcases j with _ | j
  · simpa using h
  · simp [I32]
theorem allR_one {x y : Int} (h : I32 x) (k : I32 y) : AllR [(x, y)] := by
  intro j
  rcases j with _ | j
  · simpa using ⟨h, k⟩
  · simp [I32]
theorem allI_nil : AllI [] := by intro j; simp [I32]
/-- what the slices of a function hold. -/
structure FOk (n₀ : Nat) (W : World) (ad : Option Addr) (dl : Nat) (ar : Option Addr) (rl : Nat) (a0 : Option Addr) (l0 : Nat) (a1 : Option Addr) (l1 : Nat) (ds rs : List (Int × Int)) (xs ys : List Int) : Prop where
  d : Rngs n₀ W ad dl ds
  r : Rngs n₀ W ar rl rs
  c0 : Fixs n₀ W a0 l0 xs
  c1 : Fixs n₀ W a1 l1 ys
  id : AllR ds
  ix : AllI xs
  iy : AllI ys
section
variable {n₀ n₁ : Nat} {W W' w : World} {ad ar a0 a1 ai : Option Addr} {dl rl l0 l1 : Nat} {ds rs : List (Int × Int)} {xs ys : List Int}
theorem FOk.below (h : FOk n₀ W ad dl ar rl a0 l0 a1 l1 ds rs xs ys) (hB : Below n₀ W W') : FOk n₀ W' ad dl ar rl a0 l0 a1 l1 ds rs xs ys := ⟨h.d.below hB, h.r.below hB, h.c0.below hB, h.c1.below hB, h.id, h.ix, h.iy⟩
theorem FOk.more (h : FOk n₀ W ad dl ar rl a0 l0 a1 l1 ds rs xs ys) (hn : n₀ ≤ n₁) : FOk n₁ W ad dl ar rl a0 l0 a1 l1 ds rs xs ys := ⟨h.d.more hn, h.r.more hn, h.c0.more hn, h.c1.more hn, h.id, h.ix, h.iy⟩
/-- in whatever world is behind. -/
theorem FOk.on (h : FOk w.heap.size w ad dl ar rl a0 l0 a1 l1 ds rs xs ys) (hB : Below w.heap.size w W) : FOk W.heap.size W ad dl ar rl a0 l0 a1 l1 ds rs xs ys := (h.below hB).more hB.size
theorem Fixs.on {a : Option Addr} {len : Nat} (h : Fixs w.heap.size w a len xs) (hB : Below w.heap.size w W) : Fixs W.heap.size W a len xs := (h.below hB).more hB.size
theorem check_one {k n : Int} {siz bits enc dec dat fns bnd txt : Value} {pd pr p0 p1 : Nat} (hn : I32 n) (hj : Sx.J w) (hF : FOk w.heap.size w ad dl ar rl a0 l0 a1 l1 ds rs xs ys) :
    Calls Tryd.prog 9 #[.agg #[.int .u8 k, .slice ad dl pd, .slice ar rl pr, siz, bits, enc, dec, dat, .slice a0 l0 p0, .slice a1 l1 p1, .int .i32 n, fns, bnd, txt]] w fun e w' => e = .returned (.int .i64 (chkAll k ds rs l0 l1 n)) ∧ Below w.heap.size w w' :=
  check_any k siz bits enc dec dat fns bnd txt ad ar a0 a1 dl rl l0 l1 pd pr p0 p1 n ds rs w hn (j_cell hj) hF.d hF.r
theorem eval_one {k n x : Int} {siz bits enc dec dat fns bnd txt : Value} {pd pr p0 p1 pi : Nat} (hn : I32 n) (hx : I32 x) (hj : Sx.J w) (hF : FOk w.heap.size w ad dl ar rl a0 l0 a1 l1 ds rs xs ys) (hi : Fixs w.heap.size w ai 1 [x]) (hc : chkAll k ds rs l0 l1 n = 0) :
    Calls Tryd.prog 7 #[.agg #[.int .u8 k, .slice ad dl pd, .slice ar rl pr, siz, bits, enc, dec, dat, .slice a0 l0 p0, .slice a1 l1 p1, .int .i32 n, fns, bnd, txt], .slice ai 1 pi] w fun e w' =>
      (∃ a len cap, e = .returned (.tuple #[.slice a len cap, .int .i64 0]) ∧ Fixs w'.heap.size w' a len (evalL ds rs xs ys n x)) ∧ Below w.heap.size w w' := by
  refine (eval_any k siz bits enc dec dat fns bnd txt ad ar a0 a1 ai dl rl l0 l1 1 pd pr p0 p1 pi n ds rs xs ys [x] w hn hj hF.d hF.r hF.c0 hF.c1 hi hF.id hF.ix hF.iy (allI_one hx)).mono ?_
  rintro e w' ⟨⟨v, c, rfl, _, _, h⟩, hB⟩
  obtain ⟨rfl, hv⟩ := h hc rfl
  obtain ⟨a, len, cap, rfl, hf⟩ := fixs_row hv (evalL_len ..)
  exact ⟨⟨a, len, cap, rfl, by simpa using hf⟩, hB⟩
end
def LV (w : World) (e : Ending) (w' : World) : Prop := e = .returned (.bool true) ∧ Below w.heap.size w w'
set_option maxHeartbeats 1000000 in
theorem lives_any (w : World) (hj : Sx.J w) : Calls Tryd.prog 5 #[] w (LV w) := by
  go_enter Tryd.func5, Tryd.ntmps5
  go_wp2_with (first
    | (go_at_call 13; refine (power_any _ _ _).mono ?_; rintro e w1 ⟨rfl, hR1, hB1⟩)
    | (go_at_call 7; refine (eval_one (ds := [(0, 65536)]) (rs := []) (xs := []) (ys := []) (x := 32768) (by unfold I32; omega) (by unfold I32; omega) (Sx.J_kept (hB1.alloc hB1.size _) hj) ⟨(hR1.below ((Below.refl _ _).alloc (Nat.le_refl _) _)).more (by simp), rngs_nil _ _, fixs_nil _ _, fixs_nil _ _, allR_one (by unfold I32; omega) (by unfold I32; omega), allI_nil, allI_nil⟩ (fixs_new _ _ _ _ (by simp)) lv2).mono ?_; rintro e w2 ⟨⟨a, len, cap, rfl, hx2⟩, hB2⟩; rw [lv1] at hx2; obtain rfl : len = 1 := hx2.1; obtain ⟨b2, o2, rfl, hb2, hc2⟩ := fixs_cells (xs := [16384]) (k := 0) hx2 (by simp); have hc3 : w2.cell? ⟨b2, o2, none⟩ = some (.int .i32 16384) := hc2; have hBw := (hB1.alloc hB1.size _).trans (hB2.mono (by have := hB1.size; simp; omega)))
    | (go_at_call 9; refine (check_one (ds := [(-65536, 65536)]) (rs := []) (xs := []) (ys := []) (by unfold I32; omega) (Sx.J_kept (hBw.trans (hB1.mono hBw.size)) hj) ⟨hR1, rngs_nil _ _, fixs_nil _ _, fixs_nil _ _, allR_one (by unfold I32; omega) (by unfold I32; omega), allI_nil, allI_nil⟩).mono ?_; rintro e w3 ⟨rfl, hB3⟩; rw [lv3]))
  go_ret
  exact ⟨rfl, (hBw.trans (hB1.mono hBw.size)).trans (hB3.mono (hBw.trans (hB1.mono hBw.size)).size)⟩
end Go.Proofs.YtogcbmadcgjljaaDoor

/-
  Curves: Great.
-/
set_option linter.all false
namespace Go.Proofs.YtogcbmadcgjljaaDoor
open Go.RowKit
set_option maxRecDepth 100000 in
set_option maxHeartbeats 4000000 in
theorem great_any (f0 f4 f10 : Value) (a1 a2 a3 a5 a6 a7 a8 a9 a11 a12 : Option Addr) (l1 l2 l3 l5 l6 l7 l8 l9 l11 l12 p1 p2 p3 p5 p6 p7 p8 p9 p11 p12 : Nat) (t : ByteArray) (w : World) :
    Calls Tryd.prog 4 #[.agg #[f0, .slice a1 l1 p1, .slice a2 l2 p2, .slice a3 l3 p3, f4, .slice a5 l5 p5, .slice a6 l6 p6, .slice a7 l7 p7, .slice a8 l8 p8, .slice a9 l9 p9, f10, .slice a11 l11 p11, .slice a12 l12 p12, .string t]] w fun e w' => (∃ b, e = .returned (.bool b)) ∧ Below w.heap.size w w' := by
  by_cases c0 : 8 < l1
  · have d0 : (8 : Int) < l1 := by omega
    clear c0
    go_enter Tryd.func4, Tryd.ntmps4
    go_wp2_with (fail)
    all_goals (go_ret; refine ⟨?_, (Below.refl _ w).alloc (Nat.le_refl _) _⟩; first | exact Exists.intro true rfl | exact Or.inr rfl | exact Or.inl rfl | exact Exists.intro false rfl)
  have d0 : ¬ ((8 : Int) < l1) := by omega
  clear c0
  by_cases c1 : 8 < l2
  · have d1 : (8 : Int) < l2 := by omega
    clear c1
    go_enter Tryd.func4, Tryd.ntmps4
    go_wp2_with (fail)
    all_goals (go_ret; refine ⟨?_, (Below.refl _ w).alloc (Nat.le_refl _) _⟩; first | exact Exists.intro true rfl | exact Or.inr rfl | exact Or.inl rfl | exact Exists.intro false rfl)
  have d1 : ¬ ((8 : Int) < l2) := by omega
  clear c1
  by_cases c2 : 8 < l3
  · have d2 : (8 : Int) < l3 := by omega
    clear c2
    go_enter Tryd.func4, Tryd.ntmps4
    go_wp2_with (fail)
    all_goals (go_ret; refine ⟨?_, (Below.refl _ w).alloc (Nat.le_refl _) _⟩; first | exact Exists.intro true rfl | exact Or.inr rfl | exact Or.inl rfl | exact Exists.intro false rfl)
  have d2 : ¬ ((8 : Int) < l3) := by omega
  clear c2
  by_cases c3 : 8 < l5
  · have d3 : (8 : Int) < l5 := by omega
    clear c3
    go_enter Tryd.func4, Tryd.ntmps4
    go_wp2_with (fail)
    all_goals (go_ret; refine ⟨?_, (Below.refl _ w).alloc (Nat.le_refl _) _⟩; first | exact Exists.intro true rfl | exact Or.inr rfl | exact Or.inl rfl | exact Exists.intro false rfl)
  have d3 : ¬ ((8 : Int) < l5) := by omega
  clear c3
  by_cases c4 : 8 < l6
  · have d4 : (8 : Int) < l6 := by omega
    clear c4
    go_enter Tryd.func4, Tryd.ntmps4
    go_wp2_with (fail)
    all_goals (go_ret; refine ⟨?_, (Below.refl _ w).alloc (Nat.le_refl _) _⟩; first | exact Exists.intro true rfl | exact Or.inr rfl | exact Or.inl rfl | exact Exists.intro false rfl)
  have d4 : ¬ ((8 : Int) < l6) := by omega
  clear c4
  by_cases c5 : 70000 < l7
  · have d5 : (70000 : Int) < l7 := by omega
    clear c5
    go_enter Tryd.func4, Tryd.ntmps4
    go_wp2_with (fail)
    all_goals (go_ret; refine ⟨?_, (Below.refl _ w).alloc (Nat.le_refl _) _⟩; first | exact Exists.intro true rfl | exact Or.inr rfl | exact Or.inl rfl | exact Exists.intro false rfl)
  have d5 : ¬ ((70000 : Int) < l7) := by omega
  clear c5
  by_cases c6 : 8 < l8
  · have d6 : (8 : Int) < l8 := by omega
    clear c6
    go_enter Tryd.func4, Tryd.ntmps4
    go_wp2_with (fail)
    all_goals (go_ret; refine ⟨?_, (Below.refl _ w).alloc (Nat.le_refl _) _⟩; first | exact Exists.intro true rfl | exact Or.inr rfl | exact Or.inl rfl | exact Exists.intro false rfl)
  have d6 : ¬ ((8 : Int) < l8) := by omega
  clear c6
  by_cases c7 : 8 < l9
  · have d7 : (8 : Int) < l9 := by omega
    clear c7
    go_enter Tryd.func4, Tryd.ntmps4
    go_wp2_with (fail)
    all_goals (go_ret; refine ⟨?_, (Below.refl _ w).alloc (Nat.le_refl _) _⟩; first | exact Exists.intro true rfl | exact Or.inr rfl | exact Or.inl rfl | exact Exists.intro false rfl)
  have d7 : ¬ ((8 : Int) < l9) := by omega
  clear c7
  by_cases c8 : 10 < l12
  · have d8 : (10 : Int) < l12 := by omega
    clear c8
    go_enter Tryd.func4, Tryd.ntmps4
    go_wp2_with (fail)
    all_goals (go_ret; refine ⟨?_, (Below.refl _ w).alloc (Nat.le_refl _) _⟩; first | exact Exists.intro true rfl | exact Or.inr rfl | exact Or.inl rfl | exact Exists.intro false rfl)
  have d8 : ¬ ((10 : Int) < l12) := by omega
  clear c8
  by_cases c9 : 10 < l11
  · have d9 : (10 : Int) < l11 := by omega
    clear c9
    go_enter Tryd.func4, Tryd.ntmps4
    go_wp2_with (fail)
    all_goals (go_ret; refine ⟨?_, (Below.refl _ w).alloc (Nat.le_refl _) _⟩; first | exact Exists.intro true rfl | exact Or.inr rfl | exact Or.inl rfl | exact Exists.intro false rfl)
  have d9 : ¬ ((10 : Int) < l11) := by omega
  clear c9
  by_cases c10 : 5000 < t.size
  · have d10 : (5000 : Int) < t.size := by omega
    clear c10
    go_enter Tryd.func4, Tryd.ntmps4
    go_wp2_with (fail)
    all_goals (go_ret; refine ⟨?_, (Below.refl _ w).alloc (Nat.le_refl _) _⟩; first | exact Exists.intro true rfl | exact Or.inr rfl | exact Or.inl rfl | exact Exists.intro false rfl)
  have d10 : ¬ ((5000 : Int) < t.size) := by omega
  clear c10
  go_enter Tryd.func4, Tryd.ntmps4
  go_wp2_with (fail)
  all_goals (go_ret; refine ⟨?_, (Below.refl _ w).alloc (Nat.le_refl _) _⟩; first | exact Exists.intro true rfl | exact Or.inr rfl | exact Or.inl rfl | exact Exists.intro false rfl)
end Go.Proofs.YtogcbmadcgjljaaDoor
