/-
  Curves: the document's small functions: Within, Ranges.
-/
import Derived.Test.YtogcbmadcgjljaaDoorVb
import Derived.Test.YtogcbmadcgjljaaDoorVf
set_option linter.all false
namespace Go.Proofs.YtogcbmadcgjljaaDoor
open Go.RowKit
set_option maxHeartbeats 400000 in
theorem within_any (x lo hi : Int) (w : World) :
    Calls Tryd.prog 21 #[.int .i32 x, .agg #[.int .i32 lo, .int .i32 hi]] w fun e w' => e = .returned (.int .i32 (max lo (min hi x))) ∧ Below w.heap.size w w' := by
  go_enter Tryd.func21, Tryd.ntmps21
  go_wp2
  all_goals (go_ret; exact ⟨ret_int (by omega), (Below.refl _ w).alloc (Nat.le_refl _) _⟩)
/-- are there least to most ranges, each with its ends in order? -/
def rangesB (rs : List (Int × Int)) (most : Int) (same : Bool) : Bool := decide (1 ≤ rs.length) && decide ((rs.length : Int) ≤ most) && rs.all fun r => decide (r.1 < r.2) || (same && decide (r.1 = r.2))
theorem rngs_cells3 {n₀ : Nat} {W : World} {a : Option Addr} {rs : List (Int × Int)} {k len : Nat} (h : Rngs n₀ W a len rs) (hk : k < len) : ∃ b off, a = some ⟨b, off, none⟩ ∧ b < n₀ ∧ W.cell? ⟨b, off + k * 2, none⟩ = some (.int .i32 (rs[k]?.getD (0, 0)).1) ∧ W.cell? ⟨b, off + k * 2 + 1, none⟩ = some (.int .i32 (rs[k]?.getD (0, 0)).2) := by
  obtain ⟨h1, h2 | ⟨b, off, e, hb, hc⟩⟩ := h
  · subst h2; simp at h1; omega
  · exact ⟨b, off, e, hb, (hc k (by omega)).1, (hc k (by omega)).2⟩
theorem Rngs.below' {n₀ : Nat} {A B : World} (h : Below n₀ A B) {a : Option Addr} {len : Nat} {rs : List (Int × Int)} (hf : Rngs n₀ A a len rs) : Rngs n₀ B a len rs := by
  obtain ⟨h1, h2 | ⟨b, off, e, hb, hc⟩⟩ := hf
  · exact ⟨h1, .inl h2⟩
  · exact ⟨h1, .inr ⟨b, off, e, hb, fun j hj => ⟨(h.cell (p := ⟨b, off + j * 2, none⟩) hb).trans (hc j hj).1, (h.cell (p := ⟨b, off + j * 2 + 1, none⟩) hb).trans (hc j hj).2⟩⟩⟩
theorem ranges_bad {rs : List (Int × Int)} {most : Int} {same : Bool} {j : Nat} (hj : j < rs.length) (h : ¬ ((rs[j]?.getD (0, 0)).1 < (rs[j]?.getD (0, 0)).2 ∨ (same = true ∧ (rs[j]?.getD (0, 0)).1 = (rs[j]?.getD (0, 0)).2))) : rangesB rs most same = false := by
  have : (rs.all fun r => decide (r.1 < r.2) || (same && decide (r.1 = r.2))) = false := by
    rw [List.all_eq_false]
    refine ⟨rs[j], List.getElem_mem hj, ?_⟩
    rw [List.getElem?_eq_getElem hj] at h
    simpa using h
  unfold rangesB
  rw [this, Bool.and_false]
theorem ranges_good {rs : List (Int × Int)} {most : Int} {same : Bool} (h1 : 1 ≤ rs.length) (h2 : (rs.length : Int) ≤ most) (h : ∀ j, j < rs.length → ((rs[j]?.getD (0, 0)).1 < (rs[j]?.getD (0, 0)).2 ∨ (same = true ∧ (rs[j]?.getD (0, 0)).1 = (rs[j]?.getD (0, 0)).2))) : rangesB rs most same = true := by
  have : (rs.all fun r => decide (r.1 < r.2) || (same && decide (r.1 = r.2))) = true := by
    rw [List.all_eq_true]
    intro r hr
    obtain ⟨j, hj⟩ := List.mem_iff_getElem?.1 hr
    have := h j (List.getElem?_eq_some_iff.1 hj).1
    rw [hj] at this
    simpa using this
  unfold rangesB
  rw [this, decide_eq_true h1, decide_eq_true h2]; rfl
set_option maxHeartbeats 1000000 in
theorem ranges_any (a : Option Addr) (len p : Nat) (rs : List (Int × Int)) (most : Int) (same : Bool) (w : World) (h : Rngs w.heap.size w a len rs) (hm : most ≤ 100) :
    Calls Tryd.prog 25 #[.slice a len p, .int .i64 most, .bool same] w fun e w' => e = .returned (.bool (rangesB rs most same)) ∧ Below w.heap.size w w' := by
  have H := Lib.hid h
  have hl := Lib.hid h.1
  clear h
  by_cases h1 : len < 1
  · have h1' : (len : Int) < 1 := by omega
    have hb : rangesB rs most same = false := by
      unfold rangesB
      have hb0 : ¬ (1 ≤ rs.length) := by have := hl.out; omega
      rw [decide_eq_false hb0]; rfl
    rw [hb]; clear hb h1
    go_enter Tryd.func25, Tryd.ntmps25
    go_wp2_with (fail)
    go_ret; exact ⟨rfl, Below.refl _ _⟩
  by_cases h2 : most < (len : Int)
  · have h1' : ¬ ((len : Int) < 1) := by omega
    have hb : rangesB rs most same = false := by
      unfold rangesB
      have hb0 : ¬ ((rs.length : Int) ≤ most) := by have := hl.out; omega
      rw [decide_eq_false hb0, Bool.and_false]; rfl
    rw [hb]; clear hb h1
    go_enter Tryd.func25, Tryd.ntmps25
    go_wp2_with (fail)
    go_ret; exact ⟨rfl, Below.refl _ _⟩
  have h1' : ¬ ((len : Int) < 1) := by omega
  have h2' : (len : Int) ≤ most := by omega
  go_enter Tryd.func25, Tryd.ntmps25
  go_wp2_with (fail)
  go_loopw [7] (fun i V => ∃ k : Nat, k ≤ len ∧ i = .int .i64 k ∧ Go.RowKit.Hid (∀ j, j < k → ((rs[j]?.getD (0, 0)).1 < (rs[j]?.getD (0, 0)).2 ∨ (same = true ∧ (rs[j]?.getD (0, 0)).1 = (rs[j]?.getD (0, 0)).2))) ∧ Below w.heap.size w V) (fun i _ => len - (intOf i).toNat)
  case atStart => exact ⟨0, Nat.zero_le _, rfl, Lib.hid (fun j hj => absurd hj (by omega)), Below.refl _ _⟩
  case round =>
    obtain ⟨k, hk, rfl, hA, hB⟩ := hrel
    by_cases hlt : k < len
    · have hlt2 : (k : Int) < len := by omega
      have hk8 : k < 100 := by omega
      obtain ⟨b, o, rfl, hb, hc1, hc2⟩ := rngs_cells3 (H.out.below' hB) hlt
      obtain ⟨B, eB⟩ : ∃ B, B = (rs[k]?.getD (0, 0)).1 := ⟨_, rfl⟩
      obtain ⟨C, eC⟩ : ∃ C, C = (rs[k]?.getD (0, 0)).2 := ⟨_, rfl⟩
      rw [← eB] at hc1
      rw [← eC] at hc2
      have eB' := Lib.hid eB; have eC' := Lib.hid eC; clear eB eC
      by_cases hq1 : C < B
      · go_wp2_with (fail)
        go_quiet (fail)
        go_wp2_with (fail)
        go_ret
        exact ⟨by rw [ranges_bad (by rw [← hl.out]; exact hlt) (by rw [← eB'.out, ← eC'.out]; omega)]; rfl, below_drewN hB _⟩
      by_cases hq2 : B = C
      · subst hq2
        cases same
        · go_wp2_with (fail)
          go_quiet (fail)
          go_wp2_with (fail)
          go_ret
          exact ⟨by rw [ranges_bad (by rw [← hl.out]; exact hlt) (by rw [← eB'.out, ← eC'.out]; simp)]; rfl, below_drewN hB _⟩
        · go_wp2_with (fail)
          go_quiet (fail)
          go_wp2_with (fail)
          go_roundw
          case rel => exact ⟨k + 1, by omega, by go_num, Lib.hid (fun j hj => by
            rcases Nat.lt_or_ge j k with hh | hh
            · exact hA.out j hh
            · obtain rfl : j = k := by omega
              exact .inr ⟨by simp, by rw [← eB'.out, ← eC'.out]⟩), below_drewN hB _⟩
          case measure => simp [intOf]; omega
      · have hq3 : (B == C) = false := by simpa using hq2
        have hq4 : B < C := by omega
        go_wp2_with (fail)
        go_quiet (fail)
        go_wp2_with (fail)
        go_roundw
        case rel => exact ⟨k + 1, by omega, by go_num, Lib.hid (fun j hj => by
          rcases Nat.lt_or_ge j k with hh | hh
          · exact hA.out j hh
          · obtain rfl : j = k := by omega
            exact .inl (by rw [← eB'.out, ← eC'.out]; exact hq4)), below_drewN hB _⟩
        case measure => simp [intOf]; omega
    · obtain rfl : k = len := by omega
      have he : Go.RowKit.Hid (rangesB rs most same = true) := Lib.hid (ranges_good (by have := hl.out; omega) (by have := hl.out; omega) (by rw [← hl.out]; exact hA.out))
      go_wp2_with (fail)
      go_ret
      exact ⟨by rw [he.out]; rfl, hB⟩
end Go.Proofs.YtogcbmadcgjljaaDoor
namespace Go.Proofs.YtogcbmadcgjljaaDoor
open Go.RowKit
theorem nat_hi (x : Nat) (hx : x < 2 ^ 64) : x &&& (2 ^ 64 - (65535 + 1)) = x / 65536 * 65536 := by
  have e : x / 65536 * 65536 = (x >>> 16) <<< 16 := by rw [Nat.shiftRight_eq_div_pow, Nat.shiftLeft_eq]
  rw [e]
  apply Nat.eq_of_testBit_eq
  intro i
  rw [Nat.testBit_and, Nat.testBit_two_pow_sub_succ (by decide), Nat.testBit_shiftLeft, Nat.testBit_shiftRight, show (65535 : Nat) = 2 ^ 16 - 1 from rfl, Nat.testBit_two_pow_sub_one]
  by_cases h1 : i < 64
  · by_cases h2 : i < 16
    · have h3 : ¬ (16 ≤ i) := by omega
      simp [h1, h2, h3]
    · have h3 : 16 ≤ i := by omega
      simp [h1, h2, h3, show 16 + (i - 16) = i by omega]
  · have h3 : x.testBit i = false := Nat.testBit_lt_two_pow (Nat.lt_of_lt_of_le hx (Nat.pow_le_pow_right (by decide) (by omega)))
    by_cases h4 : 16 ≤ i
    · simp [h3, show 16 + (i - 16) = i by omega]
    · omega
theorem flr_eq {n : Int} (h0 : -2147483648 ≤ n) (h1 : n ≤ 2147483647) : flr n = n - n % 65536 := by
  have e : Go.bits .andNot .i64 n 65535 = IntKind.wrap .i64 (((BitVec.ofInt 64 n &&& ~~~(BitVec.ofInt 64 65535)).toNat : Nat) : Int) := rfl
  have e2 : (BitVec.ofInt 64 n &&& ~~~(BitVec.ofInt 64 65535)).toNat = (BitVec.ofInt 64 n).toNat / 65536 * 65536 := by
    rw [BitVec.toNat_and, show (~~~(BitVec.ofInt 64 65535)).toNat = 2 ^ 64 - (65535 + 1) by decide]
    exact nat_hi _ (BitVec.isLt _)
  unfold flr clamp32
  rw [e, e2, BitVec.toNat_ofInt]
  have w : ∀ z : Int, IntKind.wrap .i64 z = (z + 9223372036854775808) % 18446744073709551616 - 9223372036854775808 := fun z => by unfold IntKind.wrap; simp [IntKind.signed, IntKind.bits, IntKind.min, IntKind.max]; try omega
  rw [w]
  omega
theorem flr_iff {n : Int} (h0 : -2147483648 ≤ n) (h1 : n ≤ 2147483647) : flr n = n ↔ n.tmod 65536 = 0 := by
  rw [flr_eq h0 h1]
  have : n.tmod 65536 = 0 ↔ n % 65536 = 0 := by
    rw [← Int.dvd_iff_tmod_eq_zero, ← Int.dvd_iff_emod_eq_zero]
  omega
/-- what the document's Check tells. -/
def chkRef (k : Int) (ds rs : List (Int × Int)) (l0 l1 : Nat) (n : Int) : Int :=
  let m0 := if l0 = 0 ∧ l1 = 0 then 1 else l0
  let m1 := if l0 = 0 ∧ l1 = 0 then 1 else l1
  if k ≠ 2 ∨ rangesB ds 1 false = false ∨ m0 ≠ m1 ∨ 4 < m0 then 4
  else if 0 < rs.length ∧ (rs.length ≠ m0 ∨ rangesB rs 4 true = false) then 4
  else if (n.tmod 65536 ≠ 0 ∧ (ds[0]?.getD ((0, 0) : Int × Int)).1 < 0) ∨ (n < 0 ∧ (ds[0]?.getD ((0, 0) : Int × Int)).1 ≤ 0 ∧ 0 ≤ (ds[0]?.getD ((0, 0) : Int × Int)).2) then 4 else 0
theorem rangesB_one {ds : List (Int × Int)} : rangesB ds 1 false = true ↔ ds.length = 1 ∧ (ds[0]?.getD ((0, 0) : Int × Int)).1 < (ds[0]?.getD ((0, 0) : Int × Int)).2 := by
  unfold rangesB
  match ds with
  | [] => simp
  | [d] => simp
  | d :: e :: r => simp; omega
theorem rangesB_four {rs : List (Int × Int)} (h1 : 1 ≤ rs.length) (h4 : rs.length ≤ 4) : rangesB rs 4 true = rngB rs := by
  unfold rangesB rngB
  rw [decide_eq_true h1, decide_eq_true (by omega : (rs.length : Int) ≤ 4)]
  simp only [Bool.true_and]
  congr 1
  funext r
  by_cases h : r.1 < r.2
  · simp [h]; omega
  · by_cases h' : r.1 = r.2
    · simp [h']
    · simp [h, h']; omega
theorem chk_ref (k : Int) (ds rs : List (Int × Int)) (l0 l1 : Nat) {n : Int} (h0 : -2147483648 ≤ n) (h1 : n ≤ 2147483647) : chkRef k ds rs l0 l1 n = chkAll k ds rs l0 l1 n := by
  have hf := flr_iff h0 h1
  unfold chkRef chkAll
  by_cases hk : k = 2
  case neg => rw [if_pos (Or.inl hk), if_neg (by omega)]
  by_cases hd : ds.length = 1
  case neg =>
    have : rangesB ds 1 false = false := by
      rw [← Bool.not_eq_true]; intro h; exact hd (rangesB_one.1 h).1
    rw [if_pos (Or.inr (Or.inl this)), if_neg (by omega)]
  by_cases hl : l0 = l1
  case neg =>
    have hm0 : (if l0 = 0 ∧ l1 = 0 then 1 else l0) ≠ (if l0 = 0 ∧ l1 = 0 then 1 else l1) := by
      simp only [show ¬ (l0 = 0 ∧ l1 = 0) by omega, if_false]; exact hl
    rw [if_pos (Or.inr (Or.inr (Or.inl hm0))), if_neg (fun h => hl h.2.2.1)]
  subst hl
  have hm : (if l0 = 0 ∧ l0 = 0 then 1 else l0) = max l0 1 := by split <;> omega
  simp only [hm]
  by_cases h4 : max l0 1 ≤ 4
  case neg => rw [if_pos (Or.inr (Or.inr (Or.inr (by omega)))), if_neg (fun h => h4 h.2.2.2.1)]
  by_cases hr : rs.length = 0 ∨ rs.length = max l0 1
  case neg =>
    rw [if_neg (show ¬ (k = 2 ∧ ds.length = 1 ∧ True ∧ max l0 1 ≤ 4 ∧ (rs.length = 0 ∨ rs.length = max l0 1)) from fun h => hr h.2.2.2.2)]
    split
    · rfl
    · rw [if_pos ⟨by omega, Or.inl (by omega)⟩]
  rw [if_pos (show k = 2 ∧ ds.length = 1 ∧ True ∧ max l0 1 ≤ 4 ∧ (rs.length = 0 ∨ rs.length = max l0 1) from ⟨hk, hd, trivial, h4, hr⟩)]
  by_cases hdl : (ds[0]?.getD (0, 0)).1 < (ds[0]?.getD (0, 0)).2
  case neg =>
    have : rangesB ds 1 false = false := by
      rw [← Bool.not_eq_true]; intro h; exact hdl (rangesB_one.1 h).2
    rw [if_pos (Or.inr (Or.inl this))]
    exact (chk4 (by omega)).symm
  rw [if_neg (by rw [rangesB_one.2 ⟨hd, hdl⟩]; simp; omega)]
  have hrr : (0 < rs.length ∧ (rs.length ≠ max l0 1 ∨ rangesB rs 4 true = false)) ↔ rngB rs = false := by
    rcases hr with hr | hr
    · have : rs = [] := List.eq_nil_of_length_eq_zero hr
      subst this; simp [rngB]
    · rw [rangesB_four (by omega) (by omega)]
      constructor
      · rintro ⟨_, h | h⟩
        · exact absurd hr h
        · exact h
      · intro h; exact ⟨by omega, Or.inr h⟩
  by_cases hb : rngB rs = true
  · rw [if_neg (by rw [hrr, hb]; simp)]
    split
    · rename_i h
      refine (chk4 ?_).symm
      rintro ⟨_, h2, h3⟩
      rcases h with ⟨ha, hb2⟩ | h
      · exact h2 ⟨fun e => ha (hf.1 e), hb2⟩
      · exact h3 h
    · rename_i h
      refine (chk0 hb ⟨hdl, ?_, ?_⟩).symm
      · rintro ⟨h1, h2⟩; exact h (Or.inl ⟨fun e => h1 (hf.2 e), h2⟩)
      · rintro h2; exact h (Or.inr h2)
  · have hb' : rngB rs = false := by simpa using hb
    rw [if_pos (hrr.2 hb')]
    exact (chk4r hb').symm
end Go.Proofs.YtogcbmadcgjljaaDoor

/-
  Curves: the document's Check, walked.
-/
set_option linter.all false
namespace Go.Proofs.YtogcbmadcgjljaaDoor
open Go.RowKit
theorem Rngs.on {w W : World} {a : Option Addr} {len : Nat} {rs : List (Int × Int)} (h : Rngs w.heap.size w a len rs) (hB : Below w.heap.size w W) : Rngs W.heap.size W a len rs := (h.below hB).more hB.size
theorem andB {w W V : World} (h : Below w.heap.size w W) (k : Below W.heap.size W V) : Below w.heap.size w V := h.trans (k.mono h.size)
theorem ends_len (xs ys : List Int) : (ends0 xs ys).length = (if xs.length = 0 ∧ ys.length = 0 then 1 else xs.length) ∧ (ends1 xs ys).length = (if xs.length = 0 ∧ ys.length = 0 then 1 else ys.length) := by
  unfold ends0 ends1
  by_cases h : xs.length + ys.length = 0
  · have h' : xs.length = 0 ∧ ys.length = 0 := by omega
    rw [if_pos h, if_pos h, if_pos h', if_pos h']; exact ⟨rfl, rfl⟩
  · have h' : ¬ (xs.length = 0 ∧ ys.length = 0) := by omega
    rw [if_neg h, if_neg h, if_neg h', if_neg h']; exact ⟨rfl, rfl⟩
def CR (w : World) (c : Int) (e : Ending) (w' : World) : Prop := e = .returned (.int .i64 c) ∧ Below w.heap.size w w'
set_option maxRecDepth 100000 in
set_option maxHeartbeats 2000000 in
theorem rcheck_a (k : Int) (f3 f4 f5 f6 f7 f11 f12 f13 : Value) (ad ar a0 a1 : Option Addr) (dl rl l0 l1 pd pr p0 p1 : Nat) (n : Int) (ds rs : List (Int × Int)) (xs ys : List Int) (w : World) (hF : FOk w.heap.size w ad dl ar rl a0 l0 a1 l1 ds rs xs ys)
    (h : k ≠ 2 ∨ rangesB ds 1 false = false ∨ (ends0 xs ys).length ≠ (ends1 xs ys).length ∨ 4 < (ends0 xs ys).length) :
    Calls Tryd.prog 10 #[.agg #[.int .u8 k, .slice ad dl pd, .slice ar rl pr, f3, f4, f5, f6, f7, .slice a0 l0 p0, .slice a1 l1 p1, .int .i32 n, f11, f12, f13]] w (CR w 4) := by
  have hF' := Lib.hid hF
  have H := Lib.hid h
  clear hF h
  obtain ⟨r1, e1⟩ : ∃ r1, r1 = rangesB ds 1 false := ⟨_, rfl⟩
  obtain ⟨L0, eL0⟩ : ∃ L0, L0 = (ends0 xs ys).length := ⟨_, rfl⟩
  obtain ⟨L1, eL1⟩ : ∃ L1, L1 = (ends1 xs ys).length := ⟨_, rfl⟩
  have H2 : Go.RowKit.Hid (k ≠ 2 ∨ r1 = false ∨ ¬ ((L0 : Int) = L1) ∨ (4 : Int) < L0) := Lib.hid (by
    rcases H.out with q | q | q | q
    · exact .inl q
    · exact .inr (.inl (by rw [e1]; exact q))
    · exact .inr (.inr (.inl (by omega)))
    · exact .inr (.inr (.inr (by omega))))
  have E1 := Lib.hid e1; have EL0 := Lib.hid eL0; have EL1 := Lib.hid eL1
  clear e1 eL0 eL1 H
  have arms : True := trivial
  by_cases c1 : k = 2
  case neg =>
    go_enter Tryd.func10, Tryd.ntmps10
    go_wp2_with (first
      | (go_at_call 22; refine (rends_any _ _ _ _ _ _ _ _ _ _ _ _ _ _ _ _ _ _ xs ys _ (Fixs.on hF'.out.c0 ((Below.refl _ w).alloc (Nat.le_refl _) _)) (Fixs.on hF'.out.c1 ((Below.refl _ w).alloc (Nat.le_refl _) _))).mono ?_; rintro e w2 ⟨⟨b0, b1, m0, m1, q0, q1, rfl, hE0, hE1⟩, hB2⟩; have hA := andB ((Below.refl _ w).alloc (Nat.le_refl _) _) hB2; have hb := (Box14.new _ _ _ _ _ _ _ _ _ _ _ _ _ _ _ _).on hB2 (by simp); obtain ⟨g0, g1, g2, g3, g4, g5, g6, g7, g8, g9, g10, g11, g12, g13⟩ := hb))
    all_goals (go_ret; exact ⟨rfl, hA⟩)
  subst c1
  cases r1
  · go_enter Tryd.func10, Tryd.ntmps10
    go_wp2_with (first
      | (go_at_call 22; refine (rends_any _ _ _ _ _ _ _ _ _ _ _ _ _ _ _ _ _ _ xs ys _ (Fixs.on hF'.out.c0 ((Below.refl _ w).alloc (Nat.le_refl _) _)) (Fixs.on hF'.out.c1 ((Below.refl _ w).alloc (Nat.le_refl _) _))).mono ?_; rintro e w2 ⟨⟨b0, b1, m0, m1, q0, q1, rfl, hE0, hE1⟩, hB2⟩; have hA := andB ((Below.refl _ w).alloc (Nat.le_refl _) _) hB2; have hb := (Box14.new _ _ _ _ _ _ _ _ _ _ _ _ _ _ _ _).on hB2 (by simp); obtain ⟨g0, g1, g2, g3, g4, g5, g6, g7, g8, g9, g10, g11, g12, g13⟩ := hb; have hsz : w.heap.size < w2.heap.size := (by have := hB2.size; simp at this; omega); obtain rfl : L0 = m0 := (hE0.1.trans EL0.out.symm).symm; obtain rfl : L1 = m1 := (hE1.1.trans EL1.out.symm).symm)
      | (go_at_call 25; refine (ranges_any _ _ _ ds 1 false _ (Rngs.on hF'.out.d hA) (by omega)).mono ?_; rintro e w3 ⟨rfl, hB3⟩; rw [← E1.out]; have hA3 := andB hA hB3))
    all_goals (go_ret; exact ⟨rfl, hA3⟩)
  by_cases c3 : (L0 : Int) = L1
  case neg =>
    go_enter Tryd.func10, Tryd.ntmps10
    go_wp2_with (first
      | (go_at_call 22; refine (rends_any _ _ _ _ _ _ _ _ _ _ _ _ _ _ _ _ _ _ xs ys _ (Fixs.on hF'.out.c0 ((Below.refl _ w).alloc (Nat.le_refl _) _)) (Fixs.on hF'.out.c1 ((Below.refl _ w).alloc (Nat.le_refl _) _))).mono ?_; rintro e w2 ⟨⟨b0, b1, m0, m1, q0, q1, rfl, hE0, hE1⟩, hB2⟩; have hA := andB ((Below.refl _ w).alloc (Nat.le_refl _) _) hB2; have hb := (Box14.new _ _ _ _ _ _ _ _ _ _ _ _ _ _ _ _).on hB2 (by simp); obtain ⟨g0, g1, g2, g3, g4, g5, g6, g7, g8, g9, g10, g11, g12, g13⟩ := hb; have hsz : w.heap.size < w2.heap.size := (by have := hB2.size; simp at this; omega); obtain rfl : L0 = m0 := (hE0.1.trans EL0.out.symm).symm; obtain rfl : L1 = m1 := (hE1.1.trans EL1.out.symm).symm)
      | (go_at_call 25; refine (ranges_any _ _ _ ds 1 false _ (Rngs.on hF'.out.d hA) (by omega)).mono ?_; rintro e w3 ⟨rfl, hB3⟩; rw [← E1.out]; have hA3 := andB hA hB3))
    all_goals (go_ret; exact ⟨rfl, hA3⟩)
  have c4 : (4 : Int) < L0 := by
    rcases H2.out with q | q | q | q
    · exact absurd rfl q
    · exact absurd q (by simp)
    · exact absurd c3 q
    · exact q
  have c3' : L0 = L1 := by omega
  subst c3'
  clear c3
  go_enter Tryd.func10, Tryd.ntmps10
  go_wp2_with (first
      | (go_at_call 22; refine (rends_any _ _ _ _ _ _ _ _ _ _ _ _ _ _ _ _ _ _ xs ys _ (Fixs.on hF'.out.c0 ((Below.refl _ w).alloc (Nat.le_refl _) _)) (Fixs.on hF'.out.c1 ((Below.refl _ w).alloc (Nat.le_refl _) _))).mono ?_; rintro e w2 ⟨⟨b0, b1, m0, m1, q0, q1, rfl, hE0, hE1⟩, hB2⟩; have hA := andB ((Below.refl _ w).alloc (Nat.le_refl _) _) hB2; have hb := (Box14.new _ _ _ _ _ _ _ _ _ _ _ _ _ _ _ _).on hB2 (by simp); obtain ⟨g0, g1, g2, g3, g4, g5, g6, g7, g8, g9, g10, g11, g12, g13⟩ := hb; have hsz : w.heap.size < w2.heap.size := (by have := hB2.size; simp at this; omega); obtain rfl : L0 = m0 := (hE0.1.trans EL0.out.symm).symm; obtain rfl : L0 = m1 := (hE1.1.trans EL1.out.symm).symm)
      | (go_at_call 25; refine (ranges_any _ _ _ ds 1 false _ (Rngs.on hF'.out.d hA) (by omega)).mono ?_; rintro e w3 ⟨rfl, hB3⟩; rw [← E1.out]; have hA3 := andB hA hB3))
  all_goals (go_ret; exact ⟨rfl, hA3⟩)

set_option maxRecDepth 100000 in
set_option maxHeartbeats 4000000 in
theorem rcheck_b (f3 f4 f5 f6 f7 f11 f12 f13 : Value) (ad ar a0 a1 : Option Addr) (dl rl l0 l1 pd pr p0 p1 L0 : Nat) (n : Int) (ds rs : List (Int × Int)) (xs ys : List Int) (w : World) (hF : FOk w.heap.size w ad dl ar rl a0 l0 a1 l1 ds rs xs ys)
    (e1 : rangesB ds 1 false = true) (eL0 : L0 = (ends0 xs ys).length) (eL1 : L0 = (ends1 xs ys).length) (h4 : L0 ≤ 4) (h : 0 < rl ∧ (rl ≠ L0 ∨ rangesB rs 4 true = false)) :
    Calls Tryd.prog 10 #[.agg #[.int .u8 2, .slice ad dl pd, .slice ar rl pr, f3, f4, f5, f6, f7, .slice a0 l0 p0, .slice a1 l1 p1, .int .i32 n, f11, f12, f13]] w (CR w 4) := by
  have hF' := Lib.hid hF
  have H := Lib.hid h
  have hrl : (0 : Int) < rl := by omega
  have h4' : (L0 : Int) ≤ 4 := by omega
  obtain ⟨r2, e2⟩ : ∃ r2, r2 = rangesB rs 4 true := ⟨_, rfl⟩
  have E1 := Lib.hid e1; have EL0 := Lib.hid eL0; have EL1 := Lib.hid eL1; have E2 := Lib.hid e2
  clear hF h e1 eL0 eL1 e2 h4
  by_cases c1 : (rl : Int) = L0
  · have c2 : rl = L0 := by omega
    have c3 : r2 = false := by rw [E2.out]; exact H.out.2.resolve_left (fun q => q c2)
    subst c3
    subst c2
    clear c1
    go_enter Tryd.func10, Tryd.ntmps10
    go_wp2_with (first
      | (go_at_call 22; refine (rends_any _ _ _ _ _ _ _ _ _ _ _ _ _ _ _ _ _ _ xs ys _ (Fixs.on hF'.out.c0 ((Below.refl _ w).alloc (Nat.le_refl _) _)) (Fixs.on hF'.out.c1 ((Below.refl _ w).alloc (Nat.le_refl _) _))).mono ?_; rintro e w2 ⟨⟨b0, b1, m0, m1, q0, q1, rfl, hE0, hE1⟩, hB2⟩; have hA := andB ((Below.refl _ w).alloc (Nat.le_refl _) _) hB2; have hb := (Box14.new _ _ _ _ _ _ _ _ _ _ _ _ _ _ _ _).on hB2 (by simp); obtain ⟨g0, g1, g2, g3, g4, g5, g6, g7, g8, g9, g10, g11, g12, g13⟩ := hb; have hsz : w.heap.size < w2.heap.size := (by have := hB2.size; simp at this; omega); obtain rfl : rl = m0 := (hE0.1.trans EL0.out.symm).symm; obtain rfl : rl = m1 := (hE1.1.trans EL1.out.symm).symm; have hg := Box14.on ⟨g0, g1, g2, g3, g4, g5, g6, g7, g8, g9, g10, g11, g12, g13⟩ (Below.refl w2.heap.size w2) hsz)
      | (go_at_call 25; refine (ranges_any _ _ _ rs 4 true _ (Rngs.on hF'.out.r hA3) (by omega)).mono ?_; rintro e w4 ⟨rfl, hB4⟩; rw [← E2.out]; have hA4 := andB hA3 hB4)
      | (go_at_call 25; refine (ranges_any _ _ _ ds 1 false _ (Rngs.on hF'.out.d hA) (by omega)).mono ?_; rintro e w3 ⟨rfl, hB3⟩; rw [E1.out]; have hA3 := andB hA hB3; have hg3 := Box14.on hg hB3 hsz; have hsz3 := Nat.lt_of_lt_of_le hsz hB3.size; clear hg g0 g1 g2 g3 g4 g5 g6 g7 g8 g9 g10 g11 g12 g13 hA hB3; obtain ⟨k0, k1, k2, k3, k4, k5, k6, k7, k8, k9, k10, k11, k12, k13⟩ := hg3))
    all_goals (go_ret; exact ⟨rfl, hA4⟩)
  · go_enter Tryd.func10, Tryd.ntmps10
    go_wp2_with (first
      | (go_at_call 22; refine (rends_any _ _ _ _ _ _ _ _ _ _ _ _ _ _ _ _ _ _ xs ys _ (Fixs.on hF'.out.c0 ((Below.refl _ w).alloc (Nat.le_refl _) _)) (Fixs.on hF'.out.c1 ((Below.refl _ w).alloc (Nat.le_refl _) _))).mono ?_; rintro e w2 ⟨⟨b0, b1, m0, m1, q0, q1, rfl, hE0, hE1⟩, hB2⟩; have hA := andB ((Below.refl _ w).alloc (Nat.le_refl _) _) hB2; have hb := (Box14.new _ _ _ _ _ _ _ _ _ _ _ _ _ _ _ _).on hB2 (by simp); obtain ⟨g0, g1, g2, g3, g4, g5, g6, g7, g8, g9, g10, g11, g12, g13⟩ := hb; have hsz : w.heap.size < w2.heap.size := (by have := hB2.size; simp at this; omega); obtain rfl : L0 = m0 := (hE0.1.trans EL0.out.symm).symm; obtain rfl : L0 = m1 := (hE1.1.trans EL1.out.symm).symm; have hg := Box14.on ⟨g0, g1, g2, g3, g4, g5, g6, g7, g8, g9, g10, g11, g12, g13⟩ (Below.refl w2.heap.size w2) hsz)
      | (go_at_call 25; refine (ranges_any _ _ _ ds 1 false _ (Rngs.on hF'.out.d hA) (by omega)).mono ?_; rintro e w3 ⟨rfl, hB3⟩; rw [E1.out]; have hA3 := andB hA hB3; have hg3 := Box14.on hg hB3 hsz; have hsz3 := Nat.lt_of_lt_of_le hsz hB3.size; clear hg g0 g1 g2 g3 g4 g5 g6 g7 g8 g9 g10 g11 g12 g13 hA hB3; obtain ⟨k0, k1, k2, k3, k4, k5, k6, k7, k8, k9, k10, k11, k12, k13⟩ := hg3))
    all_goals (go_ret; exact ⟨rfl, hA3⟩)

/-- the last of what Check looks at. -/
def lastC (lo hi n : Int) : Int := if (n.tmod 65536 ≠ 0 ∧ lo < 0) ∨ (n < 0 ∧ lo ≤ 0 ∧ 0 ≤ hi) then 4 else 0
theorem lastC4 {lo hi n : Int} (h : (n.tmod 65536 ≠ 0 ∧ lo < 0) ∨ (n < 0 ∧ lo ≤ 0 ∧ 0 ≤ hi)) : lastC lo hi n = 4 := if_pos h
theorem lastC0 {lo hi n : Int} (h : ¬ ((n.tmod 65536 ≠ 0 ∧ lo < 0) ∨ (n < 0 ∧ lo ≤ 0 ∧ 0 ≤ hi))) : lastC lo hi n = 0 := if_neg h
set_option maxRecDepth 100000 in
set_option maxHeartbeats 4000000 in
theorem rcheck_c (f3 f4 f5 f6 f7 f11 f12 f13 : Value) (bd od : Nat) (ar a0 a1 : Option Addr) (rl l0 l1 pd pr p0 p1 L0 : Nat) (n lo hi : Int) (ds rs : List (Int × Int)) (xs ys : List Int) (w : World) (hF : FOk w.heap.size w (some ⟨bd, od, none⟩) 1 ar rl a0 l0 a1 l1 ds rs xs ys)
    (e1 : rangesB ds 1 false = true) (eL0 : L0 = (ends0 xs ys).length) (eL1 : L0 = (ends1 xs ys).length) (h4 : L0 ≤ 4) (hbd : bd < w.heap.size) (hlo : w.cell? ⟨bd, od, none⟩ = some (.int .i32 lo)) (hhi : w.cell? ⟨bd, od + 1, none⟩ = some (.int .i32 hi)) (hn : I32 n) (hr : rl = 0) :
    Calls Tryd.prog 10 #[.agg #[.int .u8 2, .slice (some ⟨bd, od, none⟩) 1 pd, .slice ar rl pr, f3, f4, f5, f6, f7, .slice a0 l0 p0, .slice a1 l1 p1, .int .i32 n, f11, f12, f13]] w (CR w (lastC lo hi n)) := by
  have hF' := Lib.hid hF
  have h4' : (L0 : Int) ≤ 4 := by omega
  have E1 := Lib.hid e1; have EL0 := Lib.hid eL0; have EL1 := Lib.hid eL1
  unfold I32 at hn
  clear hF e1 eL0 eL1 h4
  subst hr
  go_enter Tryd.func10, Tryd.ntmps10
  go_wp2_with (first
      | (go_at_call 22; refine (rends_any _ _ _ _ _ _ _ _ _ _ _ _ _ _ _ _ _ _ xs ys _ (Fixs.on hF'.out.c0 ((Below.refl _ w).alloc (Nat.le_refl _) _)) (Fixs.on hF'.out.c1 ((Below.refl _ w).alloc (Nat.le_refl _) _))).mono ?_; rintro e w2 ⟨⟨b0, b1, m0, m1, q0, q1, rfl, hE0, hE1⟩, hB2⟩; have hA := andB ((Below.refl _ w).alloc (Nat.le_refl _) _) hB2; have hb := (Box14.new _ _ _ _ _ _ _ _ _ _ _ _ _ _ _ _).on hB2 (by simp); obtain ⟨g0, g1, g2, g3, g4, g5, g6, g7, g8, g9, g10, g11, g12, g13⟩ := hb; have hsz : w.heap.size < w2.heap.size := (by have := hB2.size; simp at this; omega); obtain rfl : L0 = m0 := (hE0.1.trans EL0.out.symm).symm; obtain rfl : L0 = m1 := (hE1.1.trans EL1.out.symm).symm; have hg := Box14.on ⟨g0, g1, g2, g3, g4, g5, g6, g7, g8, g9, g10, g11, g12, g13⟩ (Below.refl w2.heap.size w2) hsz)
      | (go_at_call 25; refine (ranges_any _ _ _ ds 1 false _ (Rngs.on hF'.out.d hA) (by omega)).mono ?_; rintro e w3 ⟨rfl, hB3⟩; rw [E1.out]; have hA3 := andB hA hB3; have hg3 := Box14.on hg hB3 hsz; have hsz3 := Nat.lt_of_lt_of_le hsz hB3.size; clear hg g0 g1 g2 g3 g4 g5 g6 g7 g8 g9 g10 g11 g12 g13 hA hB3; obtain ⟨k0, k1, k2, k3, k4, k5, k6, k7, k8, k9, k10, k11, k12, k13⟩ := hg3; have hlo2 := (hA3.cell (p := ⟨bd, od, none⟩) hbd).trans hlo; have hhi2 := (hA3.cell (p := ⟨bd, od + 1, none⟩) hbd).trans hhi))
  all_goals (first | (go_ret; refine ⟨ret_int ?_, hA3.alloc hA3.size _⟩; first | (refine (lastC4 ?_).symm; omega) | (refine (lastC0 ?_).symm; omega) | (refine (lastC4 ?_).symm; simp_all; done) | (refine (lastC0 ?_).symm; simp_all; done) | (refine (lastC4 ?_).symm; simp_all; omega) | (refine (lastC0 ?_).symm; simp_all; omega)))
set_option maxRecDepth 100000 in
set_option maxHeartbeats 4000000 in
theorem rcheck_d (f3 f4 f5 f6 f7 f11 f12 f13 : Value) (bd od : Nat) (ar a0 a1 : Option Addr) (rl l0 l1 pd pr p0 p1 L0 : Nat) (n lo hi : Int) (ds rs : List (Int × Int)) (xs ys : List Int) (w : World) (hF : FOk w.heap.size w (some ⟨bd, od, none⟩) 1 ar rl a0 l0 a1 l1 ds rs xs ys)
    (e1 : rangesB ds 1 false = true) (eL0 : L0 = (ends0 xs ys).length) (eL1 : L0 = (ends1 xs ys).length) (h4 : L0 ≤ 4) (hbd : bd < w.heap.size) (hlo : w.cell? ⟨bd, od, none⟩ = some (.int .i32 lo)) (hhi : w.cell? ⟨bd, od + 1, none⟩ = some (.int .i32 hi)) (hn : I32 n) (hr : 0 < rl) (hr2 : rl = L0) (e2 : rangesB rs 4 true = true) :
    Calls Tryd.prog 10 #[.agg #[.int .u8 2, .slice (some ⟨bd, od, none⟩) 1 pd, .slice ar rl pr, f3, f4, f5, f6, f7, .slice a0 l0 p0, .slice a1 l1 p1, .int .i32 n, f11, f12, f13]] w (CR w (lastC lo hi n)) := by
  have hF' := Lib.hid hF
  have h4' : (L0 : Int) ≤ 4 := by omega
  have E1 := Lib.hid e1; have EL0 := Lib.hid eL0; have EL1 := Lib.hid eL1
  unfold I32 at hn
  have E2 := Lib.hid e2.symm
  have hrl : (0 : Int) < rl := by omega
  clear hF e1 eL0 eL1 h4 e2 hr
  subst hr2
  go_enter Tryd.func10, Tryd.ntmps10
  go_wp2_with (first
      | (go_at_call 22; refine (rends_any _ _ _ _ _ _ _ _ _ _ _ _ _ _ _ _ _ _ xs ys _ (Fixs.on hF'.out.c0 ((Below.refl _ w).alloc (Nat.le_refl _) _)) (Fixs.on hF'.out.c1 ((Below.refl _ w).alloc (Nat.le_refl _) _))).mono ?_; rintro e w2 ⟨⟨b0, b1, m0, m1, q0, q1, rfl, hE0, hE1⟩, hB2⟩; have hA := andB ((Below.refl _ w).alloc (Nat.le_refl _) _) hB2; have hb := (Box14.new _ _ _ _ _ _ _ _ _ _ _ _ _ _ _ _).on hB2 (by simp); obtain ⟨g0, g1, g2, g3, g4, g5, g6, g7, g8, g9, g10, g11, g12, g13⟩ := hb; have hsz : w.heap.size < w2.heap.size := (by have := hB2.size; simp at this; omega); obtain rfl : rl = m0 := (hE0.1.trans EL0.out.symm).symm; obtain rfl : rl = m1 := (hE1.1.trans EL1.out.symm).symm; have hg := Box14.on ⟨g0, g1, g2, g3, g4, g5, g6, g7, g8, g9, g10, g11, g12, g13⟩ (Below.refl w2.heap.size w2) hsz)
      | (go_at_call 25; refine (ranges_any _ _ _ rs 4 true _ (Rngs.on hF'.out.r hA3) (by omega)).mono ?_; rintro e w4 ⟨rfl, hB4⟩; rw [← E2.out]; have hA4 := andB hA3 hB4; have hg4 := Box14.on ⟨k0, k1, k2, k3, k4, k5, k6, k7, k8, k9, k10, k11, k12, k13⟩ hB4 hsz3; have hsz4 := Nat.lt_of_lt_of_le hsz3 hB4.size; clear k0 k1 k2 k3 k4 k5 k6 k7 k8 k9 k10 k11 k12 k13 hlo2 hhi2; obtain ⟨j0, j1, j2, j3, j4, j5, j6, j7, j8, j9, j10, j11, j12, j13⟩ := hg4; have hlo3 := (hA4.cell (p := ⟨bd, od, none⟩) hbd).trans hlo; have hhi3 := (hA4.cell (p := ⟨bd, od + 1, none⟩) hbd).trans hhi)
      | (go_at_call 25; refine (ranges_any _ _ _ ds 1 false _ (Rngs.on hF'.out.d hA) (by omega)).mono ?_; rintro e w3 ⟨rfl, hB3⟩; rw [E1.out]; have hA3 := andB hA hB3; have hg3 := Box14.on hg hB3 hsz; have hsz3 := Nat.lt_of_lt_of_le hsz hB3.size; clear hg g0 g1 g2 g3 g4 g5 g6 g7 g8 g9 g10 g11 g12 g13 hA hB3; obtain ⟨k0, k1, k2, k3, k4, k5, k6, k7, k8, k9, k10, k11, k12, k13⟩ := hg3; have hlo2 := (hA3.cell (p := ⟨bd, od, none⟩) hbd).trans hlo; have hhi2 := (hA3.cell (p := ⟨bd, od + 1, none⟩) hbd).trans hhi))
  all_goals (go_ret; refine ⟨ret_int ?_, hA4.alloc hA4.size _⟩; first | (refine (lastC4 ?_).symm; omega) | (refine (lastC0 ?_).symm; omega) | (refine (lastC4 ?_).symm; simp_all; done) | (refine (lastC0 ?_).symm; simp_all; done) | (refine (lastC4 ?_).symm; simp_all; omega) | (refine (lastC0 ?_).symm; simp_all; omega))
end Go.Proofs.YtogcbmadcgjljaaDoor
