/-
  Curves: Check, at whatever it is handed.
-/
import Derived.Test.YtogcbmadcgjljaaDoorVa
set_option linter.all false
namespace Go.Proofs.YtogcbmadcgjljaaDoor
open Go.RowKit
set_option maxHeartbeats 1000000 in
theorem check_e (siz bits enc dec dat fns bnd txt : Value) (bd od cd : Nat) (ar a0 a1 : Option Addr) (pr m p0 p1 M : Nat) (hM : M = max (max m m) 1) (hM4 : M ≤ 4) (lo hi n : Int) (w : World)
    (hn : -2147483648 ≤ n ∧ n ≤ 2147483647) (hg : w.cell? ⟨0, 0, none⟩ = some (.int .i64 0)) (hb : bd < w.heap.size) (h0 : 0 < w.heap.size)
    (hlo : w.cell? ⟨bd, od, none⟩ = some (.int .i32 lo)) (hhi : w.cell? ⟨bd, od + 1, none⟩ = some (.int .i32 hi)) :
    Calls Tryd.prog 9 #[.agg #[.int .u8 2, .slice (some ⟨bd, od, none⟩) 1 cd, .slice ar 0 pr, siz, bits, enc, dec, dat, .slice a0 m p0, .slice a1 m p1, .int .i32 n, fns, bnd, txt]] w fun e w' => e = .returned (.int .i64 (chkF [] lo hi n)) ∧ Below w.heap.size w w' := by
  have HM := Lib.hid hM; clear hM
  go_enter Tryd.func9, Tryd.ntmps9
  go_wp2_with ((go_at_call 17; (with_reducible refine (many_any _ _ _ _ _ _ _ _ _ _ _ _ _ _ _ _ _ M _ _ HM.out).mono ?_); rintro e w' ⟨rfl, rfl⟩))
  go_quiet (fail)
  refine (?rest : ∀ W : World, (W.cell? ⟨w.heap.size, 1, none⟩ = some (.slice (some ⟨bd, od, none⟩) 1 cd) ∧ W.cell? ⟨w.heap.size, 2, none⟩ = some (.slice ar 0 pr) ∧ W.cell? ⟨w.heap.size, 10, none⟩ = some (.int .i32 n) ∧ W.cell? ⟨0, 0, none⟩ = some (.int .i64 0) ∧ W.cell? ⟨bd, od, none⟩ = some (.int .i32 lo) ∧ W.cell? ⟨bd, od + 1, none⟩ = some (.int .i32 hi) ∧ Below w.heap.size w W ∧ w.heap.size < W.heap.size) → Exit.then _ _ _ _ W) _ ?facts
  case facts => 
    refine ⟨?_, ?_, ?_, ?_, ?_, ?_, ?_, ?_⟩
    all_goals (first | (simp [go_sem, *]; done) | exact below_drewN (((Below.refl _ _).alloc (Nat.le_refl _) _).alloc (by simp) _) _)
  have hrg := rng_nil
  rintro W ⟨h1, h2, h10, hg', hlo', hhi', hB, hsz⟩
  have hbW : bd < W.heap.size := by omega
  have h0W : 0 < W.heap.size := by omega
  go_wp2
  go_loop [41] (fun i => i = .int .i64 0) (fun _ => 0)
  case atStart => rfl
  case round =>
    obtain rfl := hrel
    go_wp2
    go_quiet ((go_at_call 24; exact Calls.quiet_of_same (floor_any _ hn _ (by simp [go_sem, hg', h0W]))))
    go_wp2
    all_goals (go_ret; refine ⟨ret_int ?_, below_drewN (hB.alloc (Nat.le_of_lt hsz) _) _⟩)
    all_goals (first | exact (Eq.symm (chk0 (by assumption) (by omega))) | exact (Eq.symm (chk4 (by omega))) | skip)
set_option maxHeartbeats 1000000 in
theorem check_r (siz bits enc dec dat fns bnd txt : Value) (bd od cd br or : Nat) (a0 a1 : Option Addr) (pr m p0 p1 M : Nat) (hM : M = max (max m m) 1) (hM4 : M ≤ 4) (lo hi n : Int) (w : World)
    (hn : -2147483648 ≤ n ∧ n ≤ 2147483647) (hg : w.cell? ⟨0, 0, none⟩ = some (.int .i64 0)) (hb : bd < w.heap.size) (h0 : 0 < w.heap.size)
    (hlo : w.cell? ⟨bd, od, none⟩ = some (.int .i32 lo)) (hhi : w.cell? ⟨bd, od + 1, none⟩ = some (.int .i32 hi))
    (rs : List (Int × Int)) (hrl : M = rs.length) (hbr : br < w.heap.size) (hrs : ∀ j, j < rs.length → w.cell? ⟨br, or + j * 2, none⟩ = some (.int .i32 (rs[j]?.getD (0, 0)).1) ∧ w.cell? ⟨br, or + j * 2 + 1, none⟩ = some (.int .i32 (rs[j]?.getD (0, 0)).2)) :
    Calls Tryd.prog 9 #[.agg #[.int .u8 2, .slice (some ⟨bd, od, none⟩) 1 cd, .slice (some ⟨br, or, none⟩) M pr, siz, bits, enc, dec, dat, .slice a0 m p0, .slice a1 m p1, .int .i32 n, fns, bnd, txt]] w fun e w' => e = .returned (.int .i64 (chkF rs lo hi n)) ∧ Below w.heap.size w w' := by
  have hM0 : 0 < M := by omega
  have HM := Lib.hid hM; clear hM
  have HL := Lib.hid hrl; clear hrl
  have HR := Lib.hid hrs; clear hrs
  go_enter Tryd.func9, Tryd.ntmps9
  go_wp2_with ((go_at_call 17; (with_reducible refine (many_any _ _ _ _ _ _ _ _ _ _ _ _ _ _ _ _ _ M _ _ HM.out).mono ?_); rintro e w' ⟨rfl, rfl⟩))
  go_region_held3 (fun w' => w'.cell? ⟨w.heap.size, 0, none⟩ = some (.int .u8 2) ∧ w'.cell? ⟨w.heap.size, 1, none⟩ = some (.slice (some ⟨bd, od, none⟩) 1 cd) ∧ w'.cell? ⟨w.heap.size, 2, none⟩ = some (.slice (some ⟨br, or, none⟩) M pr) ∧ w'.cell? ⟨w.heap.size, 3, none⟩ = some (siz) ∧ w'.cell? ⟨w.heap.size, 4, none⟩ = some (bits) ∧ w'.cell? ⟨w.heap.size, 5, none⟩ = some (enc) ∧ w'.cell? ⟨w.heap.size, 6, none⟩ = some (dec) ∧ w'.cell? ⟨w.heap.size, 7, none⟩ = some (dat) ∧ w'.cell? ⟨w.heap.size, 8, none⟩ = some (.slice a0 m p0) ∧ w'.cell? ⟨w.heap.size, 9, none⟩ = some (.slice a1 m p1) ∧ w'.cell? ⟨w.heap.size, 10, none⟩ = some (.int .i32 n) ∧ w'.cell? ⟨w.heap.size, 11, none⟩ = some (fns) ∧ w'.cell? ⟨w.heap.size, 12, none⟩ = some (bnd) ∧ w'.cell? ⟨w.heap.size, 13, none⟩ = some (txt)) (go_keep) (first | (go_at_call 17; (with_reducible refine (many_any _ _ _ _ _ _ _ _ _ _ _ _ _ _ _ _ _ M _ _ HM.out).mono ?_); rintro e w' ⟨rfl, rfl⟩))
  refine (?rest : ∀ W : World, CkW w W (.slice (some ⟨bd, od, none⟩) 1 cd) (.slice (some ⟨br, or, none⟩) M pr) n bd od lo hi → Exit.then _ _ _ _ W) _ ?facts
  case facts =>
    rename_i hH
    clear hH
    refine ckW_of ((((Below.refl _ _).alloc (Nat.le_refl _) _).alloc (by simp) _).alloc (by simp; omega) _).drew hb h0 hg hlo hhi ?_ ?_ ?_ ?_
    all_goals (simp [go_sem]; done)
  rename_i hH
  clear hH
  rintro W ⟨h1, h2, h10, hg', hlo', hhi', hB, hsz⟩
  have hbW : bd < W.heap.size := by omega
  have h0W : 0 < W.heap.size := by omega
  go_wp2
  go_loopw [41] (fun i V => ∃ k : Nat, k ≤ M ∧ i = .int .i64 k ∧ (∀ j, j < k → (rs[j]?.getD (0, 0)).1 ≤ (rs[j]?.getD (0, 0)).2) ∧ CkW w V (.slice (some ⟨bd, od, none⟩) 1 cd) (.slice (some ⟨br, or, none⟩) M pr) n bd od lo hi) (fun i _ => M - (intOf i).toNat)
  case atStart => exact ⟨0, Nat.zero_le _, rfl, (fun j hj => absurd hj (by omega)), h1, h2, h10, hg', hlo', hhi', hB, hsz⟩
  case round =>
    clear h1 h2 h10 hg' hlo' hhi' hB hsz hbW h0W
    obtain ⟨k, hk, rfl, hall, h1, h2, h10, hg', hlo', hhi', hB, hsz⟩ := hrel
    have hA := Lib.hid hall; clear hall
    have hbW : bd < wr.heap.size := by omega
    have h0W : 0 < wr.heap.size := by omega
    by_cases hlt : k < M
    · have hr1 := (hB.cell (p := ⟨br, or + k * 2, none⟩) hbr).trans (HR.out k (by have := HL.out; omega)).1
      have hr2 := (hB.cell (p := ⟨br, or + k * 2 + 1, none⟩) hbr).trans (HR.out k (by have := HL.out; omega)).2
      have hbR : br < wr.heap.size := by omega
      go_wp2
      · have hbad : (rs[k]?.getD (0, 0)).2 < (rs[k]?.getD (0, 0)).1 := by assumption
        go_ret
        exact ⟨ret_int (chk4r (rng_no (by have := HL.out; omega) hbad)).symm, hB.alloc (Nat.le_of_lt hsz) _⟩
      · have hok : (rs[k]?.getD (0, 0)).1 ≤ (rs[k]?.getD (0, 0)).2 := by assumption
        go_roundw
        case rel => exact ⟨k + 1, by omega, by go_num, (fun j hj => by rcases Nat.lt_or_ge j k with h | h; exact hA.out j h; exact (show j = k by omega) ▸ hok), CkW.on ⟨h1, h2, h10, hg', hlo', hhi', hB, hsz⟩ ((Below.refl _ _).alloc (Nat.le_refl _) _) hb⟩
        case measure => simp [intOf]; omega
    · obtain rfl : k = M := by omega
      have hrg : rngB rs = true := rng_all (by rw [← HL.out]; exact hA.out)
      go_wp2
      go_quiet ((go_at_call 24; exact Calls.quiet_of_same (floor_any _ hn _ (by simp [go_sem, hg', h0W]))))
      go_wp2
      all_goals (go_ret; refine ⟨ret_int ?_, below_drewN (hB.alloc (Nat.le_of_lt hsz) _) _⟩)
      all_goals (first | exact (Eq.symm (chk0 (by assumption) (by omega))) | exact (Eq.symm (chk4 (by omega))) | skip)

set_option maxHeartbeats 400000 in
theorem check_k (k : Int) (hk : k ≠ 2) (siz bits enc dec dat fns bnd txt : Value) (ad ar a0 a1 : Option Addr) (dl rl l0 l1 pd pr p0 p1 : Nat) (n : Int) (w : World) :
    Calls Tryd.prog 9 #[.agg #[.int .u8 k, .slice ad dl pd, .slice ar rl pr, siz, bits, enc, dec, dat, .slice a0 l0 p0, .slice a1 l1 p1, .int .i32 n, fns, bnd, txt]] w fun e w' => e = .returned (.int .i64 4) ∧ Below w.heap.size w w' := by
  go_enter Tryd.func9, Tryd.ntmps9
  go_wp2_with (fail)
  all_goals (go_ret; refine ⟨rfl, ?_⟩)
  exact (Below.refl _ _).alloc (Nat.le_refl _) _
set_option maxHeartbeats 400000 in
theorem check_d (dl : Nat) (hd : dl ≠ 1) (hd' : ¬ ((dl : Int) = 1)) (siz bits enc dec dat fns bnd txt : Value) (ad ar a0 a1 : Option Addr) (rl l0 l1 pd pr p0 p1 : Nat) (n : Int) (w : World) :
    Calls Tryd.prog 9 #[.agg #[.int .u8 2, .slice ad dl pd, .slice ar rl pr, siz, bits, enc, dec, dat, .slice a0 l0 p0, .slice a1 l1 p1, .int .i32 n, fns, bnd, txt]] w fun e w' => e = .returned (.int .i64 4) ∧ Below w.heap.size w w' := by
  go_enter Tryd.func9, Tryd.ntmps9
  go_wp2_with (fail)
  all_goals (go_ret; refine ⟨rfl, ?_⟩)
  exact (Below.refl _ _).alloc (Nat.le_refl _) _
set_option maxHeartbeats 400000 in
theorem check_c (l0 l1 : Nat) (hc : ¬ ((l0 : Int) = l1)) (hc' : ¬ (l0 = l1)) (siz bits enc dec dat fns bnd txt : Value) (ad ar a0 a1 : Option Addr) (rl pd pr p0 p1 : Nat) (n : Int) (w : World) :
    Calls Tryd.prog 9 #[.agg #[.int .u8 2, .slice ad 1 pd, .slice ar rl pr, siz, bits, enc, dec, dat, .slice a0 l0 p0, .slice a1 l1 p1, .int .i32 n, fns, bnd, txt]] w fun e w' => e = .returned (.int .i64 4) ∧ Below w.heap.size w w' := by
  go_enter Tryd.func9, Tryd.ntmps9
  go_wp2_with (fail)
  all_goals (go_ret; refine ⟨rfl, ?_⟩)
  exact (Below.refl _ _).alloc (Nat.le_refl _) _
set_option maxHeartbeats 400000 in
theorem check_m (l M : Nat) (hM : M = max (max l l) 1) (hM4 : 4 < M) (siz bits enc dec dat fns bnd txt : Value) (ad ar a0 a1 : Option Addr) (rl pd pr p0 p1 : Nat) (n : Int) (w : World) :
    Calls Tryd.prog 9 #[.agg #[.int .u8 2, .slice ad 1 pd, .slice ar rl pr, siz, bits, enc, dec, dat, .slice a0 l p0, .slice a1 l p1, .int .i32 n, fns, bnd, txt]] w fun e w' => e = .returned (.int .i64 4) ∧ Below w.heap.size w w' := by
  have HM := Lib.hid hM; clear hM
  go_enter Tryd.func9, Tryd.ntmps9
  go_wp2_with ((go_at_call 17; (with_reducible refine (many_any _ _ _ _ _ _ _ _ _ _ _ _ _ _ _ _ _ M _ _ HM.out).mono ?_); rintro e w' ⟨rfl, rfl⟩))
  all_goals (go_ret; refine ⟨rfl, ?_⟩)
  exact ((Below.refl _ _).alloc (Nat.le_refl _) _).alloc (by simp) _

set_option maxHeartbeats 1000000 in
theorem check_l (m M rl : Nat) (hM : M = max (max m m) 1) (hM4 : M ≤ 4) (h0 : 0 < rl) (hl : ¬ ((rl : Int) = M)) (hl' : ¬ (rl = M)) (siz bits enc dec dat fns bnd txt : Value) (ad ar a0 a1 : Option Addr) (pd pr p0 p1 : Nat) (n : Int) (w : World) :
    Calls Tryd.prog 9 #[.agg #[.int .u8 2, .slice ad 1 pd, .slice ar rl pr, siz, bits, enc, dec, dat, .slice a0 m p0, .slice a1 m p1, .int .i32 n, fns, bnd, txt]] w fun e w' => e = .returned (.int .i64 4) ∧ Below w.heap.size w w' := by
  have HM := Lib.hid hM; clear hM
  go_enter Tryd.func9, Tryd.ntmps9
  go_wp2_with ((go_at_call 17; (with_reducible refine (many_any _ _ _ _ _ _ _ _ _ _ _ _ _ _ _ _ _ M _ _ HM.out).mono ?_); rintro e w' ⟨rfl, rfl⟩))
  go_region_held3 (fun w' => w'.cell? ⟨w.heap.size, 0, none⟩ = some (.int .u8 2) ∧ w'.cell? ⟨w.heap.size, 1, none⟩ = some (.slice ad 1 pd) ∧ w'.cell? ⟨w.heap.size, 2, none⟩ = some (.slice ar rl pr) ∧ w'.cell? ⟨w.heap.size, 3, none⟩ = some (siz) ∧ w'.cell? ⟨w.heap.size, 4, none⟩ = some (bits) ∧ w'.cell? ⟨w.heap.size, 5, none⟩ = some (enc) ∧ w'.cell? ⟨w.heap.size, 6, none⟩ = some (dec) ∧ w'.cell? ⟨w.heap.size, 7, none⟩ = some (dat) ∧ w'.cell? ⟨w.heap.size, 8, none⟩ = some (.slice a0 m p0) ∧ w'.cell? ⟨w.heap.size, 9, none⟩ = some (.slice a1 m p1) ∧ w'.cell? ⟨w.heap.size, 10, none⟩ = some (.int .i32 n) ∧ w'.cell? ⟨w.heap.size, 11, none⟩ = some (fns) ∧ w'.cell? ⟨w.heap.size, 12, none⟩ = some (bnd) ∧ w'.cell? ⟨w.heap.size, 13, none⟩ = some (txt)) (go_keep) (first | (go_at_call 17; (with_reducible refine (many_any _ _ _ _ _ _ _ _ _ _ _ _ _ _ _ _ _ M _ _ HM.out).mono ?_); rintro e w' ⟨rfl, rfl⟩))
  rename_i hH
  clear hH
  go_wp2
  all_goals (go_ret; refine ⟨rfl, ?_⟩)
  exact ((((Below.refl _ _).alloc (Nat.le_refl _) _).alloc (by simp) _).alloc (by simp; omega) _).drew

/-- what Check tells. -/
def chkAll (k : Int) (ds rs : List (Int × Int)) (l0 l1 : Nat) (n : Int) : Int :=
  if k = 2 ∧ ds.length = 1 ∧ l0 = l1 ∧ max l0 1 ≤ 4 ∧ (rs.length = 0 ∨ rs.length = max l0 1) then chkF rs (ds[0]?.getD (0, 0)).1 (ds[0]?.getD (0, 0)).2 n else 4

theorem check_any (k : Int) (siz bits enc dec dat fns bnd txt : Value) (ad ar a0 a1 : Option Addr) (dl rl l0 l1 pd pr p0 p1 : Nat) (n : Int) (ds rs : List (Int × Int)) (w : World) (hn : -2147483648 ≤ n ∧ n ≤ 2147483647) (hg : w.cell? ⟨0, 0, none⟩ = some (.int .i64 0))
    (hd : Rngs w.heap.size w ad dl ds) (hr : Rngs w.heap.size w ar rl rs) :
    Calls Tryd.prog 9 #[.agg #[.int .u8 k, .slice ad dl pd, .slice ar rl pr, siz, bits, enc, dec, dat, .slice a0 l0 p0, .slice a1 l1 p1, .int .i32 n, fns, bnd, txt]] w fun e w' => e = .returned (.int .i64 (chkAll k ds rs l0 l1 n)) ∧ Below w.heap.size w w' := by
  have h0 : 0 < w.heap.size := by
    rcases Nat.eq_zero_or_pos w.heap.size with h | h
    · have : w.heap[0]? = none := by simp [h]
      simp [World.cell?, this] at hg
    · exact h
  obtain ⟨hd1, hd2⟩ := hd
  obtain ⟨hr1, hr2⟩ := hr
  by_cases h1 : k = 2
  case neg => simpa [chkAll, h1] using check_k k h1 siz bits enc dec dat fns bnd txt ad ar a0 a1 dl rl l0 l1 pd pr p0 p1 n w
  subst h1
  by_cases h2 : dl = 1
  case neg => simpa [chkAll, ← hd1, h2] using check_d dl h2 (by omega) siz bits enc dec dat fns bnd txt ad ar a0 a1 rl l0 l1 pd pr p0 p1 n w
  subst h2
  by_cases h3 : l0 = l1
  case neg => simpa [chkAll, h3] using check_c l0 l1 (by omega) h3 siz bits enc dec dat fns bnd txt ad ar a0 a1 rl pd pr p0 p1 n w
  subst h3
  by_cases h4 : max l0 1 ≤ 4
  case neg => simpa [chkAll, h4] using check_m l0 (max l0 1) (by omega) (by omega) siz bits enc dec dat fns bnd txt ad ar a0 a1 rl pd pr p0 p1 n w
  by_cases h5 : rl = 0 ∨ rl = max l0 1
  case neg => simpa [chkAll, ← hr1, h5] using check_l l0 (max l0 1) rl (by omega) h4 (by omega) (by omega) (by omega) siz bits enc dec dat fns bnd txt ad ar a0 a1 pd pr p0 p1 n w
  have hc : chkAll 2 ds rs l0 l0 n = chkF rs (ds[0]?.getD (0, 0)).1 (ds[0]?.getD (0, 0)).2 n := by
    unfold chkAll; rw [if_pos ⟨rfl, hd1.symm, rfl, h4, by rw [← hr1]; exact h5⟩]
  rw [hc]
  rcases hd2 with rfl | ⟨bd, od, rfl, hb, hcd⟩
  · simp at hd1
  obtain ⟨c1, c2⟩ := hcd 0 (by omega)
  rcases hr2 with rfl | ⟨br, or, rfl, hb2, hcr⟩
  · simp only [List.length_nil] at hr1
    subst hr1
    exact check_e siz bits enc dec dat fns bnd txt bd od pd ar a0 a1 pr l0 p0 p1 (max l0 1) (by omega) h4 _ _ n w hn hg hb h0 (by simpa using c1) (by simpa using c2)
  · rcases Nat.eq_zero_or_pos rl with hz | hz
    · have : rs = [] := List.eq_nil_of_length_eq_zero (by omega)
      subst this
      subst hz
      exact check_e siz bits enc dec dat fns bnd txt bd od pd _ a0 a1 pr l0 p0 p1 (max l0 1) (by omega) h4 _ _ n w hn hg hb h0 (by simpa using c1) (by simpa using c2)
    · obtain rfl : rl = max l0 1 := by omega
      exact check_r siz bits enc dec dat fns bnd txt bd od pd br or a0 a1 pr l0 p0 p1 (max l0 1) (by omega) h4 _ _ n w hn hg hb h0 (by simpa using c1) (by simpa using c2) rs hr1 hb2 hcr

end Go.Proofs.YtogcbmadcgjljaaDoor
