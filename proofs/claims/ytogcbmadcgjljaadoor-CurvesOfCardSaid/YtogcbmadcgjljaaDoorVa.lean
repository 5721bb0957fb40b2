/-
  Curves: the smaller functions, and what Check reads.
-/
import Derived.Test.YtogcbmadcgjljaaDoorSj
import Derived.WalkKit
import Derived.WalkSpells
import Derived.WalkLawsBesides
import Derived.Deep.QuietTactic
import Derived.BigQuiet
import Derived.Lib.Hide
import Derived.Deep.RegionHeld3
import Derived.IntWalk
set_option linter.all false
namespace Go.Proofs.YtogcbmadcgjljaaDoor
open Go.RowKit
theorem ret_int {k : IntKind} {a b : Int} (h : a = b) : Ending.returned (.int k a) = .returned (.int k b) := by rw [h]
def clamp32 (x : Int) : Int := max (-2147483648) (min 2147483647 x)
set_option maxHeartbeats 400000 in
theorem held_any (a b c : Int) (w : World) :
    Calls Tryd.prog 16 #[.int .i32 a, .int .i32 b, .int .i32 c] w fun e w' => e = .returned (.int .i32 (min (max a b) c)) ∧ w' = w := by
  go_enter Tryd.func16, Tryd.ntmps16
  go_wp2
  all_goals (go_ret; exact ⟨ret_int (by omega), rfl⟩)
set_option maxHeartbeats 400000 in
theorem many_any (k : Int) (dom ran siz bits enc dec dat fns bnd txt : Value) (a0 a1 : Option Addr) (l0 l1 p0 p1 M : Nat) (n : Int) (w : World) (hM : M = max (max l0 l1) 1) :
    Calls Tryd.prog 17 #[.agg #[.int .u8 k, dom, ran, siz, bits, enc, dec, dat, .slice a0 l0 p0, .slice a1 l1 p1, .int .i32 n, fns, bnd, txt]] w fun e w' => e = .returned (.int .i64 M) ∧ w' = w.alloc (.cells #[.int .u8 k, dom, ran, siz, bits, enc, dec, dat, .slice a0 l0 p0, .slice a1 l1 p1, .int .i32 n, fns, bnd, txt] 30) := by
  have H : M = max (max l0 l1) 1 ∧ True := ⟨hM, trivial⟩
  clear hM
  go_enter Tryd.func17, Tryd.ntmps17
  go_wp2
  all_goals (go_ret; exact ⟨ret_int (by omega), rfl⟩)
set_option maxHeartbeats 400000 in
theorem sat_any (a : Int) (w : World) :
    Calls Tryd.prog 19 #[.int .i64 a] w fun e w' => e = .returned (.int .i32 (clamp32 a)) ∧ w' = w := by
  go_enter Tryd.func19, Tryd.ntmps19
  go_wp2
  all_goals (go_ret; refine ⟨ret_int ?_, rfl⟩)
  all_goals (try unfold clamp32)
  all_goals (try omega)
/-- a number's floor, as the program reckons it. -/
def flr (a : Int) : Int := clamp32 (bits .andNot .i64 a 65535)
set_option maxHeartbeats 400000 in
theorem whole_any (a : Int) (ha : -2147483648 ≤ a ∧ a ≤ 2147483647) (w : World) (hc : w.cell? ⟨0, 0, none⟩ = some (.int .i64 0)) :
    Calls Tryd.prog 40 #[.int .i32 a, .int .i64 0] w fun e w' => e = .returned (.int .i32 (flr a)) ∧ w' = w := by
  go_enter Tryd.func40, Tryd.ntmps40
  go_wp2_with (go_at_call 19; refine (sat_any _ _).mono ?_; rintro e w' ⟨rfl, rfl⟩)
  go_ret
  exact ⟨rfl, rfl⟩
set_option maxHeartbeats 400000 in
theorem floor_any (a : Int) (ha : -2147483648 ≤ a ∧ a ≤ 2147483647) (w : World) (hc : w.cell? ⟨0, 0, none⟩ = some (.int .i64 0)) :
    Calls Tryd.prog 24 #[.int .i32 a] w fun e w' => e = .returned (.int .i32 (flr a)) ∧ w' = w := by
  go_enter Tryd.func24, Tryd.ntmps24
  go_wp2_with (go_at_call 40; refine (whole_any _ ha _ hc).mono ?_; rintro e w' ⟨rfl, rfl⟩)
  go_ret
  exact ⟨rfl, rfl⟩

def rngB (rs : List (Int × Int)) : Bool := rs.all fun r => decide (r.1 ≤ r.2)
def chkB (lo hi n : Int) : Bool := decide (lo < hi) && !(decide (flr n ≠ n) && decide (lo < 0)) && !(decide (n < 0) && decide (lo ≤ 0) && decide (0 ≤ hi))
def chkF (rs : List (Int × Int)) (lo hi n : Int) : Int := if rngB rs && chkB lo hi n then 0 else 4
/-- the ranges that a slice holds. -/
def Rngs (n₀ : Nat) (W : World) (a : Option Addr) (len : Nat) (rs : List (Int × Int)) : Prop :=
  len = rs.length ∧ (rs = [] ∨ ∃ b off, a = some ⟨b, off, none⟩ ∧ b < n₀ ∧ ∀ j, j < rs.length → W.cell? ⟨b, off + j * 2, none⟩ = some (.int .i32 (rs[j]?.getD (0, 0)).1) ∧ W.cell? ⟨b, off + j * 2 + 1, none⟩ = some (.int .i32 (rs[j]?.getD (0, 0)).2))

theorem chk0 {rs : List (Int × Int)} {lo hi n : Int} (hr : rngB rs = true) (h : lo < hi ∧ ¬ (flr n ≠ n ∧ lo < 0) ∧ ¬ (n < 0 ∧ lo ≤ 0 ∧ 0 ≤ hi)) : chkF rs lo hi n = 0 := by
  have : chkB lo hi n = true := by
    simp only [chkB, Bool.and_eq_true, decide_eq_true_eq, Bool.not_eq_true', Bool.and_eq_false_iff, decide_eq_false_iff_not]
    omega
  simp [chkF, hr, this]
theorem chk4 {rs : List (Int × Int)} {lo hi n : Int} (h : ¬ (lo < hi ∧ ¬ (flr n ≠ n ∧ lo < 0) ∧ ¬ (n < 0 ∧ lo ≤ 0 ∧ 0 ≤ hi))) : chkF rs lo hi n = 4 := by
  have : chkB lo hi n = false := by
    simp only [chkB, Bool.and_eq_false_iff, decide_eq_false_iff_not, Bool.not_eq_false', Bool.and_eq_true, decide_eq_true_eq]
    omega
  simp [chkF, this]
theorem chk4r {rs : List (Int × Int)} {lo hi n : Int} (h : rngB rs = false) : chkF rs lo hi n = 4 := by
  simp [chkF, h]
theorem below_drewN {B : Nat} {w W : World} (h : Below B w W) (n : Nat) : Below B w (W.drewN n) := ⟨h.os, h.tape, h.output, h.size, h.block⟩
/-- what Check reads, in each world that it comes to. -/
def CkW (w W : World) (dom ran : Value) (n : Int) (bd od : Nat) (lo hi : Int) : Prop :=
  W.cell? ⟨w.heap.size, 1, none⟩ = some dom ∧ W.cell? ⟨w.heap.size, 2, none⟩ = some ran ∧ W.cell? ⟨w.heap.size, 10, none⟩ = some (.int .i32 n) ∧ W.cell? ⟨0, 0, none⟩ = some (.int .i64 0) ∧ W.cell? ⟨bd, od, none⟩ = some (.int .i32 lo) ∧ W.cell? ⟨bd, od + 1, none⟩ = some (.int .i32 hi) ∧ Below w.heap.size w W ∧ w.heap.size < W.heap.size
theorem ckW_of {w W : World} {dom ran : Value} {n : Int} {bd od : Nat} {lo hi : Int} (hB : Below w.heap.size w W) (hb : bd < w.heap.size) (h0 : 0 < w.heap.size) (hg : w.cell? ⟨0, 0, none⟩ = some (.int .i64 0)) (hlo : w.cell? ⟨bd, od, none⟩ = some (.int .i32 lo)) (hhi : w.cell? ⟨bd, od + 1, none⟩ = some (.int .i32 hi))
    (h1 : W.cell? ⟨w.heap.size, 1, none⟩ = some dom) (h2 : W.cell? ⟨w.heap.size, 2, none⟩ = some ran) (h10 : W.cell? ⟨w.heap.size, 10, none⟩ = some (.int .i32 n)) (hsz : w.heap.size < W.heap.size) : CkW w W dom ran n bd od lo hi :=
  ⟨h1, h2, h10, (hB.cell (p := ⟨0, 0, none⟩) h0).trans hg, (hB.cell (p := ⟨bd, od, none⟩) hb).trans hlo, (hB.cell (p := ⟨bd, od + 1, none⟩) hb).trans hhi, hB, hsz⟩
/-- what was read goes on to be read. -/
theorem CkW.on {w W V : World} {dom ran : Value} {n : Int} {bd od : Nat} {lo hi : Int} (h : CkW w W dom ran n bd od lo hi) (hB : Below W.heap.size W V) (hb : bd < w.heap.size) : CkW w V dom ran n bd od lo hi := by
  obtain ⟨h1, h2, h3, h4, h5, h6, h7, h8⟩ := h
  have hc : ∀ b o, b < W.heap.size → V.cell? ⟨b, o, none⟩ = W.cell? ⟨b, o, none⟩ := fun b o h => hB.cell (p := ⟨b, o, none⟩) h
  have := hB.size
  exact ⟨(hc _ _ h8).trans h1, (hc _ _ h8).trans h2, (hc _ _ h8).trans h3, (hc _ _ (by omega)).trans h4, (hc _ _ (by omega)).trans h5, (hc _ _ (by omega)).trans h6, h7.trans (hB.mono h7.size), by omega⟩
theorem rng_all {rs : List (Int × Int)} (h : ∀ j, j < rs.length → (rs[j]?.getD (0, 0)).1 ≤ (rs[j]?.getD (0, 0)).2) : rngB rs = true := by
  unfold rngB
  rw [List.all_eq_true]
  intro r hr
  obtain ⟨j, hj⟩ := List.mem_iff_getElem?.1 hr
  have := h j (List.getElem?_eq_some_iff.1 hj).1
  rw [hj] at this
  simpa using this
theorem rng_no {rs : List (Int × Int)} {j : Nat} (hj : j < rs.length) (h : (rs[j]?.getD (0, 0)).2 < (rs[j]?.getD (0, 0)).1) : rngB rs = false := by
  unfold rngB
  rw [List.all_eq_false]
  refine ⟨rs[j], List.getElem_mem hj, ?_⟩
  rw [List.getElem?_eq_getElem hj] at h
  simpa using h
theorem rng_nil : rngB [] = true := rfl



end Go.Proofs.YtogcbmadcgjljaaDoor
