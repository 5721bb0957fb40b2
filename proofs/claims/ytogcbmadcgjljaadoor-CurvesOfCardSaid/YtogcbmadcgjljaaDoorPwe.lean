/-
  The laws of powers, part e: what they stand on; the examples.
-/
import Derived.Test.YtogcbmadcgjljaaDoorPwd
set_option linter.all false
set_option maxRecDepth 100000
namespace Go.Proofs.YtogcbmadcgjljaaDoor.Sx
open Go Go.RowKit

theorem pow_gen {a n v e : Int} (h : powTo a n v e) (hn : n ≠ 0) (ha : a ≠ 0) (hw : ¬ (a < 0 ∧ n % 65536 ≠ 0)) : e = 0 ∧ ((a < 0 ∧ (n.tdiv 65536).tmod 2 ≠ 0) → v = clamp32 (-powF (roundE (max a (-a)) n))) ∧ (¬ (a < 0 ∧ (n.tdiv 65536).tmod 2 ≠ 0) → v = clamp32 (powF (roundE (max a (-a)) n))) := by
  obtain ⟨h1, h2⟩ := h.2.2.2.2 hn ha hw
  refine ⟨h1, fun z => ?_, fun z => ?_⟩
  · rw [h2]; unfold powA expoF; rw [if_pos z, powF_clamp]
  · rw [h2]; unfold powA expoF; rw [if_neg z, powF_clamp]
theorem pow_pos {a n v e : Int} (h : powTo a n v e) (hn : n ≠ 0) (ha : 0 < a) : e = 0 ∧ v = clamp32 (powF (roundE a n)) := by
  obtain ⟨h1, _, h3⟩ := pow_gen h hn (by omega) (by omega)
  rw [show max a (-a) = a by omega] at h3
  exact ⟨h1, h3 (by omega)⟩
theorem pw0 {a v e : Int} (h : powTo a 0 v e) : e = 0 ∧ v = 65536 := by have := h.1 rfl; exact ⟨this.2, this.1⟩
theorem v_zero : powF 0 = 65536 := by decide +kernel
theorem pw2 {n v e : Int} (h : powTo 131072 n v e) : e = 0 ∧ v = clamp32 (powF (n * 65536)) := by
  by_cases hn : n = 0
  · subst hn
    have := pw0 h
    rw [show (0 : Int) * 65536 = 0 by omega, v_zero]
    exact ⟨this.1, this.2⟩
  · have := pow_pos h hn (by omega)
    rwa [roundE_two] at this
theorem pwu {n v e : Int} (h : powTo 65536 n v e) : e = 0 ∧ v = 65536 := by
  by_cases hn : n = 0
  · subst hn; exact pw0 h
  · have := pow_pos h hn (by omega)
    rw [roundE_one, v_zero] at this
    exact this
theorem pw1 {a v e : Int} (h : powTo a 65536 v e) (h0 : -2147483648 ≤ a) (h1 : a ≤ 2147483647) : e = 0 ∧ v = a := by
  rcases Int.lt_trichotomy a 0 with z | z | z
  · obtain ⟨a1, a2, _⟩ := pow_gen h (by omega) (by omega) (by omega)
    have := a2 ⟨z, by decide⟩
    rw [pow_one (by omega) (by omega)] at this
    simp only [clamp32] at this
    omega
  · have := h.2.2.1 (by omega) z (by omega)
    omega
  · have := pow_pos h (by omega) z
    rw [pow_one (by omega) (by omega)] at this
    simp only [clamp32] at this
    omega
theorem whole_k : ∀ k : Fin 31, near24 (longF (2 ^ k.val)) = ((k.val : Int) - 16) * 65536 ∧ clamp32 (powF (((k.val : Int) - 16) * 65536 * 65536)) = 2 ^ k.val ∧ shI .shl .i32 1 (k.val : Int) = 2 ^ k.val ∧ (1 : Int) ≤ 2 ^ k.val := by decide +kernel
theorem v_log : near24 (longF 65536) = 0 ∧ near24 (longF 1) = -1048576 := by decide +kernel
theorem v_pow : clamp32 (powA 196608 131072) = 589824 ∧ clamp32 (powA (-131072) 196608) = -524288 := by decide +kernel
theorem v_exp : clamp32 (powF (0 * 65536)) = 65536 ∧ clamp32 (powF (65536 * 65536)) = 131072 ∧ clamp32 (powF (-1048576 * 65536)) = 1 ∧ clamp32 (powF (-1114112 * 65536)) = 1 ∧ clamp32 (powF (-1179648 * 65536)) = 0 ∧ clamp32 (powF (983040 * 65536)) = 2147483647 ∧ clamp32 (powF (32768 * 65536)) = 92682 := by decide +kernel

end Go.Proofs.YtogcbmadcgjljaaDoor.Sx
