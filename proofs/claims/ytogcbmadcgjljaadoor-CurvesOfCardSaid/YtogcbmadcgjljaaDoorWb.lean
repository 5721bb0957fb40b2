/-
  Plain laws, part a: numbers.
-/
import Derived.Test.YtogcbmadcgjljaaDoorRx
set_option linter.all false
namespace Go.Proofs.YtogcbmadcgjljaaDoor.Sx
open Go Go.RowKit

theorem wrap_u64 (x : Int) : IntKind.wrap .u64 x = x % 18446744073709551616 := by simp [IntKind.wrap, IntKind.bits, IntKind.signed]
theorem wrap_u32 (x : Int) : IntKind.wrap .u32 x = x % 4294967296 := by simp [IntKind.wrap, IntKind.bits, IntKind.signed]
theorem wrap_u8 (x : Int) : IntKind.wrap .u8 x = x % 256 := by simp [IntKind.wrap, IntKind.bits, IntKind.signed]
theorem wrap_i64 (x : Int) : IntKind.wrap .i64 x = (x + 9223372036854775808) % 18446744073709551616 - 9223372036854775808 := by
  simp [IntKind.wrap, IntKind.bits, IntKind.signed]; omega
theorem wrap_i32 (x : Int) : IntKind.wrap .i32 x = (x + 2147483648) % 4294967296 - 2147483648 := by
  simp [IntKind.wrap, IntKind.bits, IntKind.signed]; omega

theorem b2i_dec (a : Bool) (p : Prop) [Decidable p] : (b2i a = b2i (decide p)) ↔ (a = true ↔ p) := by
  by_cases h : p <;> cases a <;> simp [b2i, h]
theorem b2i_one (a : Bool) : (b2i a = 1) ↔ a = true := by cases a <;> simp [b2i]
theorem b2i_zero (a : Bool) : (b2i a = 0) ↔ ¬ a = true := by cases a <;> simp [b2i]

theorem p_cmpi64 : P_cmpi64 := by
  unfold P_cmpi64
  intros
  repeat' (first | intro _ | refine And.intro ?_ ?_)
  all_goals (simp only [Post_cmpi64, not_true_eq_false, not_false_eq_true] at * <;> try omega)

theorem p_cmpu64 : P_cmpu64 := by
  unfold P_cmpu64
  intros
  repeat' (first | intro _ | refine And.intro ?_ ?_)
  all_goals (simp only [Post_cmpu64, not_true_eq_false, not_false_eq_true] at * <;> try omega)

theorem p_wcmp : P_wcmp := by
  unfold P_wcmp
  intros
  repeat' (first | intro _ | refine And.intro ?_ ?_)
  all_goals (simp only [Post_wcmp, Pre_cmpi64, Pre_cmpu64, Post_cmpi64, Post_cmpu64, w128, not_true_eq_false, not_false_eq_true] at * <;> try omega)

theorem p_wof : P_wof := by
  unfold P_wof
  intros
  repeat' (first | intro _ | refine And.intro ?_ ?_)
  all_goals (simp only [Post_wof, w128, wrap_u64, shI, IntKind.bits, not_true_eq_false, not_false_eq_true] at * <;> try omega)

theorem p_minus : P_minus := by
  unfold P_minus
  intros
  repeat' (first | intro _ | refine And.intro ?_ ?_)
  all_goals (simp only [Post_minus, b2i_one, ne_eq, decide_eq_true_eq, and_true] at *; try simp)

end Go.Proofs.YtogcbmadcgjljaaDoor.Sx

/-
  Plain laws, part b: numbers by digits.
-/
set_option linter.all false
namespace Go.Proofs.YtogcbmadcgjljaaDoor.Sx
open Go Go.RowKit

theorem vd_nonneg : ∀ l : List Int, (∀ d ∈ l, 0 ≤ d) → 0 ≤ vd l
  | [], _ => Int.le_refl 0
  | d :: r, h => by
    have h1 := h d (by simp)
    have h2 := vd_nonneg r fun e he => h e (by simp [he])
    simp only [vd]; omega

set_option maxHeartbeats 2000000 in
theorem p_plus : P_plus := by
  unfold P_plus
  intros
  simp only [Post_plus, vd, top12]
  omega

set_option maxHeartbeats 2000000 in
theorem p_compare : P_compare := by
  unfold P_compare
  intros
  repeat' (first | intro _ | refine And.intro ?_ ?_)
  all_goals (simp only [Post_compare, vd, not_true_eq_false, not_false_eq_true] at * <;> try omega)

theorem p_mul64 : P_mul64 := by
  unfold P_mul64
  intro a ha ha' b hb hb' _ x0 ex0 _ _ x1 ex1 _ _ y0 ey0 _ _ y1 ey1 _ _
  intro w0 ew0 _ _ t et _ _ w1 ew1 _ _ w2 ew2 _ _ w3 ew3 _ _ h eh _ _ l el _ _
  simp only [Post_mul64, wrap_u64] at *
  have e : a * b = 18446744073709551616 * (x1 * y1) + 4294967296 * (x1 * y0) + 4294967296 * (x0 * y1) + x0 * y0 := by
    have ea : a = 4294967296 * x1 + x0 := by omega
    have eb : b = 4294967296 * y1 + y0 := by omega
    rw [ea, eb]; grind
  rw [e] at el ⊢
  generalize x1 * y1 = p at *
  generalize x1 * y0 = q at *
  generalize x0 * y1 = r at *
  generalize x0 * y0 = s at *
  omega

end Go.Proofs.YtogcbmadcgjljaaDoor.Sx
