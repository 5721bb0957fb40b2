
/-
  Plain laws, part a: numbers.
-/
import Derived.Test.YtlclmanhkhfilaaDoorRx
set_option linter.all false
namespace Go.Proofs.YtlclmanhkhfilaaDoor.Sx
open Go Go.RowKit

theorem wrap_u64 (x : Int) : IntKind.wrap .u64 x = x % 18446744073709551616 := by simp [IntKind.wrap, IntKind.bits, IntKind.signed]
theorem wrap_u32 (x : Int) : IntKind.wrap .u32 x = x % 4294967296 := by simp [IntKind.wrap, IntKind.bits, IntKind.signed]
theorem wrap_u8 (x : Int) : IntKind.wrap .u8 x = x % 256 := by simp [IntKind.wrap, IntKind.bits, IntKind.signed]
theorem wrap_i64 (x : Int) : IntKind.wrap .i64 x = (x + 9223372036854775808) % 18446744073709551616 - 9223372036854775808 := by
  simp [IntKind.wrap, IntKind.bits, IntKind.signed]; omega
theorem wrap_i32 (x : Int) : IntKind.wrap .i32 x = (x + 2147483648) % 4294967296 - 2147483648 := by
  simp [IntKind.wrap, IntKind.bits, IntKind.signed]; omega

theorem b2i_dec (a : Bool) (p : Prop) [Decidable p] : (b2i a = b2i (decide p)) ↔ (a = true ↔ p) := by
  by_cases h : p <;> cases a <;> simp [b2i, h]
theorem b2i_one (a : Bool) : (b2i a = 1) ↔ a = true := by cases a <;> simp [b2i]
theorem b2i_zero (a : Bool) : (b2i a = 0) ↔ ¬ a = true := by cases a <;> simp [b2i]

theorem p_cmpi64 : P_cmpi64 := by
  unfold P_cmpi64
  intros
  repeat' (first | intro _ | refine And.intro ?_ ?_)
  all_goals (simp only [Post_cmpi64, not_true_eq_false, not_false_eq_true] at * <;> try omega)

theorem p_cmpu64 : P_cmpu64 := by
  unfold P_cmpu64
  intros
  repeat' (first | intro _ | refine And.intro ?_ ?_)
  all_goals (simp only [Post_cmpu64, not_true_eq_false, not_false_eq_true] at * <;> try omega)

theorem p_wcmp : P_wcmp := by
  unfold P_wcmp
  intros
  repeat' (first | intro _ | refine And.intro ?_ ?_)
  all_goals (simp only [Post_wcmp, Pre_cmpi64, Pre_cmpu64, Post_cmpi64, Post_cmpu64, w128, not_true_eq_false, not_false_eq_true] at * <;> try omega)

theorem p_wof : P_wof := by
  unfold P_wof
  intros
  repeat' (first | intro _ | refine And.intro ?_ ?_)
  all_goals (simp only [Post_wof, w128, wrap_u64, shI, IntKind.bits, not_true_eq_false, not_false_eq_true] at * <;> try omega)

end Go.Proofs.YtlclmanhkhfilaaDoor.Sx
