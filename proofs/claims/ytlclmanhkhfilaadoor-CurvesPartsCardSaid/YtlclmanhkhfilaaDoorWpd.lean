/-
  Plain laws of wides, part d: divided digit by digit.
-/
import Derived.Test.YtlclmanhkhfilaaDoorWg
import Derived.Test.YtlclmanhkhfilaaDoorWpb
set_option linter.all false
set_option maxRecDepth 100000
namespace Go.Proofs.YtlclmanhkhfilaaDoor.Sx
open Go Go.RowKit

theorem bit_at : ∀ (l : List Int), (∀ d ∈ l, 0 ≤ d ∧ d ≤ 65535) → ∀ i : Nat, vd l / 2 ^ i % 2 = (l.getD (i / 16) 0) / 2 ^ (i % 16) % 2
  | [], _, i => by simp [vd]
  | d :: r, h, i => by
    obtain ⟨h0, h1⟩ := h d (by simp)
    by_cases hi : i < 16
    · have e1 : i / 16 = 0 := by omega
      have e2 : i % 16 = i := by omega
      rw [e1, e2]
      simp only [vd, List.getD_cons_zero]
      obtain ⟨k, hk⟩ : ∃ k, 16 = i + 1 + k := ⟨15 - i, by omega⟩
      have e3 : (65536 : Int) = 2 ^ i * (2 * 2 ^ k) := by
        rw [show (65536 : Int) = 2 ^ 16 by decide, hk, Int.pow_add, Int.pow_succ]; grind
      have hp := two_pow_pos' i
      rw [e3, show d + 2 ^ i * (2 * 2 ^ k) * vd r = d + 2 ^ i * (2 * (2 ^ k * vd r)) by grind, Int.add_mul_ediv_left _ _ (Int.ne_of_gt hp)]
      omega
    · obtain ⟨j, rfl⟩ : ∃ j, i = j + 16 := ⟨i - 16, by omega⟩
      have e1 : (j + 16) / 16 = j / 16 + 1 := by omega
      have e2 : (j + 16) % 16 = j % 16 := by omega
      rw [e1, e2, List.getD_cons_succ, ← bit_at r (fun x hx => h x (by simp [hx])) j]
      have e3 : (2 : Int) ^ (j + 16) = 65536 * 2 ^ j := by rw [Int.pow_add]; omega
      rw [e3, ← Int.ediv_ediv_of_nonneg (by omega)]
      simp only [vd]
      congr 2
      omega

theorem div_step {A D Q R i c : Int} (h : divInv A D i Q R) (hi : 0 ≤ i) (hc : c = A / 2 ^ i.toNat % 2) : 2 * Q * D + (2 * R + c) = A / 2 ^ i.toNat := by
  obtain ⟨h1, _⟩ := h
  have e : (2 : Int) ^ (i + 1).toNat = 2 ^ i.toNat * 2 := by rw [show (i + 1).toNat = i.toNat + 1 by omega, Int.pow_succ]
  rw [e, ← Int.ediv_ediv_of_nonneg (Int.le_of_lt (two_pow_pos' _))] at h1
  have e2 : 2 * Q * D = 2 * (Q * D) := by grind
  rw [e2, hc]
  generalize Q * D = x at *
  generalize A / 2 ^ i.toNat = y at *
  omega

theorem div_small {A D Q R i : Int} (h : divInv A D i Q R) (hA : 0 ≤ A) (hi : 0 ≤ i) (hD : 0 < D) : 2 * Q ≤ A := by
  obtain ⟨h1, h2, h3, h4⟩ := h
  have e : (2 : Int) ^ (i + 1).toNat = 2 * 2 ^ i.toNat := by rw [show (i + 1).toNat = i.toNat + 1 by omega, Int.pow_succ]; omega
  rw [e, ← Int.ediv_ediv_of_nonneg (by omega)] at h1
  have hp := two_pow_pos' i.toNat
  have : A / 2 / 2 ^ i.toNat ≤ A / 2 := Int.ediv_le_self _ (by omega)
  have := Int.mul_le_mul_of_nonneg_left (show 1 ≤ D by omega) h4
  omega

theorem pick_getD (i : Nat) (hi : i < 12) (k : Int) (hk : k = i) (x0 x1 x2 x3 x4 x5 x6 x7 x8 x9 x10 x11 : Int) : (if k = 0 then x0 else if k = 1 then x1 else if k = 2 then x2 else if k = 3 then x3 else if k = 4 then x4 else if k = 5 then x5 else if k = 6 then x6 else if k = 7 then x7 else if k = 8 then x8 else if k = 9 then x9 else if k = 10 then x10 else x11) = [x0, x1, x2, x3, x4, x5, x6, x7, x8, x9, x10, x11].getD i 0 := by
  subst hk
  match i, hi with
  | 0, _ | 1, _ | 2, _ | 3, _ | 4, _ | 5, _ | 6, _ | 7, _ | 8, _ | 9, _ | 10, _ | 11, _ => rfl

theorem div_next {A D Q R i : Int} (h : 2 * Q * D + R = A / 2 ^ i.toNat) (hi : 0 ≤ i) (h0 : 0 ≤ R) (hQ : 0 ≤ Q) : (R < D → divInv A D (i - 1) (2 * Q) R) ∧ (D ≤ R → R < 2 * D → divInv A D (i - 1) (2 * Q + 1) (R - D)) := by
  have e : (i - 1 + 1).toNat = i.toNat := by omega
  refine ⟨fun hl => ⟨by rw [e]; exact h, h0, hl, by omega⟩, fun hl hu => ⟨?_, by omega, by omega, by omega⟩⟩
  rw [e, ← h]; grind

end Go.Proofs.YtlclmanhkhfilaaDoor.Sx
