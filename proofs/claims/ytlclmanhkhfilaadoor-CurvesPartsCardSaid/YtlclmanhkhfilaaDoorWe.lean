/-
  Plain laws, part e: products by digits.
-/
import Derived.Test.YtlclmanhkhfilaaDoorWb
set_option linter.all false
namespace Go.Proofs.YtlclmanhkhfilaaDoor.Sx
open Go Go.RowKit

theorem vd_set : ∀ (l : List Int) (j : Nat) (v : Int), j < l.length → vd (l.set j v) = vd l + (v - l.getD j 0) * 65536 ^ j
  | [], j, v, h => absurd h (by simp)
  | d :: r, 0, v, _ => by simp [vd]; omega
  | d :: r, j + 1, v, h => by
    have := vd_set r j v (by simpa using h)
    simp only [List.set_cons_succ, vd, this, List.getD_cons_succ]
    grind

theorem vd_take_succ : ∀ (l : List Int) (j : Nat), j < l.length → vd (l.take (j + 1)) = vd (l.take j) + l.getD j 0 * 65536 ^ j
  | [], j, h => absurd h (by simp)
  | d :: r, 0, _ => by simp [vd]
  | d :: r, j + 1, h => by
    have := vd_take_succ r j (by simpa using h)
    rw [List.take_succ_cons, List.take_succ_cons]
    simp only [vd, this, List.getD_cons_succ]
    grind

theorem vd_take_drop : ∀ (l : List Int) (j : Nat), j ≤ l.length → vd l = vd (l.take j) + 65536 ^ j * vd (l.drop j)
  | l, 0, _ => by simp [vd]
  | [], j + 1, h => absurd h (by simp)
  | d :: r, j + 1, h => by
    have := vd_take_drop r j (by simpa using h)
    rw [List.take_succ_cons, List.drop_succ_cons]
    simp only [vd]
    grind

theorem vd_lt : ∀ (l : List Int), (∀ d ∈ l, d ≤ 65535) → vd l < 65536 ^ l.length
  | [], _ => by simp [vd]
  | d :: r, h => by
    have h1 := h d (by simp)
    have h2 := vd_lt r fun e he => h e (by simp [he])
    simp only [vd, List.length_cons, Int.pow_succ]
    omega

theorem prod_step (A B O : List Int) (i k : Nat) (hA : i < A.length) (hB : k < B.length) (hO : i + k < O.length) (q s : Int) (hs : s = q + O.getD (i + k) 0 + A.getD i 0 * B.getD k 0)
    (h : top12 ∣ vd O + q * 65536 ^ (i + k) - (vd (A.take i) * vd B + A.getD i 0 * vd (B.take k) * 65536 ^ i)) :
    top12 ∣ vd (O.set (i + k) (s % 65536)) + s / 65536 * 65536 ^ (i + (k + 1)) - (vd (A.take i) * vd B + A.getD i 0 * vd (B.take (k + 1)) * 65536 ^ i) := by
  rw [vd_set _ _ _ hO, vd_take_succ _ _ hB]
  have e : s % 65536 = s - 65536 * (s / 65536) := by omega
  rw [e]
  have e2 : (65536 : Int) ^ (i + (k + 1)) = 65536 ^ i * 65536 ^ k * 65536 := by rw [← Nat.add_assoc, Int.pow_succ, Int.pow_add]
  rw [e2, Int.pow_add]
  rw [Int.pow_add] at h
  generalize s / 65536 = z
  generalize (65536 : Int) ^ i = bi at *
  generalize (65536 : Int) ^ k = bk at *
  generalize O.getD (i + k) 0 = o at *
  generalize A.getD i 0 = a at *
  generalize B.getD k 0 = b at *
  subst hs
  obtain ⟨c, hc⟩ := h
  refine ⟨c, ?_⟩
  rw [← hc]
  grind

theorem prod_row (A B O : List Int) (i k : Nat) (hA : i < A.length) (hB : k ≤ B.length) (hik : i + k = 12) (q : Int)
    (h : top12 ∣ vd O + q * 65536 ^ (i + k) - (vd (A.take i) * vd B + A.getD i 0 * vd (B.take k) * 65536 ^ i)) :
    top12 ∣ vd O - vd (A.take (i + 1)) * vd B := by
  have e : (65536 : Int) ^ i * 65536 ^ k = top12 := by rw [← Int.pow_add, hik]; rfl
  rw [hik, show (65536 : Int) ^ 12 = top12 from rfl] at h
  rw [vd_take_succ _ _ hA]
  have eB := vd_take_drop B k hB
  generalize A.getD i 0 = a at *
  generalize vd (A.take i) = x at *
  generalize (65536 : Int) ^ i = bi at *
  generalize (65536 : Int) ^ k = bk at *
  generalize vd (B.take k) = u at *
  generalize vd (B.drop k) = w at *
  generalize vd B = vb' at *
  generalize vd O = vo at *
  obtain ⟨c, hc⟩ := h
  refine ⟨c - q - a * w, ?_⟩
  generalize top12 = m at *
  subst e eB
  grind

theorem prod_end {x y : Int} (h : top12 ∣ x - y) (h0 : 0 ≤ x) (h1 : x < top12) : x = y % top12 := by
  have := Int.emod_eq_emod_iff_emod_sub_eq_zero.2 (Int.emod_eq_zero_of_dvd h)
  rw [← this, Int.emod_eq_of_lt h0 h1]

theorem pick12 (i : Int) (h0 : 0 ≤ i) (h1 : i < 12) (x0 x1 x2 x3 x4 x5 x6 x7 x8 x9 x10 x11 : Int) : (if i = 0 then x0 else if i = 1 then x1 else if i = 2 then x2 else if i = 3 then x3 else if i = 4 then x4 else if i = 5 then x5 else if i = 6 then x6 else if i = 7 then x7 else if i = 8 then x8 else if i = 9 then x9 else if i = 10 then x10 else  x11) = ([x0, x1, x2, x3, x4, x5, x6, x7, x8, x9, x10, x11] : List Int).getD i.toNat 0 := by
  have h : i = 0 ∨ i = 1 ∨ i = 2 ∨ i = 3 ∨ i = 4 ∨ i = 5 ∨ i = 6 ∨ i = 7 ∨ i = 8 ∨ i = 9 ∨ i = 10 ∨ i = 11 := by omega
  rcases h with rfl | rfl | rfl | rfl | rfl | rfl | rfl | rfl | rfl | rfl | rfl | rfl <;> rfl

theorem set12 (i : Int) (h0 : 0 ≤ i) (h1 : i < 12) (v x0 x1 x2 x3 x4 x5 x6 x7 x8 x9 x10 x11 : Int) : [(if i = 0 then v else x0), (if i = 1 then v else x1), (if i = 2 then v else x2), (if i = 3 then v else x3), (if i = 4 then v else x4), (if i = 5 then v else x5), (if i = 6 then v else x6), (if i = 7 then v else x7), (if i = 8 then v else x8), (if i = 9 then v else x9), (if i = 10 then v else x10), (if i = 11 then v else x11)] = ([x0, x1, x2, x3, x4, x5, x6, x7, x8, x9, x10, x11] : List Int).set i.toNat v := by
  have h : i = 0 ∨ i = 1 ∨ i = 2 ∨ i = 3 ∨ i = 4 ∨ i = 5 ∨ i = 6 ∨ i = 7 ∨ i = 8 ∨ i = 9 ∨ i = 10 ∨ i = 11 := by omega
  rcases h with rfl | rfl | rfl | rfl | rfl | rfl | rfl | rfl | rfl | rfl | rfl | rfl <;> rfl

end Go.Proofs.YtlclmanhkhfilaaDoor.Sx
