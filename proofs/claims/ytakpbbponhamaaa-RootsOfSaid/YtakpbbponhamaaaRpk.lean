/-
  Plain laws, part k: the statements.
-/
import Derived.Test.YtakpbbponhamaaaRpj
set_option linter.all false
set_option maxRecDepth 100000
namespace Go.Proofs.Ytakpbbponhamaaa.Sx
open Go Go.RowKit

theorem sq1 (x : Int) : (x + 1) * (x + 1) = x * x + 2 * x + 1 := by grind

theorem root_sq {n m x : Int} (h : isRoot m x) (e : m = n * n) (hn : 0 ≤ n) : x = n := by
  subst e
  refine root_is h ⟨Int.le_refl _, ?_⟩
  rw [sq1]; omega

theorem root_pred {n m x : Int} (h : isRoot m x) (e : m = n * n - 1) (hn : 0 < n) : x = n - 1 := by
  subst e
  have h1 : (n - 1) * (n - 1) = n * n - 2 * n + 1 := by grind
  have h2 : (n - 1 + 1) * (n - 1 + 1) = n * n := by grind
  refine root_is h ⟨?_, ?_⟩
  · rw [h1]; omega
  · rw [h2]; omega

theorem shr_one {n k j : Int} (hk : 0 ≤ k) (hk' : k ≤ 63) (hj : j = k) (h1 : 2 ^ k.toNat ≤ n) (h2 : n < 2 * 2 ^ k.toNat) : shI .shr .u64 n j = 1 := by
  subst hj
  simp only [shI, IntKind.bits]
  rw [show Min.min j.toNat 64 = j.toNat by omega]
  have hp : (0 : Int) < 2 ^ j.toNat := Int.pow_pos (by decide)
  rw [Int.fdiv_eq_ediv_of_nonneg _ (Int.le_of_lt hp)]
  generalize (2 : Int) ^ j.toNat = p at *
  have e1 := Int.mul_ediv_add_emod n p
  have e2 := Int.emod_nonneg n (Int.ne_of_gt hp)
  have e3 := Int.emod_lt_of_pos n hp
  have a1 : 0 < n / p := by
    rcases Int.lt_or_le 0 (n / p) with h | h
    · exact h
    · have := Int.mul_le_mul_of_nonneg_left h (Int.le_of_lt hp)
      omega
  have a2 : n / p < 2 := by
    rcases Int.lt_or_le (n / p) 2 with h | h
    · exact h
    · have := Int.mul_le_mul_of_nonneg_left h (Int.le_of_lt hp)
      omega
  omega

theorem log_mul {a b p q k l m : Int} (ha : 0 < a) (hb : 0 < b) (e : p = a * b) (h1 : isLog a k) (h2 : isLog b l) (h3 : isLog p m) : m = k + l ∨ m = k + l + 1 := by
  obtain ⟨a1, a2, a3, a4⟩ := h1.2 ha
  obtain ⟨b1, b2, b3, b4⟩ := h2.2 hb
  have hp : 0 < p := by rw [e]; exact Int.mul_pos ha hb
  obtain ⟨c1, c2, c3, c4⟩ := h3.2 hp
  have q1 : (2 : Int) ^ (k + l).toNat = 2 ^ k.toNat * 2 ^ l.toNat := by rw [← Int.pow_add]; congr 1; omega
  have q2 : (2 : Int) ^ (k + l + 1).toNat = 2 * (2 ^ k.toNat * 2 ^ l.toNat) := by rw [← q1, show (k + l + 1).toNat = (k + l).toNat + 1 by omega, Int.pow_succ]; omega
  have p1 : (2 : Int) ^ k.toNat * 2 ^ l.toNat ≤ a * b := Int.mul_le_mul a3 b3 (Int.le_of_lt (two_pow_pos' _)) (by omega)
  have p2 : a * b < (2 * 2 ^ k.toNat) * (2 * 2 ^ l.toNat) := Int.mul_lt_mul a4 (Int.le_of_lt b4) hb (by have := two_pow_pos' k.toNat; omega)
  have p3 : ((2 : Int) * 2 ^ k.toNat) * (2 * 2 ^ l.toNat) = 2 * (2 * (2 ^ k.toNat * 2 ^ l.toNat)) := by grind
  have := log_le (k := k + l) (j := m) (n := p) (by omega) (by rw [q1, e]; exact p1) c1 c4
  have := log_le (k := m) (j := k + l + 1) (n := p) c1 c3 (by omega) (by rw [q2, e, ← p3]; exact p2)
  omega

theorem p_lsquares : P_lsquares := by
  unfold P_lsquares
  intro n l_n u_n
  intro n1 l_n1 u_n1
  intro hpre
  replace hpre : True := hpre
  intro n2 e_n2 l_n2 u_n2
  refine ⟨trivial, ?_⟩
  intro n3 l_n3 u_n3
  intro h_root
  replace h_root : isRoot n2 n3 := h_root
  have k0 : n3 = n := root_sq h_root e_n2 l_n
  refine ⟨fun c0 => ?_, fun c0 => ?_⟩
  · show (b2i false) = 1
    exfalso; (try simp only [wrap_u64, wrap_i64] at *); omega
  · refine ⟨fun c1 => ?_, fun c1 => ?_⟩
    · intro n4 e_n4 l_n4 u_n4
      simp only [wrap_u64, wrap_i64, wrap_i32] at e_n4
      refine ⟨trivial, ?_⟩
      intro n5 l_n5 u_n5
      intro h_root1
      replace h_root1 : isRoot n4 n5 := h_root1
      have kp0 : 0 < n * n := Int.mul_pos (by omega) (by omega)
      have k1 : n5 = n - 1 := root_pred h_root1 (by omega) (by omega)
      refine ⟨fun c2 => ?_, fun c2 => ?_⟩
      · show (b2i false) = 1
        exfalso; (try simp only [wrap_u64, wrap_i64] at *); omega
      · intro n6 e_n6 l_n6 u_n6
        refine ⟨trivial, ?_⟩
        intro n7 l_n7 u_n7
        intro n8 l_n8 u_n8
        intro h_lproduct
        replace h_lproduct : w128 n7 n8 = n6 * n6 := h_lproduct
        have kp : n6 * n6 ≤ 13043817825332782212 * 13043817825332782212 := Int.mul_le_mul (by omega) (by omega) (by omega) (by omega)
        have hw : n7 * 18446744073709551616 + n8 = n6 * n6 := h_lproduct
        have kz : n6 = 0 ∧ n6 * n6 = 0 ∨ 0 < n6 ∧ 0 < n6 * n6 := by
          rcases (show n6 = 0 ∨ 0 < n6 by omega) with q | q
          · left; rw [q]; exact ⟨rfl, rfl⟩
          · right; exact ⟨q, Int.mul_pos q q⟩
        intro n9 e_n9 l_n9 u_n9
        simp only [wrap_u64, wrap_i64, wrap_i32] at e_n9
        refine ⟨trivial, ?_⟩
        intro n10 l_n10 u_n10
        intro n11 l_n11 u_n11
        intro h_rootWide
        replace h_rootWide : ((n9 < 0 → n10 = 0 ∧ n11 = 1) ∧ (0 ≤ n9 → n11 = 0 ∧ isRoot (w128 n9 n8) n10)) := h_rootWide
        have k2 : n11 = 0 := (h_rootWide.2 (by omega)).1
        have k3 : n10 = n6 := root_sq (h_rootWide.2 (by omega)).2 (by simp only [w128]; omega) (by omega)
        refine ⟨fun c3 => ?_, fun c3 => ?_⟩
        · refine ⟨fun c4 => ?_, fun c4 => ?_⟩
          · refine ⟨fun c5 => ?_, fun c5 => ?_⟩
            · refine ⟨fun c6 => ?_, fun c6 => ?_⟩
              · refine ⟨trivial, ?_⟩
                intro t
                intro h_lives
                replace h_lives : (b2i t) = 1 := h_lives
                show (b2i t) = 1
                assumption
              · show (b2i false) = 1
                exfalso; (try simp only [wrap_u64, wrap_i64] at *); omega
            · show (b2i false) = 1
              exfalso; (try simp only [wrap_u64, wrap_i64] at *); omega
          · show (b2i false) = 1
            exfalso; (try simp only [wrap_u64, wrap_i64] at *); omega
        · refine ⟨fun c4 => ?_, fun c4 => ?_⟩
          · refine ⟨fun c5 => ?_, fun c5 => ?_⟩
            · refine ⟨fun c6 => ?_, fun c6 => ?_⟩
              · refine ⟨fun c7 => ?_, fun c7 => ?_⟩
                · refine ⟨trivial, ?_⟩
                  intro t
                  intro h_lives
                  replace h_lives : (b2i t) = 1 := h_lives
                  show (b2i t) = 1
                  assumption
                · show (b2i false) = 1
                  exfalso; (try simp only [wrap_u64, wrap_i64] at *); omega
              · show (b2i false) = 1
                exfalso; (try simp only [wrap_u64, wrap_i64] at *); omega
            · show (b2i false) = 1
              exfalso; (try simp only [wrap_u64, wrap_i64] at *); omega
          · refine ⟨fun c5 => ?_, fun c5 => ?_⟩
            · refine ⟨fun c6 => ?_, fun c6 => ?_⟩
              · refine ⟨fun c7 => ?_, fun c7 => ?_⟩
                · refine ⟨fun c8 => ?_, fun c8 => ?_⟩
                  · refine ⟨trivial, ?_⟩
                    intro t
                    intro h_lives
                    replace h_lives : (b2i t) = 1 := h_lives
                    show (b2i t) = 1
                    assumption
                  · show (b2i false) = 1
                    exfalso; (try simp only [wrap_u64, wrap_i64] at *); omega
                · show (b2i false) = 1
                  exfalso; (try simp only [wrap_u64, wrap_i64] at *); omega
              · show (b2i false) = 1
                exfalso; (try simp only [wrap_u64, wrap_i64] at *); omega
            · refine ⟨fun c6 => ?_, fun c6 => ?_⟩
              · intro n12 e_n12 l_n12 u_n12
                simp only [wrap_u64, wrap_i64, wrap_i32] at e_n12
                intro n13 e_n13 l_n13 u_n13
                simp only [wrap_u64, wrap_i64, wrap_i32] at e_n13
                intro n14 e_n14 l_n14 u_n14
                simp only [wrap_u64, wrap_i64, wrap_i32] at e_n14
                refine ⟨trivial, ?_⟩
                intro n15 l_n15 u_n15
                intro n16 l_n16 u_n16
                intro h_rootWide1
                replace h_rootWide1 : ((n13 < 0 → n15 = 0 ∧ n16 = 1) ∧ (0 ≤ n13 → n16 = 0 ∧ isRoot (w128 n13 n14) n15)) := h_rootWide1
                have k4 : n16 = 0 := (h_rootWide1.2 (by omega)).1
                have k5 : n15 = n6 - 1 := root_pred (h_rootWide1.2 (by omega)).2 (by simp only [w128]; omega) (by omega)
                refine ⟨fun c7 => ?_, fun c7 => ?_⟩
                · refine ⟨fun c8 => ?_, fun c8 => ?_⟩
                  · refine ⟨trivial, ?_⟩
                    intro t
                    intro h_lives
                    replace h_lives : (b2i t) = 1 := h_lives
                    show (b2i t) = 1
                    assumption
                  · show (b2i false) = 1
                    exfalso; (try simp only [wrap_u64, wrap_i64] at *); omega
                · show (b2i false) = 1
                  exfalso; (try simp only [wrap_u64, wrap_i64] at *); omega
              · intro n12 e_n12 l_n12 u_n12
                simp only [wrap_u64, wrap_i64, wrap_i32] at e_n12
                intro n13 e_n13 l_n13 u_n13
                simp only [wrap_u64, wrap_i64, wrap_i32] at e_n13
                refine ⟨trivial, ?_⟩
                intro n14 l_n14 u_n14
                intro n15 l_n15 u_n15
                intro h_rootWide1
                replace h_rootWide1 : ((n12 < 0 → n14 = 0 ∧ n15 = 1) ∧ (0 ≤ n12 → n15 = 0 ∧ isRoot (w128 n12 n13) n14)) := h_rootWide1
                have k4 : n15 = 0 := (h_rootWide1.2 (by omega)).1
                have k5 : n14 = n6 - 1 := root_pred (h_rootWide1.2 (by omega)).2 (by simp only [w128]; omega) (by omega)
                refine ⟨fun c7 => ?_, fun c7 => ?_⟩
                · refine ⟨fun c8 => ?_, fun c8 => ?_⟩
                  · refine ⟨trivial, ?_⟩
                    intro t
                    intro h_lives
                    replace h_lives : (b2i t) = 1 := h_lives
                    show (b2i t) = 1
                    assumption
                  · show (b2i false) = 1
                    exfalso; (try simp only [wrap_u64, wrap_i64] at *); omega
                · show (b2i false) = 1
                  exfalso; (try simp only [wrap_u64, wrap_i64] at *); omega
    · intro n4 e_n4 l_n4 u_n4
      refine ⟨trivial, ?_⟩
      intro n5 l_n5 u_n5
      intro n6 l_n6 u_n6
      intro h_lproduct
      replace h_lproduct : w128 n5 n6 = n4 * n4 := h_lproduct
      have kp : n4 * n4 ≤ 13043817825332782212 * 13043817825332782212 := Int.mul_le_mul (by omega) (by omega) (by omega) (by omega)
      have hw : n5 * 18446744073709551616 + n6 = n4 * n4 := h_lproduct
      have kz : n4 = 0 ∧ n4 * n4 = 0 ∨ 0 < n4 ∧ 0 < n4 * n4 := by
        rcases (show n4 = 0 ∨ 0 < n4 by omega) with q | q
        · left; rw [q]; exact ⟨rfl, rfl⟩
        · right; exact ⟨q, Int.mul_pos q q⟩
      intro n7 e_n7 l_n7 u_n7
      simp only [wrap_u64, wrap_i64, wrap_i32] at e_n7
      refine ⟨trivial, ?_⟩
      intro n8 l_n8 u_n8
      intro n9 l_n9 u_n9
      intro h_rootWide
      replace h_rootWide : ((n7 < 0 → n8 = 0 ∧ n9 = 1) ∧ (0 ≤ n7 → n9 = 0 ∧ isRoot (w128 n7 n6) n8)) := h_rootWide
      have k2 : n9 = 0 := (h_rootWide.2 (by omega)).1
      have k3 : n8 = n4 := root_sq (h_rootWide.2 (by omega)).2 (by simp only [w128]; omega) (by omega)
      refine ⟨fun c2 => ?_, fun c2 => ?_⟩
      · refine ⟨fun c3 => ?_, fun c3 => ?_⟩
        · refine ⟨fun c4 => ?_, fun c4 => ?_⟩
          · refine ⟨fun c5 => ?_, fun c5 => ?_⟩
            · refine ⟨trivial, ?_⟩
              intro t
              intro h_lives
              replace h_lives : (b2i t) = 1 := h_lives
              show (b2i t) = 1
              assumption
            · show (b2i false) = 1
              exfalso; (try simp only [wrap_u64, wrap_i64] at *); omega
          · show (b2i false) = 1
            exfalso; (try simp only [wrap_u64, wrap_i64] at *); omega
        · show (b2i false) = 1
          exfalso; (try simp only [wrap_u64, wrap_i64] at *); omega
      · refine ⟨fun c3 => ?_, fun c3 => ?_⟩
        · refine ⟨fun c4 => ?_, fun c4 => ?_⟩
          · refine ⟨fun c5 => ?_, fun c5 => ?_⟩
            · refine ⟨fun c6 => ?_, fun c6 => ?_⟩
              · refine ⟨trivial, ?_⟩
                intro t
                intro h_lives
                replace h_lives : (b2i t) = 1 := h_lives
                show (b2i t) = 1
                assumption
              · show (b2i false) = 1
                exfalso; (try simp only [wrap_u64, wrap_i64] at *); omega
            · show (b2i false) = 1
              exfalso; (try simp only [wrap_u64, wrap_i64] at *); omega
          · show (b2i false) = 1
            exfalso; (try simp only [wrap_u64, wrap_i64] at *); omega
        · refine ⟨fun c4 => ?_, fun c4 => ?_⟩
          · refine ⟨fun c5 => ?_, fun c5 => ?_⟩
            · refine ⟨fun c6 => ?_, fun c6 => ?_⟩
              · refine ⟨fun c7 => ?_, fun c7 => ?_⟩
                · refine ⟨trivial, ?_⟩
                  intro t
                  intro h_lives
                  replace h_lives : (b2i t) = 1 := h_lives
                  show (b2i t) = 1
                  assumption
                · show (b2i false) = 1
                  exfalso; (try simp only [wrap_u64, wrap_i64] at *); omega
              · show (b2i false) = 1
                exfalso; (try simp only [wrap_u64, wrap_i64] at *); omega
            · show (b2i false) = 1
              exfalso; (try simp only [wrap_u64, wrap_i64] at *); omega
          · refine ⟨fun c5 => ?_, fun c5 => ?_⟩
            · intro n10 e_n10 l_n10 u_n10
              simp only [wrap_u64, wrap_i64, wrap_i32] at e_n10
              intro n11 e_n11 l_n11 u_n11
              simp only [wrap_u64, wrap_i64, wrap_i32] at e_n11
              intro n12 e_n12 l_n12 u_n12
              simp only [wrap_u64, wrap_i64, wrap_i32] at e_n12
              refine ⟨trivial, ?_⟩
              intro n13 l_n13 u_n13
              intro n14 l_n14 u_n14
              intro h_rootWide1
              replace h_rootWide1 : ((n11 < 0 → n13 = 0 ∧ n14 = 1) ∧ (0 ≤ n11 → n14 = 0 ∧ isRoot (w128 n11 n12) n13)) := h_rootWide1
              have k4 : n14 = 0 := (h_rootWide1.2 (by omega)).1
              have k5 : n13 = n4 - 1 := root_pred (h_rootWide1.2 (by omega)).2 (by simp only [w128]; omega) (by omega)
              refine ⟨fun c6 => ?_, fun c6 => ?_⟩
              · refine ⟨fun c7 => ?_, fun c7 => ?_⟩
                · refine ⟨trivial, ?_⟩
                  intro t
                  intro h_lives
                  replace h_lives : (b2i t) = 1 := h_lives
                  show (b2i t) = 1
                  assumption
                · show (b2i false) = 1
                  exfalso; (try simp only [wrap_u64, wrap_i64] at *); omega
              · show (b2i false) = 1
                exfalso; (try simp only [wrap_u64, wrap_i64] at *); omega
            · intro n10 e_n10 l_n10 u_n10
              simp only [wrap_u64, wrap_i64, wrap_i32] at e_n10
              intro n11 e_n11 l_n11 u_n11
              simp only [wrap_u64, wrap_i64, wrap_i32] at e_n11
              refine ⟨trivial, ?_⟩
              intro n12 l_n12 u_n12
              intro n13 l_n13 u_n13
              intro h_rootWide1
              replace h_rootWide1 : ((n10 < 0 → n12 = 0 ∧ n13 = 1) ∧ (0 ≤ n10 → n13 = 0 ∧ isRoot (w128 n10 n11) n12)) := h_rootWide1
              have k4 : n13 = 0 := (h_rootWide1.2 (by omega)).1
              have k5 : n12 = n4 - 1 := root_pred (h_rootWide1.2 (by omega)).2 (by simp only [w128]; omega) (by omega)
              refine ⟨fun c6 => ?_, fun c6 => ?_⟩
              · refine ⟨fun c7 => ?_, fun c7 => ?_⟩
                · refine ⟨trivial, ?_⟩
                  intro t
                  intro h_lives
                  replace h_lives : (b2i t) = 1 := h_lives
                  show (b2i t) = 1
                  assumption
                · show (b2i false) = 1
                  exfalso; (try simp only [wrap_u64, wrap_i64] at *); omega
              · show (b2i false) = 1
                exfalso; (try simp only [wrap_u64, wrap_i64] at *); omega

theorem p_lfix : P_lfix := by
  unfold P_lfix
  intro n l_n u_n
  intro hpre
  replace hpre : True := hpre
  refine ⟨trivial, ?_⟩
  intro n1 l_n1 u_n1
  intro n2 l_n2 u_n2
  intro h_sqrt
  replace h_sqrt : ((n < 0 → n1 = 0 ∧ n2 = 1) ∧ (0 ≤ n → n2 = 0 ∧ isRoot (n * 65536) n1)) := h_sqrt
  have kq : 0 ≤ n → n2 = 0 ∧ n1 * n1 ≤ n * 65536 ∧ n * 65536 < n1 * n1 + 2 * n1 + 1 := fun q => ⟨(h_sqrt.2 q).1, (h_sqrt.2 q).2.1, by rw [← sq1]; exact (h_sqrt.2 q).2.2⟩
  have ks := sq1 n1
  have ka : 0 ≤ n → 0 ≤ n1 := fun q => root_nonneg (h_sqrt.2 q).2
  have kb : 0 ≤ n → n ≤ 65536 → n ≤ n1 := fun q1 q2 => by
    have := Int.mul_le_mul_of_nonneg_left q2 q1
    have := sq_lt (x := n) (k := n1 + 1) (by have := ka q1; omega) (by have := kq q1; omega)
    omega
  have kc : 0 ≤ n → 65536 ≤ n → n1 ≤ n := fun q1 q2 => by
    have := Int.mul_le_mul_of_nonneg_left q2 q1
    have := sq1 n
    have := sq_lt (x := n1) (k := n + 1) (by omega) (by have := kq q1; omega)
    omega
  refine ⟨fun c0 => ?_, fun c0 => ?_⟩
  · refine ⟨fun c1 => ?_, fun c1 => ?_⟩
    · refine ⟨fun c2 => ?_, fun c2 => ?_⟩
      · refine ⟨trivial, ?_⟩
        intro t
        intro h_lives
        replace h_lives : (b2i t) = 1 := h_lives
        show (b2i t) = 1
        assumption
      · show (b2i false) = 1
        exfalso; (try simp only [wrap_i32] at *); omega
    · show (b2i false) = 1
      exfalso; (try simp only [wrap_i32] at *); omega
  · intro n3 e_n3 l_n3 u_n3
    refine ⟨fun c1 => ?_, fun c1 => ?_⟩
    · show (b2i false) = 1
      exfalso; (try simp only [wrap_i32] at *); omega
    · refine ⟨fun c2 => ?_, fun c2 => ?_⟩
      · show (b2i false) = 1
        exfalso; (try simp only [wrap_i32] at *); omega
      · refine ⟨fun c3 => ?_, fun c3 => ?_⟩
        · show (b2i false) = 1
          exfalso; (try simp only [wrap_i32] at *); omega
        · refine ⟨fun c4 => ?_, fun c4 => ?_⟩
          · show (b2i false) = 1
            exfalso; (try simp only [wrap_i32] at *); omega
          · intro n4 e_n4 l_n4 u_n4
            have k4 : 0 ≤ n4 ∧ n4 ≤ 180 := by rw [e_n4, Int.tmod_eq_emod_of_nonneg (by omega)]; omega
            have k4m : n4 * n4 ≤ 180 * 180 := Int.mul_le_mul (by omega) (by omega) (by omega) (by omega)
            have k4n : 0 ≤ n4 * n4 := Int.mul_nonneg (by omega) (by omega)
            intro n5 e_n5 l_n5 u_n5
            simp only [wrap_i64, wrap_i32] at e_n5
            have k5 : n5 = n4 * n4 * 65536 := by omega
            refine ⟨trivial, ?_⟩
            intro n6 l_n6 u_n6
            intro n7 l_n7 u_n7
            intro h_sqrt1
            replace h_sqrt1 : ((n5 < 0 → n6 = 0 ∧ n7 = 1) ∧ (0 ≤ n5 → n7 = 0 ∧ isRoot (n5 * 65536) n6)) := h_sqrt1
            have k6 : n6 = n4 * 65536 := root_sq (h_sqrt1.2 (by omega)).2 (by grind) (by omega)
            have k7 : n7 = 0 := (h_sqrt1.2 (by omega)).1
            refine ⟨fun c5 => ?_, fun c5 => ?_⟩
            · refine ⟨fun c6 => ?_, fun c6 => ?_⟩
              · refine ⟨fun c7 => ?_, fun c7 => ?_⟩
                · refine ⟨fun c8 => ?_, fun c8 => ?_⟩
                  · refine ⟨trivial, ?_⟩
                    intro t
                    intro h_lives
                    replace h_lives : (b2i t) = 1 := h_lives
                    show (b2i t) = 1
                    assumption
                  · refine ⟨fun c9 => ?_, fun c9 => ?_⟩
                    · refine ⟨trivial, ?_⟩
                      intro t
                      intro h_lives
                      replace h_lives : (b2i t) = 1 := h_lives
                      show (b2i t) = 1
                      assumption
                    · show (b2i false) = 1
                      exfalso; (try simp only [wrap_i32] at *); omega
                · refine ⟨fun c8 => ?_, fun c8 => ?_⟩
                  · refine ⟨fun c9 => ?_, fun c9 => ?_⟩
                    · refine ⟨trivial, ?_⟩
                      intro t
                      intro h_lives
                      replace h_lives : (b2i t) = 1 := h_lives
                      show (b2i t) = 1
                      assumption
                    · refine ⟨fun c10 => ?_, fun c10 => ?_⟩
                      · refine ⟨trivial, ?_⟩
                        intro t
                        intro h_lives
                        replace h_lives : (b2i t) = 1 := h_lives
                        show (b2i t) = 1
                        assumption
                      · show (b2i false) = 1
                        exfalso; (try simp only [wrap_i32] at *); omega
                  · show (b2i false) = 1
                    exfalso; (try simp only [wrap_i32] at *); omega
              · show (b2i false) = 1
                exfalso; (try simp only [wrap_i32] at *); omega
            · show (b2i false) = 1
              exfalso; (try simp only [wrap_i32] at *); omega

theorem p_llog : P_llog := by
  unfold P_llog
  intro n l_n u_n
  intro n1 l_n1 u_n1
  intro n2 l_n2 u_n2
  intro hpre
  replace hpre : True := hpre
  refine ⟨trivial, ?_⟩
  intro n3 l_n3 u_n3
  intro h_log
  replace h_log : ((n2 = 0 → n3 = -1) ∧ (0 < n2 → 0 ≤ n3 ∧ n3 ≤ 63 ∧ 2 ^ n3.toNat ≤ n2 ∧ n2 < 2 * 2 ^ n3.toNat)) := h_log
  have kl := h_log
  have km : 0 < n2 → ∀ j : Int, j = n3 → shI .shr .u64 n2 j = 1 := fun q j hj => shr_one (h_log.2 q).1 (h_log.2 q).2.1 hj (h_log.2 q).2.2.1 (h_log.2 q).2.2.2
  refine ⟨fun c0 => ?_, fun c0 => ?_⟩
  · refine ⟨fun c1 => ?_, fun c1 => ?_⟩
    · show (b2i false) = 1
      exfalso; (try simp only [wrap_u64, wrap_i64] at *); first | omega | exact absurd (km (by omega) _ (by omega)) (by assumption)
    · refine ⟨fun c2 => ?_, fun c2 => ?_⟩
      · refine ⟨fun c3 => ?_, fun c3 => ?_⟩
        · show (b2i false) = 1
          exfalso; (try simp only [wrap_u64, wrap_i64] at *); first | omega | exact absurd (km (by omega) _ (by omega)) (by assumption)
        · refine ⟨fun c4 => ?_, fun c4 => ?_⟩
          · show (b2i false) = 1
            exfalso; (try simp only [wrap_u64, wrap_i64] at *); first | omega | exact absurd (km (by omega) _ (by omega)) (by assumption)
          · refine ⟨by omega, ?_⟩
            intro n4 e_n4 l_n4 u_n4
            refine ⟨fun c5 => ?_, fun c5 => ?_⟩
            · show (b2i false) = 1
              exfalso; (try simp only [wrap_u64, wrap_i64] at *); first | omega | exact absurd (km (by omega) _ (by omega)) (by assumption)
            · refine ⟨fun c6 => ?_, fun c6 => ?_⟩
              · refine ⟨trivial, ?_⟩
                intro t
                intro h_lives
                replace h_lives : (b2i t) = 1 := h_lives
                show (b2i t) = 1
                assumption
              · refine ⟨fun c7 => ?_, fun c7 => ?_⟩
                · refine ⟨trivial, ?_⟩
                  intro t
                  intro h_lives
                  replace h_lives : (b2i t) = 1 := h_lives
                  show (b2i t) = 1
                  assumption
                · intro n5 e_n5 l_n5 u_n5
                  refine ⟨trivial, ?_⟩
                  intro n6 l_n6 u_n6
                  intro h_log1
                  replace h_log1 : ((n5 = 0 → n6 = -1) ∧ (0 < n5 → 0 ≤ n6 ∧ n6 ≤ 63 ∧ 2 ^ n6.toNat ≤ n5 ∧ n5 < 2 * 2 ^ n6.toNat)) := h_log1
                  refine ⟨trivial, ?_⟩
                  intro n7 l_n7 u_n7
                  intro h_log2
                  replace h_log2 : ((n = 0 → n7 = -1) ∧ (0 < n → 0 ≤ n7 ∧ n7 ≤ 63 ∧ 2 ^ n7.toNat ≤ n ∧ n < 2 * 2 ^ n7.toNat)) := h_log2
                  refine ⟨trivial, ?_⟩
                  intro n8 l_n8 u_n8
                  intro h_log3
                  replace h_log3 : ((n1 = 0 → n8 = -1) ∧ (0 < n1 → 0 ≤ n8 ∧ n8 ≤ 63 ∧ 2 ^ n8.toNat ≤ n1 ∧ n1 < 2 * 2 ^ n8.toNat)) := h_log3
                  have kk : n6 = n7 + n8 ∨ n6 = n7 + n8 + 1 := log_mul (a := n) (b := n1) (p := n5) (q := 0) (by omega) (by omega) e_n5 h_log2 h_log3 h_log1
                  have kb1 : n7 ≤ 63 := by have := h_log2.2 (by omega); omega
                  have kb2 : n8 ≤ 63 := by have := h_log3.2 (by omega); omega
                  have kb3 : 0 ≤ n7 := by have := h_log2.2 (by omega); omega
                  have kb4 : 0 ≤ n8 := by have := h_log3.2 (by omega); omega
                  intro n9 e_n9 l_n9 u_n9
                  simp only [wrap_u64, wrap_i64, wrap_i32] at e_n9
                  refine ⟨fun c8 => ?_, fun c8 => ?_⟩
                  · refine ⟨trivial, ?_⟩
                    intro t
                    intro h_lives
                    replace h_lives : (b2i t) = 1 := h_lives
                    show (b2i t) = 1
                    assumption
                  · refine ⟨fun c9 => ?_, fun c9 => ?_⟩
                    · refine ⟨trivial, ?_⟩
                      intro t
                      intro h_lives
                      replace h_lives : (b2i t) = 1 := h_lives
                      show (b2i t) = 1
                      assumption
                    · show (b2i false) = 1
                      exfalso; (try simp only [wrap_u64, wrap_i64] at *); first | omega | exact absurd (km (by omega) _ (by omega)) (by assumption)
      · refine ⟨fun c3 => ?_, fun c3 => ?_⟩
        · refine ⟨trivial, ?_⟩
          intro t
          intro h_lives
          replace h_lives : (b2i t) = 1 := h_lives
          show (b2i t) = 1
          assumption
        · refine ⟨fun c4 => ?_, fun c4 => ?_⟩
          · refine ⟨trivial, ?_⟩
            intro t
            intro h_lives
            replace h_lives : (b2i t) = 1 := h_lives
            show (b2i t) = 1
            assumption
          · intro n4 e_n4 l_n4 u_n4
            refine ⟨trivial, ?_⟩
            intro n5 l_n5 u_n5
            intro h_log1
            replace h_log1 : ((n4 = 0 → n5 = -1) ∧ (0 < n4 → 0 ≤ n5 ∧ n5 ≤ 63 ∧ 2 ^ n5.toNat ≤ n4 ∧ n4 < 2 * 2 ^ n5.toNat)) := h_log1
            refine ⟨trivial, ?_⟩
            intro n6 l_n6 u_n6
            intro h_log2
            replace h_log2 : ((n = 0 → n6 = -1) ∧ (0 < n → 0 ≤ n6 ∧ n6 ≤ 63 ∧ 2 ^ n6.toNat ≤ n ∧ n < 2 * 2 ^ n6.toNat)) := h_log2
            refine ⟨trivial, ?_⟩
            intro n7 l_n7 u_n7
            intro h_log3
            replace h_log3 : ((n1 = 0 → n7 = -1) ∧ (0 < n1 → 0 ≤ n7 ∧ n7 ≤ 63 ∧ 2 ^ n7.toNat ≤ n1 ∧ n1 < 2 * 2 ^ n7.toNat)) := h_log3
            have kk : n5 = n6 + n7 ∨ n5 = n6 + n7 + 1 := log_mul (a := n) (b := n1) (p := n4) (q := 0) (by omega) (by omega) e_n4 h_log2 h_log3 h_log1
            have kb1 : n6 ≤ 63 := by have := h_log2.2 (by omega); omega
            have kb2 : n7 ≤ 63 := by have := h_log3.2 (by omega); omega
            have kb3 : 0 ≤ n6 := by have := h_log2.2 (by omega); omega
            have kb4 : 0 ≤ n7 := by have := h_log3.2 (by omega); omega
            intro n8 e_n8 l_n8 u_n8
            simp only [wrap_u64, wrap_i64, wrap_i32] at e_n8
            refine ⟨fun c5 => ?_, fun c5 => ?_⟩
            · refine ⟨trivial, ?_⟩
              intro t
              intro h_lives
              replace h_lives : (b2i t) = 1 := h_lives
              show (b2i t) = 1
              assumption
            · refine ⟨fun c6 => ?_, fun c6 => ?_⟩
              · refine ⟨trivial, ?_⟩
                intro t
                intro h_lives
                replace h_lives : (b2i t) = 1 := h_lives
                show (b2i t) = 1
                assumption
              · show (b2i false) = 1
                exfalso; (try simp only [wrap_u64, wrap_i64] at *); first | omega | exact absurd (km (by omega) _ (by omega)) (by assumption)
  · refine ⟨fun c1 => ?_, fun c1 => ?_⟩
    · refine ⟨fun c2 => ?_, fun c2 => ?_⟩
      · show (b2i false) = 1
        exfalso; (try simp only [wrap_u64, wrap_i64] at *); first | omega | exact absurd (km (by omega) _ (by omega)) (by assumption)
      · refine ⟨fun c3 => ?_, fun c3 => ?_⟩
        · show (b2i false) = 1
          exfalso; (try simp only [wrap_u64, wrap_i64] at *); first | omega | exact absurd (km (by omega) _ (by omega)) (by assumption)
        · refine ⟨by omega, ?_⟩
          intro n4 e_n4 l_n4 u_n4
          refine ⟨fun c4 => ?_, fun c4 => ?_⟩
          · show (b2i false) = 1
            exfalso; (try simp only [wrap_u64, wrap_i64] at *); first | omega | exact absurd (km (by omega) _ (by omega)) (by assumption)
          · refine ⟨fun c5 => ?_, fun c5 => ?_⟩
            · refine ⟨trivial, ?_⟩
              intro t
              intro h_lives
              replace h_lives : (b2i t) = 1 := h_lives
              show (b2i t) = 1
              assumption
            · refine ⟨fun c6 => ?_, fun c6 => ?_⟩
              · refine ⟨trivial, ?_⟩
                intro t
                intro h_lives
                replace h_lives : (b2i t) = 1 := h_lives
                show (b2i t) = 1
                assumption
              · intro n5 e_n5 l_n5 u_n5
                refine ⟨trivial, ?_⟩
                intro n6 l_n6 u_n6
                intro h_log1
                replace h_log1 : ((n5 = 0 → n6 = -1) ∧ (0 < n5 → 0 ≤ n6 ∧ n6 ≤ 63 ∧ 2 ^ n6.toNat ≤ n5 ∧ n5 < 2 * 2 ^ n6.toNat)) := h_log1
                refine ⟨trivial, ?_⟩
                intro n7 l_n7 u_n7
                intro h_log2
                replace h_log2 : ((n = 0 → n7 = -1) ∧ (0 < n → 0 ≤ n7 ∧ n7 ≤ 63 ∧ 2 ^ n7.toNat ≤ n ∧ n < 2 * 2 ^ n7.toNat)) := h_log2
                refine ⟨trivial, ?_⟩
                intro n8 l_n8 u_n8
                intro h_log3
                replace h_log3 : ((n1 = 0 → n8 = -1) ∧ (0 < n1 → 0 ≤ n8 ∧ n8 ≤ 63 ∧ 2 ^ n8.toNat ≤ n1 ∧ n1 < 2 * 2 ^ n8.toNat)) := h_log3
                have kk : n6 = n7 + n8 ∨ n6 = n7 + n8 + 1 := log_mul (a := n) (b := n1) (p := n5) (q := 0) (by omega) (by omega) e_n5 h_log2 h_log3 h_log1
                have kb1 : n7 ≤ 63 := by have := h_log2.2 (by omega); omega
                have kb2 : n8 ≤ 63 := by have := h_log3.2 (by omega); omega
                have kb3 : 0 ≤ n7 := by have := h_log2.2 (by omega); omega
                have kb4 : 0 ≤ n8 := by have := h_log3.2 (by omega); omega
                intro n9 e_n9 l_n9 u_n9
                simp only [wrap_u64, wrap_i64, wrap_i32] at e_n9
                refine ⟨fun c7 => ?_, fun c7 => ?_⟩
                · refine ⟨trivial, ?_⟩
                  intro t
                  intro h_lives
                  replace h_lives : (b2i t) = 1 := h_lives
                  show (b2i t) = 1
                  assumption
                · refine ⟨fun c8 => ?_, fun c8 => ?_⟩
                  · refine ⟨trivial, ?_⟩
                    intro t
                    intro h_lives
                    replace h_lives : (b2i t) = 1 := h_lives
                    show (b2i t) = 1
                    assumption
                  · show (b2i false) = 1
                    exfalso; (try simp only [wrap_u64, wrap_i64] at *); first | omega | exact absurd (km (by omega) _ (by omega)) (by assumption)
    · refine ⟨fun c2 => ?_, fun c2 => ?_⟩
      · refine ⟨trivial, ?_⟩
        intro t
        intro h_lives
        replace h_lives : (b2i t) = 1 := h_lives
        show (b2i t) = 1
        assumption
      · refine ⟨fun c3 => ?_, fun c3 => ?_⟩
        · refine ⟨trivial, ?_⟩
          intro t
          intro h_lives
          replace h_lives : (b2i t) = 1 := h_lives
          show (b2i t) = 1
          assumption
        · intro n4 e_n4 l_n4 u_n4
          refine ⟨trivial, ?_⟩
          intro n5 l_n5 u_n5
          intro h_log1
          replace h_log1 : ((n4 = 0 → n5 = -1) ∧ (0 < n4 → 0 ≤ n5 ∧ n5 ≤ 63 ∧ 2 ^ n5.toNat ≤ n4 ∧ n4 < 2 * 2 ^ n5.toNat)) := h_log1
          refine ⟨trivial, ?_⟩
          intro n6 l_n6 u_n6
          intro h_log2
          replace h_log2 : ((n = 0 → n6 = -1) ∧ (0 < n → 0 ≤ n6 ∧ n6 ≤ 63 ∧ 2 ^ n6.toNat ≤ n ∧ n < 2 * 2 ^ n6.toNat)) := h_log2
          refine ⟨trivial, ?_⟩
          intro n7 l_n7 u_n7
          intro h_log3
          replace h_log3 : ((n1 = 0 → n7 = -1) ∧ (0 < n1 → 0 ≤ n7 ∧ n7 ≤ 63 ∧ 2 ^ n7.toNat ≤ n1 ∧ n1 < 2 * 2 ^ n7.toNat)) := h_log3
          have kk : n5 = n6 + n7 ∨ n5 = n6 + n7 + 1 := log_mul (a := n) (b := n1) (p := n4) (q := 0) (by omega) (by omega) e_n4 h_log2 h_log3 h_log1
          have kb1 : n6 ≤ 63 := by have := h_log2.2 (by omega); omega
          have kb2 : n7 ≤ 63 := by have := h_log3.2 (by omega); omega
          have kb3 : 0 ≤ n6 := by have := h_log2.2 (by omega); omega
          have kb4 : 0 ≤ n7 := by have := h_log3.2 (by omega); omega
          intro n8 e_n8 l_n8 u_n8
          simp only [wrap_u64, wrap_i64, wrap_i32] at e_n8
          refine ⟨fun c4 => ?_, fun c4 => ?_⟩
          · refine ⟨trivial, ?_⟩
            intro t
            intro h_lives
            replace h_lives : (b2i t) = 1 := h_lives
            show (b2i t) = 1
            assumption
          · refine ⟨fun c5 => ?_, fun c5 => ?_⟩
            · refine ⟨trivial, ?_⟩
              intro t
              intro h_lives
              replace h_lives : (b2i t) = 1 := h_lives
              show (b2i t) = 1
              assumption
            · show (b2i false) = 1
              exfalso; (try simp only [wrap_u64, wrap_i64] at *); first | omega | exact absurd (km (by omega) _ (by omega)) (by assumption)

theorem p_lbetween : P_lbetween := by
  unfold P_lbetween
  intro n l_n u_n
  intro n1 l_n1 u_n1
  intro n2 l_n2 u_n2
  intro hpre
  replace hpre : True := hpre
  intro b
  refine ⟨trivial, ?_⟩
  intro n3 l_n3 u_n3
  intro h_root
  replace h_root : isRoot n n3 := h_root
  have ks := sq1 n3
  have k0 : 0 ≤ n3 * n3 := Int.mul_nonneg (by omega) (by omega)
  have k1 : n3 * n3 ≤ n ∧ n < n3 * n3 + 2 * n3 + 1 := ⟨h_root.1, by rw [← ks]; exact h_root.2⟩
  have k2 : n3 < 4294967296 := root_lt h_root (by omega) (by omega)
  refine ⟨fun c0 => ?_, fun c0 => ?_⟩
  · show (b2i false) = 1
    exfalso; (try simp only [wrap_u64, wrap_i64] at *); omega
  · refine ⟨fun c1 => ?_, fun c1 => ?_⟩
    · show (b2i false) = 1
      exfalso; (try simp only [wrap_u64, wrap_i64] at *); omega
    · refine ⟨fun c2 => ?_, fun c2 => ?_⟩
      · show (b2i false) = 1
        exfalso; (try simp only [wrap_u64, wrap_i64] at *); omega
      · refine ⟨trivial, ?_⟩
        intro n4 l_n4 u_n4
        intro n5 l_n5 u_n5
        intro h_rootWide
        replace h_rootWide : ((n1 < 0 → n4 = 0 ∧ n5 = 1) ∧ (0 ≤ n1 → n5 = 0 ∧ isRoot (w128 n1 n2) n4)) := h_rootWide
        have kt := sq1 n4
        have k3 : 0 ≤ n1 → n5 = 0 ∧ n4 * n4 ≤ n1 * 18446744073709551616 + n2 ∧ n1 * 18446744073709551616 + n2 < n4 * n4 + 2 * n4 + 1 := fun q => ⟨(h_rootWide.2 q).1, (h_rootWide.2 q).2.1, by rw [← kt]; exact (h_rootWide.2 q).2.2⟩
        have k4 := h_rootWide.1
        refine ⟨fun c3 => ?_, fun c3 => ?_⟩
        · refine ⟨fun c4 => ?_, fun c4 => ?_⟩
          · refine ⟨fun c5 => ?_, fun c5 => ?_⟩
            · refine ⟨trivial, ?_⟩
              intro t
              intro h_lives
              replace h_lives : (b2i t) = 1 := h_lives
              show (b2i t) = 1
              assumption
            · show (b2i false) = 1
              exfalso; (try simp only [wrap_u64, wrap_i64] at *); omega
          · show (b2i false) = 1
            exfalso; (try simp only [wrap_u64, wrap_i64] at *); omega
        · refine ⟨trivial, ?_⟩
          intro n6 l_n6 u_n6
          intro n7 l_n7 u_n7
          intro h_lproduct
          replace h_lproduct : w128 n6 n7 = n4 * n4 := h_lproduct
          have hw : n6 * 18446744073709551616 + n7 = n4 * n4 := h_lproduct
          have k5 := k3 (by omega)
          refine ⟨fun c4 => ?_, fun c4 => ?_⟩
          · show (b2i false) = 1
            exfalso; (try simp only [wrap_u64, wrap_i64] at *); omega
          · refine ⟨fun c5 => ?_, fun c5 => ?_⟩
            · show (b2i false) = 1
              exfalso; (try simp only [wrap_u64, wrap_i64] at *); omega
            · refine ⟨fun c6 => ?_, fun c6 => ?_⟩
              · refine ⟨fun c7 => ?_, fun c7 => ?_⟩
                · show (b2i false) = 1
                  exfalso; (try simp only [wrap_u64, wrap_i64] at *); omega
                · intro n8 e_n8 l_n8 u_n8
                  simp only [wrap_u64, wrap_i64, wrap_i32] at e_n8
                  refine ⟨fun c8 => ?_, fun c8 => ?_⟩
                  · intro n9 e_n9 l_n9 u_n9
                    simp only [wrap_u64, wrap_i64, wrap_i32] at e_n9
                    intro n10 e_n10 l_n10 u_n10
                    simp only [wrap_u64, wrap_i64, wrap_i32] at e_n10
                    refine ⟨fun c9 => ?_, fun c9 => ?_⟩
                    · refine ⟨fun c10 => ?_, fun c10 => ?_⟩
                      · refine ⟨trivial, ?_⟩
                        intro t
                        intro h_lives
                        replace h_lives : (b2i t) = 1 := h_lives
                        show (b2i t) = 1
                        assumption
                      · refine ⟨fun c11 => ?_, fun c11 => ?_⟩
                        · refine ⟨trivial, ?_⟩
                          intro t
                          intro h_lives
                          replace h_lives : (b2i t) = 1 := h_lives
                          show (b2i t) = 1
                          assumption
                        · refine ⟨fun c12 => ?_, fun c12 => ?_⟩
                          · refine ⟨fun c13 => ?_, fun c13 => ?_⟩
                            · refine ⟨fun c14 => ?_, fun c14 => ?_⟩
                              · refine ⟨trivial, ?_⟩
                                intro t
                                intro h_lives
                                replace h_lives : (b2i t) = 1 := h_lives
                                show (b2i t) = 1
                                assumption
                              · show (b2i false) = 1
                                exfalso; (try simp only [wrap_u64, wrap_i64] at *); omega
                            · show (b2i false) = 1
                              exfalso; (try simp only [wrap_u64, wrap_i64] at *); omega
                          · show (b2i false) = 1
                            exfalso; (try simp only [wrap_u64, wrap_i64] at *); omega
                    · refine ⟨fun c10 => ?_, fun c10 => ?_⟩
                      · refine ⟨fun c11 => ?_, fun c11 => ?_⟩
                        · refine ⟨fun c12 => ?_, fun c12 => ?_⟩
                          · refine ⟨trivial, ?_⟩
                            intro t
                            intro h_lives
                            replace h_lives : (b2i t) = 1 := h_lives
                            show (b2i t) = 1
                            assumption
                          · show (b2i false) = 1
                            exfalso; (try simp only [wrap_u64, wrap_i64] at *); omega
                        · show (b2i false) = 1
                          exfalso; (try simp only [wrap_u64, wrap_i64] at *); omega
                      · show (b2i false) = 1
                        exfalso; (try simp only [wrap_u64, wrap_i64] at *); omega
                  · intro n9 e_n9 l_n9 u_n9
                    simp only [wrap_u64, wrap_i64, wrap_i32] at e_n9
                    refine ⟨fun c9 => ?_, fun c9 => ?_⟩
                    · refine ⟨fun c10 => ?_, fun c10 => ?_⟩
                      · refine ⟨trivial, ?_⟩
                        intro t
                        intro h_lives
                        replace h_lives : (b2i t) = 1 := h_lives
                        show (b2i t) = 1
                        assumption
                      · refine ⟨fun c11 => ?_, fun c11 => ?_⟩
                        · refine ⟨trivial, ?_⟩
                          intro t
                          intro h_lives
                          replace h_lives : (b2i t) = 1 := h_lives
                          show (b2i t) = 1
                          assumption
                        · refine ⟨fun c12 => ?_, fun c12 => ?_⟩
                          · refine ⟨fun c13 => ?_, fun c13 => ?_⟩
                            · refine ⟨fun c14 => ?_, fun c14 => ?_⟩
                              · refine ⟨trivial, ?_⟩
                                intro t
                                intro h_lives
                                replace h_lives : (b2i t) = 1 := h_lives
                                show (b2i t) = 1
                                assumption
                              · show (b2i false) = 1
                                exfalso; (try simp only [wrap_u64, wrap_i64] at *); omega
                            · show (b2i false) = 1
                              exfalso; (try simp only [wrap_u64, wrap_i64] at *); omega
                          · show (b2i false) = 1
                            exfalso; (try simp only [wrap_u64, wrap_i64] at *); omega
                    · refine ⟨fun c10 => ?_, fun c10 => ?_⟩
                      · refine ⟨fun c11 => ?_, fun c11 => ?_⟩
                        · refine ⟨fun c12 => ?_, fun c12 => ?_⟩
                          · refine ⟨trivial, ?_⟩
                            intro t
                            intro h_lives
                            replace h_lives : (b2i t) = 1 := h_lives
                            show (b2i t) = 1
                            assumption
                          · show (b2i false) = 1
                            exfalso; (try simp only [wrap_u64, wrap_i64] at *); omega
                        · show (b2i false) = 1
                          exfalso; (try simp only [wrap_u64, wrap_i64] at *); omega
                      · show (b2i false) = 1
                        exfalso; (try simp only [wrap_u64, wrap_i64] at *); omega
              · intro n8 e_n8 l_n8 u_n8
                simp only [wrap_u64, wrap_i64, wrap_i32] at e_n8
                refine ⟨fun c7 => ?_, fun c7 => ?_⟩
                · intro n9 e_n9 l_n9 u_n9
                  simp only [wrap_u64, wrap_i64, wrap_i32] at e_n9
                  intro n10 e_n10 l_n10 u_n10
                  simp only [wrap_u64, wrap_i64, wrap_i32] at e_n10
                  refine ⟨fun c8 => ?_, fun c8 => ?_⟩
                  · refine ⟨fun c9 => ?_, fun c9 => ?_⟩
                    · refine ⟨trivial, ?_⟩
                      intro t
                      intro h_lives
                      replace h_lives : (b2i t) = 1 := h_lives
                      show (b2i t) = 1
                      assumption
                    · refine ⟨fun c10 => ?_, fun c10 => ?_⟩
                      · refine ⟨trivial, ?_⟩
                        intro t
                        intro h_lives
                        replace h_lives : (b2i t) = 1 := h_lives
                        show (b2i t) = 1
                        assumption
                      · refine ⟨fun c11 => ?_, fun c11 => ?_⟩
                        · refine ⟨fun c12 => ?_, fun c12 => ?_⟩
                          · refine ⟨fun c13 => ?_, fun c13 => ?_⟩
                            · refine ⟨trivial, ?_⟩
                              intro t
                              intro h_lives
                              replace h_lives : (b2i t) = 1 := h_lives
                              show (b2i t) = 1
                              assumption
                            · show (b2i false) = 1
                              exfalso; (try simp only [wrap_u64, wrap_i64] at *); omega
                          · show (b2i false) = 1
                            exfalso; (try simp only [wrap_u64, wrap_i64] at *); omega
                        · show (b2i false) = 1
                          exfalso; (try simp only [wrap_u64, wrap_i64] at *); omega
                  · refine ⟨fun c9 => ?_, fun c9 => ?_⟩
                    · refine ⟨fun c10 => ?_, fun c10 => ?_⟩
                      · refine ⟨fun c11 => ?_, fun c11 => ?_⟩
                        · refine ⟨trivial, ?_⟩
                          intro t
                          intro h_lives
                          replace h_lives : (b2i t) = 1 := h_lives
                          show (b2i t) = 1
                          assumption
                        · show (b2i false) = 1
                          exfalso; (try simp only [wrap_u64, wrap_i64] at *); omega
                      · show (b2i false) = 1
                        exfalso; (try simp only [wrap_u64, wrap_i64] at *); omega
                    · show (b2i false) = 1
                      exfalso; (try simp only [wrap_u64, wrap_i64] at *); omega
                · intro n9 e_n9 l_n9 u_n9
                  simp only [wrap_u64, wrap_i64, wrap_i32] at e_n9
                  refine ⟨fun c8 => ?_, fun c8 => ?_⟩
                  · refine ⟨fun c9 => ?_, fun c9 => ?_⟩
                    · refine ⟨trivial, ?_⟩
                      intro t
                      intro h_lives
                      replace h_lives : (b2i t) = 1 := h_lives
                      show (b2i t) = 1
                      assumption
                    · refine ⟨fun c10 => ?_, fun c10 => ?_⟩
                      · refine ⟨trivial, ?_⟩
                        intro t
                        intro h_lives
                        replace h_lives : (b2i t) = 1 := h_lives
                        show (b2i t) = 1
                        assumption
                      · refine ⟨fun c11 => ?_, fun c11 => ?_⟩
                        · refine ⟨fun c12 => ?_, fun c12 => ?_⟩
                          · refine ⟨fun c13 => ?_, fun c13 => ?_⟩
                            · refine ⟨trivial, ?_⟩
                              intro t
                              intro h_lives
                              replace h_lives : (b2i t) = 1 := h_lives
                              show (b2i t) = 1
                              assumption
                            · show (b2i false) = 1
                              exfalso; (try simp only [wrap_u64, wrap_i64] at *); omega
                          · show (b2i false) = 1
                            exfalso; (try simp only [wrap_u64, wrap_i64] at *); omega
                        · show (b2i false) = 1
                          exfalso; (try simp only [wrap_u64, wrap_i64] at *); omega
                  · refine ⟨fun c9 => ?_, fun c9 => ?_⟩
                    · refine ⟨fun c10 => ?_, fun c10 => ?_⟩
                      · refine ⟨fun c11 => ?_, fun c11 => ?_⟩
                        · refine ⟨trivial, ?_⟩
                          intro t
                          intro h_lives
                          replace h_lives : (b2i t) = 1 := h_lives
                          show (b2i t) = 1
                          assumption
                        · show (b2i false) = 1
                          exfalso; (try simp only [wrap_u64, wrap_i64] at *); omega
                      · show (b2i false) = 1
                        exfalso; (try simp only [wrap_u64, wrap_i64] at *); omega
                    · show (b2i false) = 1
                      exfalso; (try simp only [wrap_u64, wrap_i64] at *); omega

end Go.Proofs.Ytakpbbponhamaaa.Sx
