/-
  Plain laws of angles: an angle's numbers.
-/
import Derived.Test.YtihfbliipjobdaaAc
set_option linter.all false
set_option maxRecDepth 100000
namespace Go.Proofs.Ytihfbliipjobdaa.Sx
open Go Go.RowKit

theorem shr_u64 {l i : Int} (h0 : 0 ≤ i) (h1 : i ≤ 64) : shI .shr .u64 l i = l / 2 ^ i.toNat := by
  simp only [shI, IntKind.bits]
  rw [show Min.min i.toNat 64 = i.toNat by omega]
  exact Int.fdiv_eq_ediv_of_nonneg _ (Int.le_of_lt (Int.pow_pos (by decide)))
theorem pn_next {n : Nat} {L : Int} (hn : n < 40) : pn (n + 1) (L / 2 ^ (40 - (n + 1))) = if (L / 2 ^ (40 - (n + 1))) % 2 = 1 then (onX (pn n (L / 2 ^ (40 - n))).1 (pn n (L / 2 ^ (40 - n))).2 (cx (n + 1)) (sx (n + 1)), onY (pn n (L / 2 ^ (40 - n))).1 (pn n (L / 2 ^ (40 - n))).2 (cx (n + 1)) (sx (n + 1))) else pn n (L / 2 ^ (40 - n)) := by
  have e : L / 2 ^ (40 - (n + 1)) / 2 = L / 2 ^ (40 - n) := by
    rw [Int.ediv_ediv_of_nonneg (Int.le_of_lt (Int.pow_pos (by decide))), show 40 - n = (40 - (n + 1)) + 1 by omega, Int.pow_succ]
  rw [← e]
  rfl
theorem pn_in (n : Nat) (hn : n ≤ 40) (L : Int) : nb (pn n L).1 (pn n L).2 4611686018427387984 := by
  have key : ∀ (n : Nat), n ≤ 40 → ∀ L, nb (pn n L).1 (pn n L).2 (4611686018427387904 + 2 * n) := by
    intro n
    induction n with
    | zero => intro _ L; exact ⟨by omega, by show (4611686018427387904 : Int) * 4611686018427387904 + 0 * 0 ≤ _; simp⟩
    | succ n ih =>
      intro hn L
      have e : pn (n + 1) L = if L % 2 = 1 then (onX (pn n (L / 2)).1 (pn n (L / 2)).2 (cx (n + 1)) (sx (n + 1)), onY (pn n (L / 2)).1 (pn n (L / 2)).2 (cx (n + 1)) (sx (n + 1))) else pn n (L / 2) := rfl
      rw [e]
      have i := ih (by omega) (L / 2)
      split
      · obtain ⟨r1, r2, a1, a2, a3, a4, a5, a6⟩ := on_eq (pn n (L / 2)).1 (pn n (L / 2)).2 (cx (n + 1)) (sx (n + 1))
        have hr : nb r1 r2 (2 * 4611686018427387904) := nb_of (by omega) (by omega) (by omega) (by omega)
        have hm := nb_sub (nb_mul i (tab_ok ⟨n + 1, by omega⟩)) hr
        simp only at hm
        rw [← a5, ← a6] at hm
        refine nb_unscale (k := 4611686018427387904) (by omega) (by omega) (nb_mono hm ?_)
        omega
      · exact nb_mono i (by omega)
  exact nb_mono (key n hn L) (by omega)
theorem dir_step {l i x y b c s : Int} (h1 : 1 ≤ i) (h2 : i < 41) (hx : x = (pn (i - 1).toNat (l / 2 ^ (41 - i).toNat)).1) (hy : y = (pn (i - 1).toNat (l / 2 ^ (41 - i).toNat)).2) (hb : b = shI .shr .u64 l (40 - i)) (hc : c = tX.getD i.toNat 0) (hs : s = tY.getD i.toNat 0) :
    (nb x y 4611686018427387984 ∧ nb c s 4611686018427387904) ∧ (b % 2 = 1 → (onX x y c s = (pn i.toNat (l / 2 ^ (40 - i).toNat)).1 ∧ onY x y c s = (pn i.toNat (l / 2 ^ (40 - i).toNat)).2)) ∧ (¬ b % 2 = 1 → (x = (pn i.toNat (l / 2 ^ (40 - i).toNat)).1 ∧ y = (pn i.toNat (l / 2 ^ (40 - i).toNat)).2)) := by
  rw [shr_u64 (by omega) (by omega)] at hb
  obtain ⟨n, hn⟩ : ∃ n : Nat, i = n + 1 := ⟨(i - 1).toNat, by omega⟩
  have e1 : (i - 1).toNat = n := by omega
  have e2 : i.toNat = n + 1 := by omega
  have e3 : (41 - i).toNat = 40 - n := by omega
  have e4 : (40 - i).toNat = 40 - (n + 1) := by omega
  rw [e1, e3] at hx hy
  rw [e2] at hc hs ⊢
  rw [e4] at hb ⊢
  have key := pn_next (n := n) (L := l) (by omega)
  refine ⟨⟨?_, ?_⟩, fun z => ?_, fun z => ?_⟩
  · rw [hx, hy]; exact pn_in n (by omega) _
  · rw [hc, hs]; exact tab_ok ⟨n + 1, by omega⟩
  · rw [hb] at z
    rw [key, if_pos z, hx, hy, hc, hs]
    exact ⟨rfl, rfl⟩
  · rw [hb] at z
    rw [key, if_neg z, hx, hy]
    exact ⟨rfl, rfl⟩
theorem dir_is {a q l : Int} (h1 : q = a / 5898240 % 4) (h2 : l = a % 5898240 * 1099511627776 / 5898240) : jOf a / 1099511627776 % 4 = q ∧ jOf a % 1099511627776 = l := by
  have e : a * 1099511627776 = (a % 5898240) * 1099511627776 + (a / 5898240 * 1099511627776) * 5898240 := by
    have := Int.mul_ediv_add_emod a 5898240
    omega
  have j : jOf a = l + a / 5898240 * 1099511627776 := by
    unfold jOf
    rw [e, Int.add_mul_ediv_right _ _ (by omega), ← h2]
  have hl : 0 ≤ l ∧ l < 1099511627776 := by
    have : 0 ≤ a % 5898240 ∧ a % 5898240 < 5898240 := by omega
    generalize a % 5898240 = r at *
    omega
  rw [j, Int.add_mul_ediv_right _ _ (by omega), Int.add_mul_emod_self_right, show l / 1099511627776 = 0 by omega, show l % 1099511627776 = l by omega]
  omega
theorem dir_out {a q l c s : Int} (h1 : q = a / 5898240 % 4) (h2 : l = a % 5898240 * 1099511627776 / 5898240) (hc : c = nearS (pn 40 l).1) (hs : s = nearS (pn 40 l).2) :
    (q = 0 → cosF a = c ∧ sinF a = s) ∧ (q = 1 → cosF a = -s ∧ sinF a = c) ∧ (q = 2 → cosF a = -c ∧ sinF a = -s) ∧ (q = 3 → cosF a = s ∧ sinF a = -c) := by
  obtain ⟨e1, e2⟩ := dir_is h1 h2
  unfold cosF sinF dirF
  rw [e2, ← hc, ← hs]
  unfold qt
  rw [e1]
  refine ⟨fun h => ?_, fun h => ?_, fun h => ?_, fun h => ?_⟩ <;> simp [h]

set_option maxHeartbeats 2000000 in
theorem p_direction : P_direction := by
  unfold P_direction
  intro n l_n u_n
  intro hpre
  replace hpre : True := hpre
  refine ⟨trivial, ?_⟩
  intro n1 l_n1 u_n1
  intro n2 l_n2 u_n2
  intro h_quarters
  replace h_quarters : (n1 = n / 5898240 % 4 ∧ n2 = n % 5898240 * 1099511627776 / 5898240) := h_quarters
  refine ⟨trivial, ?_⟩
  intro h_made
  replace h_made : True := h_made
  intro b
  intro b1
  refine ⟨?_, ?_⟩
  · show ((4611686018427387904 : Int) = (pn ((1 : Int) - 1).toNat (n2 / 2 ^ (41 - (1 : Int)).toNat)).1 ∧ (0 : Int) = (pn ((1 : Int) - 1).toNat (n2 / 2 ^ (41 - (1 : Int)).toNat)).2)
    have hL : n2 / 2 ^ ((41 : Int) - 1).toNat = 0 := by
      show n2 / 2 ^ 40 = 0
      omega
    rw [hL]
    exact ⟨rfl, rfl⟩
  intro n3 l_n3 u_n3
  intro n4 l_n4 u_n4
  intro n5 l_n5 u_n5
  intro hi_dir
  replace hi_dir : (n4 = (pn (n3 - 1).toNat (n2 / 2 ^ (41 - n3).toNat)).1 ∧ n5 = (pn (n3 - 1).toNat (n2 / 2 ^ (41 - n3).toNat)).2) := hi_dir
  intro vs lv_vs
  refine ⟨fun c0 => ?_, fun c0 => ?_⟩
  · refine ⟨by omega, ?_⟩
    intro n6 e_n6 l_n6 u_n6
    refine ⟨fun c1 => ?_, fun c1 => ?_⟩
    · refine ⟨by omega, ?_⟩
      intro n7 e_n7 l_n7 u_n7
      intro n8 e_n8 l_n8 u_n8
      refine ⟨?_, ?_⟩
      · show (nb n4 n5 4611686018427387984 ∧ nb n7 n8 4611686018427387904)
        have hd := dir_step (x := n4) (y := n5) l_n3 (by omega) hi_dir.1 hi_dir.2 rfl e_n7 e_n8
        exact hd.1
      intro n9 l_n9 u_n9
      intro n10 l_n10 u_n10
      intro h_pon
      replace h_pon : (n9 = onX n4 n5 n7 n8 ∧ n10 = onY n4 n5 n7 n8) := h_pon
      have hd := dir_step (x := n4) (y := n5) l_n3 (by omega) hi_dir.1 hi_dir.2 rfl e_n7 e_n8
      rw [e_n6] at c1
      have h2 := hd.2.1 c1
      rw [h2.1, h2.2] at h_pon
      have h3 := pn_in n3.toNat (by omega) (n2 / 2 ^ (40 - n3).toNat)
      have h4 := nb_x h3
      have h5 := nb_y h3
      rw [← h_pon.1] at h4
      rw [← h_pon.2] at h5
      intro n11 e_n11 l_n11 u_n11
      refine ⟨by omega, ?_⟩
      intro n12 e_n12 l_n12 u_n12
      refine ⟨by omega, ?_⟩
      refine ⟨by omega, ?_⟩
      intro n13 e_n13 l_n13 u_n13
      refine ⟨by omega, ?_⟩
      refine ⟨by omega, ?_⟩
      intro n14 e_n14 l_n14 u_n14
      refine ⟨?_, ?_⟩
      · show (n13 = (pn (n12 - 1).toNat (n2 / 2 ^ (41 - n12).toNat)).1 ∧ n14 = (pn (n12 - 1).toNat (n2 / 2 ^ (41 - n12).toNat)).2)
        rw [show (n12 - 1).toNat = n3.toNat by omega, show (41 - n12).toNat = (40 - n3).toNat by omega, e_n13, e_n14]
        exact h_pon
      · show (41 - n12).toNat < (41 - n3).toNat
        omega
    · intro n7 e_n7 l_n7 u_n7
      refine ⟨by omega, ?_⟩
      intro n8 e_n8 l_n8 u_n8
      refine ⟨?_, ?_⟩
      · show (n4 = (pn (n8 - 1).toNat (n2 / 2 ^ (41 - n8).toNat)).1 ∧ n5 = (pn (n8 - 1).toNat (n2 / 2 ^ (41 - n8).toNat)).2)
        have hd := dir_step (c := tX.getD n3.toNat 0) (s := tY.getD n3.toNat 0) (x := n4) (y := n5) l_n3 (by omega) hi_dir.1 hi_dir.2 rfl rfl rfl
        rw [e_n6] at c1
        rw [show (n8 - 1).toNat = n3.toNat by omega, show (41 - n8).toNat = (40 - n3).toNat by omega]
        exact hd.2.2 c1
      · show (41 - n8).toNat < (41 - n3).toNat
        omega
  · refine ⟨trivial, ?_⟩
    intro n6 l_n6 u_n6
    intro h_anear
    replace h_anear : n6 = nearS n4 := h_anear
    refine ⟨trivial, ?_⟩
    intro n7 l_n7 u_n7
    intro h_anear1
    replace h_anear1 : n7 = nearS n5 := h_anear1
    have h41 : n3 = 41 := by omega
    rw [h41] at hi_dir
    replace hi_dir : n4 = (pn 40 (n2 / 2 ^ 0)).1 ∧ n5 = (pn 40 (n2 / 2 ^ 0)).2 := hi_dir
    rw [show n2 / 2 ^ 0 = n2 by simp] at hi_dir
    have hci := circle n
    have hd := dir_out (c := n6) (s := n7) h_quarters.1 h_quarters.2 (by rw [h_anear, hi_dir.1]) (by rw [h_anear1, hi_dir.2])
    refine ⟨fun c1 => ?_, fun c1 => ?_⟩
    · intro n8 e_n8 l_n8 u_n8
      refine ⟨fun c2 => ?_, fun c2 => ?_⟩
      · intro n9 e_n9 l_n9 u_n9
        refine ⟨fun c3 => ?_, fun c3 => ?_⟩
        · intro n10 e_n10 l_n10 u_n10
          refine ⟨by omega, ?_⟩
          refine ⟨by omega, ?_⟩
          intro n11 e_n11 l_n11 u_n11
          refine ⟨by omega, ?_⟩
          refine ⟨by omega, ?_⟩
          intro n12 e_n12 l_n12 u_n12
          show (n11 = cosF n ∧ n12 = sinF n)
          omega
        · refine ⟨by omega, ?_⟩
          refine ⟨by omega, ?_⟩
          intro n10 e_n10 l_n10 u_n10
          refine ⟨by omega, ?_⟩
          refine ⟨by omega, ?_⟩
          intro n11 e_n11 l_n11 u_n11
          show (n10 = cosF n ∧ n11 = sinF n)
          omega
      · refine ⟨by omega, ?_⟩
        refine ⟨by omega, ?_⟩
        intro n9 e_n9 l_n9 u_n9
        refine ⟨by omega, ?_⟩
        refine ⟨by omega, ?_⟩
        intro n10 e_n10 l_n10 u_n10
        show (n9 = cosF n ∧ n10 = sinF n)
        omega
    · refine ⟨by omega, ?_⟩
      refine ⟨by omega, ?_⟩
      intro n8 e_n8 l_n8 u_n8
      refine ⟨by omega, ?_⟩
      refine ⟨by omega, ?_⟩
      intro n9 e_n9 l_n9 u_n9
      show (n8 = cosF n ∧ n9 = sinF n)
      omega

theorem p_asin : P_asin := by
  unfold P_asin
  intro n l_n u_n
  intro hpre
  replace hpre : True := hpre
  refine ⟨trivial, ?_⟩
  intro n1 l_n1 u_n1
  intro n2 l_n2 u_n2
  intro h_direction
  replace h_direction : (n1 = cosF n ∧ n2 = sinF n) := h_direction
  show n2 = sinF n
  exact h_direction.2

theorem p_acos : P_acos := by
  unfold P_acos
  intro n l_n u_n
  intro hpre
  replace hpre : True := hpre
  refine ⟨trivial, ?_⟩
  intro n1 l_n1 u_n1
  intro n2 l_n2 u_n2
  intro h_direction
  replace h_direction : (n1 = cosF n ∧ n2 = sinF n) := h_direction
  show n1 = cosF n
  exact h_direction.1

end Go.Proofs.Ytihfbliipjobdaa.Sx
