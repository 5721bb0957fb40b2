/-
  The document's angles: sine and cosine.
-/
import Derived.Test.YtihfbliipjobdaaTb
set_option linter.all false
set_option maxRecDepth 100000
namespace Go.Proofs.Ytihfbliipjobdaa.Sx
open Go Go.RowKit

theorem bt_step {r0 i r x y c s : Int} (h1 : 1 ≤ i) (h2 : i < 41) (hr : r = r0 * 2 ^ (i - 1).toNat % 5898240) (hx : x = (pn (i - 1).toNat (r0 * 2 ^ (i - 1).toNat / 5898240)).1) (hy : y = (pn (i - 1).toNat (r0 * 2 ^ (i - 1).toNat / 5898240)).2)
    (hc : c = tX.getD i.toNat 0) (hs : s = tY.getD i.toNat 0) :
    (nb x y 4611686018427387984 ∧ nb c s 4611686018427387904) ∧ (5898240 ≤ 2 * r → (2 * r - 5898240 = r0 * 2 ^ i.toNat % 5898240 ∧ onX x y c s = (pn i.toNat (r0 * 2 ^ i.toNat / 5898240)).1 ∧ onY x y c s = (pn i.toNat (r0 * 2 ^ i.toNat / 5898240)).2)) ∧
    (¬ 5898240 ≤ 2 * r → (2 * r = r0 * 2 ^ i.toNat % 5898240 ∧ x = (pn i.toNat (r0 * 2 ^ i.toNat / 5898240)).1 ∧ y = (pn i.toNat (r0 * 2 ^ i.toNat / 5898240)).2)) ∧
    (-4611686018427387984 ≤ (pn i.toNat (r0 * 2 ^ i.toNat / 5898240)).1 ∧ (pn i.toNat (r0 * 2 ^ i.toNat / 5898240)).1 ≤ 4611686018427387984 ∧ -4611686018427387984 ≤ (pn i.toNat (r0 * 2 ^ i.toNat / 5898240)).2 ∧ (pn i.toNat (r0 * 2 ^ i.toNat / 5898240)).2 ≤ 4611686018427387984) := by
  obtain ⟨n, hn⟩ : ∃ n : Nat, i = n + 1 := ⟨(i - 1).toNat, by omega⟩
  have e1 : (i - 1).toNat = n := by omega
  have e2 : i.toNat = n + 1 := by omega
  rw [e1] at hr hx hy
  rw [e2] at hc hs ⊢
  have hp : r0 * 2 ^ (n + 1) = 2 * (r0 * 2 ^ n) := by rw [Int.pow_succ]; grind
  have hin := pn_in (n + 1) (by omega) (r0 * 2 ^ (n + 1) / 5898240)
  have hin0 := pn_in n (by omega) (r0 * 2 ^ n / 5898240)
  rw [hp] at hin ⊢
  generalize r0 * 2 ^ n = K at *
  have key : ∀ L, pn (n + 1) L = if L % 2 = 1 then (onX (pn n (L / 2)).1 (pn n (L / 2)).2 (cx (n + 1)) (sx (n + 1)), onY (pn n (L / 2)).1 (pn n (L / 2)).2 (cx (n + 1)) (sx (n + 1))) else pn n (L / 2) := fun L => rfl
  have d : 2 * K / 5898240 / 2 = K / 5898240 := by omega
  refine ⟨⟨?_, ?_⟩, fun z => ⟨by omega, ?_⟩, fun z => ⟨by omega, ?_⟩, ?_⟩
  · rw [hx, hy]; exact hin0
  · rw [hc, hs]; exact tab_ok ⟨n + 1, by omega⟩
  · rw [key, if_pos (by omega), d, hx, hy, hc, hs]
    exact ⟨rfl, rfl⟩
  · rw [key, if_neg (by omega), d, hx, hy]
    exact ⟨rfl, rfl⟩
  · have lx := nb_x hin
    have ly := nb_y hin
    omega

set_option maxHeartbeats 2000000 in
theorem p_rboth : P_rboth := by
  unfold P_rboth
  intro n l_n u_n
  intro hpre
  replace hpre : True := hpre
  refine ⟨?_, ?_⟩
  · show ((n - n) % 23592960 = 0 ∧ n ≤ max n 23592959)
    omega
  intro n1 l_n1 u_n1
  intro hi_bt0
  replace hi_bt0 : ((n1 - n) % 23592960 = 0 ∧ n1 ≤ max n 23592959) := hi_bt0
  intro vs lv_vs
  refine ⟨fun c0 => ?_, fun c0 => ?_⟩
  · intro n2 e_n2 l_n2 u_n2
    refine ⟨by omega, ?_⟩
    intro n3 e_n3 l_n3 u_n3
    refine ⟨?_, ?_⟩
    · show ((n3 - n) % 23592960 = 0 ∧ n3 ≤ max n 23592959)
      omega
    · show (-n3).toNat < (-n1).toNat
      omega
  · refine ⟨by omega, ?_⟩
    intro n2 e_n2 l_n2 u_n2
    refine ⟨?_, ?_⟩
    · show (n2 + 5898240 * (0 : Int) = n2)
      omega
    intro n3 l_n3 u_n3
    intro n4 l_n4 u_n4
    intro hi_bt1
    replace hi_bt1 : (n3 + 5898240 * n4 = n2) := hi_bt1
    intro vs1 lv_vs1
    refine ⟨fun c1 => ?_, fun c1 => ?_⟩
    · intro n5 e_n5 l_n5 u_n5
      intro n6 e_n6 l_n6 u_n6
      refine ⟨by omega, ?_⟩
      intro n7 e_n7 l_n7 u_n7
      refine ⟨by omega, ?_⟩
      intro n8 e_n8 l_n8 u_n8
      refine ⟨?_, ?_⟩
      · show (n7 + 5898240 * n8 = n2)
        omega
      · show n7.toNat < n3.toNat
        omega
    · intro b
      intro b1
      intro b2
      refine ⟨by omega, ?_⟩
      intro n5 e_n5 l_n5 u_n5
      refine ⟨?_, ?_⟩
      · show (n5 = n5 * 2 ^ ((1 : Int) - 1).toNat % 5898240 ∧ (4611686018427387904 : Int) = (pn ((1 : Int) - 1).toNat (n5 * 2 ^ ((1 : Int) - 1).toNat / 5898240)).1 ∧ (0 : Int) = (pn ((1 : Int) - 1).toNat (n5 * 2 ^ ((1 : Int) - 1).toNat / 5898240)).2)
        rw [show ((1 : Int) - 1).toNat = 0 from rfl, Int.pow_zero]
        have z : n5 * 1 / 5898240 = 0 := by omega
        rw [z]
        exact ⟨by omega, rfl, rfl⟩
      intro n6 l_n6 u_n6
      intro n7 l_n7 u_n7
      intro n8 l_n8 u_n8
      intro n9 l_n9 u_n9
      intro hi_bt2
      replace hi_bt2 : (n7 = n5 * 2 ^ (n6 - 1).toNat % 5898240 ∧ n8 = (pn (n6 - 1).toNat (n5 * 2 ^ (n6 - 1).toNat / 5898240)).1 ∧ n9 = (pn (n6 - 1).toNat (n5 * 2 ^ (n6 - 1).toNat / 5898240)).2) := hi_bt2
      intro vs2 lv_vs2
      refine ⟨fun c2 => ?_, fun c2 => ?_⟩
      · intro n10 e_n10 l_n10 u_n10
        refine ⟨fun c3 => ?_, fun c3 => ?_⟩
        · intro n11 e_n11 l_n11 u_n11
          refine ⟨by omega, ?_⟩
          intro n12 e_n12 l_n12 u_n12
          intro n13 e_n13 l_n13 u_n13
          have hst := bt_step (r0 := n5) l_n6 (by omega) hi_bt2.1 hi_bt2.2.1 hi_bt2.2.2 e_n12 e_n13
          refine ⟨?_, ?_⟩
          · show (nb n8 n9 4611686018427387984 ∧ nb n12 n13 4611686018427387904)
            exact hst.1
          intro n14 l_n14 u_n14
          intro n15 l_n15 u_n15
          intro h_ron
          replace h_ron : (n14 = onX n8 n9 n12 n13 ∧ n15 = onY n8 n9 n12 n13) := h_ron
          have r1 := hst.2.1 (by omega)
          have r2 := hst.2.2.2
          rw [← r1.2.1, ← r1.2.2, ← h_ron.1, ← h_ron.2] at r2
          intro n16 e_n16 l_n16 u_n16
          refine ⟨by omega, ?_⟩
          intro n17 e_n17 l_n17 u_n17
          refine ⟨by omega, ?_⟩
          intro n18 e_n18 l_n18 u_n18
          refine ⟨by omega, ?_⟩
          refine ⟨by omega, ?_⟩
          intro n19 e_n19 l_n19 u_n19
          refine ⟨by omega, ?_⟩
          refine ⟨by omega, ?_⟩
          intro n20 e_n20 l_n20 u_n20
          refine ⟨?_, ?_⟩
          · show (n18 = n5 * 2 ^ (n17 - 1).toNat % 5898240 ∧ n19 = (pn (n17 - 1).toNat (n5 * 2 ^ (n17 - 1).toNat / 5898240)).1 ∧ n20 = (pn (n17 - 1).toNat (n5 * 2 ^ (n17 - 1).toNat / 5898240)).2)
            rw [show (n17 - 1).toNat = n6.toNat by omega]
            have h3 := hst.2.1 (by omega)
            rw [← h3.1, e_n19, e_n20, h_ron.1, h_ron.2]
            exact ⟨by omega, h3.2⟩
          · show (41 - n17).toNat < (41 - n6).toNat
            omega
        · intro n11 e_n11 l_n11 u_n11
          refine ⟨by omega, ?_⟩
          intro n12 e_n12 l_n12 u_n12
          refine ⟨by omega, ?_⟩
          intro n13 e_n13 l_n13 u_n13
          refine ⟨?_, ?_⟩
          · show (n13 = n5 * 2 ^ (n12 - 1).toNat % 5898240 ∧ n8 = (pn (n12 - 1).toNat (n5 * 2 ^ (n12 - 1).toNat / 5898240)).1 ∧ n9 = (pn (n12 - 1).toNat (n5 * 2 ^ (n12 - 1).toNat / 5898240)).2)
            rw [show (n12 - 1).toNat = n6.toNat by omega]
            have hst := bt_step (r0 := n5) l_n6 (by omega) hi_bt2.1 hi_bt2.2.1 hi_bt2.2.2 rfl rfl
            have h3 := hst.2.2.1 (by omega)
            rw [← h3.1]
            exact ⟨by omega, h3.2⟩
          · show (41 - n12).toNat < (41 - n6).toNat
            omega
      · refine ⟨trivial, ?_⟩
        intro n10 l_n10 u_n10
        intro h_rnr5
        replace h_rnr5 : n10 = nearS n8 := h_rnr5
        refine ⟨trivial, ?_⟩
        intro n11 l_n11 u_n11
        intro h_rnr51
        replace h_rnr51 : n11 = nearS n9 := h_rnr51
        have h41 : n6 = 41 := by omega
        rw [h41] at hi_bt2
        replace hi_bt2 : n7 = n5 * 1099511627776 % 5898240 ∧ n8 = (pn 40 (n5 * 1099511627776 / 5898240)).1 ∧ n9 = (pn 40 (n5 * 1099511627776 / 5898240)).2 := hi_bt2
        have hci := circle n
        have hd := dir_out (a := n) (q := n4 % 4) (l := n5 * 1099511627776 / 5898240) (c := n10) (s := n11) (by omega) (by rw [show n5 = n % 5898240 by omega]) (by rw [h_rnr5, hi_bt2.2.1]) (by rw [h_rnr51, hi_bt2.2.2])
        refine ⟨fun c3 => ?_, fun c3 => ?_⟩
        · intro n12 e_n12 l_n12 u_n12
          refine ⟨by omega, ?_⟩
          refine ⟨by omega, ?_⟩
          intro n13 e_n13 l_n13 u_n13
          refine ⟨by omega, ?_⟩
          refine ⟨by omega, ?_⟩
          intro n14 e_n14 l_n14 u_n14
          show (n13 = cosF n ∧ n14 = sinF n)
          omega
        · refine ⟨fun c4 => ?_, fun c4 => ?_⟩
          · intro n12 e_n12 l_n12 u_n12
            intro n13 e_n13 l_n13 u_n13
            refine ⟨by omega, ?_⟩
            refine ⟨by omega, ?_⟩
            intro n14 e_n14 l_n14 u_n14
            refine ⟨by omega, ?_⟩
            refine ⟨by omega, ?_⟩
            intro n15 e_n15 l_n15 u_n15
            show (n14 = cosF n ∧ n15 = sinF n)
            omega
          · refine ⟨fun c5 => ?_, fun c5 => ?_⟩
            · intro n12 e_n12 l_n12 u_n12
              refine ⟨by omega, ?_⟩
              refine ⟨by omega, ?_⟩
              intro n13 e_n13 l_n13 u_n13
              refine ⟨by omega, ?_⟩
              refine ⟨by omega, ?_⟩
              intro n14 e_n14 l_n14 u_n14
              show (n13 = cosF n ∧ n14 = sinF n)
              omega
            · refine ⟨by omega, ?_⟩
              refine ⟨by omega, ?_⟩
              intro n12 e_n12 l_n12 u_n12
              refine ⟨by omega, ?_⟩
              refine ⟨by omega, ?_⟩
              intro n13 e_n13 l_n13 u_n13
              show (n12 = cosF n ∧ n13 = sinF n)
              omega

end Go.Proofs.Ytihfbliipjobdaa.Sx
