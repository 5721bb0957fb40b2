/-
  The laws of wides, part f.
-/
import Derived.Test.YtdocimmchckjiaaWla
set_option linter.all false
set_option maxRecDepth 100000
namespace Go.Proofs.Ytdocimmchckjiaa.Sx
open Go Go.RowKit

theorem w_inj {a b c d : Int} (h : w128 a b = w128 c d) (h1 : 0 ≤ b) (h2 : b ≤ 18446744073709551615) (h3 : 0 ≤ d) (h4 : d ≤ 18446744073709551615) : a = c ∧ b = d := by
  simp only [w128] at h
  omega
theorem tell_uniq {v h l e h' l' e' : Int} (a : tellW v h l e) (b : tellW v h' l' e') (h1 : 0 ≤ l) (h2 : l ≤ 18446744073709551615) (h3 : 0 ≤ l') (h4 : l' ≤ 18446744073709551615) : h = h' ∧ l = l' ∧ e = e' := by
  rcases tell_or a with ⟨p1, p2, p3⟩ | ⟨p1, p2, p3, p4⟩ <;> rcases tell_or b with ⟨q1, q2, q3⟩ | ⟨q1, q2, q3, q4⟩
  · obtain ⟨r1, r2⟩ := w_inj (p2.trans q2.symm) h1 h2 h3 h4
    exact ⟨r1, r2, by omega⟩
  · exfalso; omega
  · exfalso; omega
  · exact ⟨by omega, by omega, by omega⟩
theorem nearP_uniq {A d h l e h' l' e' : Int} (a : (d < 1 → h = 0 ∧ l = 0 ∧ e = 1) ∧ (1 ≤ d → e = 0 ∧ isNear A d (w128 h l))) (b : (d < 1 → h' = 0 ∧ l' = 0 ∧ e' = 1) ∧ (1 ≤ d → e' = 0 ∧ isNear A d (w128 h' l'))) (h1 : 0 ≤ l) (h2 : l ≤ 18446744073709551615) (h3 : 0 ≤ l') (h4 : l' ≤ 18446744073709551615) : h = h' ∧ l = l' ∧ e = e' := by
  rcases Int.lt_or_le d 1 with z | z
  · have := a.1 z; have := b.1 z; exact ⟨by omega, by omega, by omega⟩
  · obtain ⟨p1, p2⟩ := a.2 z
    obtain ⟨q1, q2⟩ := b.2 z
    obtain ⟨r1, r2⟩ := w_inj (near_uniq z p2 q2) h1 h2 h3 h4
    exact ⟨r1, r2, by omega⟩
theorem floorP_uniq {A d h l r e h' l' r' e' : Int} (a : (d < 1 → h = 0 ∧ l = 0 ∧ r = 0 ∧ e = 1) ∧ (1 ≤ d → e = 0 ∧ isFloor A d (w128 h l) r)) (b : (d < 1 → h' = 0 ∧ l' = 0 ∧ r' = 0 ∧ e' = 1) ∧ (1 ≤ d → e' = 0 ∧ isFloor A d (w128 h' l') r')) (h1 : 0 ≤ l) (h2 : l ≤ 18446744073709551615) (h3 : 0 ≤ l') (h4 : l' ≤ 18446744073709551615) : h = h' ∧ l = l' ∧ r = r' ∧ e = e' := by
  rcases Int.lt_or_le d 1 with z | z
  · have := a.1 z; have := b.1 z; exact ⟨by omega, by omega, by omega, by omega⟩
  · obtain ⟨p1, p2⟩ := a.2 z
    obtain ⟨q1, q2⟩ := b.2 z
    obtain ⟨r1, r2⟩ := floor_uniq p2 q2
    obtain ⟨r3, r4⟩ := w_inj r1 h1 h2 h3 h4
    exact ⟨r3, r4, r2, by omega⟩
theorem cmp_uniq {x y c d : Int} (a : (x < y → c = -1) ∧ (x = y → c = 0) ∧ (y < x → c = 1)) (b : (x < y → d = -1) ∧ (x = y → d = 0) ∧ (y < x → d = 1)) : c = d := by omega
theorem int_uniq {v n m : Int} {t u : Bool} (a : isInt v n (b2i t)) (b : isInt v m (b2i u)) : n = m ∧ t = u := by
  simp only [isInt] at a b
  by_cases h : isI64 v
  · obtain ⟨p1, p2⟩ := a.1 h
    obtain ⟨q1, q2⟩ := b.1 h
    exact ⟨by omega, by rw [(b2i_one t).1 p1, (b2i_one u).1 q1]⟩
  · obtain ⟨p1, p2⟩ := a.2 h
    obtain ⟨q1, q2⟩ := b.2 h
    have z1 := (b2i_zero t).1 p1
    have z2 := (b2i_zero u).1 q1
    exact ⟨by omega, by cases t <;> cases u <;> simp_all⟩

set_option maxHeartbeats 4000000 in
theorem p_lreckoned : P_lreckoned := by
  unfold P_lreckoned
  intro n l_n u_n
  intro n1 l_n1 u_n1
  intro n2 l_n2 u_n2
  intro n3 l_n3 u_n3
  intro n4 l_n4 u_n4
  intro n5 l_n5 u_n5
  intro hpre
  replace hpre : True := hpre
  intro b
  refine ⟨trivial, ?_⟩
  intro n6 l_n6 u_n6
  intro n7 l_n7 u_n7
  intro n8 l_n8 u_n8
  intro h_wadd
  replace h_wadd : tellW (w128 n n1 + w128 n2 n3) n6 n7 n8 := h_wadd
  intro b1
  refine ⟨trivial, ?_⟩
  intro n9 l_n9 u_n9
  intro n10 l_n10 u_n10
  intro n11 l_n11 u_n11
  intro h_radd
  replace h_radd : tellW (w128 n n1 + w128 n2 n3) n9 n10 n11 := h_radd
  have zaddtell0 := tell_uniq h_wadd h_radd (by omega) (by omega) (by omega) (by omega)
  intro b2
  refine ⟨trivial, ?_⟩
  intro n12 l_n12 u_n12
  intro n13 l_n13 u_n13
  intro n14 l_n14 u_n14
  intro h_wsub
  replace h_wsub : tellW (w128 n n1 - w128 n2 n3) n12 n13 n14 := h_wsub
  intro b3
  refine ⟨trivial, ?_⟩
  intro n15 l_n15 u_n15
  intro n16 l_n16 u_n16
  intro n17 l_n17 u_n17
  intro h_rsub
  replace h_rsub : tellW (w128 n n1 - w128 n2 n3) n15 n16 n17 := h_rsub
  have zsubtell0 := tell_uniq h_wsub h_rsub (by omega) (by omega) (by omega) (by omega)
  intro b4
  refine ⟨fun c0 => ?_, fun c0 => ?_⟩
  · show (b2i false) = 1
    exfalso; first | omega | (obtain ⟨y1, y2⟩ := zintint0; subst y2; simp at *; omega) | (obtain ⟨y1, y2⟩ := zintint0; simp_all)
  · refine ⟨fun c1 => ?_, fun c1 => ?_⟩
    · show (b2i false) = 1
      exfalso; first | omega | (obtain ⟨y1, y2⟩ := zintint0; subst y2; simp at *; omega) | (obtain ⟨y1, y2⟩ := zintint0; simp_all)
    · refine ⟨fun c2 => ?_, fun c2 => ?_⟩
      · show (b2i false) = 1
        exfalso; first | omega | (obtain ⟨y1, y2⟩ := zintint0; subst y2; simp at *; omega) | (obtain ⟨y1, y2⟩ := zintint0; simp_all)
      · refine ⟨fun c3 => ?_, fun c3 => ?_⟩
        · show (b2i false) = 1
          exfalso; first | omega | (obtain ⟨y1, y2⟩ := zintint0; subst y2; simp at *; omega) | (obtain ⟨y1, y2⟩ := zintint0; simp_all)
        · refine ⟨trivial, ?_⟩
          intro n18 l_n18 u_n18
          intro h_wcmp
          replace h_wcmp : ((w128 n n1 < w128 n2 n3 → n18 = -1) ∧ (w128 n n1 = w128 n2 n3 → n18 = 0) ∧ (w128 n2 n3 < w128 n n1 → n18 = 1)) := h_wcmp
          refine ⟨trivial, ?_⟩
          intro n19 l_n19 u_n19
          intro h_rcmp
          replace h_rcmp : ((w128 n n1 < w128 n2 n3 → n19 = -1) ∧ (w128 n n1 = w128 n2 n3 → n19 = 0) ∧ (w128 n2 n3 < w128 n n1 → n19 = 1)) := h_rcmp
          have zcmpcmp0 := cmp_uniq h_wcmp h_rcmp
          refine ⟨fun c4 => ?_, fun c4 => ?_⟩
          · show (b2i false) = 1
            exfalso; first | omega | (obtain ⟨y1, y2⟩ := zintint0; subst y2; simp at *; omega) | (obtain ⟨y1, y2⟩ := zintint0; simp_all)
          · refine ⟨trivial, ?_⟩
            intro n20 l_n20 u_n20
            intro n21 l_n21 u_n21
            intro n22 l_n22 u_n22
            intro h_wtms
            replace h_wtms : tellW (w128 n n1 * n5) n20 n21 n22 := h_wtms
            refine ⟨trivial, ?_⟩
            intro n23 l_n23 u_n23
            intro n24 l_n24 u_n24
            intro n25 l_n25 u_n25
            intro h_rtms
            replace h_rtms : tellW (w128 n n1 * n5) n23 n24 n25 := h_rtms
            have ztmstell0 := tell_uniq h_wtms h_rtms (by omega) (by omega) (by omega) (by omega)
            refine ⟨trivial, ?_⟩
            intro n26 l_n26 u_n26
            intro n27 l_n27 u_n27
            intro n28 l_n28 u_n28
            intro h_wnear
            replace h_wnear : ((n5 < 1 → n26 = 0 ∧ n27 = 0 ∧ n28 = 1) ∧ (1 ≤ n5 → n28 = 0 ∧ isNear (w128 n n1) n5 (w128 n26 n27))) := h_wnear
            refine ⟨trivial, ?_⟩
            intro n29 l_n29 u_n29
            intro n30 l_n30 u_n30
            intro n31 l_n31 u_n31
            intro h_rnear
            replace h_rnear : ((n5 < 1 → n29 = 0 ∧ n30 = 0 ∧ n31 = 1) ∧ (1 ≤ n5 → n31 = 0 ∧ isNear (w128 n n1) n5 (w128 n29 n30))) := h_rnear
            have znearnear0 := nearP_uniq h_wnear h_rnear (by omega) (by omega) (by omega) (by omega)
            refine ⟨fun c5 => ?_, fun c5 => ?_⟩
            · show (b2i false) = 1
              exfalso; first | omega | (obtain ⟨y1, y2⟩ := zintint0; subst y2; simp at *; omega) | (obtain ⟨y1, y2⟩ := zintint0; simp_all)
            · refine ⟨fun c6 => ?_, fun c6 => ?_⟩
              · show (b2i false) = 1
                exfalso; first | omega | (obtain ⟨y1, y2⟩ := zintint0; subst y2; simp at *; omega) | (obtain ⟨y1, y2⟩ := zintint0; simp_all)
              · refine ⟨fun c7 => ?_, fun c7 => ?_⟩
                · show (b2i false) = 1
                  exfalso; first | omega | (obtain ⟨y1, y2⟩ := zintint0; subst y2; simp at *; omega) | (obtain ⟨y1, y2⟩ := zintint0; simp_all)
                · refine ⟨fun c8 => ?_, fun c8 => ?_⟩
                  · show (b2i false) = 1
                    exfalso; first | omega | (obtain ⟨y1, y2⟩ := zintint0; subst y2; simp at *; omega) | (obtain ⟨y1, y2⟩ := zintint0; simp_all)
                  · refine ⟨trivial, ?_⟩
                    intro n32 l_n32 u_n32
                    intro n33 l_n33 u_n33
                    intro h_wmul
                    replace h_wmul : w128 n32 n33 = n4 * n5 := h_wmul
                    refine ⟨trivial, ?_⟩
                    intro n34 l_n34 u_n34
                    intro n35 l_n35 u_n35
                    intro h_rmul
                    replace h_rmul : w128 n34 n35 = n4 * n5 := h_rmul
                    have zmulmul0 := w_inj (h_wmul.trans h_rmul.symm) (by omega) (by omega) (by omega) (by omega)
                    refine ⟨fun c9 => ?_, fun c9 => ?_⟩
                    · show (b2i false) = 1
                      exfalso; first | omega | (obtain ⟨y1, y2⟩ := zintint0; subst y2; simp at *; omega) | (obtain ⟨y1, y2⟩ := zintint0; simp_all)
                    · refine ⟨trivial, ?_⟩
                      intro n36 l_n36 u_n36
                      intro n37 l_n37 u_n37
                      intro h_wof
                      replace h_wof : w128 n36 n37 = n5 := h_wof
                      refine ⟨trivial, ?_⟩
                      intro n38 l_n38 u_n38
                      intro n39 l_n39 u_n39
                      intro h_rof
                      replace h_rof : w128 n38 n39 = n5 := h_rof
                      have zofmul0 := w_inj (h_wof.trans h_rof.symm) (by omega) (by omega) (by omega) (by omega)
                      refine ⟨fun c10 => ?_, fun c10 => ?_⟩
                      · show (b2i false) = 1
                        exfalso; first | omega | (obtain ⟨y1, y2⟩ := zintint0; subst y2; simp at *; omega) | (obtain ⟨y1, y2⟩ := zintint0; simp_all)
                      · refine ⟨trivial, ?_⟩
                        intro n40 l_n40 u_n40
                        intro n41 l_n41 u_n41
                        intro n42 l_n42 u_n42
                        intro n43 l_n43 u_n43
                        intro h_wfloor
                        replace h_wfloor : ((n5 < 1 → n40 = 0 ∧ n41 = 0 ∧ n42 = 0 ∧ n43 = 1) ∧ (1 ≤ n5 → n43 = 0 ∧ isFloor (w128 n n1) n5 (w128 n40 n41) n42)) := h_wfloor
                        intro b5
                        refine ⟨trivial, ?_⟩
                        intro n44 l_n44 u_n44
                        intro n45 l_n45 u_n45
                        intro n46 l_n46 u_n46
                        intro n47 l_n47 u_n47
                        intro h_rfloor
                        replace h_rfloor : ((n5 < 1 → n44 = 0 ∧ n45 = 0 ∧ n46 = 0 ∧ n47 = 1) ∧ (1 ≤ n5 → n47 = 0 ∧ isFloor (w128 n n1) n5 (w128 n44 n45) n46)) := h_rfloor
                        have zfloorfloor0 := floorP_uniq h_wfloor h_rfloor (by omega) (by omega) (by omega) (by omega)
                        intro b6
                        refine ⟨trivial, ?_⟩
                        intro n48 l_n48 u_n48
                        intro t
                        intro h_wint
                        replace h_wint : isInt (w128 n n1) n48 (b2i t) := h_wint
                        refine ⟨trivial, ?_⟩
                        intro n49 l_n49 u_n49
                        intro t1
                        intro h_rint
                        replace h_rint : isInt (w128 n n1) n49 (b2i t1) := h_rint
                        have zintint0 := int_uniq h_wint h_rint
                        refine ⟨fun c11 => ?_, fun c11 => ?_⟩
                        · refine ⟨fun c12 => ?_, fun c12 => ?_⟩
                          · refine ⟨fun c13 => ?_, fun c13 => ?_⟩
                            · refine ⟨fun c14 => ?_, fun c14 => ?_⟩
                              · refine ⟨fun c15 => ?_, fun c15 => ?_⟩
                                · refine ⟨trivial, ?_⟩
                                  intro t2
                                  intro h_lives
                                  replace h_lives : (b2i t2) = 1 := h_lives
                                  show (b2i t2) = 1
                                  assumption
                                · show (b2i false) = 1
                                  exfalso; first | omega | (obtain ⟨y1, y2⟩ := zintint0; subst y2; simp at *; omega) | (obtain ⟨y1, y2⟩ := zintint0; simp_all)
                              · show (b2i false) = 1
                                exfalso; first | omega | (obtain ⟨y1, y2⟩ := zintint0; subst y2; simp at *; omega) | (obtain ⟨y1, y2⟩ := zintint0; simp_all)
                            · show (b2i false) = 1
                              exfalso; first | omega | (obtain ⟨y1, y2⟩ := zintint0; subst y2; simp at *; omega) | (obtain ⟨y1, y2⟩ := zintint0; simp_all)
                          · show (b2i false) = 1
                            exfalso; first | omega | (obtain ⟨y1, y2⟩ := zintint0; subst y2; simp at *; omega) | (obtain ⟨y1, y2⟩ := zintint0; simp_all)
                        · show (b2i false) = 1
                          exfalso; first | omega | (obtain ⟨y1, y2⟩ := zintint0; subst y2; simp at *; omega) | (obtain ⟨y1, y2⟩ := zintint0; simp_all)

end Go.Proofs.Ytdocimmchckjiaa.Sx
