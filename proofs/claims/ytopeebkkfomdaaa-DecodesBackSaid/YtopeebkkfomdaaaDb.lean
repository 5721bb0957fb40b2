/-
  Plain laws of decodes, part b.
-/
import Derived.Test.YtopeebkkfomdaaaDa
set_option linter.all false
set_option maxRecDepth 100000
namespace Go.Proofs.Ytopeebkkfomdaaa.Sx
open Go Go.RowKit

theorem led_ok {raw bits lo hi h l d e : Int} (t : ledTo raw bits lo hi h l d e) (hg : gr bits ≠ 0) (hr : raw ≤ gr bits) : e = 0 ∧ d = gr bits ∧ w128 h l = lo * gr bits + raw * (hi - lo) := t.1 ⟨hg, hr⟩
theorem led_no {raw bits lo hi h l d e : Int} (t : ledTo raw bits lo hi h l d e) (hg : gr bits = 0 ∨ gr bits < raw) : e = 1 ∧ h = 0 ∧ l = 0 ∧ d = 0 := t.2 (by omega)
theorem raw_ok {v bits lo hi n e : Int} (t : rawOf v bits lo hi n e) (hg : gr bits ≠ 0) (hl : lo ≠ hi) : ∃ x, e = 0 ∧ nearest ((v - lo) * gr bits) (hi - lo) x ∧ n = max 0 (min (gr bits) x) := by
  obtain ⟨h1, x, h2, h3⟩ := t.2.2 ⟨hg, hl⟩
  exact ⟨x, h1, h2, h3⟩
theorem near_ok {h l d v : Int} (t : nearTo h l d v) (hd : 1 ≤ d) : ∃ x, isNear (w128 h l) d x ∧ v = clamp32 x := t.2 hd
theorem nearest_uniq {a b x y : Int} (hb : b ≠ 0) (h : nearest a b x) (k : nearest a b y) : x = y := by
  rcases Int.lt_or_le 0 b with z | z
  · exact near_uniq (by omega) (h.1 z) (k.1 z)
  · exact near_uniq (d := -b) (by omega) (h.2 (by omega)) (k.2 (by omega))
theorem ledTo_uniq {raw bits lo hi h l d e h' l' d' e' : Int} (t : ledTo raw bits lo hi h l d e) (u : ledTo raw bits lo hi h' l' d' e') (h1 : 0 ≤ l) (h2 : l ≤ 18446744073709551615) (h3 : 0 ≤ l') (h4 : l' ≤ 18446744073709551615) : h = h' ∧ l = l' ∧ d = d' ∧ e = e' := by
  by_cases z : gr bits ≠ 0 ∧ raw ≤ gr bits
  · obtain ⟨a1, a2, a3⟩ := t.1 z
    obtain ⟨b1, b2, b3⟩ := u.1 z
    obtain ⟨c1, c2⟩ := w_inj (a3.trans b3.symm) h1 h2 h3 h4
    exact ⟨c1, c2, by omega, by omega⟩
  · obtain ⟨a1, a2, a3, a4⟩ := t.2 z
    obtain ⟨b1, b2, b3, b4⟩ := u.2 z
    exact ⟨by omega, by omega, by omega, by omega⟩
theorem rawOf_uniq {v bits lo hi n e n' e' : Int} (t : rawOf v bits lo hi n e) (u : rawOf v bits lo hi n' e') : n = n' ∧ e = e' := by
  by_cases z : gr bits = 0
  · have := t.1 z; have := u.1 z; omega
  · by_cases y : lo = hi
    · have := t.2.1 ⟨z, y⟩; have := u.2.1 ⟨z, y⟩; omega
    · obtain ⟨x, a1, a2, a3⟩ := raw_ok t z y
      obtain ⟨x', b1, b2, b3⟩ := raw_ok u z y
      have := nearest_uniq (by omega) a2 b2
      subst this
      exact ⟨by omega, by omega⟩
theorem nearTo_uniq {h l d v h' l' d' v' : Int} (t : nearTo h l d v) (u : nearTo h' l' d' v') (e1 : h = h') (e2 : l = l') (e3 : d = d') : v = v' := by
  subst e1; subst e2; subst e3
  rcases Int.lt_or_le d 1 with z | z
  · rw [t.1 z, u.1 z]
  · obtain ⟨x, a1, a2⟩ := near_ok t z
    obtain ⟨y, b1, b2⟩ := near_ok u z
    have := near_uniq z a1 b1
    rw [a2, b2, this]
theorem gr2 : gr 2 = 3 := by decide
theorem gr8 : gr 8 = 255 := by decide
theorem gr33 : gr 33 = 0 := by decide

set_option maxHeartbeats 2000000 in
theorem p_lives : P_lives := by
  unfold P_lives
  intro hpre
  replace hpre : True := hpre
  refine ⟨trivial, ?_⟩
  intro n l_n u_n
  intro n1 l_n1 u_n1
  intro n2 l_n2 u_n2
  intro n3 l_n3 u_n3
  intro h_value
  replace h_value : ledTo (3 : Int) (2 : Int) (5 : Int) (8 : Int) n n1 n2 n3 := h_value
  have v0 := led_ok h_value (by decide) (by decide)
  (try simp only [gr2, w128] at v0)
  clear h_value
  intro b
  refine ⟨trivial, ?_⟩
  intro n4 l_n4 u_n4
  intro n5 l_n5 u_n5
  intro n6 l_n6 u_n6
  intro n7 l_n7 u_n7
  intro h_value1
  replace h_value1 : ledTo (1 : Int) (2 : Int) (0 : Int) (65536 : Int) n4 n5 n6 n7 := h_value1
  have v1 := led_ok h_value1 (by decide) (by decide)
  (try simp only [gr2, w128] at v1)
  clear h_value1
  intro b1
  refine ⟨trivial, ?_⟩
  intro n8 l_n8 u_n8
  intro n9 l_n9 u_n9
  intro n10 l_n10 u_n10
  intro n11 l_n11 u_n11
  intro h_value2
  replace h_value2 : ledTo (4 : Int) (2 : Int) (0 : Int) (0 : Int) n8 n9 n10 n11 := h_value2
  have v2 := led_no h_value2 (by decide)
  (try simp only [gr2, w128] at v2)
  clear h_value2
  intro b2
  refine ⟨trivial, ?_⟩
  intro n12 l_n12 u_n12
  intro n13 l_n13 u_n13
  intro n14 l_n14 u_n14
  intro n15 l_n15 u_n15
  intro h_value3
  replace h_value3 : ledTo (0 : Int) (33 : Int) (0 : Int) (0 : Int) n12 n13 n14 n15 := h_value3
  have v3 := led_no h_value3 (by decide)
  (try simp only [gr2, w128] at v3)
  clear h_value3
  intro b3
  refine ⟨trivial, ?_⟩
  intro n16 l_n16 u_n16
  intro n17 l_n17 u_n17
  intro h_raw
  replace h_raw : rawOf (32768 : Int) (8 : Int) (0 : Int) (65536 : Int) n16 n17 := h_raw
  obtain ⟨x0, ra0, rb0, rc0⟩ := raw_ok h_raw (by decide) (by decide)
  simp only [nearest, isNear, gr8] at rb0 rc0
  clear h_raw
  refine ⟨trivial, ?_⟩
  intro n18 l_n18 u_n18
  intro n19 l_n19 u_n19
  intro h_raw1
  replace h_raw1 : rawOf (-1 : Int) (8 : Int) (0 : Int) (65536 : Int) n18 n19 := h_raw1
  obtain ⟨x1, ra1, rb1, rc1⟩ := raw_ok h_raw1 (by decide) (by decide)
  simp only [nearest, isNear, gr8] at rb1 rc1
  clear h_raw1
  refine ⟨trivial, ?_⟩
  intro n20 l_n20 u_n20
  intro n21 l_n21 u_n21
  intro h_raw2
  replace h_raw2 : rawOf (99999 : Int) (8 : Int) (0 : Int) (65536 : Int) n20 n21 := h_raw2
  obtain ⟨x2, ra2, rb2, rc2⟩ := raw_ok h_raw2 (by decide) (by decide)
  simp only [nearest, isNear, gr8] at rb2 rc2
  clear h_raw2
  refine ⟨trivial, ?_⟩
  intro n22 l_n22 u_n22
  intro n23 l_n23 u_n23
  intro h_raw3
  replace h_raw3 : rawOf (0 : Int) (8 : Int) (7 : Int) (7 : Int) n22 n23 := h_raw3
  have r3 := (h_raw3.2.1 ⟨by decide, rfl⟩).2
  clear h_raw3
  refine ⟨trivial, ?_⟩
  intro n24 l_n24 u_n24
  intro n25 l_n25 u_n25
  intro h_wof
  replace h_wof : w128 n24 n25 = (24 : Int) := h_wof
  simp only [w128] at h_wof
  refine ⟨fun c0 => ?_, fun c0 => ?_⟩
  · show (b2i false) = 1
    exfalso; omega
  · refine ⟨fun c1 => ?_, fun c1 => ?_⟩
    · show (b2i false) = 1
      exfalso; omega
    · refine ⟨fun c2 => ?_, fun c2 => ?_⟩
      · show (b2i false) = 1
        exfalso; omega
      · refine ⟨trivial, ?_⟩
        intro n26 l_n26 u_n26
        intro n27 l_n27 u_n27
        intro h_wof1
        replace h_wof1 : w128 n26 n27 = (65536 : Int) := h_wof1
        simp only [w128] at h_wof1
        refine ⟨fun c3 => ?_, fun c3 => ?_⟩
        · show (b2i false) = 1
          exfalso; omega
        · refine ⟨fun c4 => ?_, fun c4 => ?_⟩
          · show (b2i false) = 1
            exfalso; omega
          · refine ⟨fun c5 => ?_, fun c5 => ?_⟩
            · show (b2i false) = 1
              exfalso; omega
            · refine ⟨trivial, ?_⟩
              intro n28 l_n28 u_n28
              intro h_dnear
              replace h_dnear : nearTo n4 n5 n6 n28 := h_dnear
              obtain ⟨y0, na, nb⟩ := near_ok h_dnear (by omega)
              rw [show n6 = 3 by omega, show w128 n4 n5 = 65536 by simp only [w128]; omega] at na
              simp only [isNear, clamp32] at na nb
              clear h_dnear
              refine ⟨fun c6 => ?_, fun c6 => ?_⟩
              · show (b2i false) = 1
                exfalso; omega
              · refine ⟨fun c7 => ?_, fun c7 => ?_⟩
                · show (b2i false) = 1
                  exfalso; omega
                · refine ⟨fun c8 => ?_, fun c8 => ?_⟩
                  · show (b2i false) = 1
                    exfalso; omega
                  · refine ⟨fun c9 => ?_, fun c9 => ?_⟩
                    · refine ⟨fun c10 => ?_, fun c10 => ?_⟩
                      · refine ⟨fun c11 => ?_, fun c11 => ?_⟩
                        · refine ⟨fun c12 => ?_, fun c12 => ?_⟩
                          · refine ⟨fun c13 => ?_, fun c13 => ?_⟩
                            · refine ⟨fun c14 => ?_, fun c14 => ?_⟩
                              · refine ⟨fun c15 => ?_, fun c15 => ?_⟩
                                · refine ⟨trivial, ?_⟩
                                  intro n29 l_n29 u_n29
                                  intro n30 l_n30 u_n30
                                  intro h_wof2
                                  replace h_wof2 : w128 n29 n30 = (5 : Int) := h_wof2
                                  simp only [w128] at h_wof2
                                  refine ⟨trivial, ?_⟩
                                  intro n31 l_n31 u_n31
                                  intro h_dnear1
                                  replace h_dnear1 : nearTo n29 n30 (0 : Int) n31 := h_dnear1
                                  have k0 := h_dnear1.1 (by decide)
                                  show (b2i (n31 == 0)) = 1
                                  rw [k0]; rfl
                                · show (b2i false) = 1
                                  exfalso; omega
                              · show (b2i false) = 1
                                exfalso; omega
                            · show (b2i false) = 1
                              exfalso; omega
                          · show (b2i false) = 1
                            exfalso; omega
                        · show (b2i false) = 1
                          exfalso; omega
                      · show (b2i false) = 1
                        exfalso; omega
                    · show (b2i false) = 1
                      exfalso; omega

end Go.Proofs.Ytopeebkkfomdaaa.Sx
