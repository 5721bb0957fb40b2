/-
  The laws of wides, part c.
-/
import Derived.Test.YtdocimmchckjiaaWla
set_option linter.all false
set_option maxRecDepth 100000
namespace Go.Proofs.Ytdocimmchckjiaa.Sx
open Go Go.RowKit

set_option maxHeartbeats 4000000 in
theorem p_lproducts : P_lproducts := by
  unfold P_lproducts
  intro n l_n u_n
  intro n1 l_n1 u_n1
  intro n2 l_n2 u_n2
  intro hpre
  replace hpre : True := hpre
  refine ⟨fun c0 => ?_, fun c0 => ?_⟩
  · refine ⟨fun c1 => ?_, fun c1 => ?_⟩
    · simp only [wrap_u64, wrap_i64, wrap_i32, wrap_u32] at c1
      refine ⟨trivial, ?_⟩
      intro t
      intro h_lives
      replace h_lives : (b2i t) = 1 := h_lives
      show (b2i t) = 1
      assumption
    · simp only [wrap_u64, wrap_i64, wrap_i32, wrap_u32] at c1
      refine ⟨fun c2 => ?_, fun c2 => ?_⟩
      · refine ⟨fun c3 => ?_, fun c3 => ?_⟩
        · simp only [wrap_u64, wrap_i64, wrap_i32, wrap_u32] at c3
          refine ⟨trivial, ?_⟩
          intro t
          intro h_lives
          replace h_lives : (b2i t) = 1 := h_lives
          show (b2i t) = 1
          assumption
        · simp only [wrap_u64, wrap_i64, wrap_i32, wrap_u32] at c3
          refine ⟨trivial, ?_⟩
          intro n3 l_n3 u_n3
          intro n4 l_n4 u_n4
          intro h_wmul
          replace h_wmul : w128 n3 n4 = n * n1 := h_wmul
          have : w128 n3 n4 = n3 * 18446744073709551616 + n4 := rfl
          have := mul_s64 l_n u_n l_n1 u_n1
          refine ⟨trivial, ?_⟩
          intro n5 l_n5 u_n5
          intro n6 l_n6 u_n6
          intro h_wmul1
          replace h_wmul1 : w128 n5 n6 = n * n2 := h_wmul1
          have : w128 n5 n6 = n5 * 18446744073709551616 + n6 := rfl
          have := mul_s64 l_n u_n l_n2 u_n2
          refine ⟨trivial, ?_⟩
          intro n7 l_n7 u_n7
          intro n8 l_n8 u_n8
          intro n9 l_n9 u_n9
          intro h_wadd
          replace h_wadd : tellW (w128 n3 n4 + w128 n5 n6) n7 n8 n9 := h_wadd
          have : w128 n3 n4 = n3 * 18446744073709551616 + n4 := rfl
          have : w128 n5 n6 = n5 * 18446744073709551616 + n6 := rfl
          have : w128 n7 n8 = n7 * 18446744073709551616 + n8 := rfl
          replace h_wadd := tell_or h_wadd
          intro b
          refine ⟨trivial, ?_⟩
          intro n10 l_n10 u_n10
          intro n11 l_n11 u_n11
          intro h_wof
          replace h_wof : w128 n10 n11 = (0 : Int) := h_wof
          have : w128 n10 n11 = n10 * 18446744073709551616 + n11 := rfl
          refine ⟨trivial, ?_⟩
          intro n12 l_n12 u_n12
          intro n13 l_n13 u_n13
          intro h_wmul2
          replace h_wmul2 : w128 n12 n13 = n * n1 := h_wmul2
          have : w128 n12 n13 = n12 * 18446744073709551616 + n13 := rfl
          have := mul_s64 l_n u_n l_n1 u_n1
          refine ⟨trivial, ?_⟩
          intro n14 l_n14 u_n14
          intro n15 l_n15 u_n15
          intro n16 l_n16 u_n16
          intro h_wsub
          replace h_wsub : tellW (w128 n10 n11 - w128 n12 n13) n14 n15 n16 := h_wsub
          have : w128 n10 n11 = n10 * 18446744073709551616 + n11 := rfl
          have : w128 n12 n13 = n12 * 18446744073709551616 + n13 := rfl
          have : w128 n14 n15 = n14 * 18446744073709551616 + n15 := rfl
          replace h_wsub := tell_or h_wsub
          intro b1
          refine ⟨trivial, ?_⟩
          intro n17 l_n17 u_n17
          intro n18 l_n18 u_n18
          intro h_wof1
          replace h_wof1 : w128 n17 n18 = n := h_wof1
          have : w128 n17 n18 = n17 * 18446744073709551616 + n18 := rfl
          refine ⟨trivial, ?_⟩
          intro n19 l_n19 u_n19
          intro n20 l_n20 u_n20
          intro n21 l_n21 u_n21
          intro h_wtms
          replace h_wtms : tellW (w128 n17 n18 * n1) n19 n20 n21 := h_wtms
          rw [show w128 n17 n18 = n from h_wof1] at h_wtms
          have : w128 n17 n18 = n17 * 18446744073709551616 + n18 := rfl
          have : w128 n19 n20 = n19 * 18446744073709551616 + n20 := rfl
          replace h_wtms := tell_or h_wtms
          intro b2
          refine ⟨trivial, ?_⟩
          intro n22 l_n22 u_n22
          intro n23 l_n23 u_n23
          intro n24 l_n24 u_n24
          intro h_wadd1
          replace h_wadd1 : tellW (w128 n19 n20 + w128 n19 n20) n22 n23 n24 := h_wadd1
          have : w128 n19 n20 = n19 * 18446744073709551616 + n20 := rfl
          have : w128 n22 n23 = n22 * 18446744073709551616 + n23 := rfl
          replace h_wadd1 := tell_or h_wadd1
          intro b3
          refine ⟨trivial, ?_⟩
          intro n25 l_n25 u_n25
          intro n26 l_n26 u_n26
          intro n27 l_n27 u_n27
          intro h_wtms1
          replace h_wtms1 : tellW (w128 n19 n20 * (2 : Int)) n25 n26 n27 := h_wtms1
          have : w128 n19 n20 = n19 * 18446744073709551616 + n20 := rfl
          have : w128 n25 n26 = n25 * 18446744073709551616 + n26 := rfl
          replace h_wtms1 := tell_or h_wtms1
          intro b4
          refine ⟨fun c4 => ?_, fun c4 => ?_⟩
          · intro n28 e_n28 l_n28 u_n28
            simp only [wrap_i64] at e_n28
            have : n * n28 = n * n1 + n * n2 := by rw [show n28 = n1 + n2 by omega]; grind
            refine ⟨trivial, ?_⟩
            intro n29 l_n29 u_n29
            intro n30 l_n30 u_n30
            intro h_wmul3
            replace h_wmul3 : w128 n29 n30 = n * n28 := h_wmul3
            have : w128 n29 n30 = n29 * 18446744073709551616 + n30 := rfl
            have := mul_s64 l_n u_n l_n28 u_n28
            refine ⟨fun c5 => ?_, fun c5 => ?_⟩
            · refine ⟨fun c6 => ?_, fun c6 => ?_⟩
              · refine ⟨trivial, ?_⟩
                intro t
                intro h_lives
                replace h_lives : (b2i t) = 1 := h_lives
                show (b2i t) = 1
                assumption
              · show (b2i false) = 1
                exfalso; omega
            · show (b2i false) = 1
              exfalso; omega
          · intro n28 e_n28 l_n28 u_n28
            simp only [wrap_i64] at e_n28
            have : n * n28 = n * n1 + n * n2 := by rw [show n28 = n1 + n2 by omega]; grind
            refine ⟨trivial, ?_⟩
            intro n29 l_n29 u_n29
            intro n30 l_n30 u_n30
            intro h_wmul3
            replace h_wmul3 : w128 n29 n30 = n * n28 := h_wmul3
            have : w128 n29 n30 = n29 * 18446744073709551616 + n30 := rfl
            have := mul_s64 l_n u_n l_n28 u_n28
            refine ⟨fun c5 => ?_, fun c5 => ?_⟩
            · refine ⟨fun c6 => ?_, fun c6 => ?_⟩
              · intro n31 e_n31 l_n31 u_n31
                simp only [wrap_i64] at e_n31
                have : n * n31 = -(n * n1) := by rw [show n31 = -n1 by omega]; grind
                refine ⟨trivial, ?_⟩
                intro n32 l_n32 u_n32
                intro n33 l_n33 u_n33
                intro h_wmul4
                replace h_wmul4 : w128 n32 n33 = n * n31 := h_wmul4
                have : w128 n32 n33 = n32 * 18446744073709551616 + n33 := rfl
                have := mul_s64 l_n u_n l_n31 u_n31
                refine ⟨fun c7 => ?_, fun c7 => ?_⟩
                · refine ⟨fun c8 => ?_, fun c8 => ?_⟩
                  · refine ⟨trivial, ?_⟩
                    intro n34 l_n34 u_n34
                    intro n35 l_n35 u_n35
                    intro h_wmul5
                    replace h_wmul5 : w128 n34 n35 = n * n1 := h_wmul5
                    have : w128 n34 n35 = n34 * 18446744073709551616 + n35 := rfl
                    have := mul_s64 l_n u_n l_n1 u_n1
                    refine ⟨fun c9 => ?_, fun c9 => ?_⟩
                    · refine ⟨fun c10 => ?_, fun c10 => ?_⟩
                      · refine ⟨fun c11 => ?_, fun c11 => ?_⟩
                        · refine ⟨fun c12 => ?_, fun c12 => ?_⟩
                          · refine ⟨trivial, ?_⟩
                            intro t
                            intro h_lives
                            replace h_lives : (b2i t) = 1 := h_lives
                            show (b2i t) = 1
                            assumption
                          · show (b2i false) = 1
                            exfalso; omega
                        · show (b2i false) = 1
                          exfalso; omega
                      · show (b2i false) = 1
                        exfalso; omega
                    · show (b2i false) = 1
                      exfalso; omega
                  · show (b2i false) = 1
                    exfalso; omega
                · show (b2i false) = 1
                  exfalso; omega
              · show (b2i false) = 1
                exfalso; omega
            · show (b2i false) = 1
              exfalso; omega
      · refine ⟨trivial, ?_⟩
        intro n3 l_n3 u_n3
        intro n4 l_n4 u_n4
        intro h_wmul
        replace h_wmul : w128 n3 n4 = n * n1 := h_wmul
        have : w128 n3 n4 = n3 * 18446744073709551616 + n4 := rfl
        have := mul_s64 l_n u_n l_n1 u_n1
        refine ⟨trivial, ?_⟩
        intro n5 l_n5 u_n5
        intro n6 l_n6 u_n6
        intro h_wmul1
        replace h_wmul1 : w128 n5 n6 = n * n2 := h_wmul1
        have : w128 n5 n6 = n5 * 18446744073709551616 + n6 := rfl
        have := mul_s64 l_n u_n l_n2 u_n2
        refine ⟨trivial, ?_⟩
        intro n7 l_n7 u_n7
        intro n8 l_n8 u_n8
        intro n9 l_n9 u_n9
        intro h_wadd
        replace h_wadd : tellW (w128 n3 n4 + w128 n5 n6) n7 n8 n9 := h_wadd
        have : w128 n3 n4 = n3 * 18446744073709551616 + n4 := rfl
        have : w128 n5 n6 = n5 * 18446744073709551616 + n6 := rfl
        have : w128 n7 n8 = n7 * 18446744073709551616 + n8 := rfl
        replace h_wadd := tell_or h_wadd
        intro b
        refine ⟨trivial, ?_⟩
        intro n10 l_n10 u_n10
        intro n11 l_n11 u_n11
        intro h_wof
        replace h_wof : w128 n10 n11 = (0 : Int) := h_wof
        have : w128 n10 n11 = n10 * 18446744073709551616 + n11 := rfl
        refine ⟨trivial, ?_⟩
        intro n12 l_n12 u_n12
        intro n13 l_n13 u_n13
        intro h_wmul2
        replace h_wmul2 : w128 n12 n13 = n * n1 := h_wmul2
        have : w128 n12 n13 = n12 * 18446744073709551616 + n13 := rfl
        have := mul_s64 l_n u_n l_n1 u_n1
        refine ⟨trivial, ?_⟩
        intro n14 l_n14 u_n14
        intro n15 l_n15 u_n15
        intro n16 l_n16 u_n16
        intro h_wsub
        replace h_wsub : tellW (w128 n10 n11 - w128 n12 n13) n14 n15 n16 := h_wsub
        have : w128 n10 n11 = n10 * 18446744073709551616 + n11 := rfl
        have : w128 n12 n13 = n12 * 18446744073709551616 + n13 := rfl
        have : w128 n14 n15 = n14 * 18446744073709551616 + n15 := rfl
        replace h_wsub := tell_or h_wsub
        intro b1
        refine ⟨trivial, ?_⟩
        intro n17 l_n17 u_n17
        intro n18 l_n18 u_n18
        intro h_wof1
        replace h_wof1 : w128 n17 n18 = n := h_wof1
        have : w128 n17 n18 = n17 * 18446744073709551616 + n18 := rfl
        refine ⟨trivial, ?_⟩
        intro n19 l_n19 u_n19
        intro n20 l_n20 u_n20
        intro n21 l_n21 u_n21
        intro h_wtms
        replace h_wtms : tellW (w128 n17 n18 * n1) n19 n20 n21 := h_wtms
        rw [show w128 n17 n18 = n from h_wof1] at h_wtms
        have : w128 n17 n18 = n17 * 18446744073709551616 + n18 := rfl
        have : w128 n19 n20 = n19 * 18446744073709551616 + n20 := rfl
        replace h_wtms := tell_or h_wtms
        intro b2
        refine ⟨trivial, ?_⟩
        intro n22 l_n22 u_n22
        intro n23 l_n23 u_n23
        intro n24 l_n24 u_n24
        intro h_wadd1
        replace h_wadd1 : tellW (w128 n19 n20 + w128 n19 n20) n22 n23 n24 := h_wadd1
        have : w128 n19 n20 = n19 * 18446744073709551616 + n20 := rfl
        have : w128 n22 n23 = n22 * 18446744073709551616 + n23 := rfl
        replace h_wadd1 := tell_or h_wadd1
        intro b3
        refine ⟨trivial, ?_⟩
        intro n25 l_n25 u_n25
        intro n26 l_n26 u_n26
        intro n27 l_n27 u_n27
        intro h_wtms1
        replace h_wtms1 : tellW (w128 n19 n20 * (2 : Int)) n25 n26 n27 := h_wtms1
        have : w128 n19 n20 = n19 * 18446744073709551616 + n20 := rfl
        have : w128 n25 n26 = n25 * 18446744073709551616 + n26 := rfl
        replace h_wtms1 := tell_or h_wtms1
        intro b4
        refine ⟨fun c3 => ?_, fun c3 => ?_⟩
        · intro n28 e_n28 l_n28 u_n28
          simp only [wrap_i64] at e_n28
          have : n * n28 = n * n1 + n * n2 := by rw [show n28 = n1 + n2 by omega]; grind
          refine ⟨trivial, ?_⟩
          intro n29 l_n29 u_n29
          intro n30 l_n30 u_n30
          intro h_wmul3
          replace h_wmul3 : w128 n29 n30 = n * n28 := h_wmul3
          have : w128 n29 n30 = n29 * 18446744073709551616 + n30 := rfl
          have := mul_s64 l_n u_n l_n28 u_n28
          refine ⟨fun c4 => ?_, fun c4 => ?_⟩
          · refine ⟨fun c5 => ?_, fun c5 => ?_⟩
            · refine ⟨trivial, ?_⟩
              intro t
              intro h_lives
              replace h_lives : (b2i t) = 1 := h_lives
              show (b2i t) = 1
              assumption
            · show (b2i false) = 1
              exfalso; omega
          · show (b2i false) = 1
            exfalso; omega
        · intro n28 e_n28 l_n28 u_n28
          simp only [wrap_i64] at e_n28
          have : n * n28 = n * n1 + n * n2 := by rw [show n28 = n1 + n2 by omega]; grind
          refine ⟨trivial, ?_⟩
          intro n29 l_n29 u_n29
          intro n30 l_n30 u_n30
          intro h_wmul3
          replace h_wmul3 : w128 n29 n30 = n * n28 := h_wmul3
          have : w128 n29 n30 = n29 * 18446744073709551616 + n30 := rfl
          have := mul_s64 l_n u_n l_n28 u_n28
          refine ⟨fun c4 => ?_, fun c4 => ?_⟩
          · refine ⟨fun c5 => ?_, fun c5 => ?_⟩
            · intro n31 e_n31 l_n31 u_n31
              simp only [wrap_i64] at e_n31
              have : n * n31 = -(n * n1) := by rw [show n31 = -n1 by omega]; grind
              refine ⟨trivial, ?_⟩
              intro n32 l_n32 u_n32
              intro n33 l_n33 u_n33
              intro h_wmul4
              replace h_wmul4 : w128 n32 n33 = n * n31 := h_wmul4
              have : w128 n32 n33 = n32 * 18446744073709551616 + n33 := rfl
              have := mul_s64 l_n u_n l_n31 u_n31
              refine ⟨fun c6 => ?_, fun c6 => ?_⟩
              · refine ⟨fun c7 => ?_, fun c7 => ?_⟩
                · refine ⟨trivial, ?_⟩
                  intro n34 l_n34 u_n34
                  intro n35 l_n35 u_n35
                  intro h_wmul5
                  replace h_wmul5 : w128 n34 n35 = n * n1 := h_wmul5
                  have : w128 n34 n35 = n34 * 18446744073709551616 + n35 := rfl
                  have := mul_s64 l_n u_n l_n1 u_n1
                  refine ⟨fun c8 => ?_, fun c8 => ?_⟩
                  · refine ⟨fun c9 => ?_, fun c9 => ?_⟩
                    · refine ⟨fun c10 => ?_, fun c10 => ?_⟩
                      · refine ⟨fun c11 => ?_, fun c11 => ?_⟩
                        · refine ⟨trivial, ?_⟩
                          intro t
                          intro h_lives
                          replace h_lives : (b2i t) = 1 := h_lives
                          show (b2i t) = 1
                          assumption
                        · show (b2i false) = 1
                          exfalso; omega
                      · show (b2i false) = 1
                        exfalso; omega
                    · show (b2i false) = 1
                      exfalso; omega
                  · show (b2i false) = 1
                    exfalso; omega
                · show (b2i false) = 1
                  exfalso; omega
              · show (b2i false) = 1
                exfalso; omega
            · show (b2i false) = 1
              exfalso; omega
          · show (b2i false) = 1
            exfalso; omega
  · refine ⟨fun c1 => ?_, fun c1 => ?_⟩
    · refine ⟨fun c2 => ?_, fun c2 => ?_⟩
      · simp only [wrap_u64, wrap_i64, wrap_i32, wrap_u32] at c2
        refine ⟨trivial, ?_⟩
        intro t
        intro h_lives
        replace h_lives : (b2i t) = 1 := h_lives
        show (b2i t) = 1
        assumption
      · simp only [wrap_u64, wrap_i64, wrap_i32, wrap_u32] at c2
        refine ⟨trivial, ?_⟩
        intro n3 l_n3 u_n3
        intro n4 l_n4 u_n4
        intro h_wmul
        replace h_wmul : w128 n3 n4 = n * n1 := h_wmul
        have : w128 n3 n4 = n3 * 18446744073709551616 + n4 := rfl
        have := mul_s64 l_n u_n l_n1 u_n1
        refine ⟨trivial, ?_⟩
        intro n5 l_n5 u_n5
        intro n6 l_n6 u_n6
        intro h_wmul1
        replace h_wmul1 : w128 n5 n6 = n * n2 := h_wmul1
        have : w128 n5 n6 = n5 * 18446744073709551616 + n6 := rfl
        have := mul_s64 l_n u_n l_n2 u_n2
        refine ⟨trivial, ?_⟩
        intro n7 l_n7 u_n7
        intro n8 l_n8 u_n8
        intro n9 l_n9 u_n9
        intro h_wadd
        replace h_wadd : tellW (w128 n3 n4 + w128 n5 n6) n7 n8 n9 := h_wadd
        have : w128 n3 n4 = n3 * 18446744073709551616 + n4 := rfl
        have : w128 n5 n6 = n5 * 18446744073709551616 + n6 := rfl
        have : w128 n7 n8 = n7 * 18446744073709551616 + n8 := rfl
        replace h_wadd := tell_or h_wadd
        intro b
        refine ⟨trivial, ?_⟩
        intro n10 l_n10 u_n10
        intro n11 l_n11 u_n11
        intro h_wof
        replace h_wof : w128 n10 n11 = (0 : Int) := h_wof
        have : w128 n10 n11 = n10 * 18446744073709551616 + n11 := rfl
        refine ⟨trivial, ?_⟩
        intro n12 l_n12 u_n12
        intro n13 l_n13 u_n13
        intro h_wmul2
        replace h_wmul2 : w128 n12 n13 = n * n1 := h_wmul2
        have : w128 n12 n13 = n12 * 18446744073709551616 + n13 := rfl
        have := mul_s64 l_n u_n l_n1 u_n1
        refine ⟨trivial, ?_⟩
        intro n14 l_n14 u_n14
        intro n15 l_n15 u_n15
        intro n16 l_n16 u_n16
        intro h_wsub
        replace h_wsub : tellW (w128 n10 n11 - w128 n12 n13) n14 n15 n16 := h_wsub
        have : w128 n10 n11 = n10 * 18446744073709551616 + n11 := rfl
        have : w128 n12 n13 = n12 * 18446744073709551616 + n13 := rfl
        have : w128 n14 n15 = n14 * 18446744073709551616 + n15 := rfl
        replace h_wsub := tell_or h_wsub
        intro b1
        refine ⟨trivial, ?_⟩
        intro n17 l_n17 u_n17
        intro n18 l_n18 u_n18
        intro h_wof1
        replace h_wof1 : w128 n17 n18 = n := h_wof1
        have : w128 n17 n18 = n17 * 18446744073709551616 + n18 := rfl
        refine ⟨trivial, ?_⟩
        intro n19 l_n19 u_n19
        intro n20 l_n20 u_n20
        intro n21 l_n21 u_n21
        intro h_wtms
        replace h_wtms : tellW (w128 n17 n18 * n1) n19 n20 n21 := h_wtms
        rw [show w128 n17 n18 = n from h_wof1] at h_wtms
        have : w128 n17 n18 = n17 * 18446744073709551616 + n18 := rfl
        have : w128 n19 n20 = n19 * 18446744073709551616 + n20 := rfl
        replace h_wtms := tell_or h_wtms
        intro b2
        refine ⟨trivial, ?_⟩
        intro n22 l_n22 u_n22
        intro n23 l_n23 u_n23
        intro n24 l_n24 u_n24
        intro h_wadd1
        replace h_wadd1 : tellW (w128 n19 n20 + w128 n19 n20) n22 n23 n24 := h_wadd1
        have : w128 n19 n20 = n19 * 18446744073709551616 + n20 := rfl
        have : w128 n22 n23 = n22 * 18446744073709551616 + n23 := rfl
        replace h_wadd1 := tell_or h_wadd1
        intro b3
        refine ⟨trivial, ?_⟩
        intro n25 l_n25 u_n25
        intro n26 l_n26 u_n26
        intro n27 l_n27 u_n27
        intro h_wtms1
        replace h_wtms1 : tellW (w128 n19 n20 * (2 : Int)) n25 n26 n27 := h_wtms1
        have : w128 n19 n20 = n19 * 18446744073709551616 + n20 := rfl
        have : w128 n25 n26 = n25 * 18446744073709551616 + n26 := rfl
        replace h_wtms1 := tell_or h_wtms1
        intro b4
        refine ⟨fun c3 => ?_, fun c3 => ?_⟩
        · intro n28 e_n28 l_n28 u_n28
          simp only [wrap_i64] at e_n28
          have : n * n28 = n * n1 + n * n2 := by rw [show n28 = n1 + n2 by omega]; grind
          refine ⟨trivial, ?_⟩
          intro n29 l_n29 u_n29
          intro n30 l_n30 u_n30
          intro h_wmul3
          replace h_wmul3 : w128 n29 n30 = n * n28 := h_wmul3
          have : w128 n29 n30 = n29 * 18446744073709551616 + n30 := rfl
          have := mul_s64 l_n u_n l_n28 u_n28
          refine ⟨fun c4 => ?_, fun c4 => ?_⟩
          · refine ⟨fun c5 => ?_, fun c5 => ?_⟩
            · refine ⟨trivial, ?_⟩
              intro t
              intro h_lives
              replace h_lives : (b2i t) = 1 := h_lives
              show (b2i t) = 1
              assumption
            · show (b2i false) = 1
              exfalso; omega
          · show (b2i false) = 1
            exfalso; omega
        · intro n28 e_n28 l_n28 u_n28
          simp only [wrap_i64] at e_n28
          have : n * n28 = n * n1 + n * n2 := by rw [show n28 = n1 + n2 by omega]; grind
          refine ⟨trivial, ?_⟩
          intro n29 l_n29 u_n29
          intro n30 l_n30 u_n30
          intro h_wmul3
          replace h_wmul3 : w128 n29 n30 = n * n28 := h_wmul3
          have : w128 n29 n30 = n29 * 18446744073709551616 + n30 := rfl
          have := mul_s64 l_n u_n l_n28 u_n28
          refine ⟨fun c4 => ?_, fun c4 => ?_⟩
          · refine ⟨fun c5 => ?_, fun c5 => ?_⟩
            · intro n31 e_n31 l_n31 u_n31
              simp only [wrap_i64] at e_n31
              have : n * n31 = -(n * n1) := by rw [show n31 = -n1 by omega]; grind
              refine ⟨trivial, ?_⟩
              intro n32 l_n32 u_n32
              intro n33 l_n33 u_n33
              intro h_wmul4
              replace h_wmul4 : w128 n32 n33 = n * n31 := h_wmul4
              have : w128 n32 n33 = n32 * 18446744073709551616 + n33 := rfl
              have := mul_s64 l_n u_n l_n31 u_n31
              refine ⟨fun c6 => ?_, fun c6 => ?_⟩
              · refine ⟨fun c7 => ?_, fun c7 => ?_⟩
                · refine ⟨trivial, ?_⟩
                  intro n34 l_n34 u_n34
                  intro n35 l_n35 u_n35
                  intro h_wmul5
                  replace h_wmul5 : w128 n34 n35 = n * n1 := h_wmul5
                  have : w128 n34 n35 = n34 * 18446744073709551616 + n35 := rfl
                  have := mul_s64 l_n u_n l_n1 u_n1
                  refine ⟨fun c8 => ?_, fun c8 => ?_⟩
                  · refine ⟨fun c9 => ?_, fun c9 => ?_⟩
                    · refine ⟨fun c10 => ?_, fun c10 => ?_⟩
                      · refine ⟨fun c11 => ?_, fun c11 => ?_⟩
                        · refine ⟨trivial, ?_⟩
                          intro t
                          intro h_lives
                          replace h_lives : (b2i t) = 1 := h_lives
                          show (b2i t) = 1
                          assumption
                        · show (b2i false) = 1
                          exfalso; omega
                      · show (b2i false) = 1
                        exfalso; omega
                    · show (b2i false) = 1
                      exfalso; omega
                  · show (b2i false) = 1
                    exfalso; omega
                · show (b2i false) = 1
                  exfalso; omega
              · show (b2i false) = 1
                exfalso; omega
            · show (b2i false) = 1
              exfalso; omega
          · show (b2i false) = 1
            exfalso; omega
    · refine ⟨trivial, ?_⟩
      intro n3 l_n3 u_n3
      intro n4 l_n4 u_n4
      intro h_wmul
      replace h_wmul : w128 n3 n4 = n * n1 := h_wmul
      have : w128 n3 n4 = n3 * 18446744073709551616 + n4 := rfl
      have := mul_s64 l_n u_n l_n1 u_n1
      refine ⟨trivial, ?_⟩
      intro n5 l_n5 u_n5
      intro n6 l_n6 u_n6
      intro h_wmul1
      replace h_wmul1 : w128 n5 n6 = n * n2 := h_wmul1
      have : w128 n5 n6 = n5 * 18446744073709551616 + n6 := rfl
      have := mul_s64 l_n u_n l_n2 u_n2
      refine ⟨trivial, ?_⟩
      intro n7 l_n7 u_n7
      intro n8 l_n8 u_n8
      intro n9 l_n9 u_n9
      intro h_wadd
      replace h_wadd : tellW (w128 n3 n4 + w128 n5 n6) n7 n8 n9 := h_wadd
      have : w128 n3 n4 = n3 * 18446744073709551616 + n4 := rfl
      have : w128 n5 n6 = n5 * 18446744073709551616 + n6 := rfl
      have : w128 n7 n8 = n7 * 18446744073709551616 + n8 := rfl
      replace h_wadd := tell_or h_wadd
      intro b
      refine ⟨trivial, ?_⟩
      intro n10 l_n10 u_n10
      intro n11 l_n11 u_n11
      intro h_wof
      replace h_wof : w128 n10 n11 = (0 : Int) := h_wof
      have : w128 n10 n11 = n10 * 18446744073709551616 + n11 := rfl
      refine ⟨trivial, ?_⟩
      intro n12 l_n12 u_n12
      intro n13 l_n13 u_n13
      intro h_wmul2
      replace h_wmul2 : w128 n12 n13 = n * n1 := h_wmul2
      have : w128 n12 n13 = n12 * 18446744073709551616 + n13 := rfl
      have := mul_s64 l_n u_n l_n1 u_n1
      refine ⟨trivial, ?_⟩
      intro n14 l_n14 u_n14
      intro n15 l_n15 u_n15
      intro n16 l_n16 u_n16
      intro h_wsub
      replace h_wsub : tellW (w128 n10 n11 - w128 n12 n13) n14 n15 n16 := h_wsub
      have : w128 n10 n11 = n10 * 18446744073709551616 + n11 := rfl
      have : w128 n12 n13 = n12 * 18446744073709551616 + n13 := rfl
      have : w128 n14 n15 = n14 * 18446744073709551616 + n15 := rfl
      replace h_wsub := tell_or h_wsub
      intro b1
      refine ⟨trivial, ?_⟩
      intro n17 l_n17 u_n17
      intro n18 l_n18 u_n18
      intro h_wof1
      replace h_wof1 : w128 n17 n18 = n := h_wof1
      have : w128 n17 n18 = n17 * 18446744073709551616 + n18 := rfl
      refine ⟨trivial, ?_⟩
      intro n19 l_n19 u_n19
      intro n20 l_n20 u_n20
      intro n21 l_n21 u_n21
      intro h_wtms
      replace h_wtms : tellW (w128 n17 n18 * n1) n19 n20 n21 := h_wtms
      rw [show w128 n17 n18 = n from h_wof1] at h_wtms
      have : w128 n17 n18 = n17 * 18446744073709551616 + n18 := rfl
      have : w128 n19 n20 = n19 * 18446744073709551616 + n20 := rfl
      replace h_wtms := tell_or h_wtms
      intro b2
      refine ⟨trivial, ?_⟩
      intro n22 l_n22 u_n22
      intro n23 l_n23 u_n23
      intro n24 l_n24 u_n24
      intro h_wadd1
      replace h_wadd1 : tellW (w128 n19 n20 + w128 n19 n20) n22 n23 n24 := h_wadd1
      have : w128 n19 n20 = n19 * 18446744073709551616 + n20 := rfl
      have : w128 n22 n23 = n22 * 18446744073709551616 + n23 := rfl
      replace h_wadd1 := tell_or h_wadd1
      intro b3
      refine ⟨trivial, ?_⟩
      intro n25 l_n25 u_n25
      intro n26 l_n26 u_n26
      intro n27 l_n27 u_n27
      intro h_wtms1
      replace h_wtms1 : tellW (w128 n19 n20 * (2 : Int)) n25 n26 n27 := h_wtms1
      have : w128 n19 n20 = n19 * 18446744073709551616 + n20 := rfl
      have : w128 n25 n26 = n25 * 18446744073709551616 + n26 := rfl
      replace h_wtms1 := tell_or h_wtms1
      intro b4
      refine ⟨fun c2 => ?_, fun c2 => ?_⟩
      · intro n28 e_n28 l_n28 u_n28
        simp only [wrap_i64] at e_n28
        have : n * n28 = n * n1 + n * n2 := by rw [show n28 = n1 + n2 by omega]; grind
        refine ⟨trivial, ?_⟩
        intro n29 l_n29 u_n29
        intro n30 l_n30 u_n30
        intro h_wmul3
        replace h_wmul3 : w128 n29 n30 = n * n28 := h_wmul3
        have : w128 n29 n30 = n29 * 18446744073709551616 + n30 := rfl
        have := mul_s64 l_n u_n l_n28 u_n28
        refine ⟨fun c3 => ?_, fun c3 => ?_⟩
        · refine ⟨fun c4 => ?_, fun c4 => ?_⟩
          · refine ⟨trivial, ?_⟩
            intro t
            intro h_lives
            replace h_lives : (b2i t) = 1 := h_lives
            show (b2i t) = 1
            assumption
          · show (b2i false) = 1
            exfalso; omega
        · show (b2i false) = 1
          exfalso; omega
      · intro n28 e_n28 l_n28 u_n28
        simp only [wrap_i64] at e_n28
        have : n * n28 = n * n1 + n * n2 := by rw [show n28 = n1 + n2 by omega]; grind
        refine ⟨trivial, ?_⟩
        intro n29 l_n29 u_n29
        intro n30 l_n30 u_n30
        intro h_wmul3
        replace h_wmul3 : w128 n29 n30 = n * n28 := h_wmul3
        have : w128 n29 n30 = n29 * 18446744073709551616 + n30 := rfl
        have := mul_s64 l_n u_n l_n28 u_n28
        refine ⟨fun c3 => ?_, fun c3 => ?_⟩
        · refine ⟨fun c4 => ?_, fun c4 => ?_⟩
          · intro n31 e_n31 l_n31 u_n31
            simp only [wrap_i64] at e_n31
            have : n * n31 = -(n * n1) := by rw [show n31 = -n1 by omega]; grind
            refine ⟨trivial, ?_⟩
            intro n32 l_n32 u_n32
            intro n33 l_n33 u_n33
            intro h_wmul4
            replace h_wmul4 : w128 n32 n33 = n * n31 := h_wmul4
            have : w128 n32 n33 = n32 * 18446744073709551616 + n33 := rfl
            have := mul_s64 l_n u_n l_n31 u_n31
            refine ⟨fun c5 => ?_, fun c5 => ?_⟩
            · refine ⟨fun c6 => ?_, fun c6 => ?_⟩
              · refine ⟨trivial, ?_⟩
                intro n34 l_n34 u_n34
                intro n35 l_n35 u_n35
                intro h_wmul5
                replace h_wmul5 : w128 n34 n35 = n * n1 := h_wmul5
                have : w128 n34 n35 = n34 * 18446744073709551616 + n35 := rfl
                have := mul_s64 l_n u_n l_n1 u_n1
                refine ⟨fun c7 => ?_, fun c7 => ?_⟩
                · refine ⟨fun c8 => ?_, fun c8 => ?_⟩
                  · refine ⟨fun c9 => ?_, fun c9 => ?_⟩
                    · refine ⟨fun c10 => ?_, fun c10 => ?_⟩
                      · refine ⟨trivial, ?_⟩
                        intro t
                        intro h_lives
                        replace h_lives : (b2i t) = 1 := h_lives
                        show (b2i t) = 1
                        assumption
                      · show (b2i false) = 1
                        exfalso; omega
                    · show (b2i false) = 1
                      exfalso; omega
                  · show (b2i false) = 1
                    exfalso; omega
                · show (b2i false) = 1
                  exfalso; omega
              · show (b2i false) = 1
                exfalso; omega
            · show (b2i false) = 1
              exfalso; omega
          · show (b2i false) = 1
            exfalso; omega
        · show (b2i false) = 1
          exfalso; omega

end Go.Proofs.Ytdocimmchckjiaa.Sx
