
/-
  The law PowersOf, plainly.
-/
import Derived.Test.YtogcbmadcgjljaaDoorUa
import Derived.Test.YtogcbmadcgjljaaDoorUc
set_option linter.all false
set_option maxRecDepth 100000
namespace Go.Proofs.YtogcbmadcgjljaaDoor.Sx
open Go Go.RowKit

set_option maxHeartbeats 4000000 in
theorem p_rpow : P_rpow := by
  unfold P_rpow
  intro n l_n u_n
  intro n1 l_n1 u_n1
  intro hpre
  replace hpre : True := hpre
  have tm := tm65 n1
  have td := td65 l_n1 u_n1
  refine ⟨fun c0 => ?_, fun c0 => ?_⟩
  · show powTo n n1 (65536 : Int) (0 : Int)
    unfold powTo
    refine ⟨fun h => ?_, fun h1 h2 h3 => ?_, fun h1 h2 h3 => ?_, fun h1 h2 h3 => ?_, fun h1 h2 h3 => ?_⟩ <;> first | omega | exact ⟨rfl, rfl⟩
  · refine ⟨fun c1 => ?_, fun c1 => ?_⟩
    · refine ⟨fun c2 => ?_, fun c2 => ?_⟩
      · show powTo n n1 (0 : Int) (12 : Int)
        unfold powTo
        refine ⟨fun h => ?_, fun h1 h2 h3 => ?_, fun h1 h2 h3 => ?_, fun h1 h2 h3 => ?_, fun h1 h2 h3 => ?_⟩ <;> first | omega | exact ⟨rfl, rfl⟩
      · show powTo n n1 (0 : Int) (0 : Int)
        unfold powTo
        refine ⟨fun h => ?_, fun h1 h2 h3 => ?_, fun h1 h2 h3 => ?_, fun h1 h2 h3 => ?_, fun h1 h2 h3 => ?_⟩ <;> first | omega | exact ⟨rfl, rfl⟩
    · refine ⟨fun c2 => ?_, fun c2 => ?_⟩
      · refine ⟨fun c3 => ?_, fun c3 => ?_⟩
        · show powTo n n1 (0 : Int) (1 : Int)
          unfold powTo
          refine ⟨fun h => ?_, fun h1 h2 h3 => ?_, fun h1 h2 h3 => ?_, fun h1 h2 h3 => ?_, fun h1 h2 h3 => ?_⟩ <;> first | omega | exact ⟨rfl, rfl⟩
        · refine ⟨fun c4 => ?_, fun c4 => ?_⟩
          · intro n2 e_n2 l_n2 u_n2
            intro n3 e_n3 l_n3 u_n3
            simp only [wrap_u64, wrap_i64, wrap_i32, wrap_u32, wrap_u8] at e_n3
            refine ⟨by omega, ?_⟩
            refine ⟨by omega, ?_⟩
            intro n4 e_n4 l_n4 u_n4
            refine ⟨trivial, ?_⟩
            intro n5 l_n5 u_n5
            intro h_rlong
            replace h_rlong : n5 = longF n4 := h_rlong
            refine ⟨trivial, ?_⟩
            intro n6 l_n6 u_n6
            intro n7 l_n7 u_n7
            intro h_rmul
            replace h_rmul : w128 n6 n7 = n5 * n1 := h_rmul
            refine ⟨trivial, ?_⟩
            intro n8 l_n8 u_n8
            intro n9 l_n9 u_n9
            intro n10 l_n10 u_n10
            intro h_rnear
            replace h_rnear : (((16777216 : Int) < 1 → n8 = 0 ∧ n9 = 0 ∧ n10 = 1) ∧ (1 ≤ (16777216 : Int) → n10 = 0 ∧ isNear (w128 n6 n7) (16777216 : Int) (w128 n8 n9))) := h_rnear
            have hn := (h_rnear.2 (by omega)).2
            rw [h_rmul] at hn
            have hw := expo_is hn
            intro b
            refine ⟨trivial, ?_⟩
            intro n11 l_n11 u_n11
            intro t
            intro h_rint
            replace h_rint : isInt (w128 n8 n9) n11 (b2i t) := h_rint
            rw [hw] at h_rint
            have hb := mul_in (a := n5) (b := n1) (l1 := -17592186044416) (h1 := 17592186044416) (l2 := -2147483648) (h2 := 2147483647) ⟨l_n5, u_n5⟩ ⟨l_n1, u_n1⟩
            simp only [mn, mx] at hb
            simp at hb
            have hk := (h_rint.1 (by simp only [isI64]; generalize n5 * n1 = z at *; omega)).2
            have hk2 : n11 = roundE n4 n1 := by
              unfold roundE
              rw [hk, h_rlong]
            refine ⟨trivial, ?_⟩
            intro t1
            intro n12 l_n12 u_n12
            intro n13 l_n13 u_n13
            intro n14 l_n14 u_n14
            intro n15 l_n15 u_n15
            intro n16 l_n16 u_n16
            intro n17 l_n17 u_n17
            intro n18 l_n18 u_n18
            intro n19 l_n19 u_n19
            intro n20 l_n20 u_n20
            intro n21 l_n21 u_n21
            intro n22 l_n22 u_n22
            intro n23 l_n23 u_n23
            intro h_rtwo
            replace h_rtwo : (0 ≤ sv [b2i t1, n12, n13, n14, n15, n16, n17, n18, n19, n20, n21, n22, n23] ∧ sv [b2i t1, n12, n13, n14, n15, n16, n17, n18, n19, n20, n21, n22, n23] ≤ 1099511627776 ∧ vd [n12, n13, n14, n15, n16, n17, n18, n19, n20, n21, n22, n23] ≤ 1267650600228229401496703205376 ∧ clamp32 (sv [b2i t1, n12, n13, n14, n15, n16, n17, n18, n19, n20, n21, n22, n23]) = clamp32 (powF n11) ∧ clamp32 (-(sv [b2i t1, n12, n13, n14, n15, n16, n17, n18, n19, n20, n21, n22, n23])) = clamp32 (-(powF n11))) := h_rtwo
            intro b1
            refine ⟨fun c5 => ?_, fun c5 => ?_⟩
            · refine ⟨fun c6 => ?_, fun c6 => ?_⟩
              · rw [td] at c6
                refine ⟨trivial, ?_⟩
                intro t2
                intro n24 l_n24 u_n24
                intro n25 l_n25 u_n25
                intro n26 l_n26 u_n26
                intro n27 l_n27 u_n27
                intro n28 l_n28 u_n28
                intro n29 l_n29 u_n29
                intro n30 l_n30 u_n30
                intro n31 l_n31 u_n31
                intro n32 l_n32 u_n32
                intro n33 l_n33 u_n33
                intro n34 l_n34 u_n34
                intro n35 l_n35 u_n35
                intro h_minus
                replace h_minus : (((b2i t2) = 1 ↔ (b2i t1) ≠ 1) ∧ [n24, n25, n26, n27, n28, n29, n30, n31, n32, n33, n34, n35] = [n12, n13, n14, n15, n16, n17, n18, n19, n20, n21, n22, n23]) := h_minus
                have km0 := neg_sv (b2i_cases _) (b2i_cases _) h_minus
                clear h_minus
                refine ⟨?_, ?_⟩
                · show vd [n24, n25, n26, n27, n28, n29, n30, n31, n32, n33, n34, n35] ≤ 1267650600228229401496703205376
                  omega
                intro n36 l_n36 u_n36
                intro h_rhold1
                replace h_rhold1 : n36 = clamp32 (sv [b2i t2, n24, n25, n26, n27, n28, n29, n30, n31, n32, n33, n34, n35]) := h_rhold1
                show powTo n n1 n36 (0 : Int)
                unfold powTo
                refine ⟨fun h => by omega, fun h1 h2 h3 => by omega, fun h1 h2 h3 => by omega, fun h1 h2 h3 => by omega, fun h1 h2 h3 => ⟨rfl, ?_⟩⟩
                have hm : n4 = max n (-n) := by omega
                rw [hm] at hk2
                have ht := h_rtwo.2.2.2
                rw [hk2] at ht
                unfold powA expoF
                rw [powF_clamp]
                first
                  | (rw [if_pos ⟨by omega, by omega⟩, h_rhold1, km0.1]; exact ht.2)
                  | (rw [if_neg (by omega), h_rhold1]; exact ht.1)
              · rw [td] at c6
                refine ⟨?_, ?_⟩
                · show vd [n12, n13, n14, n15, n16, n17, n18, n19, n20, n21, n22, n23] ≤ 1267650600228229401496703205376
                  omega
                intro n24 l_n24 u_n24
                intro h_rhold1
                replace h_rhold1 : n24 = clamp32 (sv [b2i t1, n12, n13, n14, n15, n16, n17, n18, n19, n20, n21, n22, n23]) := h_rhold1
                show powTo n n1 n24 (0 : Int)
                unfold powTo
                refine ⟨fun h => by omega, fun h1 h2 h3 => by omega, fun h1 h2 h3 => by omega, fun h1 h2 h3 => by omega, fun h1 h2 h3 => ⟨rfl, ?_⟩⟩
                have hm : n4 = max n (-n) := by omega
                rw [hm] at hk2
                have ht := h_rtwo.2.2.2
                rw [hk2] at ht
                unfold powA expoF
                rw [powF_clamp]
                first
                  | (rw [if_pos ⟨by omega, by omega⟩, h_rhold1, km0.1]; exact ht.2)
                  | (rw [if_neg (by omega), h_rhold1]; exact ht.1)
            · refine ⟨?_, ?_⟩
              · show vd [n12, n13, n14, n15, n16, n17, n18, n19, n20, n21, n22, n23] ≤ 1267650600228229401496703205376
                omega
              intro n24 l_n24 u_n24
              intro h_rhold1
              replace h_rhold1 : n24 = clamp32 (sv [b2i t1, n12, n13, n14, n15, n16, n17, n18, n19, n20, n21, n22, n23]) := h_rhold1
              show powTo n n1 n24 (0 : Int)
              unfold powTo
              refine ⟨fun h => by omega, fun h1 h2 h3 => by omega, fun h1 h2 h3 => by omega, fun h1 h2 h3 => by omega, fun h1 h2 h3 => ⟨rfl, ?_⟩⟩
              have hm : n4 = max n (-n) := by omega
              rw [hm] at hk2
              have ht := h_rtwo.2.2.2
              rw [hk2] at ht
              unfold powA expoF
              rw [powF_clamp]
              first
                | (rw [if_pos ⟨by omega, by omega⟩, h_rhold1, km0.1]; exact ht.2)
                | (rw [if_neg (by omega), h_rhold1]; exact ht.1)
          · intro n2 e_n2 l_n2 u_n2
            simp only [wrap_u64, wrap_i64, wrap_i32, wrap_u32, wrap_u8] at e_n2
            refine ⟨by omega, ?_⟩
            refine ⟨by omega, ?_⟩
            intro n3 e_n3 l_n3 u_n3
            refine ⟨trivial, ?_⟩
            intro n4 l_n4 u_n4
            intro h_rlong
            replace h_rlong : n4 = longF n3 := h_rlong
            refine ⟨trivial, ?_⟩
            intro n5 l_n5 u_n5
            intro n6 l_n6 u_n6
            intro h_rmul
            replace h_rmul : w128 n5 n6 = n4 * n1 := h_rmul
            refine ⟨trivial, ?_⟩
            intro n7 l_n7 u_n7
            intro n8 l_n8 u_n8
            intro n9 l_n9 u_n9
            intro h_rnear
            replace h_rnear : (((16777216 : Int) < 1 → n7 = 0 ∧ n8 = 0 ∧ n9 = 1) ∧ (1 ≤ (16777216 : Int) → n9 = 0 ∧ isNear (w128 n5 n6) (16777216 : Int) (w128 n7 n8))) := h_rnear
            have hn := (h_rnear.2 (by omega)).2
            rw [h_rmul] at hn
            have hw := expo_is hn
            intro b
            refine ⟨trivial, ?_⟩
            intro n10 l_n10 u_n10
            intro t
            intro h_rint
            replace h_rint : isInt (w128 n7 n8) n10 (b2i t) := h_rint
            rw [hw] at h_rint
            have hb := mul_in (a := n4) (b := n1) (l1 := -17592186044416) (h1 := 17592186044416) (l2 := -2147483648) (h2 := 2147483647) ⟨l_n4, u_n4⟩ ⟨l_n1, u_n1⟩
            simp only [mn, mx] at hb
            simp at hb
            have hk := (h_rint.1 (by simp only [isI64]; generalize n4 * n1 = z at *; omega)).2
            have hk2 : n10 = roundE n3 n1 := by
              unfold roundE
              rw [hk, h_rlong]
            refine ⟨trivial, ?_⟩
            intro t1
            intro n11 l_n11 u_n11
            intro n12 l_n12 u_n12
            intro n13 l_n13 u_n13
            intro n14 l_n14 u_n14
            intro n15 l_n15 u_n15
            intro n16 l_n16 u_n16
            intro n17 l_n17 u_n17
            intro n18 l_n18 u_n18
            intro n19 l_n19 u_n19
            intro n20 l_n20 u_n20
            intro n21 l_n21 u_n21
            intro n22 l_n22 u_n22
            intro h_rtwo
            replace h_rtwo : (0 ≤ sv [b2i t1, n11, n12, n13, n14, n15, n16, n17, n18, n19, n20, n21, n22] ∧ sv [b2i t1, n11, n12, n13, n14, n15, n16, n17, n18, n19, n20, n21, n22] ≤ 1099511627776 ∧ vd [n11, n12, n13, n14, n15, n16, n17, n18, n19, n20, n21, n22] ≤ 1267650600228229401496703205376 ∧ clamp32 (sv [b2i t1, n11, n12, n13, n14, n15, n16, n17, n18, n19, n20, n21, n22]) = clamp32 (powF n10) ∧ clamp32 (-(sv [b2i t1, n11, n12, n13, n14, n15, n16, n17, n18, n19, n20, n21, n22])) = clamp32 (-(powF n10))) := h_rtwo
            intro b1
            refine ⟨fun c5 => ?_, fun c5 => ?_⟩
            · refine ⟨fun c6 => ?_, fun c6 => ?_⟩
              · rw [td] at c6
                refine ⟨trivial, ?_⟩
                intro t2
                intro n23 l_n23 u_n23
                intro n24 l_n24 u_n24
                intro n25 l_n25 u_n25
                intro n26 l_n26 u_n26
                intro n27 l_n27 u_n27
                intro n28 l_n28 u_n28
                intro n29 l_n29 u_n29
                intro n30 l_n30 u_n30
                intro n31 l_n31 u_n31
                intro n32 l_n32 u_n32
                intro n33 l_n33 u_n33
                intro n34 l_n34 u_n34
                intro h_minus
                replace h_minus : (((b2i t2) = 1 ↔ (b2i t1) ≠ 1) ∧ [n23, n24, n25, n26, n27, n28, n29, n30, n31, n32, n33, n34] = [n11, n12, n13, n14, n15, n16, n17, n18, n19, n20, n21, n22]) := h_minus
                have km0 := neg_sv (b2i_cases _) (b2i_cases _) h_minus
                clear h_minus
                refine ⟨?_, ?_⟩
                · show vd [n23, n24, n25, n26, n27, n28, n29, n30, n31, n32, n33, n34] ≤ 1267650600228229401496703205376
                  omega
                intro n35 l_n35 u_n35
                intro h_rhold1
                replace h_rhold1 : n35 = clamp32 (sv [b2i t2, n23, n24, n25, n26, n27, n28, n29, n30, n31, n32, n33, n34]) := h_rhold1
                show powTo n n1 n35 (0 : Int)
                unfold powTo
                refine ⟨fun h => by omega, fun h1 h2 h3 => by omega, fun h1 h2 h3 => by omega, fun h1 h2 h3 => by omega, fun h1 h2 h3 => ⟨rfl, ?_⟩⟩
                have hm : n3 = max n (-n) := by omega
                rw [hm] at hk2
                have ht := h_rtwo.2.2.2
                rw [hk2] at ht
                unfold powA expoF
                rw [powF_clamp]
                first
                  | (rw [if_pos ⟨by omega, by omega⟩, h_rhold1, km0.1]; exact ht.2)
                  | (rw [if_neg (by omega), h_rhold1]; exact ht.1)
              · rw [td] at c6
                refine ⟨?_, ?_⟩
                · show vd [n11, n12, n13, n14, n15, n16, n17, n18, n19, n20, n21, n22] ≤ 1267650600228229401496703205376
                  omega
                intro n23 l_n23 u_n23
                intro h_rhold1
                replace h_rhold1 : n23 = clamp32 (sv [b2i t1, n11, n12, n13, n14, n15, n16, n17, n18, n19, n20, n21, n22]) := h_rhold1
                show powTo n n1 n23 (0 : Int)
                unfold powTo
                refine ⟨fun h => by omega, fun h1 h2 h3 => by omega, fun h1 h2 h3 => by omega, fun h1 h2 h3 => by omega, fun h1 h2 h3 => ⟨rfl, ?_⟩⟩
                have hm : n3 = max n (-n) := by omega
                rw [hm] at hk2
                have ht := h_rtwo.2.2.2
                rw [hk2] at ht
                unfold powA expoF
                rw [powF_clamp]
                first
                  | (rw [if_pos ⟨by omega, by omega⟩, h_rhold1, km0.1]; exact ht.2)
                  | (rw [if_neg (by omega), h_rhold1]; exact ht.1)
            · refine ⟨?_, ?_⟩
              · show vd [n11, n12, n13, n14, n15, n16, n17, n18, n19, n20, n21, n22] ≤ 1267650600228229401496703205376
                omega
              intro n23 l_n23 u_n23
              intro h_rhold1
              replace h_rhold1 : n23 = clamp32 (sv [b2i t1, n11, n12, n13, n14, n15, n16, n17, n18, n19, n20, n21, n22]) := h_rhold1
              show powTo n n1 n23 (0 : Int)
              unfold powTo
              refine ⟨fun h => by omega, fun h1 h2 h3 => by omega, fun h1 h2 h3 => by omega, fun h1 h2 h3 => by omega, fun h1 h2 h3 => ⟨rfl, ?_⟩⟩
              have hm : n3 = max n (-n) := by omega
              rw [hm] at hk2
              have ht := h_rtwo.2.2.2
              rw [hk2] at ht
              unfold powA expoF
              rw [powF_clamp]
              first
                | (rw [if_pos ⟨by omega, by omega⟩, h_rhold1, km0.1]; exact ht.2)
                | (rw [if_neg (by omega), h_rhold1]; exact ht.1)
      · refine ⟨fun c3 => ?_, fun c3 => ?_⟩
        · intro n2 e_n2 l_n2 u_n2
          intro n3 e_n3 l_n3 u_n3
          simp only [wrap_u64, wrap_i64, wrap_i32, wrap_u32, wrap_u8] at e_n3
          refine ⟨by omega, ?_⟩
          refine ⟨by omega, ?_⟩
          intro n4 e_n4 l_n4 u_n4
          refine ⟨trivial, ?_⟩
          intro n5 l_n5 u_n5
          intro h_rlong
          replace h_rlong : n5 = longF n4 := h_rlong
          refine ⟨trivial, ?_⟩
          intro n6 l_n6 u_n6
          intro n7 l_n7 u_n7
          intro h_rmul
          replace h_rmul : w128 n6 n7 = n5 * n1 := h_rmul
          refine ⟨trivial, ?_⟩
          intro n8 l_n8 u_n8
          intro n9 l_n9 u_n9
          intro n10 l_n10 u_n10
          intro h_rnear
          replace h_rnear : (((16777216 : Int) < 1 → n8 = 0 ∧ n9 = 0 ∧ n10 = 1) ∧ (1 ≤ (16777216 : Int) → n10 = 0 ∧ isNear (w128 n6 n7) (16777216 : Int) (w128 n8 n9))) := h_rnear
          have hn := (h_rnear.2 (by omega)).2
          rw [h_rmul] at hn
          have hw := expo_is hn
          intro b
          refine ⟨trivial, ?_⟩
          intro n11 l_n11 u_n11
          intro t
          intro h_rint
          replace h_rint : isInt (w128 n8 n9) n11 (b2i t) := h_rint
          rw [hw] at h_rint
          have hb := mul_in (a := n5) (b := n1) (l1 := -17592186044416) (h1 := 17592186044416) (l2 := -2147483648) (h2 := 2147483647) ⟨l_n5, u_n5⟩ ⟨l_n1, u_n1⟩
          simp only [mn, mx] at hb
          simp at hb
          have hk := (h_rint.1 (by simp only [isI64]; generalize n5 * n1 = z at *; omega)).2
          have hk2 : n11 = roundE n4 n1 := by
            unfold roundE
            rw [hk, h_rlong]
          refine ⟨trivial, ?_⟩
          intro t1
          intro n12 l_n12 u_n12
          intro n13 l_n13 u_n13
          intro n14 l_n14 u_n14
          intro n15 l_n15 u_n15
          intro n16 l_n16 u_n16
          intro n17 l_n17 u_n17
          intro n18 l_n18 u_n18
          intro n19 l_n19 u_n19
          intro n20 l_n20 u_n20
          intro n21 l_n21 u_n21
          intro n22 l_n22 u_n22
          intro n23 l_n23 u_n23
          intro h_rtwo
          replace h_rtwo : (0 ≤ sv [b2i t1, n12, n13, n14, n15, n16, n17, n18, n19, n20, n21, n22, n23] ∧ sv [b2i t1, n12, n13, n14, n15, n16, n17, n18, n19, n20, n21, n22, n23] ≤ 1099511627776 ∧ vd [n12, n13, n14, n15, n16, n17, n18, n19, n20, n21, n22, n23] ≤ 1267650600228229401496703205376 ∧ clamp32 (sv [b2i t1, n12, n13, n14, n15, n16, n17, n18, n19, n20, n21, n22, n23]) = clamp32 (powF n11) ∧ clamp32 (-(sv [b2i t1, n12, n13, n14, n15, n16, n17, n18, n19, n20, n21, n22, n23])) = clamp32 (-(powF n11))) := h_rtwo
          intro b1
          refine ⟨fun c4 => ?_, fun c4 => ?_⟩
          · refine ⟨fun c5 => ?_, fun c5 => ?_⟩
            · rw [td] at c5
              refine ⟨trivial, ?_⟩
              intro t2
              intro n24 l_n24 u_n24
              intro n25 l_n25 u_n25
              intro n26 l_n26 u_n26
              intro n27 l_n27 u_n27
              intro n28 l_n28 u_n28
              intro n29 l_n29 u_n29
              intro n30 l_n30 u_n30
              intro n31 l_n31 u_n31
              intro n32 l_n32 u_n32
              intro n33 l_n33 u_n33
              intro n34 l_n34 u_n34
              intro n35 l_n35 u_n35
              intro h_minus
              replace h_minus : (((b2i t2) = 1 ↔ (b2i t1) ≠ 1) ∧ [n24, n25, n26, n27, n28, n29, n30, n31, n32, n33, n34, n35] = [n12, n13, n14, n15, n16, n17, n18, n19, n20, n21, n22, n23]) := h_minus
              have km0 := neg_sv (b2i_cases _) (b2i_cases _) h_minus
              clear h_minus
              refine ⟨?_, ?_⟩
              · show vd [n24, n25, n26, n27, n28, n29, n30, n31, n32, n33, n34, n35] ≤ 1267650600228229401496703205376
                omega
              intro n36 l_n36 u_n36
              intro h_rhold1
              replace h_rhold1 : n36 = clamp32 (sv [b2i t2, n24, n25, n26, n27, n28, n29, n30, n31, n32, n33, n34, n35]) := h_rhold1
              show powTo n n1 n36 (0 : Int)
              unfold powTo
              refine ⟨fun h => by omega, fun h1 h2 h3 => by omega, fun h1 h2 h3 => by omega, fun h1 h2 h3 => by omega, fun h1 h2 h3 => ⟨rfl, ?_⟩⟩
              have hm : n4 = max n (-n) := by omega
              rw [hm] at hk2
              have ht := h_rtwo.2.2.2
              rw [hk2] at ht
              unfold powA expoF
              rw [powF_clamp]
              first
                | (rw [if_pos ⟨by omega, by omega⟩, h_rhold1, km0.1]; exact ht.2)
                | (rw [if_neg (by omega), h_rhold1]; exact ht.1)
            · rw [td] at c5
              refine ⟨?_, ?_⟩
              · show vd [n12, n13, n14, n15, n16, n17, n18, n19, n20, n21, n22, n23] ≤ 1267650600228229401496703205376
                omega
              intro n24 l_n24 u_n24
              intro h_rhold1
              replace h_rhold1 : n24 = clamp32 (sv [b2i t1, n12, n13, n14, n15, n16, n17, n18, n19, n20, n21, n22, n23]) := h_rhold1
              show powTo n n1 n24 (0 : Int)
              unfold powTo
              refine ⟨fun h => by omega, fun h1 h2 h3 => by omega, fun h1 h2 h3 => by omega, fun h1 h2 h3 => by omega, fun h1 h2 h3 => ⟨rfl, ?_⟩⟩
              have hm : n4 = max n (-n) := by omega
              rw [hm] at hk2
              have ht := h_rtwo.2.2.2
              rw [hk2] at ht
              unfold powA expoF
              rw [powF_clamp]
              first
                | (rw [if_pos ⟨by omega, by omega⟩, h_rhold1, km0.1]; exact ht.2)
                | (rw [if_neg (by omega), h_rhold1]; exact ht.1)
          · refine ⟨?_, ?_⟩
            · show vd [n12, n13, n14, n15, n16, n17, n18, n19, n20, n21, n22, n23] ≤ 1267650600228229401496703205376
              omega
            intro n24 l_n24 u_n24
            intro h_rhold1
            replace h_rhold1 : n24 = clamp32 (sv [b2i t1, n12, n13, n14, n15, n16, n17, n18, n19, n20, n21, n22, n23]) := h_rhold1
            show powTo n n1 n24 (0 : Int)
            unfold powTo
            refine ⟨fun h => by omega, fun h1 h2 h3 => by omega, fun h1 h2 h3 => by omega, fun h1 h2 h3 => by omega, fun h1 h2 h3 => ⟨rfl, ?_⟩⟩
            have hm : n4 = max n (-n) := by omega
            rw [hm] at hk2
            have ht := h_rtwo.2.2.2
            rw [hk2] at ht
            unfold powA expoF
            rw [powF_clamp]
            first
              | (rw [if_pos ⟨by omega, by omega⟩, h_rhold1, km0.1]; exact ht.2)
              | (rw [if_neg (by omega), h_rhold1]; exact ht.1)
        · intro n2 e_n2 l_n2 u_n2
          simp only [wrap_u64, wrap_i64, wrap_i32, wrap_u32, wrap_u8] at e_n2
          refine ⟨by omega, ?_⟩
          refine ⟨by omega, ?_⟩
          intro n3 e_n3 l_n3 u_n3
          refine ⟨trivial, ?_⟩
          intro n4 l_n4 u_n4
          intro h_rlong
          replace h_rlong : n4 = longF n3 := h_rlong
          refine ⟨trivial, ?_⟩
          intro n5 l_n5 u_n5
          intro n6 l_n6 u_n6
          intro h_rmul
          replace h_rmul : w128 n5 n6 = n4 * n1 := h_rmul
          refine ⟨trivial, ?_⟩
          intro n7 l_n7 u_n7
          intro n8 l_n8 u_n8
          intro n9 l_n9 u_n9
          intro h_rnear
          replace h_rnear : (((16777216 : Int) < 1 → n7 = 0 ∧ n8 = 0 ∧ n9 = 1) ∧ (1 ≤ (16777216 : Int) → n9 = 0 ∧ isNear (w128 n5 n6) (16777216 : Int) (w128 n7 n8))) := h_rnear
          have hn := (h_rnear.2 (by omega)).2
          rw [h_rmul] at hn
          have hw := expo_is hn
          intro b
          refine ⟨trivial, ?_⟩
          intro n10 l_n10 u_n10
          intro t
          intro h_rint
          replace h_rint : isInt (w128 n7 n8) n10 (b2i t) := h_rint
          rw [hw] at h_rint
          have hb := mul_in (a := n4) (b := n1) (l1 := -17592186044416) (h1 := 17592186044416) (l2 := -2147483648) (h2 := 2147483647) ⟨l_n4, u_n4⟩ ⟨l_n1, u_n1⟩
          simp only [mn, mx] at hb
          simp at hb
          have hk := (h_rint.1 (by simp only [isI64]; generalize n4 * n1 = z at *; omega)).2
          have hk2 : n10 = roundE n3 n1 := by
            unfold roundE
            rw [hk, h_rlong]
          refine ⟨trivial, ?_⟩
          intro t1
          intro n11 l_n11 u_n11
          intro n12 l_n12 u_n12
          intro n13 l_n13 u_n13
          intro n14 l_n14 u_n14
          intro n15 l_n15 u_n15
          intro n16 l_n16 u_n16
          intro n17 l_n17 u_n17
          intro n18 l_n18 u_n18
          intro n19 l_n19 u_n19
          intro n20 l_n20 u_n20
          intro n21 l_n21 u_n21
          intro n22 l_n22 u_n22
          intro h_rtwo
          replace h_rtwo : (0 ≤ sv [b2i t1, n11, n12, n13, n14, n15, n16, n17, n18, n19, n20, n21, n22] ∧ sv [b2i t1, n11, n12, n13, n14, n15, n16, n17, n18, n19, n20, n21, n22] ≤ 1099511627776 ∧ vd [n11, n12, n13, n14, n15, n16, n17, n18, n19, n20, n21, n22] ≤ 1267650600228229401496703205376 ∧ clamp32 (sv [b2i t1, n11, n12, n13, n14, n15, n16, n17, n18, n19, n20, n21, n22]) = clamp32 (powF n10) ∧ clamp32 (-(sv [b2i t1, n11, n12, n13, n14, n15, n16, n17, n18, n19, n20, n21, n22])) = clamp32 (-(powF n10))) := h_rtwo
          intro b1
          refine ⟨fun c4 => ?_, fun c4 => ?_⟩
          · refine ⟨fun c5 => ?_, fun c5 => ?_⟩
            · rw [td] at c5
              refine ⟨trivial, ?_⟩
              intro t2
              intro n23 l_n23 u_n23
              intro n24 l_n24 u_n24
              intro n25 l_n25 u_n25
              intro n26 l_n26 u_n26
              intro n27 l_n27 u_n27
              intro n28 l_n28 u_n28
              intro n29 l_n29 u_n29
              intro n30 l_n30 u_n30
              intro n31 l_n31 u_n31
              intro n32 l_n32 u_n32
              intro n33 l_n33 u_n33
              intro n34 l_n34 u_n34
              intro h_minus
              replace h_minus : (((b2i t2) = 1 ↔ (b2i t1) ≠ 1) ∧ [n23, n24, n25, n26, n27, n28, n29, n30, n31, n32, n33, n34] = [n11, n12, n13, n14, n15, n16, n17, n18, n19, n20, n21, n22]) := h_minus
              have km0 := neg_sv (b2i_cases _) (b2i_cases _) h_minus
              clear h_minus
              refine ⟨?_, ?_⟩
              · show vd [n23, n24, n25, n26, n27, n28, n29, n30, n31, n32, n33, n34] ≤ 1267650600228229401496703205376
                omega
              intro n35 l_n35 u_n35
              intro h_rhold1
              replace h_rhold1 : n35 = clamp32 (sv [b2i t2, n23, n24, n25, n26, n27, n28, n29, n30, n31, n32, n33, n34]) := h_rhold1
              show powTo n n1 n35 (0 : Int)
              unfold powTo
              refine ⟨fun h => by omega, fun h1 h2 h3 => by omega, fun h1 h2 h3 => by omega, fun h1 h2 h3 => by omega, fun h1 h2 h3 => ⟨rfl, ?_⟩⟩
              have hm : n3 = max n (-n) := by omega
              rw [hm] at hk2
              have ht := h_rtwo.2.2.2
              rw [hk2] at ht
              unfold powA expoF
              rw [powF_clamp]
              first
                | (rw [if_pos ⟨by omega, by omega⟩, h_rhold1, km0.1]; exact ht.2)
                | (rw [if_neg (by omega), h_rhold1]; exact ht.1)
            · rw [td] at c5
              refine ⟨?_, ?_⟩
              · show vd [n11, n12, n13, n14, n15, n16, n17, n18, n19, n20, n21, n22] ≤ 1267650600228229401496703205376
                omega
              intro n23 l_n23 u_n23
              intro h_rhold1
              replace h_rhold1 : n23 = clamp32 (sv [b2i t1, n11, n12, n13, n14, n15, n16, n17, n18, n19, n20, n21, n22]) := h_rhold1
              show powTo n n1 n23 (0 : Int)
              unfold powTo
              refine ⟨fun h => by omega, fun h1 h2 h3 => by omega, fun h1 h2 h3 => by omega, fun h1 h2 h3 => by omega, fun h1 h2 h3 => ⟨rfl, ?_⟩⟩
              have hm : n3 = max n (-n) := by omega
              rw [hm] at hk2
              have ht := h_rtwo.2.2.2
              rw [hk2] at ht
              unfold powA expoF
              rw [powF_clamp]
              first
                | (rw [if_pos ⟨by omega, by omega⟩, h_rhold1, km0.1]; exact ht.2)
                | (rw [if_neg (by omega), h_rhold1]; exact ht.1)
          · refine ⟨?_, ?_⟩
            · show vd [n11, n12, n13, n14, n15, n16, n17, n18, n19, n20, n21, n22] ≤ 1267650600228229401496703205376
              omega
            intro n23 l_n23 u_n23
            intro h_rhold1
            replace h_rhold1 : n23 = clamp32 (sv [b2i t1, n11, n12, n13, n14, n15, n16, n17, n18, n19, n20, n21, n22]) := h_rhold1
            show powTo n n1 n23 (0 : Int)
            unfold powTo
            refine ⟨fun h => by omega, fun h1 h2 h3 => by omega, fun h1 h2 h3 => by omega, fun h1 h2 h3 => by omega, fun h1 h2 h3 => ⟨rfl, ?_⟩⟩
            have hm : n3 = max n (-n) := by omega
            rw [hm] at hk2
            have ht := h_rtwo.2.2.2
            rw [hk2] at ht
            unfold powA expoF
            rw [powF_clamp]
            first
              | (rw [if_pos ⟨by omega, by omega⟩, h_rhold1, km0.1]; exact ht.2)
              | (rw [if_neg (by omega), h_rhold1]; exact ht.1)

theorem pow_uniq {a n v e v' e' : Int} (h : powTo a n v e) (k : powTo a n v' e') : v = v' ∧ e = e' := by
  obtain ⟨h1, h2, h3, h4, h5⟩ := h
  obtain ⟨k1, k2, k3, k4, k5⟩ := k
  by_cases c1 : n = 0
  · have := h1 c1; have := k1 c1; omega
  by_cases c2 : a = 0
  · rcases Int.lt_trichotomy n 0 with z | z | z
    · have := h2 c1 c2 z; have := k2 c1 c2 z; omega
    · exact absurd z c1
    · have := h3 c1 c2 z; have := k3 c1 c2 z; omega
  by_cases c3 : a < 0 ∧ n % 65536 ≠ 0
  · have := h4 c1 c3.1 c3.2; have := k4 c1 c3.1 c3.2; omega
  · have := h5 c1 c2 c3; have := k5 c1 c2 c3; omega

theorem p_rsat : P_rsat := by
  unfold P_rsat
  intro n l_n u_n
  intro hpre
  replace hpre : True := hpre
  intro b
  refine ⟨trivial, ?_⟩
  intro t
  intro n1 l_n1 u_n1
  intro n2 l_n2 u_n2
  intro n3 l_n3 u_n3
  intro n4 l_n4 u_n4
  intro n5 l_n5 u_n5
  intro n6 l_n6 u_n6
  intro n7 l_n7 u_n7
  intro n8 l_n8 u_n8
  intro n9 l_n9 u_n9
  intro n10 l_n10 u_n10
  intro n11 l_n11 u_n11
  intro n12 l_n12 u_n12
  intro h_small
  replace h_small : (vd [n1, n2, n3, n4, n5, n6, n7, n8, n9, n10, n11, n12] ≤ 9223372036854775808 ∧ sv [b2i t, n1, n2, n3, n4, n5, n6, n7, n8, n9, n10, n11, n12] = n ∧ ((b2i t) = 1 ↔ n < 0)) := h_small
  intro b1
  refine ⟨trivial, ?_⟩
  intro t1
  intro n13 l_n13 u_n13
  intro n14 l_n14 u_n14
  intro n15 l_n15 u_n15
  intro n16 l_n16 u_n16
  intro n17 l_n17 u_n17
  intro n18 l_n18 u_n18
  intro n19 l_n19 u_n19
  intro n20 l_n20 u_n20
  intro n21 l_n21 u_n21
  intro n22 l_n22 u_n22
  intro n23 l_n23 u_n23
  intro n24 l_n24 u_n24
  intro h_small1
  replace h_small1 : (vd [n13, n14, n15, n16, n17, n18, n19, n20, n21, n22, n23, n24] ≤ 9223372036854775808 ∧ sv [b2i t1, n13, n14, n15, n16, n17, n18, n19, n20, n21, n22, n23, n24] = (1 : Int) ∧ ((b2i t1) = 1 ↔ (1 : Int) < 0)) := h_small1
  refine ⟨?_, ?_⟩
  · show (1 ≤ sv [b2i t1, n13, n14, n15, n16, n17, n18, n19, n20, n21, n22, n23, n24] ∧ vd [n13, n14, n15, n16, n17, n18, n19, n20, n21, n22, n23, n24] ≤ 4611686018427387904 ∧ vd [n13, n14, n15, n16, n17, n18, n19, n20, n21, n22, n23, n24] = sv [b2i t1, n13, n14, n15, n16, n17, n18, n19, n20, n21, n22, n23, n24] ∧ vd [n1, n2, n3, n4, n5, n6, n7, n8, n9, n10, n11, n12] ≤ 1267650600228229401496703205376)
    have z := sv_nn h_small1.2.1 h_small1.2.2 (by omega)
    refine ⟨?_, ?_, ?_, ?_⟩ <;> first | assumption | omega
  intro n25 l_n25 u_n25
  intro h_rhold
  replace h_rhold : (∃ x, isNear (sv [b2i t, n1, n2, n3, n4, n5, n6, n7, n8, n9, n10, n11, n12]) (sv [b2i t1, n13, n14, n15, n16, n17, n18, n19, n20, n21, n22, n23, n24]) x ∧ n25 = clamp32 x) := h_rhold
  obtain ⟨x, hx, hv⟩ := h_rhold
  rw [h_small.2.1, h_small1.2.1] at hx
  have hx2 := near_one hx
  show n25 = clamp32 n
  rw [hv, hx2]

theorem p_roots : P_roots := roots_new p_tround p_tnext

end Go.Proofs.YtogcbmadcgjljaaDoor.Sx
