/-
  Every contract holds. Printed by a program of our own.
-/
import Derived.Test.YtakpbbponhamaaaRpd
import Derived.Test.YtakpbbponhamaaaRpf
import Derived.Test.YtakpbbponhamaaaRph
import Derived.Test.YtakpbbponhamaaaRpk
namespace Go.Proofs.Ytakpbbponhamaaa.Sx
open Go Go.RowKit

theorem v1 : Valid Try.prog tab1 E := step_len64 v0 p_len64
theorem v2 : Valid Try.prog tab2 E := step_mul64 v1 p_mul64
theorem v3 : Valid Try.prog tab3 E := step_compare v2 p_compare
theorem v4 : Valid Try.prog tab4 E := step_plus v3 p_plus
theorem v5 : Valid Try.prog tab5 E := step_less v4 p_less
theorem v6 : Valid Try.prog tab6 E := step_product v5 p_product
theorem v7 : Valid Try.prog tab7 E := step_read v6 p_read
theorem v8 : Valid Try.prog tab8 E := step_minus v7 p_minus
theorem v9 : Valid Try.prog tab9 E := step_sum v8 p_sum
theorem v10 : Valid Try.prog tab10 E := step_above v9 p_above
theorem v11 : Valid Try.prog tab11 E := step_cmpi64 v10 p_cmpi64
theorem v12 : Valid Try.prog tab12 E := step_cmpu64 v11 p_cmpu64
theorem v13 : Valid Try.prog tab13 E := step_wcmp v12 p_wcmp
theorem v14 : Valid Try.prog tab14 E := step_wof v13 p_wof
theorem v15 : Valid Try.prog tab15 E := step_narrow1 v14 p_narrow1
theorem v16 : Valid Try.prog tab16 E := step_narrow2 v15 p_narrow2
theorem v17 : Valid Try.prog tab17 E := step_wide1 v16 p_wide1
theorem v18 : Valid Try.prog tab18 E := step_wide2 v17 p_wide2
theorem v19 : Valid Try.prog tab19 E := step_rootnarrow v18 p_rootnarrow
theorem v20 : Valid Try.prog tab20 E := step_rootwide v19 p_rootwide
theorem v21 : Valid Try.prog tab21 E := step_mknarrow v20 p_mknarrow
theorem v22 : Valid Try.prog tab22 E := step_mkwide v21 p_mkwide
theorem v23 : Valid Try.prog tab23 E := step_root v22 p_root
theorem v24 : Valid Try.prog tab24 E := step_rootWide v23 p_rootWide
theorem v25 : Valid Try.prog tab25 E := step_sqrt v24 p_sqrt
theorem v26 : Valid Try.prog tab26 E := step_log v25 p_log
theorem v27 : Valid Try.prog tab27 E := step_rnum v26 p_rnum
theorem v28 : Valid Try.prog tab28 E := step_rroot v27 p_rroot
theorem v29 : Valid Try.prog tab29 E := step_rRoot v28 p_rRoot
theorem v30 : Valid Try.prog tab30 E := step_rRootWide v29 p_rRootWide
theorem v31 : Valid Try.prog tab31 E := step_rSqrt v30 p_rSqrt
theorem v32 : Valid Try.prog tab32 E := step_rLog v31 p_rLog
theorem v33 : Valid Try.prog tab33 E := step_lproduct v32 p_lproduct
theorem v34 : Valid Try.prog tab34 E := step_lives v33 p_lives
theorem vAll : Valid Try.prog tab34 E := v34

end Go.Proofs.Ytakpbbponhamaaa.Sx
