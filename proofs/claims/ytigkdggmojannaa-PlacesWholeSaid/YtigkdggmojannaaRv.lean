/-
  Every contract holds. Printed by a program of our own.
-/
import Derived.Test.YtigkdggmojannaaWd
import Derived.Test.YtigkdggmojannaaWf
import Derived.Test.YtigkdggmojannaaPb
import Derived.Test.YtigkdggmojannaaWi
namespace Go.Proofs.Ytigkdggmojannaa.Sx
open Go Go.RowKit

theorem v1 : Valid Try.prog tab1 E := step_len64 v0 p_len64
theorem v2 : Valid Try.prog tab2 E := step_mul64 v1 p_mul64
theorem v3 : Valid Try.prog tab3 E := step_compare v2 p_compare
theorem v4 : Valid Try.prog tab4 E := step_plus v3 p_plus
theorem v5 : Valid Try.prog tab5 E := step_less v4 p_less
theorem v6 : Valid Try.prog tab6 E := step_product v5 p_product
theorem v7 : Valid Try.prog tab7 E := step_read v6 p_read
theorem v8 : Valid Try.prog tab8 E := step_minus v7 p_minus
theorem v9 : Valid Try.prog tab9 E := step_sum v8 p_sum
theorem v10 : Valid Try.prog tab10 E := step_cmpi64 v9 p_cmpi64
theorem v11 : Valid Try.prog tab11 E := step_cmpu64 v10 p_cmpu64
theorem v12 : Valid Try.prog tab12 E := step_wcmp v11 p_wcmp
theorem v13 : Valid Try.prog tab13 E := step_wof v12 p_wof
theorem v14 : Valid Try.prog tab14 E := step_lz64 v13 p_lz64
theorem v15 : Valid Try.prog tab15 E := step_div64 v14 p_div64
theorem v16 : Valid Try.prog tab16 E := step_turned v15 p_turned
theorem v17 : Valid Try.prog tab17 E := step_part v16 p_part
theorem v18 : Valid Try.prog tab18 E := step_whole v17 p_whole
theorem v19 : Valid Try.prog tab19 E := step_wtimes v18 p_wtimes
theorem v20 : Valid Try.prog tab20 E := step_size v19 p_size
theorem v21 : Valid Try.prog tab21 E := step_wadd v20 p_wadd
theorem v22 : Valid Try.prog tab22 E := step_wsub v21 p_wsub
theorem v23 : Valid Try.prog tab23 E := step_wtms v22 p_wtms
theorem v24 : Valid Try.prog tab24 E := step_wdivided v23 p_wdivided
theorem v25 : Valid Try.prog tab25 E := step_wfloor v24 p_wfloor
theorem v26 : Valid Try.prog tab26 E := step_wnear v25 p_wnear
theorem v27 : Valid Try.prog tab27 E := step_wint v26 p_wint
theorem v28 : Valid Try.prog tab28 E := step_zero v27 p_zero
theorem v29 : Valid Try.prog tab29 E := step_rof v28 p_rof
theorem v30 : Valid Try.prog tab30 E := step_small v29 p_small
theorem v31 : Valid Try.prog tab31 E := step_tell v30 p_tell
theorem v32 : Valid Try.prog tab32 E := step_divided v31 p_divided
theorem v33 : Valid Try.prog tab33 E := step_nearest v32 p_nearest
theorem v34 : Valid Try.prog tab34 E := step_rcmp v33 p_rcmp
theorem v35 : Valid Try.prog tab35 E := step_rint v34 p_rint
theorem v36 : Valid Try.prog tab36 E := step_radd v35 p_radd
theorem v37 : Valid Try.prog tab37 E := step_rtms v36 p_rtms
theorem v38 : Valid Try.prog tab38 E := step_rmul v37 p_rmul
theorem v39 : Valid Try.prog tab39 E := step_rnear v38 p_rnear
theorem v40 : Valid Try.prog tab40 E := step_psmall v39 p_psmall
theorem v41 : Valid Try.prog tab41 E := step_psnap v40 p_psnap
theorem v42 : Valid Try.prog tab42 E := step_pplace v41 p_pplace
theorem v43 : Valid Try.prog tab43 E := step_rmay v42 p_rmay
theorem v44 : Valid Try.prog tab44 E := step_rline v43 p_rline
theorem v45 : Valid Try.prog tab45 E := step_rsnap v44 p_rsnap
theorem v46 : Valid Try.prog tab46 E := step_rplace v45 p_rplace
theorem v47 : Valid Try.prog tab47 E := step_lwholeN v46 p_lwholeN
theorem v48 : Valid Try.prog tab48 E := step_lives v47 p_lives
theorem vAll : Valid Try.prog tab48 E := v48

end Go.Proofs.Ytigkdggmojannaa.Sx
