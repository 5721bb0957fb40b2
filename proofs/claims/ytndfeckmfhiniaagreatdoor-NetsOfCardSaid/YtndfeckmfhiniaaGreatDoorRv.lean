/-
  Every contract holds. Printed by a program of our own.
-/
import Derived.Test.YtndfeckmfhiniaaGreatDoorRx
import Derived.Test.YtndfeckmfhiniaaGreatDoorWd
import Derived.Test.YtndfeckmfhiniaaGreatDoorWf
import Derived.Test.YtndfeckmfhiniaaGreatDoorWh
import Derived.Test.YtndfeckmfhiniaaGreatDoorWi
import Derived.Test.YtndfeckmfhiniaaGreatDoorDa
import Derived.Test.YtndfeckmfhiniaaGreatDoorPa
import Derived.Test.YtndfeckmfhiniaaGreatDoorNb
import Derived.Test.YtndfeckmfhiniaaGreatDoorNc
import Derived.Test.YtndfeckmfhiniaaGreatDoorNd
namespace Go.Proofs.YtndfeckmfhiniaaGreatDoor.Sx
open Go Go.RowKit

theorem v1 : Valid Tryz.prog tab1 E := step_len64 v0 p_len64
theorem v2 : Valid Tryz.prog tab2 E := step_mul64 v1 p_mul64
theorem v3 : Valid Tryz.prog tab3 E := step_compare v2 p_compare
theorem v4 : Valid Tryz.prog tab4 E := step_plus v3 p_plus
theorem v5 : Valid Tryz.prog tab5 E := step_less v4 p_less
theorem v6 : Valid Tryz.prog tab6 E := step_product v5 p_product
theorem v7 : Valid Tryz.prog tab7 E := step_read v6 p_read
theorem v8 : Valid Tryz.prog tab8 E := step_minus v7 p_minus
theorem v9 : Valid Tryz.prog tab9 E := step_sum v8 p_sum
theorem v10 : Valid Tryz.prog tab10 E := step_cmpi64 v9 p_cmpi64
theorem v11 : Valid Tryz.prog tab11 E := step_cmpu64 v10 p_cmpu64
theorem v12 : Valid Tryz.prog tab12 E := step_wcmp v11 p_wcmp
theorem v13 : Valid Tryz.prog tab13 E := step_wof v12 p_wof
theorem v14 : Valid Tryz.prog tab14 E := step_lz64 v13 p_lz64
theorem v15 : Valid Tryz.prog tab15 E := step_div64 v14 p_div64
theorem v16 : Valid Tryz.prog tab16 E := step_turned v15 p_turned
theorem v17 : Valid Tryz.prog tab17 E := step_part v16 p_part
theorem v18 : Valid Tryz.prog tab18 E := step_whole v17 p_whole
theorem v19 : Valid Tryz.prog tab19 E := step_wtimes v18 p_wtimes
theorem v20 : Valid Tryz.prog tab20 E := step_size v19 p_size
theorem v21 : Valid Tryz.prog tab21 E := step_wadd v20 p_wadd
theorem v22 : Valid Tryz.prog tab22 E := step_wsub v21 p_wsub
theorem v23 : Valid Tryz.prog tab23 E := step_wtms v22 p_wtms
theorem v24 : Valid Tryz.prog tab24 E := step_wmul v23 p_wmul
theorem v25 : Valid Tryz.prog tab25 E := step_wdivided v24 p_wdivided
theorem v26 : Valid Tryz.prog tab26 E := step_wfloor v25 p_wfloor
theorem v27 : Valid Tryz.prog tab27 E := step_wnear v26 p_wnear
theorem v28 : Valid Tryz.prog tab28 E := step_wint v27 p_wint
theorem v29 : Valid Tryz.prog tab29 E := step_zero v28 p_zero
theorem v30 : Valid Tryz.prog tab30 E := step_rof v29 p_rof
theorem v31 : Valid Tryz.prog tab31 E := step_small v30 p_small
theorem v32 : Valid Tryz.prog tab32 E := step_tell v31 p_tell
theorem v33 : Valid Tryz.prog tab33 E := step_divided v32 p_divided
theorem v34 : Valid Tryz.prog tab34 E := step_nearest v33 p_nearest
theorem v35 : Valid Tryz.prog tab35 E := step_rcmp v34 p_rcmp
theorem v36 : Valid Tryz.prog tab36 E := step_rint v35 p_rint
theorem v37 : Valid Tryz.prog tab37 E := step_radd v36 p_radd
theorem v38 : Valid Tryz.prog tab38 E := step_rtms v37 p_rtms
theorem v39 : Valid Tryz.prog tab39 E := step_rmul v38 p_rmul
theorem v40 : Valid Tryz.prog tab40 E := step_rnear v39 p_rnear
theorem v41 : Valid Tryz.prog tab41 E := step_greatest v40 p_greatest
theorem v42 : Valid Tryz.prog tab42 E := step_width v41 p_width
theorem v43 : Valid Tryz.prog tab43 E := step_led v42 p_led
theorem v44 : Valid Tryz.prog tab44 E := step_value v43 p_value
theorem v45 : Valid Tryz.prog tab45 E := step_rgreatest v44 p_rgreatest
theorem v46 : Valid Tryz.prog tab46 E := step_rtimes7 v45 p_rtimes7
theorem v47 : Valid Tryz.prog tab47 E := step_rvalue v46 p_rvalue
theorem v48 : Valid Tryz.prog tab48 E := step_psmall v47 p_psmall
theorem v49 : Valid Tryz.prog tab49 E := step_pplace v48 p_pplace
theorem v50 : Valid Tryz.prog tab50 E := step_rmay v49 p_rmay
theorem v51 : Valid Tryz.prog tab51 E := step_rline v50 p_rline
theorem v52 : Valid Tryz.prog tab52 E := step_rplace v51 p_rplace
theorem v53 : Valid Tryz.prog tab53 E := step_lcheck v52 p_lcheck
theorem v54 : Valid Tryz.prog tab54 E := step_rlcheck v53 p_rlcheck
theorem v55 : Valid Tryz.prog tab55 E := step_norder v54 p_norder
theorem v56 : Valid Tryz.prog tab56 E := step_nninth v55 p_nninth
theorem v57 : Valid Tryz.prog tab57 E := step_rninth v56 p_rninth
theorem v58 : Valid Tryz.prog tab58 E := step_nof v57 p_nof
theorem v59 : Valid Tryz.prog tab59 E := step_rnof v58 p_rnof
theorem v60 : Valid Tryz.prog tab60 E := step_nborder v59 p_nborder
theorem v61 : Valid Tryz.prog tab61 E := step_lives v60 p_lives
theorem vAll : Valid Tryz.prog tab61 E := v61

end Go.Proofs.YtndfeckmfhiniaaGreatDoor.Sx
