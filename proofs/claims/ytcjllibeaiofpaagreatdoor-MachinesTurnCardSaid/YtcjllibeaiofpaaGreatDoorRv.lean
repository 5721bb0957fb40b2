/-
  Every contract holds. Printed by a program of our own.
-/
import Derived.Test.YtcjllibeaiofpaaGreatDoorRx
import Derived.Test.YtcjllibeaiofpaaGreatDoorWa
import Derived.Test.YtcjllibeaiofpaaGreatDoorAa
import Derived.Test.YtcjllibeaiofpaaGreatDoorPa
namespace Go.Proofs.YtcjllibeaiofpaaGreatDoor.Sx
open Go Go.RowKit
theorem v1 : Valid Tryz.prog tab1 E := step_len64 v0 p_len64
theorem v2 : Valid Tryz.prog tab2 E := step_mul64 v1 p_mul64
theorem v3 : Valid Tryz.prog tab3 E := step_cmpi64 v2 p_cmpi64
theorem v4 : Valid Tryz.prog tab4 E := step_cmpu64 v3 p_cmpu64
theorem v5 : Valid Tryz.prog tab5 E := step_wcmp v4 p_wcmp
theorem v6 : Valid Tryz.prog tab6 E := step_wof v5 p_wof
theorem v7 : Valid Tryz.prog tab7 E := step_lz64 v6 p_lz64
theorem v8 : Valid Tryz.prog tab8 E := step_div64 v7 p_div64
theorem v9 : Valid Tryz.prog tab9 E := step_turned v8 p_turned
theorem v10 : Valid Tryz.prog tab10 E := step_part v9 p_part
theorem v11 : Valid Tryz.prog tab11 E := step_whole v10 p_whole
theorem v12 : Valid Tryz.prog tab12 E := step_wtimes v11 p_wtimes
theorem v13 : Valid Tryz.prog tab13 E := step_size v12 p_size
theorem v14 : Valid Tryz.prog tab14 E := step_wadd v13 p_wadd
theorem v15 : Valid Tryz.prog tab15 E := step_wsub v14 p_wsub
theorem v16 : Valid Tryz.prog tab16 E := step_wtms v15 p_wtms
theorem v17 : Valid Tryz.prog tab17 E := step_wmul v16 p_wmul
theorem v18 : Valid Tryz.prog tab18 E := step_wdivided v17 p_wdivided
theorem v19 : Valid Tryz.prog tab19 E := step_wfloor v18 p_wfloor
theorem v20 : Valid Tryz.prog tab20 E := step_wnear v19 p_wnear
theorem v21 : Valid Tryz.prog tab21 E := step_wint v20 p_wint
theorem v22 : Valid Tryz.prog tab22 E := step_narrow1 v21 p_narrow1
theorem v23 : Valid Tryz.prog tab23 E := step_narrow2 v22 p_narrow2
theorem v24 : Valid Tryz.prog tab24 E := step_wide1 v23 p_wide1
theorem v25 : Valid Tryz.prog tab25 E := step_wide2 v24 p_wide2
theorem v26 : Valid Tryz.prog tab26 E := step_rootnarrow v25 p_rootnarrow
theorem v27 : Valid Tryz.prog tab27 E := step_rootwide v26 p_rootwide
theorem v28 : Valid Tryz.prog tab28 E := step_mknarrow v27 p_mknarrow
theorem v29 : Valid Tryz.prog tab29 E := step_mkwide v28 p_mkwide
theorem v30 : Valid Tryz.prog tab30 E := step_root v29 p_root
theorem v31 : Valid Tryz.prog tab31 E := step_rootWide v30 p_rootWide
theorem v32 : Valid Tryz.prog tab32 E := step_sqrt v31 p_sqrt
theorem v33 : Valid Tryz.prog tab33 E := step_log v32 p_log
theorem v34 : Valid Tryz.prog tab34 E := step_made v33 p_made
theorem v35 : Valid Tryz.prog tab35 E := step_crossed v34 p_crossed
theorem v36 : Valid Tryz.prog tab36 E := step_pon v35 p_pon
theorem v37 : Valid Tryz.prog tab37 E := step_pback v36 p_pback
theorem v38 : Valid Tryz.prog tab38 E := step_quarters v37 p_quarters
theorem v39 : Valid Tryz.prog tab39 E := step_anear v38 p_anear
theorem v40 : Valid Tryz.prog tab40 E := step_direction v39 p_direction
theorem v41 : Valid Tryz.prog tab41 E := step_asin v40 p_asin
theorem v42 : Valid Tryz.prog tab42 E := step_acos v41 p_acos
theorem v43 : Valid Tryz.prog tab43 E := step_afirst v42 p_afirst
theorem v44 : Valid Tryz.prog tab44 E := step_atan v43 p_atan
theorem v45 : Valid Tryz.prog tab45 E := step_sat v44 p_sat
theorem v46 : Valid Tryz.prog tab46 E := step_held v45 p_held
theorem v47 : Valid Tryz.prog tab47 E := step_fmul v46 p_fmul
theorem v48 : Valid Tryz.prog tab48 E := step_fby v47 p_fby
theorem v49 : Valid Tryz.prog tab49 E := step_fratio v48 p_fratio
theorem v50 : Valid Tryz.prog tab50 E := step_pmade v49 p_pmade
theorem v51 : Valid Tryz.prog tab51 E := step_ptimes v50 p_ptimes
theorem v52 : Valid Tryz.prog tab52 E := step_power v51 p_power
theorem v53 : Valid Tryz.prog tab53 E := step_plong v52 p_plong
theorem v54 : Valid Tryz.prog tab54 E := step_pnear v53 p_pnear
theorem v55 : Valid Tryz.prog tab55 E := step_pexpo v54 p_pexpo
theorem v56 : Valid Tryz.prog tab56 E := step_log2 v55 p_log2
theorem v57 : Valid Tryz.prog tab57 E := step_pow v56 p_pow
theorem v58 : Valid Tryz.prog tab58 E := step_fadd v57 p_fadd
theorem v59 : Valid Tryz.prog tab59 E := step_fsub v58 p_fsub
theorem v60 : Valid Tryz.prog tab60 E := step_fdiv v59 p_fdiv
end Go.Proofs.YtcjllibeaiofpaaGreatDoor.Sx
