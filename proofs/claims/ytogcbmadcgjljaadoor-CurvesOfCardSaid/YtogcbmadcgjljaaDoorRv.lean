/-
  Every contract holds. Printed by a program of our own.
-/
import Derived.Test.YtogcbmadcgjljaaDoorRx
import Derived.Test.YtogcbmadcgjljaaDoorWd
import Derived.Test.YtogcbmadcgjljaaDoorWg
import Derived.Test.YtogcbmadcgjljaaDoorWh
import Derived.Test.YtogcbmadcgjljaaDoorWi
import Derived.Test.YtogcbmadcgjljaaDoorPwd
import Derived.Test.YtogcbmadcgjljaaDoorUa
import Derived.Test.YtogcbmadcgjljaaDoorUc
import Derived.Test.YtogcbmadcgjljaaDoorUe
namespace Go.Proofs.YtogcbmadcgjljaaDoor.Sx
open Go Go.RowKit

theorem v1 : Valid Tryd.prog tab1 E := step_len64 v0 p_len64
theorem v2 : Valid Tryd.prog tab2 E := step_mul64 v1 p_mul64
theorem v3 : Valid Tryd.prog tab3 E := step_compare v2 p_compare
theorem v4 : Valid Tryd.prog tab4 E := step_plus v3 p_plus
theorem v5 : Valid Tryd.prog tab5 E := step_less v4 p_less
theorem v6 : Valid Tryd.prog tab6 E := step_product v5 p_product
theorem v7 : Valid Tryd.prog tab7 E := step_read v6 p_read
theorem v8 : Valid Tryd.prog tab8 E := step_minus v7 p_minus
theorem v9 : Valid Tryd.prog tab9 E := step_sum v8 p_sum
theorem v10 : Valid Tryd.prog tab10 E := step_above v9 p_above
theorem v11 : Valid Tryd.prog tab11 E := step_cmpi64 v10 p_cmpi64
theorem v12 : Valid Tryd.prog tab12 E := step_cmpu64 v11 p_cmpu64
theorem v13 : Valid Tryd.prog tab13 E := step_wcmp v12 p_wcmp
theorem v14 : Valid Tryd.prog tab14 E := step_wof v13 p_wof
theorem v15 : Valid Tryd.prog tab15 E := step_lz64 v14 p_lz64
theorem v16 : Valid Tryd.prog tab16 E := step_div64 v15 p_div64
theorem v17 : Valid Tryd.prog tab17 E := step_turned v16 p_turned
theorem v18 : Valid Tryd.prog tab18 E := step_part v17 p_part
theorem v19 : Valid Tryd.prog tab19 E := step_whole v18 p_whole
theorem v20 : Valid Tryd.prog tab20 E := step_wtimes v19 p_wtimes
theorem v21 : Valid Tryd.prog tab21 E := step_size v20 p_size
theorem v22 : Valid Tryd.prog tab22 E := step_wadd v21 p_wadd
theorem v23 : Valid Tryd.prog tab23 E := step_wsub v22 p_wsub
theorem v24 : Valid Tryd.prog tab24 E := step_wtms v23 p_wtms
theorem v25 : Valid Tryd.prog tab25 E := step_wmul v24 p_wmul
theorem v26 : Valid Tryd.prog tab26 E := step_wdivided v25 p_wdivided
theorem v27 : Valid Tryd.prog tab27 E := step_wfloor v26 p_wfloor
theorem v28 : Valid Tryd.prog tab28 E := step_wnear v27 p_wnear
theorem v29 : Valid Tryd.prog tab29 E := step_wint v28 p_wint
theorem v30 : Valid Tryd.prog tab30 E := step_zero v29 p_zero
theorem v31 : Valid Tryd.prog tab31 E := step_rof v30 p_rof
theorem v32 : Valid Tryd.prog tab32 E := step_small v31 p_small
theorem v33 : Valid Tryd.prog tab33 E := step_tell v32 p_tell
theorem v34 : Valid Tryd.prog tab34 E := step_divided v33 p_divided
theorem v35 : Valid Tryd.prog tab35 E := step_nearest v34 p_nearest
theorem v36 : Valid Tryd.prog tab36 E := step_rcmp v35 p_rcmp
theorem v37 : Valid Tryd.prog tab37 E := step_rint v36 p_rint
theorem v38 : Valid Tryd.prog tab38 E := step_rtms v37 p_rtms
theorem v39 : Valid Tryd.prog tab39 E := step_rmul v38 p_rmul
theorem v40 : Valid Tryd.prog tab40 E := step_rfloor v39 p_rfloor
theorem v41 : Valid Tryd.prog tab41 E := step_rnear v40 p_rnear
theorem v42 : Valid Tryd.prog tab42 E := step_wide1 v41 p_wide1
theorem v43 : Valid Tryd.prog tab43 E := step_wide2 v42 p_wide2
theorem v44 : Valid Tryd.prog tab44 E := step_rootwide v43 p_rootwide
theorem v45 : Valid Tryd.prog tab45 E := step_mkwide v44 p_mkwide
theorem v46 : Valid Tryd.prog tab46 E := step_rootWide v45 p_rootWide
theorem v47 : Valid Tryd.prog tab47 E := step_log v46 p_log
theorem v48 : Valid Tryd.prog tab48 E := step_rnum v47 p_rnum
theorem v49 : Valid Tryd.prog tab49 E := step_rroot v48 p_rroot
theorem v50 : Valid Tryd.prog tab50 E := step_rRootWide v49 p_rRootWide
theorem v51 : Valid Tryd.prog tab51 E := step_rLog v50 p_rLog
theorem v52 : Valid Tryd.prog tab52 E := step_sat v51 p_sat
theorem v53 : Valid Tryd.prog tab53 E := step_pmade v52 p_pmade
theorem v54 : Valid Tryd.prog tab54 E := step_ptimes v53 p_ptimes
theorem v55 : Valid Tryd.prog tab55 E := step_power v54 p_power
theorem v56 : Valid Tryd.prog tab56 E := step_plong v55 p_plong
theorem v57 : Valid Tryd.prog tab57 E := step_pexpo v56 p_pexpo
theorem v58 : Valid Tryd.prog tab58 E := step_pow v57 p_pow
theorem v59 : Valid Tryd.prog tab59 E := step_rn4 v58 p_rn4
theorem v60 : Valid Tryd.prog tab60 E := step_rprod4 v59 p_rprod4
theorem v61 : Valid Tryd.prog tab61 E := step_roots v60 p_roots
theorem v62 : Valid Tryd.prog tab62 E := step_rtwo v61 p_rtwo
theorem v63 : Valid Tryd.prog tab63 E := step_rhold v62 p_rhold
theorem v64 : Valid Tryd.prog tab64 E := step_rhold1 v63 p_rhold1
theorem v65 : Valid Tryd.prog tab65 E := step_rlong v64 p_rlong
theorem v66 : Valid Tryd.prog tab66 E := step_rpow v65 p_rpow
theorem v67 : Valid Tryd.prog tab67 E := step_rsat v66 p_rsat
theorem vAll : Valid Tryd.prog tab67 E := v67

end Go.Proofs.YtogcbmadcgjljaaDoor.Sx
