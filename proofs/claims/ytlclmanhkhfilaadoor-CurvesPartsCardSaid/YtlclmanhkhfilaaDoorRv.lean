/-
  Every contract holds. Printed by a program of our own.
-/
import Derived.Test.YtlclmanhkhfilaaDoorRx
import Derived.Test.YtlclmanhkhfilaaDoorWd
import Derived.Test.YtlclmanhkhfilaaDoorWf
import Derived.Test.YtlclmanhkhfilaaDoorWh
import Derived.Test.YtlclmanhkhfilaaDoorWi
import Derived.Test.YtlclmanhkhfilaaDoorPwd
namespace Go.Proofs.YtlclmanhkhfilaaDoor.Sx
open Go Go.RowKit

theorem v1 : Valid Tryd.prog tab1 E := step_len64 v0 p_len64
theorem v2 : Valid Tryd.prog tab2 E := step_mul64 v1 p_mul64
theorem v3 : Valid Tryd.prog tab3 E := step_cmpi64 v2 p_cmpi64
theorem v4 : Valid Tryd.prog tab4 E := step_cmpu64 v3 p_cmpu64
theorem v5 : Valid Tryd.prog tab5 E := step_wcmp v4 p_wcmp
theorem v6 : Valid Tryd.prog tab6 E := step_wof v5 p_wof
theorem v7 : Valid Tryd.prog tab7 E := step_lz64 v6 p_lz64
theorem v8 : Valid Tryd.prog tab8 E := step_div64 v7 p_div64
theorem v9 : Valid Tryd.prog tab9 E := step_turned v8 p_turned
theorem v10 : Valid Tryd.prog tab10 E := step_part v9 p_part
theorem v11 : Valid Tryd.prog tab11 E := step_whole v10 p_whole
theorem v12 : Valid Tryd.prog tab12 E := step_wtimes v11 p_wtimes
theorem v13 : Valid Tryd.prog tab13 E := step_size v12 p_size
theorem v14 : Valid Tryd.prog tab14 E := step_wadd v13 p_wadd
theorem v15 : Valid Tryd.prog tab15 E := step_wsub v14 p_wsub
theorem v16 : Valid Tryd.prog tab16 E := step_wtms v15 p_wtms
theorem v17 : Valid Tryd.prog tab17 E := step_wmul v16 p_wmul
theorem v18 : Valid Tryd.prog tab18 E := step_wdivided v17 p_wdivided
theorem v19 : Valid Tryd.prog tab19 E := step_wfloor v18 p_wfloor
theorem v20 : Valid Tryd.prog tab20 E := step_wnear v19 p_wnear
theorem v21 : Valid Tryd.prog tab21 E := step_wint v20 p_wint
theorem v22 : Valid Tryd.prog tab22 E := step_wide1 v21 p_wide1
theorem v23 : Valid Tryd.prog tab23 E := step_wide2 v22 p_wide2
theorem v24 : Valid Tryd.prog tab24 E := step_rootwide v23 p_rootwide
theorem v25 : Valid Tryd.prog tab25 E := step_mkwide v24 p_mkwide
theorem v26 : Valid Tryd.prog tab26 E := step_rootWide v25 p_rootWide
theorem v27 : Valid Tryd.prog tab27 E := step_log v26 p_log
theorem v28 : Valid Tryd.prog tab28 E := step_sat v27 p_sat
theorem v29 : Valid Tryd.prog tab29 E := step_pmade v28 p_pmade
theorem v30 : Valid Tryd.prog tab30 E := step_ptimes v29 p_ptimes
theorem v31 : Valid Tryd.prog tab31 E := step_power v30 p_power
theorem v32 : Valid Tryd.prog tab32 E := step_plong v31 p_plong
theorem v33 : Valid Tryd.prog tab33 E := step_pexpo v32 p_pexpo
theorem v34 : Valid Tryd.prog tab34 E := step_pow v33 p_pow
theorem vAll : Valid Tryd.prog tab34 E := v34

end Go.Proofs.YtlclmanhkhfilaaDoor.Sx
