/-
  Every contract holds. Printed by a program of our own.
-/
import Derived.Test.YtopeebkkfomdaaaWd
import Derived.Test.YtopeebkkfomdaaaWf
import Derived.Test.YtopeebkkfomdaaaDb
import Derived.Test.YtopeebkkfomdaaaWi
namespace Go.Proofs.Ytopeebkkfomdaaa.Sx
open Go Go.RowKit

theorem v1 : Valid Try.prog tab1 E := step_len64 v0 p_len64
theorem v2 : Valid Try.prog tab2 E := step_mul64 v1 p_mul64
theorem v3 : Valid Try.prog tab3 E := step_compare v2 p_compare
theorem v4 : Valid Try.prog tab4 E := step_plus v3 p_plus
theorem v5 : Valid Try.prog tab5 E := step_less v4 p_less
theorem v6 : Valid Try.prog tab6 E := step_product v5 p_product
theorem v7 : Valid Try.prog tab7 E := step_read v6 p_read
theorem v8 : Valid Try.prog tab8 E := step_minus v7 p_minus
theorem v9 : Valid Try.prog tab9 E := step_sum v8 p_sum
theorem v10 : Valid Try.prog tab10 E := step_above v9 p_above
theorem v11 : Valid Try.prog tab11 E := step_cmpi64 v10 p_cmpi64
theorem v12 : Valid Try.prog tab12 E := step_cmpu64 v11 p_cmpu64
theorem v13 : Valid Try.prog tab13 E := step_wcmp v12 p_wcmp
theorem v14 : Valid Try.prog tab14 E := step_wof v13 p_wof
theorem v15 : Valid Try.prog tab15 E := step_lz64 v14 p_lz64
theorem v16 : Valid Try.prog tab16 E := step_div64 v15 p_div64
theorem v17 : Valid Try.prog tab17 E := step_turned v16 p_turned
theorem v18 : Valid Try.prog tab18 E := step_part v17 p_part
theorem v19 : Valid Try.prog tab19 E := step_whole v18 p_whole
theorem v20 : Valid Try.prog tab20 E := step_wtimes v19 p_wtimes
theorem v21 : Valid Try.prog tab21 E := step_size v20 p_size
theorem v22 : Valid Try.prog tab22 E := step_wadd v21 p_wadd
theorem v23 : Valid Try.prog tab23 E := step_wsub v22 p_wsub
theorem v24 : Valid Try.prog tab24 E := step_wtms v23 p_wtms
theorem v25 : Valid Try.prog tab25 E := step_wmul v24 p_wmul
theorem v26 : Valid Try.prog tab26 E := step_wdivided v25 p_wdivided
theorem v27 : Valid Try.prog tab27 E := step_wfloor v26 p_wfloor
theorem v28 : Valid Try.prog tab28 E := step_wnear v27 p_wnear
theorem v29 : Valid Try.prog tab29 E := step_wint v28 p_wint
theorem v30 : Valid Try.prog tab30 E := step_zero v29 p_zero
theorem v31 : Valid Try.prog tab31 E := step_rof v30 p_rof
theorem v32 : Valid Try.prog tab32 E := step_small v31 p_small
theorem v33 : Valid Try.prog tab33 E := step_tell v32 p_tell
theorem v34 : Valid Try.prog tab34 E := step_divided v33 p_divided
theorem v35 : Valid Try.prog tab35 E := step_nearest v34 p_nearest
theorem v36 : Valid Try.prog tab36 E := step_rcmp v35 p_rcmp
theorem v37 : Valid Try.prog tab37 E := step_rint v36 p_rint
theorem v38 : Valid Try.prog tab38 E := step_sat v37 p_sat
theorem v39 : Valid Try.prog tab39 E := step_hold v38 p_hold
theorem v40 : Valid Try.prog tab40 E := step_greatest v39 p_greatest
theorem v41 : Valid Try.prog tab41 E := step_width v40 p_width
theorem v42 : Valid Try.prog tab42 E := step_led v41 p_led
theorem v43 : Valid Try.prog tab43 E := step_value v42 p_value
theorem v44 : Valid Try.prog tab44 E := step_raw v43 p_raw
theorem v45 : Valid Try.prog tab45 E := step_dnear v44 p_dnear
theorem v46 : Valid Try.prog tab46 E := step_rgreatest v45 p_rgreatest
theorem v47 : Valid Try.prog tab47 E := step_rtimes7 v46 p_rtimes7
theorem v48 : Valid Try.prog tab48 E := step_rvalue v47 p_rvalue
theorem v49 : Valid Try.prog tab49 E := step_rraw v48 p_rraw
theorem v50 : Valid Try.prog tab50 E := step_rdnear v49 p_rdnear
theorem v51 : Valid Try.prog tab51 E := step_lgreatest v50 p_lgreatest
theorem v52 : Valid Try.prog tab52 E := step_lives v51 p_lives
theorem vAll : Valid Try.prog tab52 E := v52

end Go.Proofs.Ytopeebkkfomdaaa.Sx
