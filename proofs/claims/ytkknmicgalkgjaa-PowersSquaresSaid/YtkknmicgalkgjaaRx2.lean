/-
  What each function comes to, part 2. Printed by a program of our own.
-/
import Derived.Test.YtkknmicgalkgjaaRxh
set_option maxRecDepth 1000000
set_option linter.all false
namespace Go.Proofs.Ytkknmicgalkgjaa.Sx
open Go Go.RowKit

/-- gouache/powers.times -/
def P_ptimes : Prop :=
  (∀ n : Int, 0 ≤ n → n ≤ 18446744073709551615 →
  (∀ n1 : Int, 0 ≤ n1 → n1 ≤ 18446744073709551615 →
  (Pre_ptimes [[n], [n1]] →
  (Pre_mul64 [[n], [n1]] ∧
  (∀ n2 : Int, 0 ≤ n2 → n2 ≤ 18446744073709551615 →
  (∀ n3 : Int, 0 ≤ n3 → n3 ≤ 18446744073709551615 →
  (Post_mul64 [[n], [n1]] [[n2], [n3]] →
  (∀ n4 : Int, n4 = (bitsI .or .u64 (IntKind.wrap .u64 (n2 * 4)) (n3 / 4611686018427387904)) → 0 ≤ n4 → n4 ≤ 18446744073709551615 →
  Post_ptimes [[n], [n1]] [[n4]]))))))))
theorem c_ptimes : canCall Try.prog 39 = true := by kernel_rfl
theorem s_ptimes : P_ptimes = sat E (symTop Try.prog tab57 2000 39 ash_ptimes sh_ptimes) := by kernel_rfl
theorem pure_ptimes (hV : Valid Try.prog tab57 E) (h : P_ptimes) (args : List Value) (ha : shaFits ash_ptimes args) (hp : E.pre 39 (args.map vints)) : Pure Try.prog 39 args.toArray fun v => sh_ptimes.fits v ∧ E.post 39 (args.map vints) (vres v) := @top_sat Try.prog tab57 E hV 2000 39 ash_ptimes sh_ptimes (@Eq.mp _ _ s_ptimes h) args ha hp
theorem step_ptimes (hV : Valid Try.prog tab57 E) (h : P_ptimes) : Valid Try.prog tab58 E := hV.add c_ptimes (pure_ptimes hV h)

/-- gouache/powers.power -/
def P_power : Prop :=
  (∀ n : Int, (-9223372036854775808) ≤ n → n ≤ 9223372036854775807 →
  (Pre_power [[n]] →
  (∀ n1 : Int, n1 = (n / 4294967296) → (-2147483648) ≤ n1 → n1 ≤ 2147483647 →
  (((15 ≤ n1) →
    Post_power [[n]] [[2147483648]]) ∧
   (¬ (15 ≤ n1) →
    (∀ n2 : Int, n2 = (46 - n1) → (-2147483601) ≤ n2 → n2 ≤ 2147483694 →
    (((63 < n2) →
      Post_power [[n]] [[0]]) ∧
     (¬ (63 < n2) →
      (Pre_pmade [] ∧
      (Post_pmade [] [[0, 6521908912666391106, 5484249825272419511, 5029079263719320435, 4815862801830788490, 4712668792719003883, 4661903986662671289, 4636727017470743989, 4624189567668517719, 4617933561212708775, 4614808732577250067, 4613247111281068007, 4612466498810092973, 4612076242109103706, 4611881126141011235, 4611783571252412753, 4611734794581956352, 4611710406440186475, 4611698212417665818, 4611692115418496523, 4611689066921934629, 4611687542674409370, 4611686780550835663, 4611686399489096040, 4611686208958238036, 4611686113692811986, 4611686066060099699, 4611686042243743740, 4611686030335565806, 4611686024381476851, 4611686021404432376, 4611686019915910139, 4611686019171649021]] →
      (∀ b : Nat, (Inv_pw [n] [0, 4611686018427387904] ∧
      (∀ n3 : Int, 0 ≤ n3 → n3 ≤ 33 →
      (∀ n4 : Int, 4611686018427387904 ≤ n4 → n4 ≤ 9223372036854775808 →
      (Inv_pw [n] [n3, n4] →
      (∀ vs : List Value, vs.length = 26 →
      (((n3 < 33) →
        (((n3 = 0) →
          (((n3 + 1) ≤ 33) ∧
          (∀ n5 : Int, n5 = (n3 + 1) → 0 ≤ n5 → n5 ≤ 33 →
          (Inv_pw [n] [n5, n4] ∧ Mea_pw [n] [n5, n4] < Mea_pw [n] [n3, n4])))) ∧
         (¬ (n3 = 0) →
          ((((IntKind.wrap .u64 ((IntKind.wrap .u64 n) * 4294967296)) = 0) →
            ((0 ≤ (n2 - 1)) ∧
            (∀ n5 : Int, n5 = (n2 - 1) → 0 ≤ n5 → n5 ≤ 2147483693 →
            (∀ n6 : Int, n6 = (min ((IntKind.wrap .u64 ((shI .shr .u64 n4 n5) + 1)) / 2) 2147483648) → 0 ≤ n6 → n6 ≤ 2147483648 →
            Post_power [[n]] [[n6]])))) ∧
           (¬ ((IntKind.wrap .u64 ((IntKind.wrap .u64 n) * 4294967296)) = 0) →
            ((0 ≤ (32 - n3)) ∧
            (∀ n5 : Int, n5 = (32 - n3) → 0 ≤ n5 → n5 ≤ 32 →
            ((((bitsI .and .i64 (shI .shr .i64 n n5) 1) = 1) →
              ((n3 < 33) ∧
              (∀ n6 : Int, n6 = (tP.getD (Int.toNat n3) 0) → 0 ≤ n6 → n6 ≤ 6521908912666391106 →
              (Pre_ptimes [[n4], [n6]] ∧
              (∀ n7 : Int, 0 ≤ n7 → n7 ≤ 18446744073709551615 →
              (Post_ptimes [[n4], [n6]] [[n7]] →
              (((n3 + 1) ≤ 33) ∧
              (∀ n8 : Int, n8 = (n3 + 1) → 0 ≤ n8 → n8 ≤ 33 →
              ((4611686018427387904 ≤ n7) ∧
              ((n7 ≤ 9223372036854775808) ∧
              (∀ n9 : Int, n9 = n7 → 4611686018427387904 ≤ n9 → n9 ≤ 9223372036854775808 →
              (Inv_pw [n] [n8, n9] ∧ Mea_pw [n] [n8, n9] < Mea_pw [n] [n3, n4])))))))))))) ∧
             (¬ ((bitsI .and .i64 (shI .shr .i64 n n5) 1) = 1) →
              (((n3 + 1) ≤ 33) ∧
              (∀ n6 : Int, n6 = (n3 + 1) → 0 ≤ n6 → n6 ≤ 33 →
              (Inv_pw [n] [n6, n4] ∧ Mea_pw [n] [n6, n4] < Mea_pw [n] [n3, n4])))))))))))) ∧
       (¬ (n3 < 33) →
        ((0 ≤ (n2 - 1)) ∧
        (∀ n5 : Int, n5 = (n2 - 1) → 0 ≤ n5 → n5 ≤ 2147483693 →
        (∀ n6 : Int, n6 = (min ((IntKind.wrap .u64 ((shI .shr .u64 n4 n5) + 1)) / 2) 2147483648) → 0 ≤ n6 → n6 ≤ 2147483648 →
        Post_power [[n]] [[n6]])))))))))))))))))))))
theorem c_power : canCall Try.prog 27 = true := by kernel_rfl
theorem s_power : P_power = sat E (symTop Try.prog tab58 2000 27 ash_power sh_power) := by kernel_rfl
theorem pure_power (hV : Valid Try.prog tab58 E) (h : P_power) (args : List Value) (ha : shaFits ash_power args) (hp : E.pre 27 (args.map vints)) : Pure Try.prog 27 args.toArray fun v => sh_power.fits v ∧ E.post 27 (args.map vints) (vres v) := @top_sat Try.prog tab58 E hV 2000 27 ash_power sh_power (@Eq.mp _ _ s_power h) args ha hp
theorem step_power (hV : Valid Try.prog tab58 E) (h : P_power) : Valid Try.prog tab59 E := hV.add c_power (pure_power hV h)

/-- gouache/powers.longLog -/
def P_plong : Prop :=
  (∀ n : Int, 1 ≤ n → n ≤ 2147483648 →
  (Pre_plong [[n]] →
  (Pre_log [[n]] ∧
  (∀ n1 : Int, (-9223372036854775808) ≤ n1 → n1 ≤ 9223372036854775807 →
  (Post_log [[n]] [[n1]] →
  ((0 ≤ (IntKind.wrap .i64 (62 - n1))) ∧
  (∀ n2 : Int, n2 = (IntKind.wrap .i64 (62 - n1)) → 0 ≤ n2 → n2 ≤ 9223372036854775807 →
  (∀ n3 : Int, n3 = (shI .shl .u64 n n2) → 0 ≤ n3 → n3 ≤ 18446744073709551615 →
  (∀ n4 : Int, n4 = (IntKind.wrap .i64 (n1 - 16)) → (-9223372036854775808) ≤ n4 → n4 ≤ 9223372036854775807 →
  ((4611686018427387904 ≤ n3) ∧
  ((n3 ≤ 9223372036854775807) ∧
  (∀ n5 : Int, n5 = n3 → 4611686018427387904 ≤ n5 → n5 ≤ 9223372036854775807 →
  (((-17592186044416) ≤ n4) ∧
  ((n4 ≤ 17592186044416) ∧
  (∀ n6 : Int, n6 = n4 → (-17592186044416) ≤ n6 → n6 ≤ 17592186044416 →
  (Inv_lng [n5, n6] [0, n5, n6] ∧
  (∀ n7 : Int, 0 ≤ n7 → n7 ≤ 40 →
  (∀ n8 : Int, 4611686018427387904 ≤ n8 → n8 ≤ 9223372036854775807 →
  (∀ n9 : Int, (-17592186044416) ≤ n9 → n9 ≤ 17592186044416 →
  (Inv_lng [n5, n6] [n7, n8, n9] →
  (∀ vs : List Value, vs.length = 22 →
  (((n7 = 40) →
    ((n9 ≤ 16492674416640) ∧
    (∀ n10 : Int, n10 = n9 → (-17592186044416) ≤ n10 → n10 ≤ 16492674416640 →
    Post_plong [[n]] [[n10]]))) ∧
   (¬ (n7 = 40) →
    (Pre_ptimes [[n8], [n8]] ∧
    (∀ n10 : Int, 0 ≤ n10 → n10 ≤ 18446744073709551615 →
    (Post_ptimes [[n8], [n8]] [[n10]] →
    (∀ n11 : Int, n11 = (n10 / 9223372036854775808) → 0 ≤ n11 → n11 ≤ 1 →
    (∀ n12 : Int, n12 = (shI .shr .u64 n10 n11) → 0 ≤ n12 → n12 ≤ 18446744073709551615 →
    (∀ n13 : Int, n13 = ((2 * n9) + n11) → (-35184372088832) ≤ n13 → n13 ≤ 35184372088833 →
    (∀ n14 : Int, n14 = (n7 + 1) → 1 ≤ n14 → n14 ≤ 41 →
    ((n14 ≤ 40) ∧
    (∀ n15 : Int, n15 = n14 → 0 ≤ n15 → n15 ≤ 40 →
    ((4611686018427387904 ≤ n12) ∧
    ((n12 ≤ 9223372036854775807) ∧
    (∀ n16 : Int, n16 = n12 → 4611686018427387904 ≤ n16 → n16 ≤ 9223372036854775807 →
    (((-17592186044416) ≤ n13) ∧
    ((n13 ≤ 17592186044416) ∧
    (∀ n17 : Int, n17 = n13 → (-17592186044416) ≤ n17 → n17 ≤ 17592186044416 →
    (Inv_lng [n5, n6] [n15, n16, n17] ∧ Mea_lng [n5, n6] [n15, n16, n17] < Mea_lng [n5, n6] [n7, n8, n9])))))))))))))))))))))))))))))))))))))))
theorem c_plong : canCall Try.prog 23 = true := by kernel_rfl
theorem s_plong : P_plong = sat E (symTop Try.prog tab59 2000 23 ash_plong sh_plong) := by kernel_rfl
theorem pure_plong (hV : Valid Try.prog tab59 E) (h : P_plong) (args : List Value) (ha : shaFits ash_plong args) (hp : E.pre 23 (args.map vints)) : Pure Try.prog 23 args.toArray fun v => sh_plong.fits v ∧ E.post 23 (args.map vints) (vres v) := @top_sat Try.prog tab59 E hV 2000 23 ash_plong sh_plong (@Eq.mp _ _ s_plong h) args ha hp
theorem step_plong (hV : Valid Try.prog tab59 E) (h : P_plong) : Valid Try.prog tab60 E := hV.add c_plong (pure_plong hV h)

/-- gouache/powers.near -/
def P_pnear : Prop :=
  (∀ n : Int, (-17592186044416) ≤ n → n ≤ 16492674416640 →
  (Pre_pnear [[n], [24]] →
  (∀ n1 : Int, n1 = (((n / 8388608) + 1) / 2) → (-1048576) ≤ n1 → n1 ≤ 983040 →
  Post_pnear [[n], [24]] [[n1]])))
theorem c_pnear : canCall Try.prog 22 = true := by kernel_rfl
theorem s_pnear : P_pnear = sat E (symTop Try.prog tab60 2000 22 ash_pnear sh_pnear) := by kernel_rfl
theorem pure_pnear (hV : Valid Try.prog tab60 E) (h : P_pnear) (args : List Value) (ha : shaFits ash_pnear args) (hp : E.pre 22 (args.map vints)) : Pure Try.prog 22 args.toArray fun v => sh_pnear.fits v ∧ E.post 22 (args.map vints) (vres v) := @top_sat Try.prog tab60 E hV 2000 22 ash_pnear sh_pnear (@Eq.mp _ _ s_pnear h) args ha hp
theorem step_pnear (hV : Valid Try.prog tab60 E) (h : P_pnear) : Valid Try.prog tab61 E := hV.add c_pnear (pure_pnear hV h)

/-- gouache/powers.exponent -/
def P_pexpo : Prop :=
  (∀ n : Int, 1 ≤ n → n ≤ 2147483648 →
  (∀ n1 : Int, (-2147483648) ≤ n1 → n1 ≤ 2147483647 →
  (Pre_pexpo [[n], [n1]] →
  (Pre_plong [[n]] ∧
  (∀ n2 : Int, (-17592186044416) ≤ n2 → n2 ≤ 16492674416640 →
  (Post_plong [[n]] [[n2]] →
  (Pre_wmul [[n2], [n1]] ∧
  (∀ n3 : Int, (-9223372036854775808) ≤ n3 → n3 ≤ 9223372036854775807 →
  (∀ n4 : Int, 0 ≤ n4 → n4 ≤ 18446744073709551615 →
  (Post_wmul [[n2], [n1]] [[n3, n4]] →
  (Pre_wnear [[n3, n4], [16777216]] ∧
  (∀ n5 : Int, (-9223372036854775808) ≤ n5 → n5 ≤ 9223372036854775807 →
  (∀ n6 : Int, 0 ≤ n6 → n6 ≤ 18446744073709551615 →
  (∀ n7 : Int, 0 ≤ n7 → n7 ≤ 11 →
  (Post_wnear [[n3, n4], [16777216]] [[n5, n6], [n7]] →
  (∀ b : Nat, (Pre_wint [[n5, n6]] ∧
  (∀ n8 : Int, (-9223372036854775808) ≤ n8 → n8 ≤ 9223372036854775807 →
  (∀ t : Bool, (Post_wint [[n5, n6]] [[n8], [b2i t]] →
  (∀ n9 : Int, n9 = (max (-1099511627776) (min 1099511627776 n8)) → (-1099511627776) ≤ n9 → n9 ≤ 1099511627776 →
  Post_pexpo [[n], [n1]] [[n9]])))))))))))))))))))))
theorem c_pexpo : canCall Try.prog 28 = true := by kernel_rfl
theorem s_pexpo : P_pexpo = sat E (symTop Try.prog tab61 2000 28 ash_pexpo sh_pexpo) := by kernel_rfl
theorem pure_pexpo (hV : Valid Try.prog tab61 E) (h : P_pexpo) (args : List Value) (ha : shaFits ash_pexpo args) (hp : E.pre 28 (args.map vints)) : Pure Try.prog 28 args.toArray fun v => sh_pexpo.fits v ∧ E.post 28 (args.map vints) (vres v) := @top_sat Try.prog tab61 E hV 2000 28 ash_pexpo sh_pexpo (@Eq.mp _ _ s_pexpo h) args ha hp
theorem step_pexpo (hV : Valid Try.prog tab61 E) (h : P_pexpo) : Valid Try.prog tab62 E := hV.add c_pexpo (pure_pexpo hV h)

/-- gouache/powers.Exp2 -/
def P_exp2 : Prop :=
  (∀ n : Int, (-2147483648) ≤ n → n ≤ 2147483647 →
  (Pre_exp2 [[n]] →
  (∀ n1 : Int, n1 = (n * 65536) → (-140737488355328) ≤ n1 → n1 ≤ 140737488289792 →
  (Pre_power [[n1]] ∧
  (∀ n2 : Int, 0 ≤ n2 → n2 ≤ 2147483648 →
  (Post_power [[n1]] [[n2]] →
  (Pre_sat [[n2]] ∧
  (∀ n3 : Int, (-2147483648) ≤ n3 → n3 ≤ 2147483647 →
  (Post_sat [[n2]] [[n3]] →
  ((0 ≤ n3) ∧
  (∀ n4 : Int, n4 = n3 → 0 ≤ n4 → n4 ≤ 2147483647 →
  Post_exp2 [[n]] [[n4]])))))))))))
theorem c_exp2 : canCall Try.prog 14 = true := by kernel_rfl
theorem s_exp2 : P_exp2 = sat E (symTop Try.prog tab62 2000 14 ash_exp2 sh_exp2) := by kernel_rfl
theorem pure_exp2 (hV : Valid Try.prog tab62 E) (h : P_exp2) (args : List Value) (ha : shaFits ash_exp2 args) (hp : E.pre 14 (args.map vints)) : Pure Try.prog 14 args.toArray fun v => sh_exp2.fits v ∧ E.post 14 (args.map vints) (vres v) := @top_sat Try.prog tab62 E hV 2000 14 ash_exp2 sh_exp2 (@Eq.mp _ _ s_exp2 h) args ha hp
theorem step_exp2 (hV : Valid Try.prog tab62 E) (h : P_exp2) : Valid Try.prog tab63 E := hV.add c_exp2 (pure_exp2 hV h)

/-- gouache/powers.Log2 -/
def P_log2 : Prop :=
  (∀ n : Int, (-2147483648) ≤ n → n ≤ 2147483647 →
  (Pre_log2 [[n]] →
  (((n ≤ 0) →
    Post_log2 [[n]] [[0], [1]]) ∧
   (¬ (n ≤ 0) →
    (∀ n1 : Int, n1 = (IntKind.wrap .u64 n) → 0 ≤ n1 → n1 ≤ 18446744073709551615 →
    ((1 ≤ n1) ∧
    ((n1 ≤ 2147483648) ∧
    (∀ n2 : Int, n2 = n1 → 1 ≤ n2 → n2 ≤ 2147483648 →
    (Pre_plong [[n2]] ∧
    (∀ n3 : Int, (-17592186044416) ≤ n3 → n3 ≤ 16492674416640 →
    (Post_plong [[n2]] [[n3]] →
    (Pre_pnear [[n3], [24]] ∧
    (∀ n4 : Int, (-1048576) ≤ n4 → n4 ≤ 983040 →
    (Post_pnear [[n3], [24]] [[n4]] →
    (Pre_sat [[n4]] ∧
    (∀ n5 : Int, (-2147483648) ≤ n5 → n5 ≤ 2147483647 →
    (Post_sat [[n4]] [[n5]] →
    (((-1048576) ≤ n5) ∧
    ((n5 ≤ 983040) ∧
    (∀ n6 : Int, n6 = n5 → (-1048576) ≤ n6 → n6 ≤ 983040 →
    Post_log2 [[n]] [[n6], [0]]))))))))))))))))))))
theorem c_log2 : canCall Try.prog 10 = true := by kernel_rfl
theorem s_log2 : P_log2 = sat E (symTop Try.prog tab63 2000 10 ash_log2 sh_log2) := by kernel_rfl
theorem pure_log2 (hV : Valid Try.prog tab63 E) (h : P_log2) (args : List Value) (ha : shaFits ash_log2 args) (hp : E.pre 10 (args.map vints)) : Pure Try.prog 10 args.toArray fun v => sh_log2.fits v ∧ E.post 10 (args.map vints) (vres v) := @top_sat Try.prog tab63 E hV 2000 10 ash_log2 sh_log2 (@Eq.mp _ _ s_log2 h) args ha hp
theorem step_log2 (hV : Valid Try.prog tab63 E) (h : P_log2) : Valid Try.prog tab64 E := hV.add c_log2 (pure_log2 hV h)

/-- gouache/powers.Pow -/
def P_pow : Prop :=
  (∀ n : Int, (-2147483648) ≤ n → n ≤ 2147483647 →
  (∀ n1 : Int, (-2147483648) ≤ n1 → n1 ≤ 2147483647 →
  (Pre_pow [[n], [n1]] →
  (((n1 = 0) →
    Post_pow [[n], [n1]] [[65536], [0]]) ∧
   (¬ (n1 = 0) →
    (((n = 0) →
      (((n1 < 0) →
        Post_pow [[n], [n1]] [[0], [12]]) ∧
       (¬ (n1 < 0) →
        (((n = 0) →
          Post_pow [[n], [n1]] [[0], [0]]) ∧
         (¬ (n = 0) →
          (((n < 0) →
            (((¬ ((n1.tmod 65536) = 0)) →
              Post_pow [[n], [n1]] [[0], [1]]) ∧
             (¬ (¬ ((n1.tmod 65536) = 0)) →
              (∀ n2 : Int, n2 = (max n (0 - n)) → (-2147483647) ≤ n2 → n2 ≤ 2147483648 →
              (∀ n3 : Int, n3 = (IntKind.wrap .u64 n2) → 0 ≤ n3 → n3 ≤ 18446744073709551615 →
              ((1 ≤ n3) ∧
              ((n3 ≤ 2147483648) ∧
              (∀ n4 : Int, n4 = n3 → 1 ≤ n4 → n4 ≤ 2147483648 →
              (Pre_pexpo [[n4], [n1]] ∧
              (∀ n5 : Int, (-1099511627776) ≤ n5 → n5 ≤ 1099511627776 →
              (Post_pexpo [[n4], [n1]] [[n5]] →
              (Pre_power [[n5]] ∧
              (∀ n6 : Int, 0 ≤ n6 → n6 ≤ 2147483648 →
              (Post_power [[n5]] [[n6]] →
              (((n < 0) →
                (((¬ (((IntKind.wrap .i32 (n1.tdiv 65536)).tmod 2) = 0)) →
                  (∀ n7 : Int, n7 = (0 - n6) → (-2147483648) ≤ n7 → n7 ≤ 0 →
                  (Pre_sat [[n7]] ∧
                  (∀ n8 : Int, (-2147483648) ≤ n8 → n8 ≤ 2147483647 →
                  (Post_sat [[n7]] [[n8]] →
                  Post_pow [[n], [n1]] [[n8], [0]]))))) ∧
                 (¬ (¬ (((IntKind.wrap .i32 (n1.tdiv 65536)).tmod 2) = 0)) →
                  (Pre_sat [[n6]] ∧
                  (∀ n7 : Int, (-2147483648) ≤ n7 → n7 ≤ 2147483647 →
                  (Post_sat [[n6]] [[n7]] →
                  Post_pow [[n], [n1]] [[n7], [0]])))))) ∧
               (¬ (n < 0) →
                (Pre_sat [[n6]] ∧
                (∀ n7 : Int, (-2147483648) ≤ n7 → n7 ≤ 2147483647 →
                (Post_sat [[n6]] [[n7]] →
                Post_pow [[n], [n1]] [[n7], [0]]))))))))))))))))))) ∧
           (¬ (n < 0) →
            (∀ n2 : Int, n2 = (max n (0 - n)) → (-2147483647) ≤ n2 → n2 ≤ 2147483648 →
            (∀ n3 : Int, n3 = (IntKind.wrap .u64 n2) → 0 ≤ n3 → n3 ≤ 18446744073709551615 →
            ((1 ≤ n3) ∧
            ((n3 ≤ 2147483648) ∧
            (∀ n4 : Int, n4 = n3 → 1 ≤ n4 → n4 ≤ 2147483648 →
            (Pre_pexpo [[n4], [n1]] ∧
            (∀ n5 : Int, (-1099511627776) ≤ n5 → n5 ≤ 1099511627776 →
            (Post_pexpo [[n4], [n1]] [[n5]] →
            (Pre_power [[n5]] ∧
            (∀ n6 : Int, 0 ≤ n6 → n6 ≤ 2147483648 →
            (Post_power [[n5]] [[n6]] →
            (((n < 0) →
              (((¬ (((IntKind.wrap .i32 (n1.tdiv 65536)).tmod 2) = 0)) →
                (∀ n7 : Int, n7 = (0 - n6) → (-2147483648) ≤ n7 → n7 ≤ 0 →
                (Pre_sat [[n7]] ∧
                (∀ n8 : Int, (-2147483648) ≤ n8 → n8 ≤ 2147483647 →
                (Post_sat [[n7]] [[n8]] →
                Post_pow [[n], [n1]] [[n8], [0]]))))) ∧
               (¬ (¬ (((IntKind.wrap .i32 (n1.tdiv 65536)).tmod 2) = 0)) →
                (Pre_sat [[n6]] ∧
                (∀ n7 : Int, (-2147483648) ≤ n7 → n7 ≤ 2147483647 →
                (Post_sat [[n6]] [[n7]] →
                Post_pow [[n], [n1]] [[n7], [0]])))))) ∧
             (¬ (n < 0) →
              (Pre_sat [[n6]] ∧
              (∀ n7 : Int, (-2147483648) ≤ n7 → n7 ≤ 2147483647 →
              (Post_sat [[n6]] [[n7]] →
              Post_pow [[n], [n1]] [[n7], [0]]))))))))))))))))))))))) ∧
     (¬ (n = 0) →
      (((n = 0) →
        Post_pow [[n], [n1]] [[0], [0]]) ∧
       (¬ (n = 0) →
        (((n < 0) →
          (((¬ ((n1.tmod 65536) = 0)) →
            Post_pow [[n], [n1]] [[0], [1]]) ∧
           (¬ (¬ ((n1.tmod 65536) = 0)) →
            (∀ n2 : Int, n2 = (max n (0 - n)) → (-2147483647) ≤ n2 → n2 ≤ 2147483648 →
            (∀ n3 : Int, n3 = (IntKind.wrap .u64 n2) → 0 ≤ n3 → n3 ≤ 18446744073709551615 →
            ((1 ≤ n3) ∧
            ((n3 ≤ 2147483648) ∧
            (∀ n4 : Int, n4 = n3 → 1 ≤ n4 → n4 ≤ 2147483648 →
            (Pre_pexpo [[n4], [n1]] ∧
            (∀ n5 : Int, (-1099511627776) ≤ n5 → n5 ≤ 1099511627776 →
            (Post_pexpo [[n4], [n1]] [[n5]] →
            (Pre_power [[n5]] ∧
            (∀ n6 : Int, 0 ≤ n6 → n6 ≤ 2147483648 →
            (Post_power [[n5]] [[n6]] →
            (((n < 0) →
              (((¬ (((IntKind.wrap .i32 (n1.tdiv 65536)).tmod 2) = 0)) →
                (∀ n7 : Int, n7 = (0 - n6) → (-2147483648) ≤ n7 → n7 ≤ 0 →
                (Pre_sat [[n7]] ∧
                (∀ n8 : Int, (-2147483648) ≤ n8 → n8 ≤ 2147483647 →
                (Post_sat [[n7]] [[n8]] →
                Post_pow [[n], [n1]] [[n8], [0]]))))) ∧
               (¬ (¬ (((IntKind.wrap .i32 (n1.tdiv 65536)).tmod 2) = 0)) →
                (Pre_sat [[n6]] ∧
                (∀ n7 : Int, (-2147483648) ≤ n7 → n7 ≤ 2147483647 →
                (Post_sat [[n6]] [[n7]] →
                Post_pow [[n], [n1]] [[n7], [0]])))))) ∧
             (¬ (n < 0) →
              (Pre_sat [[n6]] ∧
              (∀ n7 : Int, (-2147483648) ≤ n7 → n7 ≤ 2147483647 →
              (Post_sat [[n6]] [[n7]] →
              Post_pow [[n], [n1]] [[n7], [0]]))))))))))))))))))) ∧
         (¬ (n < 0) →
          (∀ n2 : Int, n2 = (max n (0 - n)) → (-2147483647) ≤ n2 → n2 ≤ 2147483648 →
          (∀ n3 : Int, n3 = (IntKind.wrap .u64 n2) → 0 ≤ n3 → n3 ≤ 18446744073709551615 →
          ((1 ≤ n3) ∧
          ((n3 ≤ 2147483648) ∧
          (∀ n4 : Int, n4 = n3 → 1 ≤ n4 → n4 ≤ 2147483648 →
          (Pre_pexpo [[n4], [n1]] ∧
          (∀ n5 : Int, (-1099511627776) ≤ n5 → n5 ≤ 1099511627776 →
          (Post_pexpo [[n4], [n1]] [[n5]] →
          (Pre_power [[n5]] ∧
          (∀ n6 : Int, 0 ≤ n6 → n6 ≤ 2147483648 →
          (Post_power [[n5]] [[n6]] →
          (((n < 0) →
            (((¬ (((IntKind.wrap .i32 (n1.tdiv 65536)).tmod 2) = 0)) →
              (∀ n7 : Int, n7 = (0 - n6) → (-2147483648) ≤ n7 → n7 ≤ 0 →
              (Pre_sat [[n7]] ∧
              (∀ n8 : Int, (-2147483648) ≤ n8 → n8 ≤ 2147483647 →
              (Post_sat [[n7]] [[n8]] →
              Post_pow [[n], [n1]] [[n8], [0]]))))) ∧
             (¬ (¬ (((IntKind.wrap .i32 (n1.tdiv 65536)).tmod 2) = 0)) →
              (Pre_sat [[n6]] ∧
              (∀ n7 : Int, (-2147483648) ≤ n7 → n7 ≤ 2147483647 →
              (Post_sat [[n6]] [[n7]] →
              Post_pow [[n], [n1]] [[n7], [0]])))))) ∧
           (¬ (n < 0) →
            (Pre_sat [[n6]] ∧
            (∀ n7 : Int, (-2147483648) ≤ n7 → n7 ≤ 2147483647 →
            (Post_sat [[n6]] [[n7]] →
            Post_pow [[n], [n1]] [[n7], [0]])))))))))))))))))))))))))))
theorem c_pow : canCall Try.prog 12 = true := by kernel_rfl
theorem s_pow : P_pow = sat E (symTop Try.prog tab64 2000 12 ash_pow sh_pow) := by kernel_rfl
theorem pure_pow (hV : Valid Try.prog tab64 E) (h : P_pow) (args : List Value) (ha : shaFits ash_pow args) (hp : E.pre 12 (args.map vints)) : Pure Try.prog 12 args.toArray fun v => sh_pow.fits v ∧ E.post 12 (args.map vints) (vres v) := @top_sat Try.prog tab64 E hV 2000 12 ash_pow sh_pow (@Eq.mp _ _ s_pow h) args ha hp
theorem step_pow (hV : Valid Try.prog tab64 E) (h : P_pow) : Valid Try.prog tab65 E := hV.add c_pow (pure_pow hV h)

/-- gouache/gouachelaw04.lives -/
def P_lives : Prop :=
  (Pre_lives [] →
  (Pre_log2 [[65536]] ∧
  (∀ n : Int, (-1048576) ≤ n → n ≤ 983040 →
  (∀ n1 : Int, 0 ≤ n1 → n1 ≤ 15 →
  (Post_log2 [[65536]] [[n], [n1]] →
  (Pre_log2 [[1]] ∧
  (∀ n2 : Int, (-1048576) ≤ n2 → n2 ≤ 983040 →
  (∀ n3 : Int, 0 ≤ n3 → n3 ≤ 15 →
  (Post_log2 [[1]] [[n2], [n3]] →
  (Pre_log2 [[0]] ∧
  (∀ n4 : Int, (-1048576) ≤ n4 → n4 ≤ 983040 →
  (∀ n5 : Int, 0 ≤ n5 → n5 ≤ 15 →
  (Post_log2 [[0]] [[n4], [n5]] →
  (Pre_pow [[196608], [131072]] ∧
  (∀ n6 : Int, (-2147483648) ≤ n6 → n6 ≤ 2147483647 →
  (∀ n7 : Int, 0 ≤ n7 → n7 ≤ 15 →
  (Post_pow [[196608], [131072]] [[n6], [n7]] →
  (Pre_pow [[(-131072)], [196608]] ∧
  (∀ n8 : Int, (-2147483648) ≤ n8 → n8 ≤ 2147483647 →
  (∀ n9 : Int, 0 ≤ n9 → n9 ≤ 15 →
  (Post_pow [[(-131072)], [196608]] [[n8], [n9]] →
  (Pre_pow [[(-1)], [1]] ∧
  (∀ n10 : Int, (-2147483648) ≤ n10 → n10 ≤ 2147483647 →
  (∀ n11 : Int, 0 ≤ n11 → n11 ≤ 15 →
  (Post_pow [[(-1)], [1]] [[n10], [n11]] →
  (Pre_pow [[0], [0]] ∧
  (∀ n12 : Int, (-2147483648) ≤ n12 → n12 ≤ 2147483647 →
  (∀ n13 : Int, 0 ≤ n13 → n13 ≤ 15 →
  (Post_pow [[0], [0]] [[n12], [n13]] →
  (Pre_pow [[0], [(-1)]] ∧
  (∀ n14 : Int, (-2147483648) ≤ n14 → n14 ≤ 2147483647 →
  (∀ n15 : Int, 0 ≤ n15 → n15 ≤ 15 →
  (Post_pow [[0], [(-1)]] [[n14], [n15]] →
  (((n = 0) →
    (((¬ (n1 = 0)) →
      Post_lives [] [[b2i false]]) ∧
     (¬ (¬ (n1 = 0)) →
      (((n2 = (-1048576)) →
        (((¬ (n3 = 0)) →
          Post_lives [] [[b2i false]]) ∧
         (¬ (¬ (n3 = 0)) →
          (((n4 = 0) →
            (((¬ (n5 = 1)) →
              Post_lives [] [[b2i false]]) ∧
             (¬ (¬ (n5 = 1)) →
              (((n6 = 589824) →
                (((¬ (n7 = 0)) →
                  Post_lives [] [[b2i false]]) ∧
                 (¬ (¬ (n7 = 0)) →
                  (((n8 = (-524288)) →
                    (((¬ (n9 = 0)) →
                      Post_lives [] [[b2i false]]) ∧
                     (¬ (¬ (n9 = 0)) →
                      (((n10 = 0) →
                        (((¬ (n11 = 1)) →
                          Post_lives [] [[b2i false]]) ∧
                         (¬ (¬ (n11 = 1)) →
                          (((n12 = 65536) →
                            (((¬ (n13 = 0)) →
                              Post_lives [] [[b2i false]]) ∧
                             (¬ (¬ (n13 = 0)) →
                              (((n14 = 0) →
                                (((¬ (n15 = 12)) →
                                  Post_lives [] [[b2i false]]) ∧
                                 (¬ (¬ (n15 = 12)) →
                                  (Pre_exp2 [[0]] ∧
                                  (∀ n16 : Int, 0 ≤ n16 → n16 ≤ 2147483647 →
                                  (Post_exp2 [[0]] [[n16]] →
                                  (((n16 = 65536) →
                                    (Pre_exp2 [[65536]] ∧
                                    (∀ n17 : Int, 0 ≤ n17 → n17 ≤ 2147483647 →
                                    (Post_exp2 [[65536]] [[n17]] →
                                    (((n17 = 131072) →
                                      (Pre_exp2 [[(-1048576)]] ∧
                                      (∀ n18 : Int, 0 ≤ n18 → n18 ≤ 2147483647 →
                                      (Post_exp2 [[(-1048576)]] [[n18]] →
                                      (((n18 = 1) →
                                        (Pre_exp2 [[(-1114112)]] ∧
                                        (∀ n19 : Int, 0 ≤ n19 → n19 ≤ 2147483647 →
                                        (Post_exp2 [[(-1114112)]] [[n19]] →
                                        (((n19 = 1) →
                                          (Pre_exp2 [[(-1179648)]] ∧
                                          (∀ n20 : Int, 0 ≤ n20 → n20 ≤ 2147483647 →
                                          (Post_exp2 [[(-1179648)]] [[n20]] →
                                          (((n20 = 0) →
                                            (Pre_exp2 [[983040]] ∧
                                            (∀ n21 : Int, 0 ≤ n21 → n21 ≤ 2147483647 →
                                            (Post_exp2 [[983040]] [[n21]] →
                                            (((n21 = 2147483647) →
                                              (Pre_exp2 [[32768]] ∧
                                              (∀ n22 : Int, 0 ≤ n22 → n22 ≤ 2147483647 →
                                              (Post_exp2 [[32768]] [[n22]] →
                                              Post_lives [] [[b2i (n22 == 92682)]])))) ∧
                                             (¬ (n21 = 2147483647) →
                                              Post_lives [] [[b2i false]])))))) ∧
                                           (¬ (n20 = 0) →
                                            Post_lives [] [[b2i false]])))))) ∧
                                         (¬ (n19 = 1) →
                                          Post_lives [] [[b2i false]])))))) ∧
                                       (¬ (n18 = 1) →
                                        Post_lives [] [[b2i false]])))))) ∧
                                     (¬ (n17 = 131072) →
                                      Post_lives [] [[b2i false]])))))) ∧
                                   (¬ (n16 = 65536) →
                                    Post_lives [] [[b2i false]])))))))) ∧
                               (¬ (n14 = 0) →
                                Post_lives [] [[b2i false]]))))) ∧
                           (¬ (n12 = 65536) →
                            Post_lives [] [[b2i false]]))))) ∧
                       (¬ (n10 = 0) →
                        Post_lives [] [[b2i false]]))))) ∧
                   (¬ (n8 = (-524288)) →
                    Post_lives [] [[b2i false]]))))) ∧
               (¬ (n6 = 589824) →
                Post_lives [] [[b2i false]]))))) ∧
           (¬ (n4 = 0) →
            Post_lives [] [[b2i false]]))))) ∧
       (¬ (n2 = (-1048576)) →
        Post_lives [] [[b2i false]]))))) ∧
   (¬ (n = 0) →
    Post_lives [] [[b2i false]])))))))))))))))))))))))))))))))))))
theorem c_lives : canCall Try.prog 16 = true := by kernel_rfl
theorem s_lives : P_lives = sat E (symTop Try.prog tab65 2000 16 ash_lives sh_lives) := by kernel_rfl
theorem pure_lives (hV : Valid Try.prog tab65 E) (h : P_lives) (args : List Value) (ha : shaFits ash_lives args) (hp : E.pre 16 (args.map vints)) : Pure Try.prog 16 args.toArray fun v => sh_lives.fits v ∧ E.post 16 (args.map vints) (vres v) := @top_sat Try.prog tab65 E hV 2000 16 ash_lives sh_lives (@Eq.mp _ _ s_lives h) args ha hp
theorem step_lives (hV : Valid Try.prog tab65 E) (h : P_lives) : Valid Try.prog tab66 E := hV.add c_lives (pure_lives hV h)

/-- gouache/gouachelaw04.PowersWhole -/
def P_lwhole : Prop :=
  (∀ n : Int, (-2147483648) ≤ n → n ≤ 2147483647 →
  (∀ n1 : Int, (-128) ≤ n1 → n1 ≤ 127 →
  (Pre_lwhole [[n], [n1]] →
  ((((-16) ≤ n1) →
    (((n1 ≤ 14) →
      ((0 ≤ (n1 + 16)) ∧
      (∀ n2 : Int, n2 = (n1 + 16) → 0 ≤ n2 → n2 ≤ 143 →
      (∀ n3 : Int, n3 = (shI .shl .i32 1 n2) → (-2147483648) ≤ n3 → n3 ≤ 2147483647 →
      (Pre_log2 [[n3]] ∧
      (∀ n4 : Int, (-1048576) ≤ n4 → n4 ≤ 983040 →
      (∀ n5 : Int, 0 ≤ n5 → n5 ≤ 15 →
      (Post_log2 [[n3]] [[n4], [n5]] →
      (∀ n6 : Int, n6 = (n1 * 65536) → (-8388608) ≤ n6 → n6 ≤ 8323072 →
      (Pre_exp2 [[n6]] ∧
      (∀ n7 : Int, 0 ≤ n7 → n7 ≤ 2147483647 →
      (Post_exp2 [[n6]] [[n7]] →
      (((¬ (n7 = n3)) →
        Post_lwhole [[n], [n1]] [[b2i false]]) ∧
       (¬ (¬ (n7 = n3)) →
        (∀ n8 : Int, n8 = (n1 * 65536) → (-8388608) ≤ n8 → n8 ≤ 8323072 →
        (((n4 = n8) →
          (((¬ (n5 = 0)) →
            Post_lwhole [[n], [n1]] [[b2i false]]) ∧
           (¬ (¬ (n5 = 0)) →
            (Pre_pow [[131072], [n]] ∧
            (∀ n9 : Int, (-2147483648) ≤ n9 → n9 ≤ 2147483647 →
            (∀ n10 : Int, 0 ≤ n10 → n10 ≤ 15 →
            (Post_pow [[131072], [n]] [[n9], [n10]] →
            (Pre_pow [[n], [65536]] ∧
            (∀ n11 : Int, (-2147483648) ≤ n11 → n11 ≤ 2147483647 →
            (∀ n12 : Int, 0 ≤ n12 → n12 ≤ 15 →
            (Post_pow [[n], [65536]] [[n11], [n12]] →
            (Pre_pow [[n], [0]] ∧
            (∀ n13 : Int, (-2147483648) ≤ n13 → n13 ≤ 2147483647 →
            (∀ n14 : Int, 0 ≤ n14 → n14 ≤ 15 →
            (Post_pow [[n], [0]] [[n13], [n14]] →
            (Pre_pow [[65536], [n]] ∧
            (∀ n15 : Int, (-2147483648) ≤ n15 → n15 ≤ 2147483647 →
            (∀ n16 : Int, 0 ≤ n16 → n16 ≤ 15 →
            (Post_pow [[65536], [n]] [[n15], [n16]] →
            (Pre_exp2 [[n]] ∧
            (∀ n17 : Int, 0 ≤ n17 → n17 ≤ 2147483647 →
            (Post_exp2 [[n]] [[n17]] →
            (((n9 = n17) →
              (((n10 = 0) →
                (((n11 = n) →
                  (((n12 = 0) →
                    (((n13 = 65536) →
                      (((n14 = 0) →
                        (((n15 = 65536) →
                          (((n16 = 0) →
                            (Pre_lives [] ∧
                            (∀ t : Bool, (Post_lives [] [[b2i t]] →
                            Post_lwhole [[n], [n1]] [[b2i t]])))) ∧
                           (¬ (n16 = 0) →
                            Post_lwhole [[n], [n1]] [[b2i false]]))) ∧
                         (¬ (n15 = 65536) →
                          Post_lwhole [[n], [n1]] [[b2i false]]))) ∧
                       (¬ (n14 = 0) →
                        Post_lwhole [[n], [n1]] [[b2i false]]))) ∧
                     (¬ (n13 = 65536) →
                      Post_lwhole [[n], [n1]] [[b2i false]]))) ∧
                   (¬ (n12 = 0) →
                    Post_lwhole [[n], [n1]] [[b2i false]]))) ∧
                 (¬ (n11 = n) →
                  Post_lwhole [[n], [n1]] [[b2i false]]))) ∧
               (¬ (n10 = 0) →
                Post_lwhole [[n], [n1]] [[b2i false]]))) ∧
             (¬ (n9 = n17) →
              Post_lwhole [[n], [n1]] [[b2i false]])))))))))))))))))))))))) ∧
         (¬ (n4 = n8) →
          Post_lwhole [[n], [n1]] [[b2i false]]))))))))))))))))) ∧
     (¬ (n1 ≤ 14) →
      (Pre_pow [[131072], [n]] ∧
      (∀ n2 : Int, (-2147483648) ≤ n2 → n2 ≤ 2147483647 →
      (∀ n3 : Int, 0 ≤ n3 → n3 ≤ 15 →
      (Post_pow [[131072], [n]] [[n2], [n3]] →
      (Pre_pow [[n], [65536]] ∧
      (∀ n4 : Int, (-2147483648) ≤ n4 → n4 ≤ 2147483647 →
      (∀ n5 : Int, 0 ≤ n5 → n5 ≤ 15 →
      (Post_pow [[n], [65536]] [[n4], [n5]] →
      (Pre_pow [[n], [0]] ∧
      (∀ n6 : Int, (-2147483648) ≤ n6 → n6 ≤ 2147483647 →
      (∀ n7 : Int, 0 ≤ n7 → n7 ≤ 15 →
      (Post_pow [[n], [0]] [[n6], [n7]] →
      (Pre_pow [[65536], [n]] ∧
      (∀ n8 : Int, (-2147483648) ≤ n8 → n8 ≤ 2147483647 →
      (∀ n9 : Int, 0 ≤ n9 → n9 ≤ 15 →
      (Post_pow [[65536], [n]] [[n8], [n9]] →
      (Pre_exp2 [[n]] ∧
      (∀ n10 : Int, 0 ≤ n10 → n10 ≤ 2147483647 →
      (Post_exp2 [[n]] [[n10]] →
      (((n2 = n10) →
        (((n3 = 0) →
          (((n4 = n) →
            (((n5 = 0) →
              (((n6 = 65536) →
                (((n7 = 0) →
                  (((n8 = 65536) →
                    (((n9 = 0) →
                      (Pre_lives [] ∧
                      (∀ t : Bool, (Post_lives [] [[b2i t]] →
                      Post_lwhole [[n], [n1]] [[b2i t]])))) ∧
                     (¬ (n9 = 0) →
                      Post_lwhole [[n], [n1]] [[b2i false]]))) ∧
                   (¬ (n8 = 65536) →
                    Post_lwhole [[n], [n1]] [[b2i false]]))) ∧
                 (¬ (n7 = 0) →
                  Post_lwhole [[n], [n1]] [[b2i false]]))) ∧
               (¬ (n6 = 65536) →
                Post_lwhole [[n], [n1]] [[b2i false]]))) ∧
             (¬ (n5 = 0) →
              Post_lwhole [[n], [n1]] [[b2i false]]))) ∧
           (¬ (n4 = n) →
            Post_lwhole [[n], [n1]] [[b2i false]]))) ∧
         (¬ (n3 = 0) →
          Post_lwhole [[n], [n1]] [[b2i false]]))) ∧
       (¬ (n2 = n10) →
        Post_lwhole [[n], [n1]] [[b2i false]])))))))))))))))))))))))) ∧
   (¬ ((-16) ≤ n1) →
    (Pre_pow [[131072], [n]] ∧
    (∀ n2 : Int, (-2147483648) ≤ n2 → n2 ≤ 2147483647 →
    (∀ n3 : Int, 0 ≤ n3 → n3 ≤ 15 →
    (Post_pow [[131072], [n]] [[n2], [n3]] →
    (Pre_pow [[n], [65536]] ∧
    (∀ n4 : Int, (-2147483648) ≤ n4 → n4 ≤ 2147483647 →
    (∀ n5 : Int, 0 ≤ n5 → n5 ≤ 15 →
    (Post_pow [[n], [65536]] [[n4], [n5]] →
    (Pre_pow [[n], [0]] ∧
    (∀ n6 : Int, (-2147483648) ≤ n6 → n6 ≤ 2147483647 →
    (∀ n7 : Int, 0 ≤ n7 → n7 ≤ 15 →
    (Post_pow [[n], [0]] [[n6], [n7]] →
    (Pre_pow [[65536], [n]] ∧
    (∀ n8 : Int, (-2147483648) ≤ n8 → n8 ≤ 2147483647 →
    (∀ n9 : Int, 0 ≤ n9 → n9 ≤ 15 →
    (Post_pow [[65536], [n]] [[n8], [n9]] →
    (Pre_exp2 [[n]] ∧
    (∀ n10 : Int, 0 ≤ n10 → n10 ≤ 2147483647 →
    (Post_exp2 [[n]] [[n10]] →
    (((n2 = n10) →
      (((n3 = 0) →
        (((n4 = n) →
          (((n5 = 0) →
            (((n6 = 65536) →
              (((n7 = 0) →
                (((n8 = 65536) →
                  (((n9 = 0) →
                    (Pre_lives [] ∧
                    (∀ t : Bool, (Post_lives [] [[b2i t]] →
                    Post_lwhole [[n], [n1]] [[b2i t]])))) ∧
                   (¬ (n9 = 0) →
                    Post_lwhole [[n], [n1]] [[b2i false]]))) ∧
                 (¬ (n8 = 65536) →
                  Post_lwhole [[n], [n1]] [[b2i false]]))) ∧
               (¬ (n7 = 0) →
                Post_lwhole [[n], [n1]] [[b2i false]]))) ∧
             (¬ (n6 = 65536) →
              Post_lwhole [[n], [n1]] [[b2i false]]))) ∧
           (¬ (n5 = 0) →
            Post_lwhole [[n], [n1]] [[b2i false]]))) ∧
         (¬ (n4 = n) →
          Post_lwhole [[n], [n1]] [[b2i false]]))) ∧
       (¬ (n3 = 0) →
        Post_lwhole [[n], [n1]] [[b2i false]]))) ∧
     (¬ (n2 = n10) →
      Post_lwhole [[n], [n1]] [[b2i false]]))))))))))))))))))))))))))
theorem c_lwhole : canCall Try.prog 4 = true := by kernel_rfl
theorem s_lwhole : P_lwhole = sat E (symTop Try.prog tab66 2000 4 ash_lwhole sh_lwhole) := by kernel_rfl
theorem pure_lwhole (hV : Valid Try.prog tab66 E) (h : P_lwhole) (args : List Value) (ha : shaFits ash_lwhole args) (hp : E.pre 4 (args.map vints)) : Pure Try.prog 4 args.toArray fun v => sh_lwhole.fits v ∧ E.post 4 (args.map vints) (vres v) := @top_sat Try.prog tab66 E hV 2000 4 ash_lwhole sh_lwhole (@Eq.mp _ _ s_lwhole h) args ha hp
/-- gouache/gouachelaw04.PowersBack -/
def P_lback : Prop :=
  (∀ n : Int, (-2147483648) ≤ n → n ≤ 2147483647 →
  (Pre_lback [[n]] →
  (Pre_log2 [[n]] ∧
  (∀ n1 : Int, (-1048576) ≤ n1 → n1 ≤ 983040 →
  (∀ n2 : Int, 0 ≤ n2 → n2 ≤ 15 →
  (Post_log2 [[n]] [[n1], [n2]] →
  (((n ≤ 0) →
    (((n1 = 0) →
      (((¬ (n2 = 1)) →
        Post_lback [[n]] [[b2i false]]) ∧
       (¬ (¬ (n2 = 1)) →
        (Pre_exp2 [[n]] ∧
        (∀ n3 : Int, 0 ≤ n3 → n3 ≤ 2147483647 →
        (Post_exp2 [[n]] [[n3]] →
        (((n < 0) →
          (Pre_lives [] ∧
          (∀ t : Bool, (Post_lives [] [[b2i t]] →
          Post_lback [[n]] [[b2i t]])))) ∧
         (¬ (n < 0) →
          (((n3 = 2147483647) →
            (Pre_lives [] ∧
            (∀ t : Bool, (Post_lives [] [[b2i t]] →
            Post_lback [[n]] [[b2i t]])))) ∧
           (¬ (n3 = 2147483647) →
            (Pre_log2 [[n3]] ∧
            (∀ n4 : Int, (-1048576) ≤ n4 → n4 ≤ 983040 →
            (∀ n5 : Int, 0 ≤ n5 → n5 ≤ 15 →
            (Post_log2 [[n3]] [[n4], [n5]] →
            (((n5 = 0) →
              ((((IntKind.wrap .i32 (n - 1)) ≤ n4) →
                (((n4 ≤ (IntKind.wrap .i32 (n + 1))) →
                  (Pre_lives [] ∧
                  (∀ t : Bool, (Post_lives [] [[b2i t]] →
                  Post_lback [[n]] [[b2i t]])))) ∧
                 (¬ (n4 ≤ (IntKind.wrap .i32 (n + 1))) →
                  Post_lback [[n]] [[b2i false]]))) ∧
               (¬ ((IntKind.wrap .i32 (n - 1)) ≤ n4) →
                Post_lback [[n]] [[b2i false]]))) ∧
             (¬ (n5 = 0) →
              Post_lback [[n]] [[b2i false]])))))))))))))))) ∧
     (¬ (n1 = 0) →
      Post_lback [[n]] [[b2i false]]))) ∧
   (¬ (n ≤ 0) →
    (Pre_exp2 [[n1]] ∧
    (∀ n3 : Int, 0 ≤ n3 → n3 ≤ 2147483647 →
    (Post_exp2 [[n1]] [[n3]] →
    (∀ n4 : Int, n4 = (n3 - n) → (-2147483647) ≤ n4 → n4 ≤ 4294967295 →
    (((¬ (n2 = 0)) →
      Post_lback [[n]] [[b2i false]]) ∧
     (¬ (¬ (n2 = 0)) →
      (((((6 * n) + 589824) < (1048576 * (max n4 (0 - n4)))) →
        Post_lback [[n]] [[b2i false]]) ∧
       (¬ (((6 * n) + 589824) < (1048576 * (max n4 (0 - n4)))) →
        (Pre_exp2 [[n]] ∧
        (∀ n5 : Int, 0 ≤ n5 → n5 ≤ 2147483647 →
        (Post_exp2 [[n]] [[n5]] →
        (((n < 0) →
          (Pre_lives [] ∧
          (∀ t : Bool, (Post_lives [] [[b2i t]] →
          Post_lback [[n]] [[b2i t]])))) ∧
         (¬ (n < 0) →
          (((n5 = 2147483647) →
            (Pre_lives [] ∧
            (∀ t : Bool, (Post_lives [] [[b2i t]] →
            Post_lback [[n]] [[b2i t]])))) ∧
           (¬ (n5 = 2147483647) →
            (Pre_log2 [[n5]] ∧
            (∀ n6 : Int, (-1048576) ≤ n6 → n6 ≤ 983040 →
            (∀ n7 : Int, 0 ≤ n7 → n7 ≤ 15 →
            (Post_log2 [[n5]] [[n6], [n7]] →
            (((n7 = 0) →
              ((((IntKind.wrap .i32 (n - 1)) ≤ n6) →
                (((n6 ≤ (IntKind.wrap .i32 (n + 1))) →
                  (Pre_lives [] ∧
                  (∀ t : Bool, (Post_lives [] [[b2i t]] →
                  Post_lback [[n]] [[b2i t]])))) ∧
                 (¬ (n6 ≤ (IntKind.wrap .i32 (n + 1))) →
                  Post_lback [[n]] [[b2i false]]))) ∧
               (¬ ((IntKind.wrap .i32 (n - 1)) ≤ n6) →
                Post_lback [[n]] [[b2i false]]))) ∧
             (¬ (n7 = 0) →
              Post_lback [[n]] [[b2i false]])))))))))))))))))))))))))))))
theorem c_lback : canCall Try.prog 5 = true := by kernel_rfl
theorem s_lback : P_lback = sat E (symTop Try.prog tab66 2000 5 ash_lback sh_lback) := by kernel_rfl
theorem pure_lback (hV : Valid Try.prog tab66 E) (h : P_lback) (args : List Value) (ha : shaFits ash_lback args) (hp : E.pre 5 (args.map vints)) : Pure Try.prog 5 args.toArray fun v => sh_lback.fits v ∧ E.post 5 (args.map vints) (vres v) := @top_sat Try.prog tab66 E hV 2000 5 ash_lback sh_lback (@Eq.mp _ _ s_lback h) args ha hp
/-- gouache/gouachelaw04.PowersSums -/
def P_lsums : Prop :=
  (∀ n : Int, (-2147483648) ≤ n → n ≤ 2147483647 →
  (∀ n1 : Int, (-2147483648) ≤ n1 → n1 ≤ 2147483647 →
  (Pre_lsums [[n], [n1]] →
  (∀ n2 : Int, n2 = (n + n1) → (-4294967296) ≤ n2 → n2 ≤ 4294967294 →
  (((983040 ≤ n) →
    (Pre_lives [] ∧
    (∀ t : Bool, (Post_lives [] [[b2i t]] →
    Post_lsums [[n], [n1]] [[b2i t]])))) ∧
   (¬ (983040 ≤ n) →
    (((983040 ≤ n1) →
      (Pre_lives [] ∧
      (∀ t : Bool, (Post_lives [] [[b2i t]] →
      Post_lsums [[n], [n1]] [[b2i t]])))) ∧
     (¬ (983040 ≤ n1) →
      (((983040 ≤ n2) →
        (Pre_lives [] ∧
        (∀ t : Bool, (Post_lives [] [[b2i t]] →
        Post_lsums [[n], [n1]] [[b2i t]])))) ∧
       (¬ (983040 ≤ n2) →
        (((n2 < (-2147483648)) →
          (Pre_lives [] ∧
          (∀ t : Bool, (Post_lives [] [[b2i t]] →
          Post_lsums [[n], [n1]] [[b2i t]])))) ∧
         (¬ (n2 < (-2147483648)) →
          (Pre_exp2 [[n]] ∧
          (∀ n3 : Int, 0 ≤ n3 → n3 ≤ 2147483647 →
          (Post_exp2 [[n]] [[n3]] →
          (Pre_exp2 [[n1]] ∧
          (∀ n4 : Int, 0 ≤ n4 → n4 ≤ 2147483647 →
          (Post_exp2 [[n1]] [[n4]] →
          (∀ n5 : Int, n5 = (IntKind.wrap .i32 n2) → (-2147483648) ≤ n5 → n5 ≤ 2147483647 →
          (Pre_exp2 [[n5]] ∧
          (∀ n6 : Int, 0 ≤ n6 → n6 ≤ 2147483647 →
          (Post_exp2 [[n5]] [[n6]] →
          (((n3 = 2147483647) →
            (Pre_lives [] ∧
            (∀ t : Bool, (Post_lives [] [[b2i t]] →
            Post_lsums [[n], [n1]] [[b2i t]])))) ∧
           (¬ (n3 = 2147483647) →
            (((n4 = 2147483647) →
              (Pre_lives [] ∧
              (∀ t : Bool, (Post_lives [] [[b2i t]] →
              Post_lsums [[n], [n1]] [[b2i t]])))) ∧
             (¬ (n4 = 2147483647) →
              (((n6 = 2147483647) →
                (Pre_lives [] ∧
                (∀ t : Bool, (Post_lives [] [[b2i t]] →
                Post_lsums [[n], [n1]] [[b2i t]])))) ∧
               (¬ (n6 = 2147483647) →
                (∀ n7 : Int, n7 = ((n6 * 65536) - (n3 * n4)) → (-4611686014132420609) ≤ n7 → n7 ≤ 140737488289792 →
                (((((9 * ((65536 + n3) + n4)) + 16) < (IntKind.wrap .i64 (16 * (max n7 (0 - n7))))) →
                  Post_lsums [[n], [n1]] [[b2i false]]) ∧
                 (¬ (((9 * ((65536 + n3) + n4)) + 16) < (IntKind.wrap .i64 (16 * (max n7 (0 - n7))))) →
                  (((917504 ≤ n) →
                    (Pre_lives [] ∧
                    (∀ t : Bool, (Post_lives [] [[b2i t]] →
                    Post_lsums [[n], [n1]] [[b2i t]])))) ∧
                   (¬ (917504 ≤ n) →
                    (∀ n8 : Int, n8 = (IntKind.wrap .i32 (n + 65536)) → (-2147483648) ≤ n8 → n8 ≤ 2147483647 →
                    (Pre_exp2 [[n8]] ∧
                    (∀ n9 : Int, 0 ≤ n9 → n9 ≤ 2147483647 →
                    (Post_exp2 [[n8]] [[n9]] →
                    (∀ n10 : Int, n10 = (n9 - (2 * n3)) → (-4294967294) ≤ n10 → n10 ≤ 2147483647 →
                    ((((-1) ≤ n10) →
                      (((n10 ≤ 1) →
                        (Pre_lives [] ∧
                        (∀ t : Bool, (Post_lives [] [[b2i t]] →
                        Post_lsums [[n], [n1]] [[b2i t]])))) ∧
                       (¬ (n10 ≤ 1) →
                        (((2147483646 ≤ (2 * n3)) →
                          (Pre_lives [] ∧
                          (∀ t : Bool, (Post_lives [] [[b2i t]] →
                          Post_lsums [[n], [n1]] [[b2i t]])))) ∧
                         (¬ (2147483646 ≤ (2 * n3)) →
                          Post_lsums [[n], [n1]] [[b2i false]]))))) ∧
                     (¬ ((-1) ≤ n10) →
                      (((2147483646 ≤ (2 * n3)) →
                        (Pre_lives [] ∧
                        (∀ t : Bool, (Post_lives [] [[b2i t]] →
                        Post_lsums [[n], [n1]] [[b2i t]])))) ∧
                       (¬ (2147483646 ≤ (2 * n3)) →
                        Post_lsums [[n], [n1]] [[b2i false]]))))))))))))))))))))))))))))))))))))))))))
theorem c_lsums : canCall Try.prog 6 = true := by kernel_rfl
theorem s_lsums : P_lsums = sat E (symTop Try.prog tab66 2000 6 ash_lsums sh_lsums) := by kernel_rfl
theorem pure_lsums (hV : Valid Try.prog tab66 E) (h : P_lsums) (args : List Value) (ha : shaFits ash_lsums args) (hp : E.pre 6 (args.map vints)) : Pure Try.prog 6 args.toArray fun v => sh_lsums.fits v ∧ E.post 6 (args.map vints) (vres v) := @top_sat Try.prog tab66 E hV 2000 6 ash_lsums sh_lsums (@Eq.mp _ _ s_lsums h) args ha hp
/-- gouache/gouachelaw04.PowersRise -/
def P_lrise : Prop :=
  (∀ n : Int, (-2147483648) ≤ n → n ≤ 2147483647 →
  (∀ n1 : Int, (-2147483648) ≤ n1 → n1 ≤ 2147483647 →
  (∀ n2 : Int, (-2147483648) ≤ n2 → n2 ≤ 2147483647 →
  (Pre_lrise [[n], [n1], [n2]] →
  (∀ n3 : Int, n3 = (min n n1) → (-2147483648) ≤ n3 → n3 ≤ 2147483647 →
  (∀ n4 : Int, n4 = (max n n1) → (-2147483648) ≤ n4 → n4 ≤ 2147483647 →
  (Pre_exp2 [[n3]] ∧
  (∀ n5 : Int, 0 ≤ n5 → n5 ≤ 2147483647 →
  (Post_exp2 [[n3]] [[n5]] →
  (Pre_exp2 [[n4]] ∧
  (∀ n6 : Int, 0 ≤ n6 → n6 ≤ 2147483647 →
  (Post_exp2 [[n4]] [[n6]] →
  (((n6 < n5) →
    Post_lrise [[n], [n1], [n2]] [[b2i false]]) ∧
   (¬ (n6 < n5) →
    (((n3 ≤ 0) →
      (Pre_lives [] ∧
      (∀ t : Bool, (Post_lives [] [[b2i t]] →
      Post_lrise [[n], [n1], [n2]] [[b2i t]])))) ∧
     (¬ (n3 ≤ 0) →
      (Pre_log2 [[n3]] ∧
      (∀ n7 : Int, (-1048576) ≤ n7 → n7 ≤ 983040 →
      (∀ n8 : Int, 0 ≤ n8 → n8 ≤ 15 →
      (Post_log2 [[n3]] [[n7], [n8]] →
      (Pre_log2 [[n4]] ∧
      (∀ n9 : Int, (-1048576) ≤ n9 → n9 ≤ 983040 →
      (∀ n10 : Int, 0 ≤ n10 → n10 ≤ 15 →
      (Post_log2 [[n4]] [[n9], [n10]] →
      (Pre_pow [[n3], [n2]] ∧
      (∀ n11 : Int, (-2147483648) ≤ n11 → n11 ≤ 2147483647 →
      (∀ n12 : Int, 0 ≤ n12 → n12 ≤ 15 →
      (Post_pow [[n3], [n2]] [[n11], [n12]] →
      (Pre_pow [[n4], [n2]] ∧
      (∀ n13 : Int, (-2147483648) ≤ n13 → n13 ≤ 2147483647 →
      (∀ n14 : Int, 0 ≤ n14 → n14 ≤ 15 →
      (Post_pow [[n4], [n2]] [[n13], [n14]] →
      (((¬ (n8 = 0)) →
        Post_lrise [[n], [n1], [n2]] [[b2i false]]) ∧
       (¬ (¬ (n8 = 0)) →
        (((¬ (n10 = 0)) →
          Post_lrise [[n], [n1], [n2]] [[b2i false]]) ∧
         (¬ (¬ (n10 = 0)) →
          (((¬ (n12 = 0)) →
            Post_lrise [[n], [n1], [n2]] [[b2i false]]) ∧
           (¬ (¬ (n12 = 0)) →
            (((¬ (n14 = 0)) →
              Post_lrise [[n], [n1], [n2]] [[b2i false]]) ∧
             (¬ (¬ (n14 = 0)) →
              (((n9 < n7) →
                Post_lrise [[n], [n1], [n2]] [[b2i false]]) ∧
               (¬ (n9 < n7) →
                (((0 < n2) →
                  (((n13 < n11) →
                    Post_lrise [[n], [n1], [n2]] [[b2i false]]) ∧
                   (¬ (n13 < n11) →
                    (((n2 < 0) →
                      (((n11 < n13) →
                        Post_lrise [[n], [n1], [n2]] [[b2i false]]) ∧
                       (¬ (n11 < n13) →
                        (((1073741823 < n3) →
                          (Pre_lives [] ∧
                          (∀ t : Bool, (Post_lives [] [[b2i t]] →
                          Post_lrise [[n], [n1], [n2]] [[b2i t]])))) ∧
                         (¬ (1073741823 < n3) →
                          (∀ n15 : Int, n15 = (IntKind.wrap .i32 (2 * n3)) → (-2147483648) ≤ n15 → n15 ≤ 2147483647 →
                          (Pre_log2 [[n15]] ∧
                          (∀ n16 : Int, (-1048576) ≤ n16 → n16 ≤ 983040 →
                          (∀ n17 : Int, 0 ≤ n17 → n17 ≤ 15 →
                          (Post_log2 [[n15]] [[n16], [n17]] →
                          (∀ n18 : Int, n18 = (n7 + 65536) → (-983040) ≤ n18 → n18 ≤ 1048576 →
                          (((n16 = n18) →
                            (((n17 = 0) →
                              (Pre_lives [] ∧
                              (∀ t : Bool, (Post_lives [] [[b2i t]] →
                              Post_lrise [[n], [n1], [n2]] [[b2i t]])))) ∧
                             (¬ (n17 = 0) →
                              Post_lrise [[n], [n1], [n2]] [[b2i false]]))) ∧
                           (¬ (n16 = n18) →
                            Post_lrise [[n], [n1], [n2]] [[b2i false]]))))))))))))) ∧
                     (¬ (n2 < 0) →
                      (((1073741823 < n3) →
                        (Pre_lives [] ∧
                        (∀ t : Bool, (Post_lives [] [[b2i t]] →
                        Post_lrise [[n], [n1], [n2]] [[b2i t]])))) ∧
                       (¬ (1073741823 < n3) →
                        (∀ n15 : Int, n15 = (IntKind.wrap .i32 (2 * n3)) → (-2147483648) ≤ n15 → n15 ≤ 2147483647 →
                        (Pre_log2 [[n15]] ∧
                        (∀ n16 : Int, (-1048576) ≤ n16 → n16 ≤ 983040 →
                        (∀ n17 : Int, 0 ≤ n17 → n17 ≤ 15 →
                        (Post_log2 [[n15]] [[n16], [n17]] →
                        (∀ n18 : Int, n18 = (n7 + 65536) → (-983040) ≤ n18 → n18 ≤ 1048576 →
                        (((n16 = n18) →
                          (((n17 = 0) →
                            (Pre_lives [] ∧
                            (∀ t : Bool, (Post_lives [] [[b2i t]] →
                            Post_lrise [[n], [n1], [n2]] [[b2i t]])))) ∧
                           (¬ (n17 = 0) →
                            Post_lrise [[n], [n1], [n2]] [[b2i false]]))) ∧
                         (¬ (n16 = n18) →
                          Post_lrise [[n], [n1], [n2]] [[b2i false]]))))))))))))))) ∧
                 (¬ (0 < n2) →
                  (((n2 < 0) →
                    (((n11 < n13) →
                      Post_lrise [[n], [n1], [n2]] [[b2i false]]) ∧
                     (¬ (n11 < n13) →
                      (((1073741823 < n3) →
                        (Pre_lives [] ∧
                        (∀ t : Bool, (Post_lives [] [[b2i t]] →
                        Post_lrise [[n], [n1], [n2]] [[b2i t]])))) ∧
                       (¬ (1073741823 < n3) →
                        (∀ n15 : Int, n15 = (IntKind.wrap .i32 (2 * n3)) → (-2147483648) ≤ n15 → n15 ≤ 2147483647 →
                        (Pre_log2 [[n15]] ∧
                        (∀ n16 : Int, (-1048576) ≤ n16 → n16 ≤ 983040 →
                        (∀ n17 : Int, 0 ≤ n17 → n17 ≤ 15 →
                        (Post_log2 [[n15]] [[n16], [n17]] →
                        (∀ n18 : Int, n18 = (n7 + 65536) → (-983040) ≤ n18 → n18 ≤ 1048576 →
                        (((n16 = n18) →
                          (((n17 = 0) →
                            (Pre_lives [] ∧
                            (∀ t : Bool, (Post_lives [] [[b2i t]] →
                            Post_lrise [[n], [n1], [n2]] [[b2i t]])))) ∧
                           (¬ (n17 = 0) →
                            Post_lrise [[n], [n1], [n2]] [[b2i false]]))) ∧
                         (¬ (n16 = n18) →
                          Post_lrise [[n], [n1], [n2]] [[b2i false]]))))))))))))) ∧
                   (¬ (n2 < 0) →
                    (((1073741823 < n3) →
                      (Pre_lives [] ∧
                      (∀ t : Bool, (Post_lives [] [[b2i t]] →
                      Post_lrise [[n], [n1], [n2]] [[b2i t]])))) ∧
                     (¬ (1073741823 < n3) →
                      (∀ n15 : Int, n15 = (IntKind.wrap .i32 (2 * n3)) → (-2147483648) ≤ n15 → n15 ≤ 2147483647 →
                      (Pre_log2 [[n15]] ∧
                      (∀ n16 : Int, (-1048576) ≤ n16 → n16 ≤ 983040 →
                      (∀ n17 : Int, 0 ≤ n17 → n17 ≤ 15 →
                      (Post_log2 [[n15]] [[n16], [n17]] →
                      (∀ n18 : Int, n18 = (n7 + 65536) → (-983040) ≤ n18 → n18 ≤ 1048576 →
                      (((n16 = n18) →
                        (((n17 = 0) →
                          (Pre_lives [] ∧
                          (∀ t : Bool, (Post_lives [] [[b2i t]] →
                          Post_lrise [[n], [n1], [n2]] [[b2i t]])))) ∧
                         (¬ (n17 = 0) →
                          Post_lrise [[n], [n1], [n2]] [[b2i false]]))) ∧
                       (¬ (n16 = n18) →
                        Post_lrise [[n], [n1], [n2]] [[b2i false]]))))))))))))))))))))))))))))))))))))))))))))))))))))))))
theorem c_lrise : canCall Try.prog 7 = true := by kernel_rfl
theorem s_lrise : P_lrise = sat E (symTop Try.prog tab66 2000 7 ash_lrise sh_lrise) := by kernel_rfl
theorem pure_lrise (hV : Valid Try.prog tab66 E) (h : P_lrise) (args : List Value) (ha : shaFits ash_lrise args) (hp : E.pre 7 (args.map vints)) : Pure Try.prog 7 args.toArray fun v => sh_lrise.fits v ∧ E.post 7 (args.map vints) (vres v) := @top_sat Try.prog tab66 E hV 2000 7 ash_lrise sh_lrise (@Eq.mp _ _ s_lrise h) args ha hp
/-- gouache/gouachelaw04.PowersRefused -/
def P_lrefused : Prop :=
  (∀ n : Int, (-2147483648) ≤ n → n ≤ 2147483647 →
  (∀ n1 : Int, (-2147483648) ≤ n1 → n1 ≤ 2147483647 →
  (Pre_lrefused [[n], [n1]] →
  (Pre_pow [[n], [n1]] ∧
  (∀ n2 : Int, (-2147483648) ≤ n2 → n2 ≤ 2147483647 →
  (∀ n3 : Int, 0 ≤ n3 → n3 ≤ 15 →
  (Post_pow [[n], [n1]] [[n2], [n3]] →
  (((n1 = 0) →
    (((n2 = 65536) →
      (((n3 = 0) →
        (Pre_lives [] ∧
        (∀ t : Bool, (Post_lives [] [[b2i t]] →
        Post_lrefused [[n], [n1]] [[b2i t]])))) ∧
       (¬ (n3 = 0) →
        Post_lrefused [[n], [n1]] [[b2i false]]))) ∧
     (¬ (n2 = 65536) →
      Post_lrefused [[n], [n1]] [[b2i false]]))) ∧
   (¬ (n1 = 0) →
    (((n = 0) →
      (((n1 < 0) →
        (((n2 = 0) →
          (((n3 = 12) →
            (Pre_lives [] ∧
            (∀ t : Bool, (Post_lives [] [[b2i t]] →
            Post_lrefused [[n], [n1]] [[b2i t]])))) ∧
           (¬ (n3 = 12) →
            Post_lrefused [[n], [n1]] [[b2i false]]))) ∧
         (¬ (n2 = 0) →
          Post_lrefused [[n], [n1]] [[b2i false]]))) ∧
       (¬ (n1 < 0) →
        (((n = 0) →
          (((n2 = 0) →
            (((n3 = 0) →
              (Pre_lives [] ∧
              (∀ t : Bool, (Post_lives [] [[b2i t]] →
              Post_lrefused [[n], [n1]] [[b2i t]])))) ∧
             (¬ (n3 = 0) →
              Post_lrefused [[n], [n1]] [[b2i false]]))) ∧
           (¬ (n2 = 0) →
            Post_lrefused [[n], [n1]] [[b2i false]]))) ∧
         (¬ (n = 0) →
          (((n < 0) →
            (((¬ ((n1.tmod 65536) = 0)) →
              (((n2 = 0) →
                (((n3 = 1) →
                  (Pre_lives [] ∧
                  (∀ t : Bool, (Post_lives [] [[b2i t]] →
                  Post_lrefused [[n], [n1]] [[b2i t]])))) ∧
                 (¬ (n3 = 1) →
                  Post_lrefused [[n], [n1]] [[b2i false]]))) ∧
               (¬ (n2 = 0) →
                Post_lrefused [[n], [n1]] [[b2i false]]))) ∧
             (¬ (¬ ((n1.tmod 65536) = 0)) →
              (((n3 = 0) →
                (((n < 0) →
                  (Pre_lives [] ∧
                  (∀ t : Bool, (Post_lives [] [[b2i t]] →
                  Post_lrefused [[n], [n1]] [[b2i t]])))) ∧
                 (¬ (n < 0) →
                  (((0 ≤ n2) →
                    (Pre_lives [] ∧
                    (∀ t : Bool, (Post_lives [] [[b2i t]] →
                    Post_lrefused [[n], [n1]] [[b2i t]])))) ∧
                   (¬ (0 ≤ n2) →
                    Post_lrefused [[n], [n1]] [[b2i false]]))))) ∧
               (¬ (n3 = 0) →
                Post_lrefused [[n], [n1]] [[b2i false]]))))) ∧
           (¬ (n < 0) →
            (((n3 = 0) →
              (((n < 0) →
                (Pre_lives [] ∧
                (∀ t : Bool, (Post_lives [] [[b2i t]] →
                Post_lrefused [[n], [n1]] [[b2i t]])))) ∧
               (¬ (n < 0) →
                (((0 ≤ n2) →
                  (Pre_lives [] ∧
                  (∀ t : Bool, (Post_lives [] [[b2i t]] →
                  Post_lrefused [[n], [n1]] [[b2i t]])))) ∧
                 (¬ (0 ≤ n2) →
                  Post_lrefused [[n], [n1]] [[b2i false]]))))) ∧
             (¬ (n3 = 0) →
              Post_lrefused [[n], [n1]] [[b2i false]]))))))))) ∧
     (¬ (n = 0) →
      (((n = 0) →
        (((n2 = 0) →
          (((n3 = 0) →
            (Pre_lives [] ∧
            (∀ t : Bool, (Post_lives [] [[b2i t]] →
            Post_lrefused [[n], [n1]] [[b2i t]])))) ∧
           (¬ (n3 = 0) →
            Post_lrefused [[n], [n1]] [[b2i false]]))) ∧
         (¬ (n2 = 0) →
          Post_lrefused [[n], [n1]] [[b2i false]]))) ∧
       (¬ (n = 0) →
        (((n < 0) →
          (((¬ ((n1.tmod 65536) = 0)) →
            (((n2 = 0) →
              (((n3 = 1) →
                (Pre_lives [] ∧
                (∀ t : Bool, (Post_lives [] [[b2i t]] →
                Post_lrefused [[n], [n1]] [[b2i t]])))) ∧
               (¬ (n3 = 1) →
                Post_lrefused [[n], [n1]] [[b2i false]]))) ∧
             (¬ (n2 = 0) →
              Post_lrefused [[n], [n1]] [[b2i false]]))) ∧
           (¬ (¬ ((n1.tmod 65536) = 0)) →
            (((n3 = 0) →
              (((n < 0) →
                (Pre_lives [] ∧
                (∀ t : Bool, (Post_lives [] [[b2i t]] →
                Post_lrefused [[n], [n1]] [[b2i t]])))) ∧
               (¬ (n < 0) →
                (((0 ≤ n2) →
                  (Pre_lives [] ∧
                  (∀ t : Bool, (Post_lives [] [[b2i t]] →
                  Post_lrefused [[n], [n1]] [[b2i t]])))) ∧
                 (¬ (0 ≤ n2) →
                  Post_lrefused [[n], [n1]] [[b2i false]]))))) ∧
             (¬ (n3 = 0) →
              Post_lrefused [[n], [n1]] [[b2i false]]))))) ∧
         (¬ (n < 0) →
          (((n3 = 0) →
            (((n < 0) →
              (Pre_lives [] ∧
              (∀ t : Bool, (Post_lives [] [[b2i t]] →
              Post_lrefused [[n], [n1]] [[b2i t]])))) ∧
             (¬ (n < 0) →
              (((0 ≤ n2) →
                (Pre_lives [] ∧
                (∀ t : Bool, (Post_lives [] [[b2i t]] →
                Post_lrefused [[n], [n1]] [[b2i t]])))) ∧
               (¬ (0 ≤ n2) →
                Post_lrefused [[n], [n1]] [[b2i false]]))))) ∧
           (¬ (n3 = 0) →
            Post_lrefused [[n], [n1]] [[b2i false]])))))))))))))))))
theorem c_lrefused : canCall Try.prog 8 = true := by kernel_rfl
theorem s_lrefused : P_lrefused = sat E (symTop Try.prog tab66 2000 8 ash_lrefused sh_lrefused) := by kernel_rfl
theorem pure_lrefused (hV : Valid Try.prog tab66 E) (h : P_lrefused) (args : List Value) (ha : shaFits ash_lrefused args) (hp : E.pre 8 (args.map vints)) : Pure Try.prog 8 args.toArray fun v => sh_lrefused.fits v ∧ E.post 8 (args.map vints) (vres v) := @top_sat Try.prog tab66 E hV 2000 8 ash_lrefused sh_lrefused (@Eq.mp _ _ s_lrefused h) args ha hp
/-- gouache/gouachelaw04.PowersSquares -/
def P_lsquares : Prop :=
  (∀ n : Int, (-2147483648) ≤ n → n ≤ 2147483647 →
  (∀ n1 : Int, (-128) ≤ n1 → n1 ≤ 127 →
  (Pre_lsquares [[n], [n1]] →
  (((n = 0) →
    (Pre_lives [] ∧
    (∀ t : Bool, (Post_lives [] [[b2i t]] →
    Post_lsquares [[n], [n1]] [[b2i t]])))) ∧
   (¬ (n = 0) →
    (Pre_pow [[n], [131072]] ∧
    (∀ n2 : Int, (-2147483648) ≤ n2 → n2 ≤ 2147483647 →
    (∀ n3 : Int, 0 ≤ n3 → n3 ≤ 15 →
    (Post_pow [[n], [131072]] [[n2], [n3]] →
    (Pre_pow [[n], [(-65536)]] ∧
    (∀ n4 : Int, (-2147483648) ≤ n4 → n4 ≤ 2147483647 →
    (∀ n5 : Int, 0 ≤ n5 → n5 ≤ 15 →
    (Post_pow [[n], [(-65536)]] [[n4], [n5]] →
    (Pre_fratio [[65536], [n]] ∧
    (∀ n6 : Int, (-2147483648) ≤ n6 → n6 ≤ 2147483647 →
    (∀ n7 : Int, 0 ≤ n7 → n7 ≤ 15 →
    (Post_fratio [[65536], [n]] [[n6], [n7]] →
    (Pre_fmul [[n], [n]] ∧
    (∀ n8 : Int, (-2147483648) ≤ n8 → n8 ≤ 2147483647 →
    (Post_fmul [[n], [n]] [[n8]] →
    (∀ n9 : Int, n9 = (n2 - n8) → (-4294967295) ≤ n9 → n9 ≤ 4294967295 →
    (∀ n10 : Int, n10 = (n4 - n6) → (-4294967295) ≤ n10 → n10 ≤ 4294967295 →
    (((¬ (n3 = 0)) →
      Post_lsquares [[n], [n1]] [[b2i false]]) ∧
     (¬ (¬ (n3 = 0)) →
      (((¬ (n5 = 0)) →
        Post_lsquares [[n], [n1]] [[b2i false]]) ∧
       (¬ (¬ (n5 = 0)) →
        (((¬ (n7 = 0)) →
          Post_lsquares [[n], [n1]] [[b2i false]]) ∧
         (¬ (¬ (n7 = 0)) →
          (((n9 < (-1)) →
            Post_lsquares [[n], [n1]] [[b2i false]]) ∧
           (¬ (n9 < (-1)) →
            (((1 < n9) →
              Post_lsquares [[n], [n1]] [[b2i false]]) ∧
             (¬ (1 < n9) →
              (((n10 < (-1)) →
                Post_lsquares [[n], [n1]] [[b2i false]]) ∧
               (¬ (n10 < (-1)) →
                (((1 < n10) →
                  Post_lsquares [[n], [n1]] [[b2i false]]) ∧
                 (¬ (1 < n10) →
                  (∀ n11 : Int, n11 = (n1 * 65536) → (-8388608) ≤ n11 → n11 ≤ 8323072 →
                  (((n < (-2147483647)) →
                    (Pre_lives [] ∧
                    (∀ t : Bool, (Post_lives [] [[b2i t]] →
                    Post_lsquares [[n], [n1]] [[b2i t]])))) ∧
                   (¬ (n < (-2147483647)) →
                    (Pre_pow [[n], [n11]] ∧
                    (∀ n12 : Int, (-2147483648) ≤ n12 → n12 ≤ 2147483647 →
                    (∀ n13 : Int, 0 ≤ n13 → n13 ≤ 15 →
                    (Post_pow [[n], [n11]] [[n12], [n13]] →
                    (∀ n14 : Int, n14 = (IntKind.wrap .i32 (0 - n)) → (-2147483648) ≤ n14 → n14 ≤ 2147483647 →
                    (Pre_pow [[n14], [n11]] ∧
                    (∀ n15 : Int, (-2147483648) ≤ n15 → n15 ≤ 2147483647 →
                    (∀ n16 : Int, 0 ≤ n16 → n16 ≤ 15 →
                    (Post_pow [[n14], [n11]] [[n15], [n16]] →
                    (((¬ (n13 = 0)) →
                      Post_lsquares [[n], [n1]] [[b2i false]]) ∧
                     (¬ (¬ (n13 = 0)) →
                      (((¬ (n16 = 0)) →
                        Post_lsquares [[n], [n1]] [[b2i false]]) ∧
                       (¬ (¬ (n16 = 0)) →
                        ((((n1.tmod 2) = 0) →
                          (((n12 = n15) →
                            (Pre_lives [] ∧
                            (∀ t : Bool, (Post_lives [] [[b2i t]] →
                            Post_lsquares [[n], [n1]] [[b2i t]])))) ∧
                           (¬ (n12 = n15) →
                            Post_lsquares [[n], [n1]] [[b2i false]]))) ∧
                         (¬ ((n1.tmod 2) = 0) →
                          (((n12 = (IntKind.wrap .i32 (0 - n15))) →
                            (Pre_lives [] ∧
                            (∀ t : Bool, (Post_lives [] [[b2i t]] →
                            Post_lsquares [[n], [n1]] [[b2i t]])))) ∧
                           (¬ (n12 = (IntKind.wrap .i32 (0 - n15))) →
                            (((n12 = (-2147483648)) →
                              (((n15 = 2147483647) →
                                (Pre_lives [] ∧
                                (∀ t : Bool, (Post_lives [] [[b2i t]] →
                                Post_lsquares [[n], [n1]] [[b2i t]])))) ∧
                               (¬ (n15 = 2147483647) →
                                (((n12 = 2147483647) →
                                  (((n15 = (-2147483648)) →
                                    (Pre_lives [] ∧
                                    (∀ t : Bool, (Post_lives [] [[b2i t]] →
                                    Post_lsquares [[n], [n1]] [[b2i t]])))) ∧
                                   (¬ (n15 = (-2147483648)) →
                                    Post_lsquares [[n], [n1]] [[b2i false]]))) ∧
                                 (¬ (n12 = 2147483647) →
                                  Post_lsquares [[n], [n1]] [[b2i false]]))))) ∧
                             (¬ (n12 = (-2147483648)) →
                              (((n12 = 2147483647) →
                                (((n15 = (-2147483648)) →
                                  (Pre_lives [] ∧
                                  (∀ t : Bool, (Post_lives [] [[b2i t]] →
                                  Post_lsquares [[n], [n1]] [[b2i t]])))) ∧
                                 (¬ (n15 = (-2147483648)) →
                                  Post_lsquares [[n], [n1]] [[b2i false]]))) ∧
                               (¬ (n12 = 2147483647) →
                                Post_lsquares [[n], [n1]] [[b2i false]]))))))))))))))))))))))))))))))))))))))))))))))))))))))))))))
theorem c_lsquares : canCall Try.prog 9 = true := by kernel_rfl
theorem s_lsquares : P_lsquares = sat E (symTop Try.prog tab66 2000 9 ash_lsquares sh_lsquares) := by kernel_rfl
theorem pure_lsquares (hV : Valid Try.prog tab66 E) (h : P_lsquares) (args : List Value) (ha : shaFits ash_lsquares args) (hp : E.pre 9 (args.map vints)) : Pure Try.prog 9 args.toArray fun v => sh_lsquares.fits v ∧ E.post 9 (args.map vints) (vres v) := @top_sat Try.prog tab66 E hV 2000 9 ash_lsquares sh_lsquares (@Eq.mp _ _ s_lsquares h) args ha hp

end Go.Proofs.Ytkknmicgalkgjaa.Sx
