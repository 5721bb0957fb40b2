/-
  What each function comes to, part 2. Printed by a program of our own.
-/
import Derived.Test.YtogcbmadcgjljaaDoorRxh
set_option maxRecDepth 1000000
set_option linter.all false
namespace Go.Proofs.YtogcbmadcgjljaaDoor.Sx
open Go Go.RowKit

/-- gouache/powers.longLog -/
def P_plong : Prop :=
  (∀ n : Int, 1 ≤ n → n ≤ 2147483648 →
  (Pre_plong [[n]] →
  (Pre_log [[n]] ∧
  (∀ n1 : Int, (-9223372036854775808) ≤ n1 → n1 ≤ 9223372036854775807 →
  (Post_log [[n]] [[n1]] →
  ((0 ≤ (IntKind.wrap .i64 (62 - n1))) ∧
  (∀ n2 : Int, n2 = (IntKind.wrap .i64 (62 - n1)) → 0 ≤ n2 → n2 ≤ 9223372036854775807 →
  (∀ n3 : Int, n3 = (shI .shl .u64 n n2) → 0 ≤ n3 → n3 ≤ 18446744073709551615 →
  (∀ n4 : Int, n4 = (IntKind.wrap .i64 (n1 - 16)) → (-9223372036854775808) ≤ n4 → n4 ≤ 9223372036854775807 →
  ((4611686018427387904 ≤ n3) ∧
  ((n3 ≤ 9223372036854775807) ∧
  (∀ n5 : Int, n5 = n3 → 4611686018427387904 ≤ n5 → n5 ≤ 9223372036854775807 →
  (((-17592186044416) ≤ n4) ∧
  ((n4 ≤ 17592186044416) ∧
  (∀ n6 : Int, n6 = n4 → (-17592186044416) ≤ n6 → n6 ≤ 17592186044416 →
  (Inv_lng [n5, n6] [0, n5, n6] ∧
  (∀ n7 : Int, 0 ≤ n7 → n7 ≤ 40 →
  (∀ n8 : Int, 4611686018427387904 ≤ n8 → n8 ≤ 9223372036854775807 →
  (∀ n9 : Int, (-17592186044416) ≤ n9 → n9 ≤ 17592186044416 →
  (Inv_lng [n5, n6] [n7, n8, n9] →
  (∀ vs : List Value, vs.length = 22 →
  (((n7 = 40) →
    ((n9 ≤ 16492674416640) ∧
    (∀ n10 : Int, n10 = n9 → (-17592186044416) ≤ n10 → n10 ≤ 16492674416640 →
    Post_plong [[n]] [[n10]]))) ∧
   (¬ (n7 = 40) →
    (Pre_ptimes [[n8], [n8]] ∧
    (∀ n10 : Int, 0 ≤ n10 → n10 ≤ 18446744073709551615 →
    (Post_ptimes [[n8], [n8]] [[n10]] →
    (∀ n11 : Int, n11 = (n10 / 9223372036854775808) → 0 ≤ n11 → n11 ≤ 1 →
    (∀ n12 : Int, n12 = (shI .shr .u64 n10 n11) → 0 ≤ n12 → n12 ≤ 18446744073709551615 →
    (∀ n13 : Int, n13 = ((2 * n9) + n11) → (-35184372088832) ≤ n13 → n13 ≤ 35184372088833 →
    (∀ n14 : Int, n14 = (n7 + 1) → 1 ≤ n14 → n14 ≤ 41 →
    ((n14 ≤ 40) ∧
    (∀ n15 : Int, n15 = n14 → 0 ≤ n15 → n15 ≤ 40 →
    ((4611686018427387904 ≤ n12) ∧
    ((n12 ≤ 9223372036854775807) ∧
    (∀ n16 : Int, n16 = n12 → 4611686018427387904 ≤ n16 → n16 ≤ 9223372036854775807 →
    (((-17592186044416) ≤ n13) ∧
    ((n13 ≤ 17592186044416) ∧
    (∀ n17 : Int, n17 = n13 → (-17592186044416) ≤ n17 → n17 ≤ 17592186044416 →
    (Inv_lng [n5, n6] [n15, n16, n17] ∧ Mea_lng [n5, n6] [n15, n16, n17] < Mea_lng [n5, n6] [n7, n8, n9])))))))))))))))))))))))))))))))))))))))
theorem c_plong : canCall Tryd.prog 45 = true := by kernel_rfl
theorem s_plong : P_plong = sat E (symTop Tryd.prog tab55 2000 45 ash_plong sh_plong) := by kernel_rfl
theorem pure_plong (hV : Valid Tryd.prog tab55 E) (h : P_plong) (args : List Value) (ha : shaFits ash_plong args) (hp : E.pre 45 (args.map vints)) : Pure Tryd.prog 45 args.toArray fun v => sh_plong.fits v ∧ E.post 45 (args.map vints) (vres v) := @top_sat Tryd.prog tab55 E hV 2000 45 ash_plong sh_plong (@Eq.mp _ _ s_plong h) args ha hp
theorem step_plong (hV : Valid Tryd.prog tab55 E) (h : P_plong) : Valid Tryd.prog tab56 E := hV.add c_plong (pure_plong hV h)

/-- gouache/powers.exponent -/
def P_pexpo : Prop :=
  (∀ n : Int, 1 ≤ n → n ≤ 2147483648 →
  (∀ n1 : Int, (-2147483648) ≤ n1 → n1 ≤ 2147483647 →
  (Pre_pexpo [[n], [n1]] →
  (Pre_plong [[n]] ∧
  (∀ n2 : Int, (-17592186044416) ≤ n2 → n2 ≤ 16492674416640 →
  (Post_plong [[n]] [[n2]] →
  (Pre_wmul [[n2], [n1]] ∧
  (∀ n3 : Int, (-9223372036854775808) ≤ n3 → n3 ≤ 9223372036854775807 →
  (∀ n4 : Int, 0 ≤ n4 → n4 ≤ 18446744073709551615 →
  (Post_wmul [[n2], [n1]] [[n3, n4]] →
  (Pre_wnear [[n3, n4], [16777216]] ∧
  (∀ n5 : Int, (-9223372036854775808) ≤ n5 → n5 ≤ 9223372036854775807 →
  (∀ n6 : Int, 0 ≤ n6 → n6 ≤ 18446744073709551615 →
  (∀ n7 : Int, 0 ≤ n7 → n7 ≤ 11 →
  (Post_wnear [[n3, n4], [16777216]] [[n5, n6], [n7]] →
  (∀ b : Nat, (Pre_wint [[n5, n6]] ∧
  (∀ n8 : Int, (-9223372036854775808) ≤ n8 → n8 ≤ 9223372036854775807 →
  (∀ t : Bool, (Post_wint [[n5, n6]] [[n8], [b2i t]] →
  (∀ n9 : Int, n9 = (max (-1099511627776) (min 1099511627776 n8)) → (-1099511627776) ≤ n9 → n9 ≤ 1099511627776 →
  Post_pexpo [[n], [n1]] [[n9]])))))))))))))))))))))
theorem c_pexpo : canCall Tryd.prog 29 = true := by kernel_rfl
theorem s_pexpo : P_pexpo = sat E (symTop Tryd.prog tab56 2000 29 ash_pexpo sh_pexpo) := by kernel_rfl
theorem pure_pexpo (hV : Valid Tryd.prog tab56 E) (h : P_pexpo) (args : List Value) (ha : shaFits ash_pexpo args) (hp : E.pre 29 (args.map vints)) : Pure Tryd.prog 29 args.toArray fun v => sh_pexpo.fits v ∧ E.post 29 (args.map vints) (vres v) := @top_sat Tryd.prog tab56 E hV 2000 29 ash_pexpo sh_pexpo (@Eq.mp _ _ s_pexpo h) args ha hp
theorem step_pexpo (hV : Valid Tryd.prog tab56 E) (h : P_pexpo) : Valid Tryd.prog tab57 E := hV.add c_pexpo (pure_pexpo hV h)

/-- gouache/powers.Pow -/
def P_pow : Prop :=
  (∀ n : Int, (-2147483648) ≤ n → n ≤ 2147483647 →
  (∀ n1 : Int, (-2147483648) ≤ n1 → n1 ≤ 2147483647 →
  (Pre_pow [[n], [n1]] →
  (((n1 = 0) →
    Post_pow [[n], [n1]] [[65536], [0]]) ∧
   (¬ (n1 = 0) →
    (((n = 0) →
      (((n1 < 0) →
        Post_pow [[n], [n1]] [[0], [12]]) ∧
       (¬ (n1 < 0) →
        (((n = 0) →
          Post_pow [[n], [n1]] [[0], [0]]) ∧
         (¬ (n = 0) →
          (((n < 0) →
            (((¬ ((n1.tmod 65536) = 0)) →
              Post_pow [[n], [n1]] [[0], [1]]) ∧
             (¬ (¬ ((n1.tmod 65536) = 0)) →
              (∀ n2 : Int, n2 = (max n (0 - n)) → (-2147483647) ≤ n2 → n2 ≤ 2147483648 →
              (∀ n3 : Int, n3 = (IntKind.wrap .u64 n2) → 0 ≤ n3 → n3 ≤ 18446744073709551615 →
              ((1 ≤ n3) ∧
              ((n3 ≤ 2147483648) ∧
              (∀ n4 : Int, n4 = n3 → 1 ≤ n4 → n4 ≤ 2147483648 →
              (Pre_pexpo [[n4], [n1]] ∧
              (∀ n5 : Int, (-1099511627776) ≤ n5 → n5 ≤ 1099511627776 →
              (Post_pexpo [[n4], [n1]] [[n5]] →
              (Pre_power [[n5]] ∧
              (∀ n6 : Int, 0 ≤ n6 → n6 ≤ 2147483648 →
              (Post_power [[n5]] [[n6]] →
              (((n < 0) →
                (((¬ (((IntKind.wrap .i32 (n1.tdiv 65536)).tmod 2) = 0)) →
                  (∀ n7 : Int, n7 = (0 - n6) → (-2147483648) ≤ n7 → n7 ≤ 0 →
                  (Pre_sat [[n7]] ∧
                  (∀ n8 : Int, (-2147483648) ≤ n8 → n8 ≤ 2147483647 →
                  (Post_sat [[n7]] [[n8]] →
                  Post_pow [[n], [n1]] [[n8], [0]]))))) ∧
                 (¬ (¬ (((IntKind.wrap .i32 (n1.tdiv 65536)).tmod 2) = 0)) →
                  (Pre_sat [[n6]] ∧
                  (∀ n7 : Int, (-2147483648) ≤ n7 → n7 ≤ 2147483647 →
                  (Post_sat [[n6]] [[n7]] →
                  Post_pow [[n], [n1]] [[n7], [0]])))))) ∧
               (¬ (n < 0) →
                (Pre_sat [[n6]] ∧
                (∀ n7 : Int, (-2147483648) ≤ n7 → n7 ≤ 2147483647 →
                (Post_sat [[n6]] [[n7]] →
                Post_pow [[n], [n1]] [[n7], [0]]))))))))))))))))))) ∧
           (¬ (n < 0) →
            (∀ n2 : Int, n2 = (max n (0 - n)) → (-2147483647) ≤ n2 → n2 ≤ 2147483648 →
            (∀ n3 : Int, n3 = (IntKind.wrap .u64 n2) → 0 ≤ n3 → n3 ≤ 18446744073709551615 →
            ((1 ≤ n3) ∧
            ((n3 ≤ 2147483648) ∧
            (∀ n4 : Int, n4 = n3 → 1 ≤ n4 → n4 ≤ 2147483648 →
            (Pre_pexpo [[n4], [n1]] ∧
            (∀ n5 : Int, (-1099511627776) ≤ n5 → n5 ≤ 1099511627776 →
            (Post_pexpo [[n4], [n1]] [[n5]] →
            (Pre_power [[n5]] ∧
            (∀ n6 : Int, 0 ≤ n6 → n6 ≤ 2147483648 →
            (Post_power [[n5]] [[n6]] →
            (((n < 0) →
              (((¬ (((IntKind.wrap .i32 (n1.tdiv 65536)).tmod 2) = 0)) →
                (∀ n7 : Int, n7 = (0 - n6) → (-2147483648) ≤ n7 → n7 ≤ 0 →
                (Pre_sat [[n7]] ∧
                (∀ n8 : Int, (-2147483648) ≤ n8 → n8 ≤ 2147483647 →
                (Post_sat [[n7]] [[n8]] →
                Post_pow [[n], [n1]] [[n8], [0]]))))) ∧
               (¬ (¬ (((IntKind.wrap .i32 (n1.tdiv 65536)).tmod 2) = 0)) →
                (Pre_sat [[n6]] ∧
                (∀ n7 : Int, (-2147483648) ≤ n7 → n7 ≤ 2147483647 →
                (Post_sat [[n6]] [[n7]] →
                Post_pow [[n], [n1]] [[n7], [0]])))))) ∧
             (¬ (n < 0) →
              (Pre_sat [[n6]] ∧
              (∀ n7 : Int, (-2147483648) ≤ n7 → n7 ≤ 2147483647 →
              (Post_sat [[n6]] [[n7]] →
              Post_pow [[n], [n1]] [[n7], [0]]))))))))))))))))))))))) ∧
     (¬ (n = 0) →
      (((n = 0) →
        Post_pow [[n], [n1]] [[0], [0]]) ∧
       (¬ (n = 0) →
        (((n < 0) →
          (((¬ ((n1.tmod 65536) = 0)) →
            Post_pow [[n], [n1]] [[0], [1]]) ∧
           (¬ (¬ ((n1.tmod 65536) = 0)) →
            (∀ n2 : Int, n2 = (max n (0 - n)) → (-2147483647) ≤ n2 → n2 ≤ 2147483648 →
            (∀ n3 : Int, n3 = (IntKind.wrap .u64 n2) → 0 ≤ n3 → n3 ≤ 18446744073709551615 →
            ((1 ≤ n3) ∧
            ((n3 ≤ 2147483648) ∧
            (∀ n4 : Int, n4 = n3 → 1 ≤ n4 → n4 ≤ 2147483648 →
            (Pre_pexpo [[n4], [n1]] ∧
            (∀ n5 : Int, (-1099511627776) ≤ n5 → n5 ≤ 1099511627776 →
            (Post_pexpo [[n4], [n1]] [[n5]] →
            (Pre_power [[n5]] ∧
            (∀ n6 : Int, 0 ≤ n6 → n6 ≤ 2147483648 →
            (Post_power [[n5]] [[n6]] →
            (((n < 0) →
              (((¬ (((IntKind.wrap .i32 (n1.tdiv 65536)).tmod 2) = 0)) →
                (∀ n7 : Int, n7 = (0 - n6) → (-2147483648) ≤ n7 → n7 ≤ 0 →
                (Pre_sat [[n7]] ∧
                (∀ n8 : Int, (-2147483648) ≤ n8 → n8 ≤ 2147483647 →
                (Post_sat [[n7]] [[n8]] →
                Post_pow [[n], [n1]] [[n8], [0]]))))) ∧
               (¬ (¬ (((IntKind.wrap .i32 (n1.tdiv 65536)).tmod 2) = 0)) →
                (Pre_sat [[n6]] ∧
                (∀ n7 : Int, (-2147483648) ≤ n7 → n7 ≤ 2147483647 →
                (Post_sat [[n6]] [[n7]] →
                Post_pow [[n], [n1]] [[n7], [0]])))))) ∧
             (¬ (n < 0) →
              (Pre_sat [[n6]] ∧
              (∀ n7 : Int, (-2147483648) ≤ n7 → n7 ≤ 2147483647 →
              (Post_sat [[n6]] [[n7]] →
              Post_pow [[n], [n1]] [[n7], [0]]))))))))))))))))))) ∧
         (¬ (n < 0) →
          (∀ n2 : Int, n2 = (max n (0 - n)) → (-2147483647) ≤ n2 → n2 ≤ 2147483648 →
          (∀ n3 : Int, n3 = (IntKind.wrap .u64 n2) → 0 ≤ n3 → n3 ≤ 18446744073709551615 →
          ((1 ≤ n3) ∧
          ((n3 ≤ 2147483648) ∧
          (∀ n4 : Int, n4 = n3 → 1 ≤ n4 → n4 ≤ 2147483648 →
          (Pre_pexpo [[n4], [n1]] ∧
          (∀ n5 : Int, (-1099511627776) ≤ n5 → n5 ≤ 1099511627776 →
          (Post_pexpo [[n4], [n1]] [[n5]] →
          (Pre_power [[n5]] ∧
          (∀ n6 : Int, 0 ≤ n6 → n6 ≤ 2147483648 →
          (Post_power [[n5]] [[n6]] →
          (((n < 0) →
            (((¬ (((IntKind.wrap .i32 (n1.tdiv 65536)).tmod 2) = 0)) →
              (∀ n7 : Int, n7 = (0 - n6) → (-2147483648) ≤ n7 → n7 ≤ 0 →
              (Pre_sat [[n7]] ∧
              (∀ n8 : Int, (-2147483648) ≤ n8 → n8 ≤ 2147483647 →
              (Post_sat [[n7]] [[n8]] →
              Post_pow [[n], [n1]] [[n8], [0]]))))) ∧
             (¬ (¬ (((IntKind.wrap .i32 (n1.tdiv 65536)).tmod 2) = 0)) →
              (Pre_sat [[n6]] ∧
              (∀ n7 : Int, (-2147483648) ≤ n7 → n7 ≤ 2147483647 →
              (Post_sat [[n6]] [[n7]] →
              Post_pow [[n], [n1]] [[n7], [0]])))))) ∧
           (¬ (n < 0) →
            (Pre_sat [[n6]] ∧
            (∀ n7 : Int, (-2147483648) ≤ n7 → n7 ≤ 2147483647 →
            (Post_sat [[n6]] [[n7]] →
            Post_pow [[n], [n1]] [[n7], [0]])))))))))))))))))))))))))))
theorem c_pow : canCall Tryd.prog 15 = true := by kernel_rfl
theorem s_pow : P_pow = sat E (symTop Tryd.prog tab57 2000 15 ash_pow sh_pow) := by kernel_rfl
theorem pure_pow (hV : Valid Tryd.prog tab57 E) (h : P_pow) (args : List Value) (ha : shaFits ash_pow args) (hp : E.pre 15 (args.map vints)) : Pure Tryd.prog 15 args.toArray fun v => sh_pow.fits v ∧ E.post 15 (args.map vints) (vres v) := @top_sat Tryd.prog tab57 E hV 2000 15 ash_pow sh_pow (@Eq.mp _ _ s_pow h) args ha hp
theorem step_pow (hV : Valid Tryd.prog tab57 E) (h : P_pow) : Valid Tryd.prog tab58 E := hV.add c_pow (pure_pow hV h)

/-- gouache/gouacheref04.num -/
def P_rn4 : Prop :=
  (∀ n : Int, 0 ≤ n → n ≤ 18446744073709551615 →
  (Pre_rn4 [[n]] →
  (∀ b : Nat, (Pre_read [[0, n]] ∧
  (∀ t : Bool, (∀ n1 : Int, 0 ≤ n1 → n1 ≤ 65535 →
  (∀ n2 : Int, 0 ≤ n2 → n2 ≤ 65535 →
  (∀ n3 : Int, 0 ≤ n3 → n3 ≤ 65535 →
  (∀ n4 : Int, 0 ≤ n4 → n4 ≤ 65535 →
  (∀ n5 : Int, 0 ≤ n5 → n5 ≤ 65535 →
  (∀ n6 : Int, 0 ≤ n6 → n6 ≤ 65535 →
  (∀ n7 : Int, 0 ≤ n7 → n7 ≤ 65535 →
  (∀ n8 : Int, 0 ≤ n8 → n8 ≤ 65535 →
  (∀ n9 : Int, 0 ≤ n9 → n9 ≤ 65535 →
  (∀ n10 : Int, 0 ≤ n10 → n10 ≤ 65535 →
  (∀ n11 : Int, 0 ≤ n11 → n11 ≤ 65535 →
  (∀ n12 : Int, 0 ≤ n12 → n12 ≤ 65535 →
  (Post_read [[0, n]] [[b2i t, n1, n2, n3, n4, n5, n6, n7, n8, n9, n10, n11, n12]] →
  Post_rn4 [[n]] [[b2i t, n1, n2, n3, n4, n5, n6, n7, n8, n9, n10, n11, n12]]))))))))))))))))))
theorem c_rn4 : canCall Tryd.prog 58 = true := by kernel_rfl
theorem s_rn4 : P_rn4 = sat E (symTop Tryd.prog tab58 2000 58 ash_rn4 sh_rn4) := by kernel_rfl
theorem pure_rn4 (hV : Valid Tryd.prog tab58 E) (h : P_rn4) (args : List Value) (ha : shaFits ash_rn4 args) (hp : E.pre 58 (args.map vints)) : Pure Tryd.prog 58 args.toArray fun v => sh_rn4.fits v ∧ E.post 58 (args.map vints) (vres v) := @top_sat Tryd.prog tab58 E hV 2000 58 ash_rn4 sh_rn4 (@Eq.mp _ _ s_rn4 h) args ha hp
theorem step_rn4 (hV : Valid Tryd.prog tab58 E) (h : P_rn4) : Valid Tryd.prog tab59 E := hV.add c_rn4 (pure_rn4 hV h)

/-- gouache/gouacheref04.product -/
def P_rprod4 : Prop :=
  (∀ n : Int, 0 ≤ n → n ≤ 18446744073709551615 →
  (∀ n1 : Int, 0 ≤ n1 → n1 ≤ 18446744073709551615 →
  (Pre_rprod4 [[n], [n1]] →
  (Pre_rn4 [[n]] ∧
  (∀ t : Bool, (∀ n2 : Int, 0 ≤ n2 → n2 ≤ 65535 →
  (∀ n3 : Int, 0 ≤ n3 → n3 ≤ 65535 →
  (∀ n4 : Int, 0 ≤ n4 → n4 ≤ 65535 →
  (∀ n5 : Int, 0 ≤ n5 → n5 ≤ 65535 →
  (∀ n6 : Int, 0 ≤ n6 → n6 ≤ 65535 →
  (∀ n7 : Int, 0 ≤ n7 → n7 ≤ 65535 →
  (∀ n8 : Int, 0 ≤ n8 → n8 ≤ 65535 →
  (∀ n9 : Int, 0 ≤ n9 → n9 ≤ 65535 →
  (∀ n10 : Int, 0 ≤ n10 → n10 ≤ 65535 →
  (∀ n11 : Int, 0 ≤ n11 → n11 ≤ 65535 →
  (∀ n12 : Int, 0 ≤ n12 → n12 ≤ 65535 →
  (∀ n13 : Int, 0 ≤ n13 → n13 ≤ 65535 →
  (Post_rn4 [[n]] [[b2i t, n2, n3, n4, n5, n6, n7, n8, n9, n10, n11, n12, n13]] →
  (Pre_rn4 [[n1]] ∧
  (∀ t1 : Bool, (∀ n14 : Int, 0 ≤ n14 → n14 ≤ 65535 →
  (∀ n15 : Int, 0 ≤ n15 → n15 ≤ 65535 →
  (∀ n16 : Int, 0 ≤ n16 → n16 ≤ 65535 →
  (∀ n17 : Int, 0 ≤ n17 → n17 ≤ 65535 →
  (∀ n18 : Int, 0 ≤ n18 → n18 ≤ 65535 →
  (∀ n19 : Int, 0 ≤ n19 → n19 ≤ 65535 →
  (∀ n20 : Int, 0 ≤ n20 → n20 ≤ 65535 →
  (∀ n21 : Int, 0 ≤ n21 → n21 ≤ 65535 →
  (∀ n22 : Int, 0 ≤ n22 → n22 ≤ 65535 →
  (∀ n23 : Int, 0 ≤ n23 → n23 ≤ 65535 →
  (∀ n24 : Int, 0 ≤ n24 → n24 ≤ 65535 →
  (∀ n25 : Int, 0 ≤ n25 → n25 ≤ 65535 →
  (Post_rn4 [[n1]] [[b2i t1, n14, n15, n16, n17, n18, n19, n20, n21, n22, n23, n24, n25]] →
  (Pre_product [[b2i t, n2, n3, n4, n5, n6, n7, n8, n9, n10, n11, n12, n13], [b2i t1, n14, n15, n16, n17, n18, n19, n20, n21, n22, n23, n24, n25]] ∧
  (∀ t2 : Bool, (∀ n26 : Int, 0 ≤ n26 → n26 ≤ 65535 →
  (∀ n27 : Int, 0 ≤ n27 → n27 ≤ 65535 →
  (∀ n28 : Int, 0 ≤ n28 → n28 ≤ 65535 →
  (∀ n29 : Int, 0 ≤ n29 → n29 ≤ 65535 →
  (∀ n30 : Int, 0 ≤ n30 → n30 ≤ 65535 →
  (∀ n31 : Int, 0 ≤ n31 → n31 ≤ 65535 →
  (∀ n32 : Int, 0 ≤ n32 → n32 ≤ 65535 →
  (∀ n33 : Int, 0 ≤ n33 → n33 ≤ 65535 →
  (∀ n34 : Int, 0 ≤ n34 → n34 ≤ 65535 →
  (∀ n35 : Int, 0 ≤ n35 → n35 ≤ 65535 →
  (∀ n36 : Int, 0 ≤ n36 → n36 ≤ 65535 →
  (∀ n37 : Int, 0 ≤ n37 → n37 ≤ 65535 →
  (Post_product [[b2i t, n2, n3, n4, n5, n6, n7, n8, n9, n10, n11, n12, n13], [b2i t1, n14, n15, n16, n17, n18, n19, n20, n21, n22, n23, n24, n25]] [[b2i t2, n26, n27, n28, n29, n30, n31, n32, n33, n34, n35, n36, n37]] →
  (∀ b : Nat, (Pre_tell [[b2i t2, n26, n27, n28, n29, n30, n31, n32, n33, n34, n35, n36, n37]] ∧
  (∀ n38 : Int, (-9223372036854775808) ≤ n38 → n38 ≤ 9223372036854775807 →
  (∀ n39 : Int, 0 ≤ n39 → n39 ≤ 18446744073709551615 →
  (∀ n40 : Int, 0 ≤ n40 → n40 ≤ 11 →
  (Post_tell [[b2i t2, n26, n27, n28, n29, n30, n31, n32, n33, n34, n35, n36, n37]] [[n38, n39], [n40]] →
  (∀ b1 : Nat, (Pre_rfloor [[n38, n39], [4611686018427387904]] ∧
  (∀ n41 : Int, (-9223372036854775808) ≤ n41 → n41 ≤ 9223372036854775807 →
  (∀ n42 : Int, 0 ≤ n42 → n42 ≤ 18446744073709551615 →
  (∀ n43 : Int, (-9223372036854775808) ≤ n43 → n43 ≤ 9223372036854775807 →
  (∀ n44 : Int, 0 ≤ n44 → n44 ≤ 11 →
  (Post_rfloor [[n38, n39], [4611686018427387904]] [[n41, n42], [n43], [n44]] →
  (∀ b2 : Nat, Post_rprod4 [[n], [n1]] [[n42]]))))))))))))))))))))))))))))))))))))))))))))))))))))))))))))))
theorem c_rprod4 : canCall Tryd.prog 54 = true := by kernel_rfl
theorem s_rprod4 : P_rprod4 = sat E (symTop Tryd.prog tab59 2000 54 ash_rprod4 sh_rprod4) := by kernel_rfl
theorem pure_rprod4 (hV : Valid Tryd.prog tab59 E) (h : P_rprod4) (args : List Value) (ha : shaFits ash_rprod4 args) (hp : E.pre 54 (args.map vints)) : Pure Tryd.prog 54 args.toArray fun v => sh_rprod4.fits v ∧ E.post 54 (args.map vints) (vres v) := @top_sat Tryd.prog tab59 E hV 2000 54 ash_rprod4 sh_rprod4 (@Eq.mp _ _ s_rprod4 h) args ha hp
theorem step_rprod4 (hV : Valid Tryd.prog tab59 E) (h : P_rprod4) : Valid Tryd.prog tab60 E := hV.add c_rprod4 (pure_rprod4 hV h)

/-- gouache/gouacheref04.Roots -/
def P_tround : Prop :=
  (∀ n : Int, 0 ≤ n → n ≤ 9223372036854775808 →
  (Pre_tround [[n]] →
  (Pre_rn4 [[n]] ∧
  (∀ t : Bool, (∀ n1 : Int, 0 ≤ n1 → n1 ≤ 65535 →
  (∀ n2 : Int, 0 ≤ n2 → n2 ≤ 65535 →
  (∀ n3 : Int, 0 ≤ n3 → n3 ≤ 65535 →
  (∀ n4 : Int, 0 ≤ n4 → n4 ≤ 65535 →
  (∀ n5 : Int, 0 ≤ n5 → n5 ≤ 65535 →
  (∀ n6 : Int, 0 ≤ n6 → n6 ≤ 65535 →
  (∀ n7 : Int, 0 ≤ n7 → n7 ≤ 65535 →
  (∀ n8 : Int, 0 ≤ n8 → n8 ≤ 65535 →
  (∀ n9 : Int, 0 ≤ n9 → n9 ≤ 65535 →
  (∀ n10 : Int, 0 ≤ n10 → n10 ≤ 65535 →
  (∀ n11 : Int, 0 ≤ n11 → n11 ≤ 65535 →
  (∀ n12 : Int, 0 ≤ n12 → n12 ≤ 65535 →
  (Post_rn4 [[n]] [[b2i t, n1, n2, n3, n4, n5, n6, n7, n8, n9, n10, n11, n12]] →
  (Pre_rn4 [[4611686018427387904]] ∧
  (∀ t1 : Bool, (∀ n13 : Int, 0 ≤ n13 → n13 ≤ 65535 →
  (∀ n14 : Int, 0 ≤ n14 → n14 ≤ 65535 →
  (∀ n15 : Int, 0 ≤ n15 → n15 ≤ 65535 →
  (∀ n16 : Int, 0 ≤ n16 → n16 ≤ 65535 →
  (∀ n17 : Int, 0 ≤ n17 → n17 ≤ 65535 →
  (∀ n18 : Int, 0 ≤ n18 → n18 ≤ 65535 →
  (∀ n19 : Int, 0 ≤ n19 → n19 ≤ 65535 →
  (∀ n20 : Int, 0 ≤ n20 → n20 ≤ 65535 →
  (∀ n21 : Int, 0 ≤ n21 → n21 ≤ 65535 →
  (∀ n22 : Int, 0 ≤ n22 → n22 ≤ 65535 →
  (∀ n23 : Int, 0 ≤ n23 → n23 ≤ 65535 →
  (∀ n24 : Int, 0 ≤ n24 → n24 ≤ 65535 →
  (Post_rn4 [[4611686018427387904]] [[b2i t1, n13, n14, n15, n16, n17, n18, n19, n20, n21, n22, n23, n24]] →
  (Pre_product [[b2i t, n1, n2, n3, n4, n5, n6, n7, n8, n9, n10, n11, n12], [b2i t1, n13, n14, n15, n16, n17, n18, n19, n20, n21, n22, n23, n24]] ∧
  (∀ t2 : Bool, (∀ n25 : Int, 0 ≤ n25 → n25 ≤ 65535 →
  (∀ n26 : Int, 0 ≤ n26 → n26 ≤ 65535 →
  (∀ n27 : Int, 0 ≤ n27 → n27 ≤ 65535 →
  (∀ n28 : Int, 0 ≤ n28 → n28 ≤ 65535 →
  (∀ n29 : Int, 0 ≤ n29 → n29 ≤ 65535 →
  (∀ n30 : Int, 0 ≤ n30 → n30 ≤ 65535 →
  (∀ n31 : Int, 0 ≤ n31 → n31 ≤ 65535 →
  (∀ n32 : Int, 0 ≤ n32 → n32 ≤ 65535 →
  (∀ n33 : Int, 0 ≤ n33 → n33 ≤ 65535 →
  (∀ n34 : Int, 0 ≤ n34 → n34 ≤ 65535 →
  (∀ n35 : Int, 0 ≤ n35 → n35 ≤ 65535 →
  (∀ n36 : Int, 0 ≤ n36 → n36 ≤ 65535 →
  (Post_product [[b2i t, n1, n2, n3, n4, n5, n6, n7, n8, n9, n10, n11, n12], [b2i t1, n13, n14, n15, n16, n17, n18, n19, n20, n21, n22, n23, n24]] [[b2i t2, n25, n26, n27, n28, n29, n30, n31, n32, n33, n34, n35, n36]] →
  (Pre_tell [[b2i t2, n25, n26, n27, n28, n29, n30, n31, n32, n33, n34, n35, n36]] ∧
  (∀ n37 : Int, (-9223372036854775808) ≤ n37 → n37 ≤ 9223372036854775807 →
  (∀ n38 : Int, 0 ≤ n38 → n38 ≤ 18446744073709551615 →
  (∀ n39 : Int, 0 ≤ n39 → n39 ≤ 11 →
  (Post_tell [[b2i t2, n25, n26, n27, n28, n29, n30, n31, n32, n33, n34, n35, n36]] [[n37, n38], [n39]] →
  (∀ b : Nat, (Pre_rRootWide [[n37, n38]] ∧
  (∀ n40 : Int, 0 ≤ n40 → n40 ≤ 18446744073709551615 →
  (∀ n41 : Int, (-9223372036854775808) ≤ n41 → n41 ≤ 9223372036854775807 →
  (Post_rRootWide [[n37, n38]] [[n40], [n41]] →
  (∀ b1 : Nat, (Post_tround [[n]] [[n40]] ∧
  Post_tround [[n]] [[n40]])))))))))))))))))))))))))))))))))))))))))))))))))))))))))))
theorem s_tround_0 (vs : List Value) : P_tround = sat E (T_tround Tryd.prog tab60 0 vs) := by kernel_rfl
theorem s_tround_1 (vs : List Value) : P_tround = sat E (T_tround Tryd.prog tab60 1 vs) := by kernel_rfl
theorem s_tround_2 (vs : List Value) : P_tround = sat E (T_tround Tryd.prog tab60 2 vs) := by kernel_rfl
theorem s_tround_3 (vs : List Value) : P_tround = sat E (T_tround Tryd.prog tab60 3 vs) := by kernel_rfl
theorem s_tround_4 (vs : List Value) : P_tround = sat E (T_tround Tryd.prog tab60 4 vs) := by kernel_rfl
theorem s_tround_5 (vs : List Value) : P_tround = sat E (T_tround Tryd.prog tab60 5 vs) := by kernel_rfl
theorem s_tround_6 (vs : List Value) : P_tround = sat E (T_tround Tryd.prog tab60 6 vs) := by kernel_rfl
theorem s_tround_7 (vs : List Value) : P_tround = sat E (T_tround Tryd.prog tab60 7 vs) := by kernel_rfl
theorem s_tround_8 (vs : List Value) : P_tround = sat E (T_tround Tryd.prog tab60 8 vs) := by kernel_rfl
theorem s_tround_9 (vs : List Value) : P_tround = sat E (T_tround Tryd.prog tab60 9 vs) := by kernel_rfl
theorem s_tround_10 (vs : List Value) : P_tround = sat E (T_tround Tryd.prog tab60 10 vs) := by kernel_rfl
theorem s_tround_11 (vs : List Value) : P_tround = sat E (T_tround Tryd.prog tab60 11 vs) := by kernel_rfl
theorem s_tround_12 (vs : List Value) : P_tround = sat E (T_tround Tryd.prog tab60 12 vs) := by kernel_rfl
theorem s_tround_13 (vs : List Value) : P_tround = sat E (T_tround Tryd.prog tab60 13 vs) := by kernel_rfl
theorem s_tround_14 (vs : List Value) : P_tround = sat E (T_tround Tryd.prog tab60 14 vs) := by kernel_rfl
theorem s_tround_15 (vs : List Value) : P_tround = sat E (T_tround Tryd.prog tab60 15 vs) := by kernel_rfl
theorem s_tround_16 (vs : List Value) : P_tround = sat E (T_tround Tryd.prog tab60 16 vs) := by kernel_rfl
theorem s_tround_17 (vs : List Value) : P_tround = sat E (T_tround Tryd.prog tab60 17 vs) := by kernel_rfl
theorem s_tround_18 (vs : List Value) : P_tround = sat E (T_tround Tryd.prog tab60 18 vs) := by kernel_rfl
theorem s_tround_19 (vs : List Value) : P_tround = sat E (T_tround Tryd.prog tab60 19 vs) := by kernel_rfl
theorem s_tround_20 (vs : List Value) : P_tround = sat E (T_tround Tryd.prog tab60 20 vs) := by kernel_rfl
theorem s_tround_21 (vs : List Value) : P_tround = sat E (T_tround Tryd.prog tab60 21 vs) := by kernel_rfl
theorem s_tround_22 (vs : List Value) : P_tround = sat E (T_tround Tryd.prog tab60 22 vs) := by kernel_rfl
theorem s_tround_23 (vs : List Value) : P_tround = sat E (T_tround Tryd.prog tab60 23 vs) := by kernel_rfl
theorem s_tround_24 (vs : List Value) : P_tround = sat E (T_tround Tryd.prog tab60 24 vs) := by kernel_rfl
theorem s_tround_25 (vs : List Value) : P_tround = sat E (T_tround Tryd.prog tab60 25 vs) := by kernel_rfl
theorem s_tround_26 (vs : List Value) : P_tround = sat E (T_tround Tryd.prog tab60 26 vs) := by kernel_rfl
theorem s_tround_27 (vs : List Value) : P_tround = sat E (T_tround Tryd.prog tab60 27 vs) := by kernel_rfl
theorem s_tround_28 (vs : List Value) : P_tround = sat E (T_tround Tryd.prog tab60 28 vs) := by kernel_rfl
theorem s_tround_29 (vs : List Value) : P_tround = sat E (T_tround Tryd.prog tab60 29 vs) := by kernel_rfl
theorem s_tround_30 (vs : List Value) : P_tround = sat E (T_tround Tryd.prog tab60 30 vs) := by kernel_rfl
theorem s_tround_31 (vs : List Value) : P_tround = sat E (T_tround Tryd.prog tab60 31 vs) := by kernel_rfl
theorem all_tround (h : P_tround) (vs : List Value) : ∀ k, k < 32 → sat E (T_tround Tryd.prog tab60 k vs)
  | 0, _ => @Eq.mp _ _ (s_tround_0 vs) h
  | 1, _ => @Eq.mp _ _ (s_tround_1 vs) h
  | 2, _ => @Eq.mp _ _ (s_tround_2 vs) h
  | 3, _ => @Eq.mp _ _ (s_tround_3 vs) h
  | 4, _ => @Eq.mp _ _ (s_tround_4 vs) h
  | 5, _ => @Eq.mp _ _ (s_tround_5 vs) h
  | 6, _ => @Eq.mp _ _ (s_tround_6 vs) h
  | 7, _ => @Eq.mp _ _ (s_tround_7 vs) h
  | 8, _ => @Eq.mp _ _ (s_tround_8 vs) h
  | 9, _ => @Eq.mp _ _ (s_tround_9 vs) h
  | 10, _ => @Eq.mp _ _ (s_tround_10 vs) h
  | 11, _ => @Eq.mp _ _ (s_tround_11 vs) h
  | 12, _ => @Eq.mp _ _ (s_tround_12 vs) h
  | 13, _ => @Eq.mp _ _ (s_tround_13 vs) h
  | 14, _ => @Eq.mp _ _ (s_tround_14 vs) h
  | 15, _ => @Eq.mp _ _ (s_tround_15 vs) h
  | 16, _ => @Eq.mp _ _ (s_tround_16 vs) h
  | 17, _ => @Eq.mp _ _ (s_tround_17 vs) h
  | 18, _ => @Eq.mp _ _ (s_tround_18 vs) h
  | 19, _ => @Eq.mp _ _ (s_tround_19 vs) h
  | 20, _ => @Eq.mp _ _ (s_tround_20 vs) h
  | 21, _ => @Eq.mp _ _ (s_tround_21 vs) h
  | 22, _ => @Eq.mp _ _ (s_tround_22 vs) h
  | 23, _ => @Eq.mp _ _ (s_tround_23 vs) h
  | 24, _ => @Eq.mp _ _ (s_tround_24 vs) h
  | 25, _ => @Eq.mp _ _ (s_tround_25 vs) h
  | 26, _ => @Eq.mp _ _ (s_tround_26 vs) h
  | 27, _ => @Eq.mp _ _ (s_tround_27 vs) h
  | 28, _ => @Eq.mp _ _ (s_tround_28 vs) h
  | 29, _ => @Eq.mp _ _ (s_tround_29 vs) h
  | 30, _ => @Eq.mp _ _ (s_tround_30 vs) h
  | 31, _ => @Eq.mp _ _ (s_tround_31 vs) h
  | k + 32, hk => absurd hk (by omega)

/-- gouache/gouacheref04.Roots -/
def P_tnext : Prop :=
  (∀ n : Int, 0 ≤ n → n ≤ 31 →
  (Pre_tnext [[n]] →
  (∀ n1 : Int, n1 = (n + 1) → 1 ≤ n1 → n1 ≤ 32 →
  Post_tnext [[n]] [[n1]])))
theorem s_tnext_0 (vs : List Value) : P_tnext = sat E (T_tnext Tryd.prog tab60 0 vs) := by kernel_rfl
theorem all_tnext (h : P_tnext) (vs : List Value) : ∀ k, k < 1 → sat E (T_tnext Tryd.prog tab60 k vs)
  | 0, _ => @Eq.mp _ _ (s_tnext_0 vs) h
  | k + 1, hk => absurd hk (by omega)

/-- gouache/gouacheref04.Roots -/
def P_roots : Prop :=
  Valid Tryd.prog tab60 E → NewOk Tryd.prog 56 new_roots
theorem step_roots (hV : Valid Tryd.prog tab60 E) (h : P_roots) : Valid Tryd.prog tab61 E := hV.addNew (h hV)

/-- gouache/gouacheref04.Two -/
def P_rtwo : Prop :=
  (∀ n : Int, (-9223372036854775808) ≤ n → n ≤ 9223372036854775807 →
  (Pre_rtwo [[n]] →
  (∀ b : Nat, (∀ n1 : Int, n1 = (n / 4294967296) → (-2147483648) ≤ n1 → n1 ≤ 2147483647 →
  (((20 < n1) →
    (Pre_small [[1099511627776]] ∧
    (∀ t : Bool, (∀ n2 : Int, 0 ≤ n2 → n2 ≤ 65535 →
    (∀ n3 : Int, 0 ≤ n3 → n3 ≤ 65535 →
    (∀ n4 : Int, 0 ≤ n4 → n4 ≤ 65535 →
    (∀ n5 : Int, 0 ≤ n5 → n5 ≤ 65535 →
    (∀ n6 : Int, 0 ≤ n6 → n6 ≤ 65535 →
    (∀ n7 : Int, 0 ≤ n7 → n7 ≤ 65535 →
    (∀ n8 : Int, 0 ≤ n8 → n8 ≤ 65535 →
    (∀ n9 : Int, 0 ≤ n9 → n9 ≤ 65535 →
    (∀ n10 : Int, 0 ≤ n10 → n10 ≤ 65535 →
    (∀ n11 : Int, 0 ≤ n11 → n11 ≤ 65535 →
    (∀ n12 : Int, 0 ≤ n12 → n12 ≤ 65535 →
    (∀ n13 : Int, 0 ≤ n13 → n13 ≤ 65535 →
    (Post_small [[1099511627776]] [[b2i t, n2, n3, n4, n5, n6, n7, n8, n9, n10, n11, n12, n13]] →
    Post_rtwo [[n]] [[b2i t, n2, n3, n4, n5, n6, n7, n8, n9, n10, n11, n12, n13]])))))))))))))))) ∧
   (¬ (20 < n1) →
    (((n1 < (-40)) →
      (Pre_small [[0]] ∧
      (∀ t : Bool, (∀ n2 : Int, 0 ≤ n2 → n2 ≤ 65535 →
      (∀ n3 : Int, 0 ≤ n3 → n3 ≤ 65535 →
      (∀ n4 : Int, 0 ≤ n4 → n4 ≤ 65535 →
      (∀ n5 : Int, 0 ≤ n5 → n5 ≤ 65535 →
      (∀ n6 : Int, 0 ≤ n6 → n6 ≤ 65535 →
      (∀ n7 : Int, 0 ≤ n7 → n7 ≤ 65535 →
      (∀ n8 : Int, 0 ≤ n8 → n8 ≤ 65535 →
      (∀ n9 : Int, 0 ≤ n9 → n9 ≤ 65535 →
      (∀ n10 : Int, 0 ≤ n10 → n10 ≤ 65535 →
      (∀ n11 : Int, 0 ≤ n11 → n11 ≤ 65535 →
      (∀ n12 : Int, 0 ≤ n12 → n12 ≤ 65535 →
      (∀ n13 : Int, 0 ≤ n13 → n13 ≤ 65535 →
      (Post_small [[0]] [[b2i t, n2, n3, n4, n5, n6, n7, n8, n9, n10, n11, n12, n13]] →
      Post_rtwo [[n]] [[b2i t, n2, n3, n4, n5, n6, n7, n8, n9, n10, n11, n12, n13]])))))))))))))))) ∧
     (¬ (n1 < (-40)) →
      (∀ b1 : Nat, (∀ b2 : Nat, (Inv_tw0 [n] [1, 4611686018427387904] ∧
      (∀ n2 : Int, 1 ≤ n2 → n2 ≤ 33 →
      (∀ n3 : Int, 4611686018427387904 ≤ n3 → n3 ≤ 9223372036854775808 →
      (Inv_tw0 [n] [n2, n3] →
      (∀ vs : List Value, vs.length = 19 →
      (((n2 ≤ 32) →
        ((0 ≤ (32 - n2)) ∧
        (∀ n4 : Int, n4 = (32 - n2) → 0 ≤ n4 → n4 ≤ 31 →
        (((¬ (((shI .shr .i64 n n4).tmod 2) = 0)) →
          (((n2 - 1) < 32) ∧
          (∀ n5 : Int, n5 = (rT.getD (Int.toNat (n2 - 1)) 0) → 0 ≤ n5 → n5 ≤ 6521908912666391106 →
          (Pre_rprod4 [[n3], [n5]] ∧
          (∀ n6 : Int, 0 ≤ n6 → n6 ≤ 18446744073709551615 →
          (Post_rprod4 [[n3], [n5]] [[n6]] →
          (∀ n7 : Int, n7 = (n2 + 1) → 2 ≤ n7 → n7 ≤ 34 →
          ((n7 ≤ 33) ∧
          (∀ n8 : Int, n8 = n7 → 1 ≤ n8 → n8 ≤ 33 →
          ((4611686018427387904 ≤ n6) ∧
          ((n6 ≤ 9223372036854775808) ∧
          (∀ n9 : Int, n9 = n6 → 4611686018427387904 ≤ n9 → n9 ≤ 9223372036854775808 →
          (Inv_tw0 [n] [n8, n9] ∧ Mea_tw0 [n] [n8, n9] < Mea_tw0 [n] [n2, n3]))))))))))))) ∧
         (¬ (¬ (((shI .shr .i64 n n4).tmod 2) = 0)) →
          (∀ n5 : Int, n5 = (n2 + 1) → 2 ≤ n5 → n5 ≤ 34 →
          ((n5 ≤ 33) ∧
          (∀ n6 : Int, n6 = n5 → 1 ≤ n6 → n6 ≤ 33 →
          (Inv_tw0 [n] [n6, n3] ∧ Mea_tw0 [n] [n6, n3] < Mea_tw0 [n] [n2, n3]))))))))) ∧
       (¬ (n2 ≤ 32) →
        (Pre_rn4 [[n3]] ∧
        (∀ t : Bool, (∀ n4 : Int, 0 ≤ n4 → n4 ≤ 65535 →
        (∀ n5 : Int, 0 ≤ n5 → n5 ≤ 65535 →
        (∀ n6 : Int, 0 ≤ n6 → n6 ≤ 65535 →
        (∀ n7 : Int, 0 ≤ n7 → n7 ≤ 65535 →
        (∀ n8 : Int, 0 ≤ n8 → n8 ≤ 65535 →
        (∀ n9 : Int, 0 ≤ n9 → n9 ≤ 65535 →
        (∀ n10 : Int, 0 ≤ n10 → n10 ≤ 65535 →
        (∀ n11 : Int, 0 ≤ n11 → n11 ≤ 65535 →
        (∀ n12 : Int, 0 ≤ n12 → n12 ≤ 65535 →
        (∀ n13 : Int, 0 ≤ n13 → n13 ≤ 65535 →
        (∀ n14 : Int, 0 ≤ n14 → n14 ≤ 65535 →
        (∀ n15 : Int, 0 ≤ n15 → n15 ≤ 65535 →
        (Post_rn4 [[n3]] [[b2i t, n4, n5, n6, n7, n8, n9, n10, n11, n12, n13, n14, n15]] →
        (Pre_small [[65536]] ∧
        (∀ t1 : Bool, (∀ n16 : Int, 0 ≤ n16 → n16 ≤ 65535 →
        (∀ n17 : Int, 0 ≤ n17 → n17 ≤ 65535 →
        (∀ n18 : Int, 0 ≤ n18 → n18 ≤ 65535 →
        (∀ n19 : Int, 0 ≤ n19 → n19 ≤ 65535 →
        (∀ n20 : Int, 0 ≤ n20 → n20 ≤ 65535 →
        (∀ n21 : Int, 0 ≤ n21 → n21 ≤ 65535 →
        (∀ n22 : Int, 0 ≤ n22 → n22 ≤ 65535 →
        (∀ n23 : Int, 0 ≤ n23 → n23 ≤ 65535 →
        (∀ n24 : Int, 0 ≤ n24 → n24 ≤ 65535 →
        (∀ n25 : Int, 0 ≤ n25 → n25 ≤ 65535 →
        (∀ n26 : Int, 0 ≤ n26 → n26 ≤ 65535 →
        (∀ n27 : Int, 0 ≤ n27 → n27 ≤ 65535 →
        (Post_small [[65536]] [[b2i t1, n16, n17, n18, n19, n20, n21, n22, n23, n24, n25, n26, n27]] →
        (Pre_product [[b2i t, n4, n5, n6, n7, n8, n9, n10, n11, n12, n13, n14, n15], [b2i t1, n16, n17, n18, n19, n20, n21, n22, n23, n24, n25, n26, n27]] ∧
        (∀ t2 : Bool, (∀ n28 : Int, 0 ≤ n28 → n28 ≤ 65535 →
        (∀ n29 : Int, 0 ≤ n29 → n29 ≤ 65535 →
        (∀ n30 : Int, 0 ≤ n30 → n30 ≤ 65535 →
        (∀ n31 : Int, 0 ≤ n31 → n31 ≤ 65535 →
        (∀ n32 : Int, 0 ≤ n32 → n32 ≤ 65535 →
        (∀ n33 : Int, 0 ≤ n33 → n33 ≤ 65535 →
        (∀ n34 : Int, 0 ≤ n34 → n34 ≤ 65535 →
        (∀ n35 : Int, 0 ≤ n35 → n35 ≤ 65535 →
        (∀ n36 : Int, 0 ≤ n36 → n36 ≤ 65535 →
        (∀ n37 : Int, 0 ≤ n37 → n37 ≤ 65535 →
        (∀ n38 : Int, 0 ≤ n38 → n38 ≤ 65535 →
        (∀ n39 : Int, 0 ≤ n39 → n39 ≤ 65535 →
        (Post_product [[b2i t, n4, n5, n6, n7, n8, n9, n10, n11, n12, n13, n14, n15], [b2i t1, n16, n17, n18, n19, n20, n21, n22, n23, n24, n25, n26, n27]] [[b2i t2, n28, n29, n30, n31, n32, n33, n34, n35, n36, n37, n38, n39]] →
        (∀ b3 : Nat, (Pre_rn4 [[4611686018427387904]] ∧
        (∀ t3 : Bool, (∀ n40 : Int, 0 ≤ n40 → n40 ≤ 65535 →
        (∀ n41 : Int, 0 ≤ n41 → n41 ≤ 65535 →
        (∀ n42 : Int, 0 ≤ n42 → n42 ≤ 65535 →
        (∀ n43 : Int, 0 ≤ n43 → n43 ≤ 65535 →
        (∀ n44 : Int, 0 ≤ n44 → n44 ≤ 65535 →
        (∀ n45 : Int, 0 ≤ n45 → n45 ≤ 65535 →
        (∀ n46 : Int, 0 ≤ n46 → n46 ≤ 65535 →
        (∀ n47 : Int, 0 ≤ n47 → n47 ≤ 65535 →
        (∀ n48 : Int, 0 ≤ n48 → n48 ≤ 65535 →
        (∀ n49 : Int, 0 ≤ n49 → n49 ≤ 65535 →
        (∀ n50 : Int, 0 ≤ n50 → n50 ≤ 65535 →
        (∀ n51 : Int, 0 ≤ n51 → n51 ≤ 65535 →
        (Post_rn4 [[4611686018427387904]] [[b2i t3, n40, n41, n42, n43, n44, n45, n46, n47, n48, n49, n50, n51]] →
        (∀ b4 : Nat, (((-40) ≤ n1) ∧
        ((n1 ≤ 20) ∧
        (∀ n52 : Int, n52 = n1 → (-40) ≤ n52 → n52 ≤ 20 →
        (Inv_tw1 [n3, n52] [n52, b2i t2, n28, n29, n30, n31, n32, n33, n34, n35, n36, n37, n38, n39] ∧
        (∀ n53 : Int, (-40) ≤ n53 → n53 ≤ 20 →
        (∀ t4 : Bool, (∀ n54 : Int, 0 ≤ n54 → n54 ≤ 65535 →
        (∀ n55 : Int, 0 ≤ n55 → n55 ≤ 65535 →
        (∀ n56 : Int, 0 ≤ n56 → n56 ≤ 65535 →
        (∀ n57 : Int, 0 ≤ n57 → n57 ≤ 65535 →
        (∀ n58 : Int, 0 ≤ n58 → n58 ≤ 65535 →
        (∀ n59 : Int, 0 ≤ n59 → n59 ≤ 65535 →
        (∀ n60 : Int, 0 ≤ n60 → n60 ≤ 65535 →
        (∀ n61 : Int, 0 ≤ n61 → n61 ≤ 65535 →
        (∀ n62 : Int, 0 ≤ n62 → n62 ≤ 65535 →
        (∀ n63 : Int, 0 ≤ n63 → n63 ≤ 65535 →
        (∀ n64 : Int, 0 ≤ n64 → n64 ≤ 65535 →
        (∀ n65 : Int, 0 ≤ n65 → n65 ≤ 65535 →
        (Inv_tw1 [n3, n52] [n53, b2i t4, n54, n55, n56, n57, n58, n59, n60, n61, n62, n63, n64, n65] →
        (∀ vs1 : List Value, vs1.length = 8 →
        (((0 < n53) →
          (Pre_sum [[b2i t4, n54, n55, n56, n57, n58, n59, n60, n61, n62, n63, n64, n65], [b2i t4, n54, n55, n56, n57, n58, n59, n60, n61, n62, n63, n64, n65]] ∧
          (∀ t5 : Bool, (∀ n66 : Int, 0 ≤ n66 → n66 ≤ 65535 →
          (∀ n67 : Int, 0 ≤ n67 → n67 ≤ 65535 →
          (∀ n68 : Int, 0 ≤ n68 → n68 ≤ 65535 →
          (∀ n69 : Int, 0 ≤ n69 → n69 ≤ 65535 →
          (∀ n70 : Int, 0 ≤ n70 → n70 ≤ 65535 →
          (∀ n71 : Int, 0 ≤ n71 → n71 ≤ 65535 →
          (∀ n72 : Int, 0 ≤ n72 → n72 ≤ 65535 →
          (∀ n73 : Int, 0 ≤ n73 → n73 ≤ 65535 →
          (∀ n74 : Int, 0 ≤ n74 → n74 ≤ 65535 →
          (∀ n75 : Int, 0 ≤ n75 → n75 ≤ 65535 →
          (∀ n76 : Int, 0 ≤ n76 → n76 ≤ 65535 →
          (∀ n77 : Int, 0 ≤ n77 → n77 ≤ 65535 →
          (Post_sum [[b2i t4, n54, n55, n56, n57, n58, n59, n60, n61, n62, n63, n64, n65], [b2i t4, n54, n55, n56, n57, n58, n59, n60, n61, n62, n63, n64, n65]] [[b2i t5, n66, n67, n68, n69, n70, n71, n72, n73, n74, n75, n76, n77]] →
          (∀ n78 : Int, n78 = (n53 - 1) → (-41) ≤ n78 → n78 ≤ 19 →
          (((-40) ≤ n78) ∧
          (∀ n79 : Int, n79 = n78 → (-40) ≤ n79 → n79 ≤ 20 →
          (Inv_tw1 [n3, n52] [n79, b2i t5, n66, n67, n68, n69, n70, n71, n72, n73, n74, n75, n76, n77] ∧ Mea_tw1 [n3, n52] [n79, b2i t5, n66, n67, n68, n69, n70, n71, n72, n73, n74, n75, n76, n77] < Mea_tw1 [n3, n52] [n53, b2i t4, n54, n55, n56, n57, n58, n59, n60, n61, n62, n63, n64, n65])))))))))))))))))))) ∧
         (¬ (0 < n53) →
          (Inv_tw2 [n53] [n53, b2i t3, n40, n41, n42, n43, n44, n45, n46, n47, n48, n49, n50, n51] ∧
          (∀ n66 : Int, (-40) ≤ n66 → n66 ≤ 20 →
          (∀ t5 : Bool, (∀ n67 : Int, 0 ≤ n67 → n67 ≤ 65535 →
          (∀ n68 : Int, 0 ≤ n68 → n68 ≤ 65535 →
          (∀ n69 : Int, 0 ≤ n69 → n69 ≤ 65535 →
          (∀ n70 : Int, 0 ≤ n70 → n70 ≤ 65535 →
          (∀ n71 : Int, 0 ≤ n71 → n71 ≤ 65535 →
          (∀ n72 : Int, 0 ≤ n72 → n72 ≤ 65535 →
          (∀ n73 : Int, 0 ≤ n73 → n73 ≤ 65535 →
          (∀ n74 : Int, 0 ≤ n74 → n74 ≤ 65535 →
          (∀ n75 : Int, 0 ≤ n75 → n75 ≤ 65535 →
          (∀ n76 : Int, 0 ≤ n76 → n76 ≤ 65535 →
          (∀ n77 : Int, 0 ≤ n77 → n77 ≤ 65535 →
          (∀ n78 : Int, 0 ≤ n78 → n78 ≤ 65535 →
          (Inv_tw2 [n53] [n66, b2i t5, n67, n68, n69, n70, n71, n72, n73, n74, n75, n76, n77, n78] →
          (∀ vs2 : List Value, vs2.length = 8 →
          (((n66 < 0) →
            (Pre_sum [[b2i t5, n67, n68, n69, n70, n71, n72, n73, n74, n75, n76, n77, n78], [b2i t5, n67, n68, n69, n70, n71, n72, n73, n74, n75, n76, n77, n78]] ∧
            (∀ t6 : Bool, (∀ n79 : Int, 0 ≤ n79 → n79 ≤ 65535 →
            (∀ n80 : Int, 0 ≤ n80 → n80 ≤ 65535 →
            (∀ n81 : Int, 0 ≤ n81 → n81 ≤ 65535 →
            (∀ n82 : Int, 0 ≤ n82 → n82 ≤ 65535 →
            (∀ n83 : Int, 0 ≤ n83 → n83 ≤ 65535 →
            (∀ n84 : Int, 0 ≤ n84 → n84 ≤ 65535 →
            (∀ n85 : Int, 0 ≤ n85 → n85 ≤ 65535 →
            (∀ n86 : Int, 0 ≤ n86 → n86 ≤ 65535 →
            (∀ n87 : Int, 0 ≤ n87 → n87 ≤ 65535 →
            (∀ n88 : Int, 0 ≤ n88 → n88 ≤ 65535 →
            (∀ n89 : Int, 0 ≤ n89 → n89 ≤ 65535 →
            (∀ n90 : Int, 0 ≤ n90 → n90 ≤ 65535 →
            (Post_sum [[b2i t5, n67, n68, n69, n70, n71, n72, n73, n74, n75, n76, n77, n78], [b2i t5, n67, n68, n69, n70, n71, n72, n73, n74, n75, n76, n77, n78]] [[b2i t6, n79, n80, n81, n82, n83, n84, n85, n86, n87, n88, n89, n90]] →
            (∀ n91 : Int, n91 = (n66 + 1) → (-39) ≤ n91 → n91 ≤ 21 →
            ((n91 ≤ 20) ∧
            (∀ n92 : Int, n92 = n91 → (-40) ≤ n92 → n92 ≤ 20 →
            (Inv_tw2 [n53] [n92, b2i t6, n79, n80, n81, n82, n83, n84, n85, n86, n87, n88, n89, n90] ∧ Mea_tw2 [n53] [n92, b2i t6, n79, n80, n81, n82, n83, n84, n85, n86, n87, n88, n89, n90] < Mea_tw2 [n53] [n66, b2i t5, n67, n68, n69, n70, n71, n72, n73, n74, n75, n76, n77, n78])))))))))))))))))))) ∧
           (¬ (n66 < 0) →
            (Pre_nearest [[b2i t4, n54, n55, n56, n57, n58, n59, n60, n61, n62, n63, n64, n65], [b2i t5, n67, n68, n69, n70, n71, n72, n73, n74, n75, n76, n77, n78]] ∧
            (∀ t6 : Bool, (∀ n79 : Int, 0 ≤ n79 → n79 ≤ 65535 →
            (∀ n80 : Int, 0 ≤ n80 → n80 ≤ 65535 →
            (∀ n81 : Int, 0 ≤ n81 → n81 ≤ 65535 →
            (∀ n82 : Int, 0 ≤ n82 → n82 ≤ 65535 →
            (∀ n83 : Int, 0 ≤ n83 → n83 ≤ 65535 →
            (∀ n84 : Int, 0 ≤ n84 → n84 ≤ 65535 →
            (∀ n85 : Int, 0 ≤ n85 → n85 ≤ 65535 →
            (∀ n86 : Int, 0 ≤ n86 → n86 ≤ 65535 →
            (∀ n87 : Int, 0 ≤ n87 → n87 ≤ 65535 →
            (∀ n88 : Int, 0 ≤ n88 → n88 ≤ 65535 →
            (∀ n89 : Int, 0 ≤ n89 → n89 ≤ 65535 →
            (∀ n90 : Int, 0 ≤ n90 → n90 ≤ 65535 →
            (Post_nearest [[b2i t4, n54, n55, n56, n57, n58, n59, n60, n61, n62, n63, n64, n65], [b2i t5, n67, n68, n69, n70, n71, n72, n73, n74, n75, n76, n77, n78]] [[b2i t6, n79, n80, n81, n82, n83, n84, n85, n86, n87, n88, n89, n90]] →
            Post_rtwo [[n]] [[b2i t6, n79, n80, n81, n82, n83, n84, n85, n86, n87, n88, n89, n90]])))))))))))))))))))))))))))))))))))))))))))))))))))))))))))))))))))))))))))))))))))))))))))))))))))))))))))))))))))))))))))))))))))))))
theorem c_rtwo : canCall Tryd.prog 35 = true := by kernel_rfl
theorem s_rtwo : P_rtwo = sat E (symTop Tryd.prog tab61 2000 35 ash_rtwo sh_rtwo) := by kernel_rfl
theorem pure_rtwo (hV : Valid Tryd.prog tab61 E) (h : P_rtwo) (args : List Value) (ha : shaFits ash_rtwo args) (hp : E.pre 35 (args.map vints)) : Pure Tryd.prog 35 args.toArray fun v => sh_rtwo.fits v ∧ E.post 35 (args.map vints) (vres v) := @top_sat Tryd.prog tab61 E hV 2000 35 ash_rtwo sh_rtwo (@Eq.mp _ _ s_rtwo h) args ha hp
theorem step_rtwo (hV : Valid Tryd.prog tab61 E) (h : P_rtwo) : Valid Tryd.prog tab62 E := hV.add c_rtwo (pure_rtwo hV h)

/-- gouache/gouacheref02.Hold -/
def P_rhold : Prop :=
  (∀ t : Bool, (∀ n : Int, 0 ≤ n → n ≤ 65535 →
  (∀ n1 : Int, 0 ≤ n1 → n1 ≤ 65535 →
  (∀ n2 : Int, 0 ≤ n2 → n2 ≤ 65535 →
  (∀ n3 : Int, 0 ≤ n3 → n3 ≤ 65535 →
  (∀ n4 : Int, 0 ≤ n4 → n4 ≤ 65535 →
  (∀ n5 : Int, 0 ≤ n5 → n5 ≤ 65535 →
  (∀ n6 : Int, 0 ≤ n6 → n6 ≤ 65535 →
  (∀ n7 : Int, 0 ≤ n7 → n7 ≤ 65535 →
  (∀ n8 : Int, 0 ≤ n8 → n8 ≤ 65535 →
  (∀ n9 : Int, 0 ≤ n9 → n9 ≤ 65535 →
  (∀ n10 : Int, 0 ≤ n10 → n10 ≤ 65535 →
  (∀ n11 : Int, 0 ≤ n11 → n11 ≤ 65535 →
  (∀ t1 : Bool, (∀ n12 : Int, 0 ≤ n12 → n12 ≤ 65535 →
  (∀ n13 : Int, 0 ≤ n13 → n13 ≤ 65535 →
  (∀ n14 : Int, 0 ≤ n14 → n14 ≤ 65535 →
  (∀ n15 : Int, 0 ≤ n15 → n15 ≤ 65535 →
  (∀ n16 : Int, 0 ≤ n16 → n16 ≤ 65535 →
  (∀ n17 : Int, 0 ≤ n17 → n17 ≤ 65535 →
  (∀ n18 : Int, 0 ≤ n18 → n18 ≤ 65535 →
  (∀ n19 : Int, 0 ≤ n19 → n19 ≤ 65535 →
  (∀ n20 : Int, 0 ≤ n20 → n20 ≤ 65535 →
  (∀ n21 : Int, 0 ≤ n21 → n21 ≤ 65535 →
  (∀ n22 : Int, 0 ≤ n22 → n22 ≤ 65535 →
  (∀ n23 : Int, 0 ≤ n23 → n23 ≤ 65535 →
  (Pre_rhold [[b2i t, n, n1, n2, n3, n4, n5, n6, n7, n8, n9, n10, n11], [b2i t1, n12, n13, n14, n15, n16, n17, n18, n19, n20, n21, n22, n23]] →
  (∀ b : Nat, (∀ b1 : Nat, (Pre_nearest [[b2i t, n, n1, n2, n3, n4, n5, n6, n7, n8, n9, n10, n11], [b2i t1, n12, n13, n14, n15, n16, n17, n18, n19, n20, n21, n22, n23]] ∧
  (∀ t2 : Bool, (∀ n24 : Int, 0 ≤ n24 → n24 ≤ 65535 →
  (∀ n25 : Int, 0 ≤ n25 → n25 ≤ 65535 →
  (∀ n26 : Int, 0 ≤ n26 → n26 ≤ 65535 →
  (∀ n27 : Int, 0 ≤ n27 → n27 ≤ 65535 →
  (∀ n28 : Int, 0 ≤ n28 → n28 ≤ 65535 →
  (∀ n29 : Int, 0 ≤ n29 → n29 ≤ 65535 →
  (∀ n30 : Int, 0 ≤ n30 → n30 ≤ 65535 →
  (∀ n31 : Int, 0 ≤ n31 → n31 ≤ 65535 →
  (∀ n32 : Int, 0 ≤ n32 → n32 ≤ 65535 →
  (∀ n33 : Int, 0 ≤ n33 → n33 ≤ 65535 →
  (∀ n34 : Int, 0 ≤ n34 → n34 ≤ 65535 →
  (∀ n35 : Int, 0 ≤ n35 → n35 ≤ 65535 →
  (Post_nearest [[b2i t, n, n1, n2, n3, n4, n5, n6, n7, n8, n9, n10, n11], [b2i t1, n12, n13, n14, n15, n16, n17, n18, n19, n20, n21, n22, n23]] [[b2i t2, n24, n25, n26, n27, n28, n29, n30, n31, n32, n33, n34, n35]] →
  (∀ b2 : Nat, (Pre_small [[2147483647]] ∧
  (∀ t3 : Bool, (∀ n36 : Int, 0 ≤ n36 → n36 ≤ 65535 →
  (∀ n37 : Int, 0 ≤ n37 → n37 ≤ 65535 →
  (∀ n38 : Int, 0 ≤ n38 → n38 ≤ 65535 →
  (∀ n39 : Int, 0 ≤ n39 → n39 ≤ 65535 →
  (∀ n40 : Int, 0 ≤ n40 → n40 ≤ 65535 →
  (∀ n41 : Int, 0 ≤ n41 → n41 ≤ 65535 →
  (∀ n42 : Int, 0 ≤ n42 → n42 ≤ 65535 →
  (∀ n43 : Int, 0 ≤ n43 → n43 ≤ 65535 →
  (∀ n44 : Int, 0 ≤ n44 → n44 ≤ 65535 →
  (∀ n45 : Int, 0 ≤ n45 → n45 ≤ 65535 →
  (∀ n46 : Int, 0 ≤ n46 → n46 ≤ 65535 →
  (∀ n47 : Int, 0 ≤ n47 → n47 ≤ 65535 →
  (Post_small [[2147483647]] [[b2i t3, n36, n37, n38, n39, n40, n41, n42, n43, n44, n45, n46, n47]] →
  (Pre_above [[b2i t2, n24, n25, n26, n27, n28, n29, n30, n31, n32, n33, n34, n35], [b2i t3, n36, n37, n38, n39, n40, n41, n42, n43, n44, n45, n46, n47]] ∧
  (∀ t4 : Bool, (Post_above [[b2i t2, n24, n25, n26, n27, n28, n29, n30, n31, n32, n33, n34, n35], [b2i t3, n36, n37, n38, n39, n40, n41, n42, n43, n44, n45, n46, n47]] [[b2i t4]] →
  (((t4 = true) →
    Post_rhold [[b2i t, n, n1, n2, n3, n4, n5, n6, n7, n8, n9, n10, n11], [b2i t1, n12, n13, n14, n15, n16, n17, n18, n19, n20, n21, n22, n23]] [[2147483647]]) ∧
   (¬ (t4 = true) →
    (Pre_small [[(-2147483648)]] ∧
    (∀ t5 : Bool, (∀ n48 : Int, 0 ≤ n48 → n48 ≤ 65535 →
    (∀ n49 : Int, 0 ≤ n49 → n49 ≤ 65535 →
    (∀ n50 : Int, 0 ≤ n50 → n50 ≤ 65535 →
    (∀ n51 : Int, 0 ≤ n51 → n51 ≤ 65535 →
    (∀ n52 : Int, 0 ≤ n52 → n52 ≤ 65535 →
    (∀ n53 : Int, 0 ≤ n53 → n53 ≤ 65535 →
    (∀ n54 : Int, 0 ≤ n54 → n54 ≤ 65535 →
    (∀ n55 : Int, 0 ≤ n55 → n55 ≤ 65535 →
    (∀ n56 : Int, 0 ≤ n56 → n56 ≤ 65535 →
    (∀ n57 : Int, 0 ≤ n57 → n57 ≤ 65535 →
    (∀ n58 : Int, 0 ≤ n58 → n58 ≤ 65535 →
    (∀ n59 : Int, 0 ≤ n59 → n59 ≤ 65535 →
    (Post_small [[(-2147483648)]] [[b2i t5, n48, n49, n50, n51, n52, n53, n54, n55, n56, n57, n58, n59]] →
    (Pre_above [[b2i t5, n48, n49, n50, n51, n52, n53, n54, n55, n56, n57, n58, n59], [b2i t2, n24, n25, n26, n27, n28, n29, n30, n31, n32, n33, n34, n35]] ∧
    (∀ t6 : Bool, (Post_above [[b2i t5, n48, n49, n50, n51, n52, n53, n54, n55, n56, n57, n58, n59], [b2i t2, n24, n25, n26, n27, n28, n29, n30, n31, n32, n33, n34, n35]] [[b2i t6]] →
    (((t6 = true) →
      Post_rhold [[b2i t, n, n1, n2, n3, n4, n5, n6, n7, n8, n9, n10, n11], [b2i t1, n12, n13, n14, n15, n16, n17, n18, n19, n20, n21, n22, n23]] [[(-2147483648)]]) ∧
     (¬ (t6 = true) →
      (Pre_tell [[b2i t2, n24, n25, n26, n27, n28, n29, n30, n31, n32, n33, n34, n35]] ∧
      (∀ n60 : Int, (-9223372036854775808) ≤ n60 → n60 ≤ 9223372036854775807 →
      (∀ n61 : Int, 0 ≤ n61 → n61 ≤ 18446744073709551615 →
      (∀ n62 : Int, 0 ≤ n62 → n62 ≤ 11 →
      (Post_tell [[b2i t2, n24, n25, n26, n27, n28, n29, n30, n31, n32, n33, n34, n35]] [[n60, n61], [n62]] →
      (∀ b3 : Nat, (Pre_rint [[n60, n61]] ∧
      (∀ n63 : Int, (-9223372036854775808) ≤ n63 → n63 ≤ 9223372036854775807 →
      (∀ t7 : Bool, (Post_rint [[n60, n61]] [[n63], [b2i t7]] →
      (∀ n64 : Int, n64 = (IntKind.wrap .i32 n63) → (-2147483648) ≤ n64 → n64 ≤ 2147483647 →
      Post_rhold [[b2i t, n, n1, n2, n3, n4, n5, n6, n7, n8, n9, n10, n11], [b2i t1, n12, n13, n14, n15, n16, n17, n18, n19, n20, n21, n22, n23]] [[n64]]))))))))))))))))))))))))))))))))))))))))))))))))))))))))))))))))))))))))))))))))))))))))))))))))
theorem c_rhold : canCall Tryd.prog 38 = true := by kernel_rfl
theorem s_rhold : P_rhold = sat E (symTop Tryd.prog tab62 2000 38 ash_rhold sh_rhold) := by kernel_rfl
theorem pure_rhold (hV : Valid Tryd.prog tab62 E) (h : P_rhold) (args : List Value) (ha : shaFits ash_rhold args) (hp : E.pre 38 (args.map vints)) : Pure Tryd.prog 38 args.toArray fun v => sh_rhold.fits v ∧ E.post 38 (args.map vints) (vres v) := @top_sat Tryd.prog tab62 E hV 2000 38 ash_rhold sh_rhold (@Eq.mp _ _ s_rhold h) args ha hp
theorem step_rhold (hV : Valid Tryd.prog tab62 E) (h : P_rhold) : Valid Tryd.prog tab63 E := hV.add c_rhold (pure_rhold hV h)

/-- gouache/gouacheref04.hold -/
def P_rhold1 : Prop :=
  (∀ t : Bool, (∀ n : Int, 0 ≤ n → n ≤ 65535 →
  (∀ n1 : Int, 0 ≤ n1 → n1 ≤ 65535 →
  (∀ n2 : Int, 0 ≤ n2 → n2 ≤ 65535 →
  (∀ n3 : Int, 0 ≤ n3 → n3 ≤ 65535 →
  (∀ n4 : Int, 0 ≤ n4 → n4 ≤ 65535 →
  (∀ n5 : Int, 0 ≤ n5 → n5 ≤ 65535 →
  (∀ n6 : Int, 0 ≤ n6 → n6 ≤ 65535 →
  (∀ n7 : Int, 0 ≤ n7 → n7 ≤ 65535 →
  (∀ n8 : Int, 0 ≤ n8 → n8 ≤ 65535 →
  (∀ n9 : Int, 0 ≤ n9 → n9 ≤ 65535 →
  (∀ n10 : Int, 0 ≤ n10 → n10 ≤ 65535 →
  (∀ n11 : Int, 0 ≤ n11 → n11 ≤ 65535 →
  (Pre_rhold1 [[b2i t, n, n1, n2, n3, n4, n5, n6, n7, n8, n9, n10, n11]] →
  (∀ b : Nat, (Pre_small [[1]] ∧
  (∀ t1 : Bool, (∀ n12 : Int, 0 ≤ n12 → n12 ≤ 65535 →
  (∀ n13 : Int, 0 ≤ n13 → n13 ≤ 65535 →
  (∀ n14 : Int, 0 ≤ n14 → n14 ≤ 65535 →
  (∀ n15 : Int, 0 ≤ n15 → n15 ≤ 65535 →
  (∀ n16 : Int, 0 ≤ n16 → n16 ≤ 65535 →
  (∀ n17 : Int, 0 ≤ n17 → n17 ≤ 65535 →
  (∀ n18 : Int, 0 ≤ n18 → n18 ≤ 65535 →
  (∀ n19 : Int, 0 ≤ n19 → n19 ≤ 65535 →
  (∀ n20 : Int, 0 ≤ n20 → n20 ≤ 65535 →
  (∀ n21 : Int, 0 ≤ n21 → n21 ≤ 65535 →
  (∀ n22 : Int, 0 ≤ n22 → n22 ≤ 65535 →
  (∀ n23 : Int, 0 ≤ n23 → n23 ≤ 65535 →
  (Post_small [[1]] [[b2i t1, n12, n13, n14, n15, n16, n17, n18, n19, n20, n21, n22, n23]] →
  (Pre_rhold [[b2i t, n, n1, n2, n3, n4, n5, n6, n7, n8, n9, n10, n11], [b2i t1, n12, n13, n14, n15, n16, n17, n18, n19, n20, n21, n22, n23]] ∧
  (∀ n24 : Int, (-2147483648) ≤ n24 → n24 ≤ 2147483647 →
  (Post_rhold [[b2i t, n, n1, n2, n3, n4, n5, n6, n7, n8, n9, n10, n11], [b2i t1, n12, n13, n14, n15, n16, n17, n18, n19, n20, n21, n22, n23]] [[n24]] →
  Post_rhold1 [[b2i t, n, n1, n2, n3, n4, n5, n6, n7, n8, n9, n10, n11]] [[n24]])))))))))))))))))))))))))))))))))
theorem c_rhold1 : canCall Tryd.prog 37 = true := by kernel_rfl
theorem s_rhold1 : P_rhold1 = sat E (symTop Tryd.prog tab63 2000 37 ash_rhold1 sh_rhold1) := by kernel_rfl
theorem pure_rhold1 (hV : Valid Tryd.prog tab63 E) (h : P_rhold1) (args : List Value) (ha : shaFits ash_rhold1 args) (hp : E.pre 37 (args.map vints)) : Pure Tryd.prog 37 args.toArray fun v => sh_rhold1.fits v ∧ E.post 37 (args.map vints) (vres v) := @top_sat Tryd.prog tab63 E hV 2000 37 ash_rhold1 sh_rhold1 (@Eq.mp _ _ s_rhold1 h) args ha hp
theorem step_rhold1 (hV : Valid Tryd.prog tab63 E) (h : P_rhold1) : Valid Tryd.prog tab64 E := hV.add c_rhold1 (pure_rhold1 hV h)

/-- gouache/gouacheref04.Long -/
def P_rlong : Prop :=
  (∀ n : Int, 1 ≤ n → n ≤ 2147483648 →
  (Pre_rlong [[n]] →
  (Pre_rLog [[n]] ∧
  (∀ n1 : Int, (-9223372036854775808) ≤ n1 → n1 ≤ 9223372036854775807 →
  (Post_rLog [[n]] [[n1]] →
  ((0 ≤ n1) ∧
  ((n1 ≤ 62) ∧
  (∀ n2 : Int, n2 = n1 → 0 ≤ n2 → n2 ≤ 62 →
  (Inv_rl0 [n, n1] [n2, n] ∧
  (∀ n3 : Int, 0 ≤ n3 → n3 ≤ 62 →
  (∀ n4 : Int, 0 ≤ n4 → n4 ≤ 18446744073709551615 →
  (Inv_rl0 [n, n1] [n3, n4] →
  (∀ vs : List Value, vs.length = 8 →
  (((n3 < 62) →
    (∀ n5 : Int, n5 = (IntKind.wrap .u64 (2 * n4)) → 0 ≤ n5 → n5 ≤ 18446744073709551615 →
    (∀ n6 : Int, n6 = (n3 + 1) → 1 ≤ n6 → n6 ≤ 63 →
    ((n6 ≤ 62) ∧
    (∀ n7 : Int, n7 = n6 → 0 ≤ n7 → n7 ≤ 62 →
    (Inv_rl0 [n, n1] [n7, n5] ∧ Mea_rl0 [n, n1] [n7, n5] < Mea_rl0 [n, n1] [n3, n4])))))) ∧
   (¬ (n3 < 62) →
    (∀ n5 : Int, n5 = (IntKind.wrap .i64 (n1 - 16)) → (-9223372036854775808) ≤ n5 → n5 ≤ 9223372036854775807 →
    ((4611686018427387904 ≤ n4) ∧
    ((n4 ≤ 9223372036854775807) ∧
    (∀ n6 : Int, n6 = n4 → 4611686018427387904 ≤ n6 → n6 ≤ 9223372036854775807 →
    (((-17592186044416) ≤ n5) ∧
    ((n5 ≤ 17592186044416) ∧
    (∀ n7 : Int, n7 = n5 → (-17592186044416) ≤ n7 → n7 ≤ 17592186044416 →
    (Inv_rl1 [n6, n7] [0, n6, n7] ∧
    (∀ n8 : Int, 0 ≤ n8 → n8 ≤ 40 →
    (∀ n9 : Int, 4611686018427387904 ≤ n9 → n9 ≤ 9223372036854775807 →
    (∀ n10 : Int, (-17592186044416) ≤ n10 → n10 ≤ 17592186044416 →
    (Inv_rl1 [n6, n7] [n8, n9, n10] →
    (∀ vs1 : List Value, vs1.length = 20 →
    (((n8 < 40) →
      (Pre_rprod4 [[n9], [n9]] ∧
      (∀ n11 : Int, 0 ≤ n11 → n11 ≤ 18446744073709551615 →
      (Post_rprod4 [[n9], [n9]] [[n11]] →
      (∀ n12 : Int, n12 = (2 * n10) → (-35184372088832) ≤ n12 → n12 ≤ 35184372088832 →
      (((9223372036854775808 ≤ n11) →
        (∀ n13 : Int, n13 = (n11 / 2) → 0 ≤ n13 → n13 ≤ 9223372036854775807 →
        (∀ n14 : Int, n14 = (n12 + 1) → (-35184372088831) ≤ n14 → n14 ≤ 35184372088833 →
        (∀ n15 : Int, n15 = (n8 + 1) → 1 ≤ n15 → n15 ≤ 41 →
        ((n15 ≤ 40) ∧
        (∀ n16 : Int, n16 = n15 → 0 ≤ n16 → n16 ≤ 40 →
        ((4611686018427387904 ≤ n13) ∧
        (∀ n17 : Int, n17 = n13 → 4611686018427387904 ≤ n17 → n17 ≤ 9223372036854775807 →
        (((-17592186044416) ≤ n14) ∧
        ((n14 ≤ 17592186044416) ∧
        (∀ n18 : Int, n18 = n14 → (-17592186044416) ≤ n18 → n18 ≤ 17592186044416 →
        (Inv_rl1 [n6, n7] [n16, n17, n18] ∧ Mea_rl1 [n6, n7] [n16, n17, n18] < Mea_rl1 [n6, n7] [n8, n9, n10])))))))))))) ∧
       (¬ (9223372036854775808 ≤ n11) →
        (∀ n13 : Int, n13 = (n8 + 1) → 1 ≤ n13 → n13 ≤ 41 →
        ((n13 ≤ 40) ∧
        (∀ n14 : Int, n14 = n13 → 0 ≤ n14 → n14 ≤ 40 →
        ((4611686018427387904 ≤ n11) ∧
        ((n11 ≤ 9223372036854775807) ∧
        (∀ n15 : Int, n15 = n11 → 4611686018427387904 ≤ n15 → n15 ≤ 9223372036854775807 →
        (((-17592186044416) ≤ n12) ∧
        ((n12 ≤ 17592186044416) ∧
        (∀ n16 : Int, n16 = n12 → (-17592186044416) ≤ n16 → n16 ≤ 17592186044416 →
        (Inv_rl1 [n6, n7] [n14, n15, n16] ∧ Mea_rl1 [n6, n7] [n14, n15, n16] < Mea_rl1 [n6, n7] [n8, n9, n10]))))))))))))))))) ∧
     (¬ (n8 < 40) →
      Post_rlong [[n]] [[n10]]))))))))))))))))))))))))))))))
theorem c_rlong : canCall Tryd.prog 33 = true := by kernel_rfl
theorem s_rlong : P_rlong = sat E (symTop Tryd.prog tab64 2000 33 ash_rlong sh_rlong) := by kernel_rfl
theorem pure_rlong (hV : Valid Tryd.prog tab64 E) (h : P_rlong) (args : List Value) (ha : shaFits ash_rlong args) (hp : E.pre 33 (args.map vints)) : Pure Tryd.prog 33 args.toArray fun v => sh_rlong.fits v ∧ E.post 33 (args.map vints) (vres v) := @top_sat Tryd.prog tab64 E hV 2000 33 ash_rlong sh_rlong (@Eq.mp _ _ s_rlong h) args ha hp
theorem step_rlong (hV : Valid Tryd.prog tab64 E) (h : P_rlong) : Valid Tryd.prog tab65 E := hV.add c_rlong (pure_rlong hV h)

/-- gouache/gouacheref04.Pow -/
def P_rpow : Prop :=
  (∀ n : Int, (-2147483648) ≤ n → n ≤ 2147483647 →
  (∀ n1 : Int, (-2147483648) ≤ n1 → n1 ≤ 2147483647 →
  (Pre_rpow [[n], [n1]] →
  (((n1 = 0) →
    Post_rpow [[n], [n1]] [[65536], [0]]) ∧
   (¬ (n1 = 0) →
    (((n = 0) →
      (((n1 < 0) →
        Post_rpow [[n], [n1]] [[0], [12]]) ∧
       (¬ (n1 < 0) →
        Post_rpow [[n], [n1]] [[0], [0]]))) ∧
     (¬ (n = 0) →
      (((n < 0) →
        (((¬ ((n1.tmod 65536) = 0)) →
          Post_rpow [[n], [n1]] [[0], [1]]) ∧
         (¬ (¬ ((n1.tmod 65536) = 0)) →
          (((n < 0) →
            (∀ n2 : Int, n2 = (0 - n) → (-2147483647) ≤ n2 → n2 ≤ 2147483648 →
            (∀ n3 : Int, n3 = (IntKind.wrap .u64 n2) → 0 ≤ n3 → n3 ≤ 18446744073709551615 →
            ((1 ≤ n3) ∧
            ((n3 ≤ 2147483648) ∧
            (∀ n4 : Int, n4 = n3 → 1 ≤ n4 → n4 ≤ 2147483648 →
            (Pre_rlong [[n4]] ∧
            (∀ n5 : Int, (-17592186044416) ≤ n5 → n5 ≤ 17592186044416 →
            (Post_rlong [[n4]] [[n5]] →
            (Pre_rmul [[n5], [n1]] ∧
            (∀ n6 : Int, (-9223372036854775808) ≤ n6 → n6 ≤ 9223372036854775807 →
            (∀ n7 : Int, 0 ≤ n7 → n7 ≤ 18446744073709551615 →
            (Post_rmul [[n5], [n1]] [[n6, n7]] →
            (Pre_rnear [[n6, n7], [16777216]] ∧
            (∀ n8 : Int, (-9223372036854775808) ≤ n8 → n8 ≤ 9223372036854775807 →
            (∀ n9 : Int, 0 ≤ n9 → n9 ≤ 18446744073709551615 →
            (∀ n10 : Int, 0 ≤ n10 → n10 ≤ 11 →
            (Post_rnear [[n6, n7], [16777216]] [[n8, n9], [n10]] →
            (∀ b : Nat, (Pre_rint [[n8, n9]] ∧
            (∀ n11 : Int, (-9223372036854775808) ≤ n11 → n11 ≤ 9223372036854775807 →
            (∀ t : Bool, (Post_rint [[n8, n9]] [[n11], [b2i t]] →
            (Pre_rtwo [[n11]] ∧
            (∀ t1 : Bool, (∀ n12 : Int, 0 ≤ n12 → n12 ≤ 65535 →
            (∀ n13 : Int, 0 ≤ n13 → n13 ≤ 65535 →
            (∀ n14 : Int, 0 ≤ n14 → n14 ≤ 65535 →
            (∀ n15 : Int, 0 ≤ n15 → n15 ≤ 65535 →
            (∀ n16 : Int, 0 ≤ n16 → n16 ≤ 65535 →
            (∀ n17 : Int, 0 ≤ n17 → n17 ≤ 65535 →
            (∀ n18 : Int, 0 ≤ n18 → n18 ≤ 65535 →
            (∀ n19 : Int, 0 ≤ n19 → n19 ≤ 65535 →
            (∀ n20 : Int, 0 ≤ n20 → n20 ≤ 65535 →
            (∀ n21 : Int, 0 ≤ n21 → n21 ≤ 65535 →
            (∀ n22 : Int, 0 ≤ n22 → n22 ≤ 65535 →
            (∀ n23 : Int, 0 ≤ n23 → n23 ≤ 65535 →
            (Post_rtwo [[n11]] [[b2i t1, n12, n13, n14, n15, n16, n17, n18, n19, n20, n21, n22, n23]] →
            (∀ b1 : Nat, (((n < 0) →
              (((¬ (((IntKind.wrap .i32 (n1.tdiv 65536)).tmod 2) = 0)) →
                (Pre_minus [[b2i t1, n12, n13, n14, n15, n16, n17, n18, n19, n20, n21, n22, n23]] ∧
                (∀ t2 : Bool, (∀ n24 : Int, 0 ≤ n24 → n24 ≤ 65535 →
                (∀ n25 : Int, 0 ≤ n25 → n25 ≤ 65535 →
                (∀ n26 : Int, 0 ≤ n26 → n26 ≤ 65535 →
                (∀ n27 : Int, 0 ≤ n27 → n27 ≤ 65535 →
                (∀ n28 : Int, 0 ≤ n28 → n28 ≤ 65535 →
                (∀ n29 : Int, 0 ≤ n29 → n29 ≤ 65535 →
                (∀ n30 : Int, 0 ≤ n30 → n30 ≤ 65535 →
                (∀ n31 : Int, 0 ≤ n31 → n31 ≤ 65535 →
                (∀ n32 : Int, 0 ≤ n32 → n32 ≤ 65535 →
                (∀ n33 : Int, 0 ≤ n33 → n33 ≤ 65535 →
                (∀ n34 : Int, 0 ≤ n34 → n34 ≤ 65535 →
                (∀ n35 : Int, 0 ≤ n35 → n35 ≤ 65535 →
                (Post_minus [[b2i t1, n12, n13, n14, n15, n16, n17, n18, n19, n20, n21, n22, n23]] [[b2i t2, n24, n25, n26, n27, n28, n29, n30, n31, n32, n33, n34, n35]] →
                (Pre_rhold1 [[b2i t2, n24, n25, n26, n27, n28, n29, n30, n31, n32, n33, n34, n35]] ∧
                (∀ n36 : Int, (-2147483648) ≤ n36 → n36 ≤ 2147483647 →
                (Post_rhold1 [[b2i t2, n24, n25, n26, n27, n28, n29, n30, n31, n32, n33, n34, n35]] [[n36]] →
                Post_rpow [[n], [n1]] [[n36], [0]]))))))))))))))))))) ∧
               (¬ (¬ (((IntKind.wrap .i32 (n1.tdiv 65536)).tmod 2) = 0)) →
                (Pre_rhold1 [[b2i t1, n12, n13, n14, n15, n16, n17, n18, n19, n20, n21, n22, n23]] ∧
                (∀ n24 : Int, (-2147483648) ≤ n24 → n24 ≤ 2147483647 →
                (Post_rhold1 [[b2i t1, n12, n13, n14, n15, n16, n17, n18, n19, n20, n21, n22, n23]] [[n24]] →
                Post_rpow [[n], [n1]] [[n24], [0]])))))) ∧
             (¬ (n < 0) →
              (Pre_rhold1 [[b2i t1, n12, n13, n14, n15, n16, n17, n18, n19, n20, n21, n22, n23]] ∧
              (∀ n24 : Int, (-2147483648) ≤ n24 → n24 ≤ 2147483647 →
              (Post_rhold1 [[b2i t1, n12, n13, n14, n15, n16, n17, n18, n19, n20, n21, n22, n23]] [[n24]] →
              Post_rpow [[n], [n1]] [[n24], [0]])))))))))))))))))))))))))))))))))))))))))))) ∧
           (¬ (n < 0) →
            (∀ n2 : Int, n2 = (IntKind.wrap .u64 n) → 0 ≤ n2 → n2 ≤ 18446744073709551615 →
            ((1 ≤ n2) ∧
            ((n2 ≤ 2147483648) ∧
            (∀ n3 : Int, n3 = n2 → 1 ≤ n3 → n3 ≤ 2147483648 →
            (Pre_rlong [[n3]] ∧
            (∀ n4 : Int, (-17592186044416) ≤ n4 → n4 ≤ 17592186044416 →
            (Post_rlong [[n3]] [[n4]] →
            (Pre_rmul [[n4], [n1]] ∧
            (∀ n5 : Int, (-9223372036854775808) ≤ n5 → n5 ≤ 9223372036854775807 →
            (∀ n6 : Int, 0 ≤ n6 → n6 ≤ 18446744073709551615 →
            (Post_rmul [[n4], [n1]] [[n5, n6]] →
            (Pre_rnear [[n5, n6], [16777216]] ∧
            (∀ n7 : Int, (-9223372036854775808) ≤ n7 → n7 ≤ 9223372036854775807 →
            (∀ n8 : Int, 0 ≤ n8 → n8 ≤ 18446744073709551615 →
            (∀ n9 : Int, 0 ≤ n9 → n9 ≤ 11 →
            (Post_rnear [[n5, n6], [16777216]] [[n7, n8], [n9]] →
            (∀ b : Nat, (Pre_rint [[n7, n8]] ∧
            (∀ n10 : Int, (-9223372036854775808) ≤ n10 → n10 ≤ 9223372036854775807 →
            (∀ t : Bool, (Post_rint [[n7, n8]] [[n10], [b2i t]] →
            (Pre_rtwo [[n10]] ∧
            (∀ t1 : Bool, (∀ n11 : Int, 0 ≤ n11 → n11 ≤ 65535 →
            (∀ n12 : Int, 0 ≤ n12 → n12 ≤ 65535 →
            (∀ n13 : Int, 0 ≤ n13 → n13 ≤ 65535 →
            (∀ n14 : Int, 0 ≤ n14 → n14 ≤ 65535 →
            (∀ n15 : Int, 0 ≤ n15 → n15 ≤ 65535 →
            (∀ n16 : Int, 0 ≤ n16 → n16 ≤ 65535 →
            (∀ n17 : Int, 0 ≤ n17 → n17 ≤ 65535 →
            (∀ n18 : Int, 0 ≤ n18 → n18 ≤ 65535 →
            (∀ n19 : Int, 0 ≤ n19 → n19 ≤ 65535 →
            (∀ n20 : Int, 0 ≤ n20 → n20 ≤ 65535 →
            (∀ n21 : Int, 0 ≤ n21 → n21 ≤ 65535 →
            (∀ n22 : Int, 0 ≤ n22 → n22 ≤ 65535 →
            (Post_rtwo [[n10]] [[b2i t1, n11, n12, n13, n14, n15, n16, n17, n18, n19, n20, n21, n22]] →
            (∀ b1 : Nat, (((n < 0) →
              (((¬ (((IntKind.wrap .i32 (n1.tdiv 65536)).tmod 2) = 0)) →
                (Pre_minus [[b2i t1, n11, n12, n13, n14, n15, n16, n17, n18, n19, n20, n21, n22]] ∧
                (∀ t2 : Bool, (∀ n23 : Int, 0 ≤ n23 → n23 ≤ 65535 →
                (∀ n24 : Int, 0 ≤ n24 → n24 ≤ 65535 →
                (∀ n25 : Int, 0 ≤ n25 → n25 ≤ 65535 →
                (∀ n26 : Int, 0 ≤ n26 → n26 ≤ 65535 →
                (∀ n27 : Int, 0 ≤ n27 → n27 ≤ 65535 →
                (∀ n28 : Int, 0 ≤ n28 → n28 ≤ 65535 →
                (∀ n29 : Int, 0 ≤ n29 → n29 ≤ 65535 →
                (∀ n30 : Int, 0 ≤ n30 → n30 ≤ 65535 →
                (∀ n31 : Int, 0 ≤ n31 → n31 ≤ 65535 →
                (∀ n32 : Int, 0 ≤ n32 → n32 ≤ 65535 →
                (∀ n33 : Int, 0 ≤ n33 → n33 ≤ 65535 →
                (∀ n34 : Int, 0 ≤ n34 → n34 ≤ 65535 →
                (Post_minus [[b2i t1, n11, n12, n13, n14, n15, n16, n17, n18, n19, n20, n21, n22]] [[b2i t2, n23, n24, n25, n26, n27, n28, n29, n30, n31, n32, n33, n34]] →
                (Pre_rhold1 [[b2i t2, n23, n24, n25, n26, n27, n28, n29, n30, n31, n32, n33, n34]] ∧
                (∀ n35 : Int, (-2147483648) ≤ n35 → n35 ≤ 2147483647 →
                (Post_rhold1 [[b2i t2, n23, n24, n25, n26, n27, n28, n29, n30, n31, n32, n33, n34]] [[n35]] →
                Post_rpow [[n], [n1]] [[n35], [0]]))))))))))))))))))) ∧
               (¬ (¬ (((IntKind.wrap .i32 (n1.tdiv 65536)).tmod 2) = 0)) →
                (Pre_rhold1 [[b2i t1, n11, n12, n13, n14, n15, n16, n17, n18, n19, n20, n21, n22]] ∧
                (∀ n23 : Int, (-2147483648) ≤ n23 → n23 ≤ 2147483647 →
                (Post_rhold1 [[b2i t1, n11, n12, n13, n14, n15, n16, n17, n18, n19, n20, n21, n22]] [[n23]] →
                Post_rpow [[n], [n1]] [[n23], [0]])))))) ∧
             (¬ (n < 0) →
              (Pre_rhold1 [[b2i t1, n11, n12, n13, n14, n15, n16, n17, n18, n19, n20, n21, n22]] ∧
              (∀ n23 : Int, (-2147483648) ≤ n23 → n23 ≤ 2147483647 →
              (Post_rhold1 [[b2i t1, n11, n12, n13, n14, n15, n16, n17, n18, n19, n20, n21, n22]] [[n23]] →
              Post_rpow [[n], [n1]] [[n23], [0]]))))))))))))))))))))))))))))))))))))))))))))))) ∧
       (¬ (n < 0) →
        (((n < 0) →
          (∀ n2 : Int, n2 = (0 - n) → (-2147483647) ≤ n2 → n2 ≤ 2147483648 →
          (∀ n3 : Int, n3 = (IntKind.wrap .u64 n2) → 0 ≤ n3 → n3 ≤ 18446744073709551615 →
          ((1 ≤ n3) ∧
          ((n3 ≤ 2147483648) ∧
          (∀ n4 : Int, n4 = n3 → 1 ≤ n4 → n4 ≤ 2147483648 →
          (Pre_rlong [[n4]] ∧
          (∀ n5 : Int, (-17592186044416) ≤ n5 → n5 ≤ 17592186044416 →
          (Post_rlong [[n4]] [[n5]] →
          (Pre_rmul [[n5], [n1]] ∧
          (∀ n6 : Int, (-9223372036854775808) ≤ n6 → n6 ≤ 9223372036854775807 →
          (∀ n7 : Int, 0 ≤ n7 → n7 ≤ 18446744073709551615 →
          (Post_rmul [[n5], [n1]] [[n6, n7]] →
          (Pre_rnear [[n6, n7], [16777216]] ∧
          (∀ n8 : Int, (-9223372036854775808) ≤ n8 → n8 ≤ 9223372036854775807 →
          (∀ n9 : Int, 0 ≤ n9 → n9 ≤ 18446744073709551615 →
          (∀ n10 : Int, 0 ≤ n10 → n10 ≤ 11 →
          (Post_rnear [[n6, n7], [16777216]] [[n8, n9], [n10]] →
          (∀ b : Nat, (Pre_rint [[n8, n9]] ∧
          (∀ n11 : Int, (-9223372036854775808) ≤ n11 → n11 ≤ 9223372036854775807 →
          (∀ t : Bool, (Post_rint [[n8, n9]] [[n11], [b2i t]] →
          (Pre_rtwo [[n11]] ∧
          (∀ t1 : Bool, (∀ n12 : Int, 0 ≤ n12 → n12 ≤ 65535 →
          (∀ n13 : Int, 0 ≤ n13 → n13 ≤ 65535 →
          (∀ n14 : Int, 0 ≤ n14 → n14 ≤ 65535 →
          (∀ n15 : Int, 0 ≤ n15 → n15 ≤ 65535 →
          (∀ n16 : Int, 0 ≤ n16 → n16 ≤ 65535 →
          (∀ n17 : Int, 0 ≤ n17 → n17 ≤ 65535 →
          (∀ n18 : Int, 0 ≤ n18 → n18 ≤ 65535 →
          (∀ n19 : Int, 0 ≤ n19 → n19 ≤ 65535 →
          (∀ n20 : Int, 0 ≤ n20 → n20 ≤ 65535 →
          (∀ n21 : Int, 0 ≤ n21 → n21 ≤ 65535 →
          (∀ n22 : Int, 0 ≤ n22 → n22 ≤ 65535 →
          (∀ n23 : Int, 0 ≤ n23 → n23 ≤ 65535 →
          (Post_rtwo [[n11]] [[b2i t1, n12, n13, n14, n15, n16, n17, n18, n19, n20, n21, n22, n23]] →
          (∀ b1 : Nat, (((n < 0) →
            (((¬ (((IntKind.wrap .i32 (n1.tdiv 65536)).tmod 2) = 0)) →
              (Pre_minus [[b2i t1, n12, n13, n14, n15, n16, n17, n18, n19, n20, n21, n22, n23]] ∧
              (∀ t2 : Bool, (∀ n24 : Int, 0 ≤ n24 → n24 ≤ 65535 →
              (∀ n25 : Int, 0 ≤ n25 → n25 ≤ 65535 →
              (∀ n26 : Int, 0 ≤ n26 → n26 ≤ 65535 →
              (∀ n27 : Int, 0 ≤ n27 → n27 ≤ 65535 →
              (∀ n28 : Int, 0 ≤ n28 → n28 ≤ 65535 →
              (∀ n29 : Int, 0 ≤ n29 → n29 ≤ 65535 →
              (∀ n30 : Int, 0 ≤ n30 → n30 ≤ 65535 →
              (∀ n31 : Int, 0 ≤ n31 → n31 ≤ 65535 →
              (∀ n32 : Int, 0 ≤ n32 → n32 ≤ 65535 →
              (∀ n33 : Int, 0 ≤ n33 → n33 ≤ 65535 →
              (∀ n34 : Int, 0 ≤ n34 → n34 ≤ 65535 →
              (∀ n35 : Int, 0 ≤ n35 → n35 ≤ 65535 →
              (Post_minus [[b2i t1, n12, n13, n14, n15, n16, n17, n18, n19, n20, n21, n22, n23]] [[b2i t2, n24, n25, n26, n27, n28, n29, n30, n31, n32, n33, n34, n35]] →
              (Pre_rhold1 [[b2i t2, n24, n25, n26, n27, n28, n29, n30, n31, n32, n33, n34, n35]] ∧
              (∀ n36 : Int, (-2147483648) ≤ n36 → n36 ≤ 2147483647 →
              (Post_rhold1 [[b2i t2, n24, n25, n26, n27, n28, n29, n30, n31, n32, n33, n34, n35]] [[n36]] →
              Post_rpow [[n], [n1]] [[n36], [0]]))))))))))))))))))) ∧
             (¬ (¬ (((IntKind.wrap .i32 (n1.tdiv 65536)).tmod 2) = 0)) →
              (Pre_rhold1 [[b2i t1, n12, n13, n14, n15, n16, n17, n18, n19, n20, n21, n22, n23]] ∧
              (∀ n24 : Int, (-2147483648) ≤ n24 → n24 ≤ 2147483647 →
              (Post_rhold1 [[b2i t1, n12, n13, n14, n15, n16, n17, n18, n19, n20, n21, n22, n23]] [[n24]] →
              Post_rpow [[n], [n1]] [[n24], [0]])))))) ∧
           (¬ (n < 0) →
            (Pre_rhold1 [[b2i t1, n12, n13, n14, n15, n16, n17, n18, n19, n20, n21, n22, n23]] ∧
            (∀ n24 : Int, (-2147483648) ≤ n24 → n24 ≤ 2147483647 →
            (Post_rhold1 [[b2i t1, n12, n13, n14, n15, n16, n17, n18, n19, n20, n21, n22, n23]] [[n24]] →
            Post_rpow [[n], [n1]] [[n24], [0]])))))))))))))))))))))))))))))))))))))))))))) ∧
         (¬ (n < 0) →
          (∀ n2 : Int, n2 = (IntKind.wrap .u64 n) → 0 ≤ n2 → n2 ≤ 18446744073709551615 →
          ((1 ≤ n2) ∧
          ((n2 ≤ 2147483648) ∧
          (∀ n3 : Int, n3 = n2 → 1 ≤ n3 → n3 ≤ 2147483648 →
          (Pre_rlong [[n3]] ∧
          (∀ n4 : Int, (-17592186044416) ≤ n4 → n4 ≤ 17592186044416 →
          (Post_rlong [[n3]] [[n4]] →
          (Pre_rmul [[n4], [n1]] ∧
          (∀ n5 : Int, (-9223372036854775808) ≤ n5 → n5 ≤ 9223372036854775807 →
          (∀ n6 : Int, 0 ≤ n6 → n6 ≤ 18446744073709551615 →
          (Post_rmul [[n4], [n1]] [[n5, n6]] →
          (Pre_rnear [[n5, n6], [16777216]] ∧
          (∀ n7 : Int, (-9223372036854775808) ≤ n7 → n7 ≤ 9223372036854775807 →
          (∀ n8 : Int, 0 ≤ n8 → n8 ≤ 18446744073709551615 →
          (∀ n9 : Int, 0 ≤ n9 → n9 ≤ 11 →
          (Post_rnear [[n5, n6], [16777216]] [[n7, n8], [n9]] →
          (∀ b : Nat, (Pre_rint [[n7, n8]] ∧
          (∀ n10 : Int, (-9223372036854775808) ≤ n10 → n10 ≤ 9223372036854775807 →
          (∀ t : Bool, (Post_rint [[n7, n8]] [[n10], [b2i t]] →
          (Pre_rtwo [[n10]] ∧
          (∀ t1 : Bool, (∀ n11 : Int, 0 ≤ n11 → n11 ≤ 65535 →
          (∀ n12 : Int, 0 ≤ n12 → n12 ≤ 65535 →
          (∀ n13 : Int, 0 ≤ n13 → n13 ≤ 65535 →
          (∀ n14 : Int, 0 ≤ n14 → n14 ≤ 65535 →
          (∀ n15 : Int, 0 ≤ n15 → n15 ≤ 65535 →
          (∀ n16 : Int, 0 ≤ n16 → n16 ≤ 65535 →
          (∀ n17 : Int, 0 ≤ n17 → n17 ≤ 65535 →
          (∀ n18 : Int, 0 ≤ n18 → n18 ≤ 65535 →
          (∀ n19 : Int, 0 ≤ n19 → n19 ≤ 65535 →
          (∀ n20 : Int, 0 ≤ n20 → n20 ≤ 65535 →
          (∀ n21 : Int, 0 ≤ n21 → n21 ≤ 65535 →
          (∀ n22 : Int, 0 ≤ n22 → n22 ≤ 65535 →
          (Post_rtwo [[n10]] [[b2i t1, n11, n12, n13, n14, n15, n16, n17, n18, n19, n20, n21, n22]] →
          (∀ b1 : Nat, (((n < 0) →
            (((¬ (((IntKind.wrap .i32 (n1.tdiv 65536)).tmod 2) = 0)) →
              (Pre_minus [[b2i t1, n11, n12, n13, n14, n15, n16, n17, n18, n19, n20, n21, n22]] ∧
              (∀ t2 : Bool, (∀ n23 : Int, 0 ≤ n23 → n23 ≤ 65535 →
              (∀ n24 : Int, 0 ≤ n24 → n24 ≤ 65535 →
              (∀ n25 : Int, 0 ≤ n25 → n25 ≤ 65535 →
              (∀ n26 : Int, 0 ≤ n26 → n26 ≤ 65535 →
              (∀ n27 : Int, 0 ≤ n27 → n27 ≤ 65535 →
              (∀ n28 : Int, 0 ≤ n28 → n28 ≤ 65535 →
              (∀ n29 : Int, 0 ≤ n29 → n29 ≤ 65535 →
              (∀ n30 : Int, 0 ≤ n30 → n30 ≤ 65535 →
              (∀ n31 : Int, 0 ≤ n31 → n31 ≤ 65535 →
              (∀ n32 : Int, 0 ≤ n32 → n32 ≤ 65535 →
              (∀ n33 : Int, 0 ≤ n33 → n33 ≤ 65535 →
              (∀ n34 : Int, 0 ≤ n34 → n34 ≤ 65535 →
              (Post_minus [[b2i t1, n11, n12, n13, n14, n15, n16, n17, n18, n19, n20, n21, n22]] [[b2i t2, n23, n24, n25, n26, n27, n28, n29, n30, n31, n32, n33, n34]] →
              (Pre_rhold1 [[b2i t2, n23, n24, n25, n26, n27, n28, n29, n30, n31, n32, n33, n34]] ∧
              (∀ n35 : Int, (-2147483648) ≤ n35 → n35 ≤ 2147483647 →
              (Post_rhold1 [[b2i t2, n23, n24, n25, n26, n27, n28, n29, n30, n31, n32, n33, n34]] [[n35]] →
              Post_rpow [[n], [n1]] [[n35], [0]]))))))))))))))))))) ∧
             (¬ (¬ (((IntKind.wrap .i32 (n1.tdiv 65536)).tmod 2) = 0)) →
              (Pre_rhold1 [[b2i t1, n11, n12, n13, n14, n15, n16, n17, n18, n19, n20, n21, n22]] ∧
              (∀ n23 : Int, (-2147483648) ≤ n23 → n23 ≤ 2147483647 →
              (Post_rhold1 [[b2i t1, n11, n12, n13, n14, n15, n16, n17, n18, n19, n20, n21, n22]] [[n23]] →
              Post_rpow [[n], [n1]] [[n23], [0]])))))) ∧
           (¬ (n < 0) →
            (Pre_rhold1 [[b2i t1, n11, n12, n13, n14, n15, n16, n17, n18, n19, n20, n21, n22]] ∧
            (∀ n23 : Int, (-2147483648) ≤ n23 → n23 ≤ 2147483647 →
            (Post_rhold1 [[b2i t1, n11, n12, n13, n14, n15, n16, n17, n18, n19, n20, n21, n22]] [[n23]] →
            Post_rpow [[n], [n1]] [[n23], [0]])))))))))))))))))))))))))))))))))))))))))))))))))))))
theorem c_rpow : canCall Tryd.prog 20 = true := by kernel_rfl
theorem s_rpow : P_rpow = sat E (symTop Tryd.prog tab65 2000 20 ash_rpow sh_rpow) := by kernel_rfl
theorem pure_rpow (hV : Valid Tryd.prog tab65 E) (h : P_rpow) (args : List Value) (ha : shaFits ash_rpow args) (hp : E.pre 20 (args.map vints)) : Pure Tryd.prog 20 args.toArray fun v => sh_rpow.fits v ∧ E.post 20 (args.map vints) (vres v) := @top_sat Tryd.prog tab65 E hV 2000 20 ash_rpow sh_rpow (@Eq.mp _ _ s_rpow h) args ha hp
theorem step_rpow (hV : Valid Tryd.prog tab65 E) (h : P_rpow) : Valid Tryd.prog tab66 E := hV.add c_rpow (pure_rpow hV h)

/-- gouache/gouacheref02.Sat -/
def P_rsat : Prop :=
  (∀ n : Int, (-9223372036854775808) ≤ n → n ≤ 9223372036854775807 →
  (Pre_rsat [[n]] →
  (∀ b : Nat, (Pre_small [[n]] ∧
  (∀ t : Bool, (∀ n1 : Int, 0 ≤ n1 → n1 ≤ 65535 →
  (∀ n2 : Int, 0 ≤ n2 → n2 ≤ 65535 →
  (∀ n3 : Int, 0 ≤ n3 → n3 ≤ 65535 →
  (∀ n4 : Int, 0 ≤ n4 → n4 ≤ 65535 →
  (∀ n5 : Int, 0 ≤ n5 → n5 ≤ 65535 →
  (∀ n6 : Int, 0 ≤ n6 → n6 ≤ 65535 →
  (∀ n7 : Int, 0 ≤ n7 → n7 ≤ 65535 →
  (∀ n8 : Int, 0 ≤ n8 → n8 ≤ 65535 →
  (∀ n9 : Int, 0 ≤ n9 → n9 ≤ 65535 →
  (∀ n10 : Int, 0 ≤ n10 → n10 ≤ 65535 →
  (∀ n11 : Int, 0 ≤ n11 → n11 ≤ 65535 →
  (∀ n12 : Int, 0 ≤ n12 → n12 ≤ 65535 →
  (Post_small [[n]] [[b2i t, n1, n2, n3, n4, n5, n6, n7, n8, n9, n10, n11, n12]] →
  (∀ b1 : Nat, (Pre_small [[1]] ∧
  (∀ t1 : Bool, (∀ n13 : Int, 0 ≤ n13 → n13 ≤ 65535 →
  (∀ n14 : Int, 0 ≤ n14 → n14 ≤ 65535 →
  (∀ n15 : Int, 0 ≤ n15 → n15 ≤ 65535 →
  (∀ n16 : Int, 0 ≤ n16 → n16 ≤ 65535 →
  (∀ n17 : Int, 0 ≤ n17 → n17 ≤ 65535 →
  (∀ n18 : Int, 0 ≤ n18 → n18 ≤ 65535 →
  (∀ n19 : Int, 0 ≤ n19 → n19 ≤ 65535 →
  (∀ n20 : Int, 0 ≤ n20 → n20 ≤ 65535 →
  (∀ n21 : Int, 0 ≤ n21 → n21 ≤ 65535 →
  (∀ n22 : Int, 0 ≤ n22 → n22 ≤ 65535 →
  (∀ n23 : Int, 0 ≤ n23 → n23 ≤ 65535 →
  (∀ n24 : Int, 0 ≤ n24 → n24 ≤ 65535 →
  (Post_small [[1]] [[b2i t1, n13, n14, n15, n16, n17, n18, n19, n20, n21, n22, n23, n24]] →
  (Pre_rhold [[b2i t, n1, n2, n3, n4, n5, n6, n7, n8, n9, n10, n11, n12], [b2i t1, n13, n14, n15, n16, n17, n18, n19, n20, n21, n22, n23, n24]] ∧
  (∀ n25 : Int, (-2147483648) ≤ n25 → n25 ≤ 2147483647 →
  (Post_rhold [[b2i t, n1, n2, n3, n4, n5, n6, n7, n8, n9, n10, n11, n12], [b2i t1, n13, n14, n15, n16, n17, n18, n19, n20, n21, n22, n23, n24]] [[n25]] →
  Post_rsat [[n]] [[n25]])))))))))))))))))))))))))))))))))))))
theorem c_rsat : canCall Tryd.prog 23 = true := by kernel_rfl
theorem s_rsat : P_rsat = sat E (symTop Tryd.prog tab66 2000 23 ash_rsat sh_rsat) := by kernel_rfl
theorem pure_rsat (hV : Valid Tryd.prog tab66 E) (h : P_rsat) (args : List Value) (ha : shaFits ash_rsat args) (hp : E.pre 23 (args.map vints)) : Pure Tryd.prog 23 args.toArray fun v => sh_rsat.fits v ∧ E.post 23 (args.map vints) (vres v) := @top_sat Tryd.prog tab66 E hV 2000 23 ash_rsat sh_rsat (@Eq.mp _ _ s_rsat h) args ha hp
theorem step_rsat (hV : Valid Tryd.prog tab66 E) (h : P_rsat) : Valid Tryd.prog tab67 E := hV.add c_rsat (pure_rsat hV h)


end Go.Proofs.YtogcbmadcgjljaaDoor.Sx
