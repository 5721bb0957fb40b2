/-
  What each function comes to, part 1. Printed by a program of our own.
-/
import Derived.Test.YtcjllibeaiofpaaGreatDoorRxh
set_option maxRecDepth 1000000
set_option linter.all false
namespace Go.Proofs.YtcjllibeaiofpaaGreatDoor.Sx
open Go Go.RowKit
def P_len64 : Prop :=
  (∀ n : Int, 0 <= n -> n <= 18446744073709551615 ->
  (Pre_len64 [[n]] ->
  (((4294967296 <= n) ->
    (∀ n1 : Int, n1 = (n / 4294967296) -> 0 <= n1 -> n1 <= 4294967295 ->
    (((65536 <= n1) ->
      (∀ n2 : Int, n2 = (n1 / 65536) -> 0 <= n2 -> n2 <= 65535 ->
      (((256 <= n2) ->
        (∀ n3 : Int, n3 = (n2 / 256) -> 0 <= n3 -> n3 <= 255 ->
        (∀ n4 : Int, n4 = (len8tab.getD (Int.toNat n3) 0) -> 0 <= n4 -> n4 <= 8 ->
        (∀ n5 : Int, n5 = (56 + n4) -> 56 <= n5 -> n5 <= 64 ->
        Post_len64 [[n]] [[n5]])))) /\
       (¬ (256 <= n2) ->
        (∀ n3 : Int, n3 = (len8tab.getD (Int.toNat (IntKind.wrap .u8 n2)) 0) -> 0 <= n3 -> n3 <= 8 ->
        (∀ n4 : Int, n4 = (48 + n3) -> 48 <= n4 -> n4 <= 56 ->
        Post_len64 [[n]] [[n4]])))))) /\
     (¬ (65536 <= n1) ->
      (((256 <= n1) ->
        (∀ n2 : Int, n2 = (n1 / 256) -> 0 <= n2 -> n2 <= 16777215 ->
        (∀ n3 : Int, n3 = (len8tab.getD (Int.toNat (IntKind.wrap .u8 n2)) 0) -> 0 <= n3 -> n3 <= 8 ->
        (∀ n4 : Int, n4 = (40 + n3) -> 40 <= n4 -> n4 <= 48 ->
        Post_len64 [[n]] [[n4]])))) /\
       (¬ (256 <= n1) ->
        (∀ n2 : Int, n2 = (len8tab.getD (Int.toNat (IntKind.wrap .u8 n1)) 0) -> 0 <= n2 -> n2 <= 8 ->
        (∀ n3 : Int, n3 = (32 + n2) -> 32 <= n3 -> n3 <= 40 ->
        Post_len64 [[n]] [[n3]])))))))) /\
   (¬ (4294967296 <= n) ->
    (((65536 <= n) ->
      (∀ n1 : Int, n1 = (n / 65536) -> 0 <= n1 -> n1 <= 281474976710655 ->
      (((256 <= n1) ->
        (∀ n2 : Int, n2 = (n1 / 256) -> 0 <= n2 -> n2 <= 1099511627775 ->
        (∀ n3 : Int, n3 = (len8tab.getD (Int.toNat (IntKind.wrap .u8 n2)) 0) -> 0 <= n3 -> n3 <= 8 ->
        (∀ n4 : Int, n4 = (24 + n3) -> 24 <= n4 -> n4 <= 32 ->
        Post_len64 [[n]] [[n4]])))) /\
       (¬ (256 <= n1) ->
        (∀ n2 : Int, n2 = (len8tab.getD (Int.toNat (IntKind.wrap .u8 n1)) 0) -> 0 <= n2 -> n2 <= 8 ->
        (∀ n3 : Int, n3 = (16 + n2) -> 16 <= n3 -> n3 <= 24 ->
        Post_len64 [[n]] [[n3]])))))) /\
     (¬ (65536 <= n) ->
      (((256 <= n) ->
        (∀ n1 : Int, n1 = (n / 256) -> 0 <= n1 -> n1 <= 72057594037927935 ->
        (∀ n2 : Int, n2 = (len8tab.getD (Int.toNat (IntKind.wrap .u8 n1)) 0) -> 0 <= n2 -> n2 <= 8 ->
        (∀ n3 : Int, n3 = (8 + n2) -> 8 <= n3 -> n3 <= 16 ->
        Post_len64 [[n]] [[n3]])))) /\
       (¬ (256 <= n) ->
        (∀ n1 : Int, n1 = (len8tab.getD (Int.toNat (IntKind.wrap .u8 n)) 0) -> 0 <= n1 -> n1 <= 8 ->
        Post_len64 [[n]] [[n1]])))))))))
theorem c_len64 : canCall Tryz.prog 116 = true := by kernel_rfl
theorem s_len64 : P_len64 = sat E (symTop Tryz.prog tab0 2000 116 ash_len64 sh_len64) := by kernel_rfl
theorem pure_len64 (hV : Valid Tryz.prog tab0 E) (h : P_len64) : PureE 116 ash_len64 sh_len64 := fun args ha hp => top_sat hV (@Eq.mp _ _ s_len64 h) args ha hp
theorem step_len64 (hV : Valid Tryz.prog tab0 E) (h : P_len64) : Valid Tryz.prog tab1 E := hV.add c_len64 (pure_len64 hV h)
def P_mul64 : Prop :=
 (∀ n : Int, 0 <= n -> n <= 18446744073709551615 ->
 (∀ n1 : Int, 0 <= n1 -> n1 <= 18446744073709551615 ->
 (Pre_mul64 [[n], [n1]] ->
 (∀ n2 : Int, n2 = (n % 4294967296) -> 0 <= n2 -> n2 <= 4294967295 ->
 (∀ n3 : Int, n3 = (n / 4294967296) -> 0 <= n3 -> n3 <= 4294967295 ->
 (∀ n4 : Int, n4 = (n1 % 4294967296) -> 0 <= n4 -> n4 <= 4294967295 ->
 (∀ n5 : Int, n5 = (n1 / 4294967296) -> 0 <= n5 -> n5 <= 4294967295 ->
 (∀ n6 : Int, n6 = (n2 * n4) -> 0 <= n6 -> n6 <= 18446744065119617025 ->
 (∀ n7 : Int, n7 = ((n3 * n4) + (n6 / 4294967296)) -> 0 <= n7 -> n7 <= 18446744069414584319 ->
 (∀ n8 : Int, n8 = (n7 % 4294967296) -> 0 <= n8 -> n8 <= 4294967295 ->
 (∀ n9 : Int, n9 = (n7 / 4294967296) -> 0 <= n9 -> n9 <= 4294967294 ->
 (∀ n10 : Int, n10 = (n8 + (n2 * n5)) -> 0 <= n10 -> n10 <= 18446744069414584320 ->
 (∀ n11 : Int, n11 = (((n3 * n5) + n9) + (n10 / 4294967296)) -> 0 <= n11 -> n11 <= 18446744073709551614 ->
 (∀ n12 : Int, n12 = (IntKind.wrap .u64 (n * n1)) -> 0 <= n12 -> n12 <= 18446744073709551615 ->
 Post_mul64 [[n], [n1]] [[n11], [n12]]))))))))))))))
theorem c_mul64 : canCall Tryz.prog 84 = true := by kernel_rfl
theorem s_mul64 : P_mul64 = sat E (symTop Tryz.prog tab1 2000 84 ash_mul64 sh_mul64) := by kernel_rfl
theorem pure_mul64 (hV : Valid Tryz.prog tab1 E) (h : P_mul64) : PureE 84 ash_mul64 sh_mul64 := fun args ha hp => top_sat hV (@Eq.mp _ _ s_mul64 h) args ha hp
theorem step_mul64 (hV : Valid Tryz.prog tab1 E) (h : P_mul64) : Valid Tryz.prog tab2 E := hV.add c_mul64 (pure_mul64 hV h)
def P_cmpi64 : Prop :=
  (∀ n : Int, (-9223372036854775808) <= n -> n <= 9223372036854775807 ->
  (∀ n1 : Int, (-9223372036854775808) <= n1 -> n1 <= 9223372036854775807 ->
  (Pre_cmpi64 [[n], [n1]] ->
  (((¬ (n = n)) ->
    (((¬ (n1 = n1)) ->
      Post_cmpi64 [[n], [n1]] [[0]]) /\
     (¬ (¬ (n1 = n1)) ->
      Post_cmpi64 [[n], [n1]] [[(-1)]]))) /\
   (¬ (¬ (n = n)) ->
    (((¬ (n1 = n1)) ->
      Post_cmpi64 [[n], [n1]] [[1]]) /\
     (¬ (¬ (n1 = n1)) ->
      (((n < n1) ->
        Post_cmpi64 [[n], [n1]] [[(-1)]]) /\
       (¬ (n < n1) ->
        (((n1 < n) ->
          Post_cmpi64 [[n], [n1]] [[1]]) /\
         (¬ (n1 < n) ->
          Post_cmpi64 [[n], [n1]] [[0]])))))))))))
theorem c_cmpi64 : canCall Tryz.prog 130 = true := by kernel_rfl
theorem s_cmpi64 : P_cmpi64 = sat E (symTop Tryz.prog tab2 2000 130 ash_cmpi64 sh_cmpi64) := by kernel_rfl
theorem pure_cmpi64 (hV : Valid Tryz.prog tab2 E) (h : P_cmpi64) : PureE 130 ash_cmpi64 sh_cmpi64 := fun args ha hp => top_sat hV (@Eq.mp _ _ s_cmpi64 h) args ha hp
theorem step_cmpi64 (hV : Valid Tryz.prog tab2 E) (h : P_cmpi64) : Valid Tryz.prog tab3 E := hV.add c_cmpi64 (pure_cmpi64 hV h)
def P_cmpu64 : Prop :=
  (∀ n : Int, 0 <= n -> n <= 18446744073709551615 ->
  (∀ n1 : Int, 0 <= n1 -> n1 <= 18446744073709551615 ->
  (Pre_cmpu64 [[n], [n1]] ->
  (((¬ (n = n)) ->
    (((¬ (n1 = n1)) ->
      Post_cmpu64 [[n], [n1]] [[0]]) /\
     (¬ (¬ (n1 = n1)) ->
      Post_cmpu64 [[n], [n1]] [[(-1)]]))) /\
   (¬ (¬ (n = n)) ->
    (((¬ (n1 = n1)) ->
      Post_cmpu64 [[n], [n1]] [[1]]) /\
     (¬ (¬ (n1 = n1)) ->
      (((n < n1) ->
        Post_cmpu64 [[n], [n1]] [[(-1)]]) /\
       (¬ (n < n1) ->
        (((n1 < n) ->
          Post_cmpu64 [[n], [n1]] [[1]]) /\
         (¬ (n1 < n) ->
          Post_cmpu64 [[n], [n1]] [[0]])))))))))))
theorem c_cmpu64 : canCall Tryz.prog 131 = true := by kernel_rfl
theorem s_cmpu64 : P_cmpu64 = sat E (symTop Tryz.prog tab3 2000 131 ash_cmpu64 sh_cmpu64) := by kernel_rfl
theorem pure_cmpu64 (hV : Valid Tryz.prog tab3 E) (h : P_cmpu64) : PureE 131 ash_cmpu64 sh_cmpu64 := fun args ha hp => top_sat hV (@Eq.mp _ _ s_cmpu64 h) args ha hp
theorem step_cmpu64 (hV : Valid Tryz.prog tab3 E) (h : P_cmpu64) : Valid Tryz.prog tab4 E := hV.add c_cmpu64 (pure_cmpu64 hV h)
def P_wcmp : Prop :=
  (∀ n : Int, (-9223372036854775808) <= n -> n <= 9223372036854775807 ->
  (∀ n1 : Int, 0 <= n1 -> n1 <= 18446744073709551615 ->
  (∀ n2 : Int, (-9223372036854775808) <= n2 -> n2 <= 9223372036854775807 ->
  (∀ n3 : Int, 0 <= n3 -> n3 <= 18446744073709551615 ->
  (Pre_wcmp [[n, n1], [n2, n3]] ->
  (∀ b : Nat, (∀ b1 : Nat, (Pre_cmpi64 [[n], [n2]] /\
  (∀ n4 : Int, (-1) <= n4 -> n4 <= 1 ->
  (Post_cmpi64 [[n], [n2]] [[n4]] ->
  (Pre_cmpu64 [[n1], [n3]] /\
  (∀ n5 : Int, (-1) <= n5 -> n5 <= 1 ->
  (Post_cmpu64 [[n1], [n3]] [[n5]] ->
  (∀ b2 : Nat, (((¬ (n4 = 0)) ->
    Post_wcmp [[n, n1], [n2, n3]] [[n4]]) /\
   (¬ (¬ (n4 = 0)) ->
    (((¬ (n5 = 0)) ->
      Post_wcmp [[n, n1], [n2, n3]] [[n5]]) /\
     (¬ (¬ (n5 = 0)) ->
      Post_wcmp [[n, n1], [n2, n3]] [[0]]))))))))))))))))))
theorem c_wcmp : canCall Tryz.prog 124 = true := by kernel_rfl
theorem s_wcmp : P_wcmp = sat E (symTop Tryz.prog tab4 2000 124 ash_wcmp sh_wcmp) := by kernel_rfl
theorem pure_wcmp (hV : Valid Tryz.prog tab4 E) (h : P_wcmp) : PureE 124 ash_wcmp sh_wcmp := fun args ha hp => top_sat hV (@Eq.mp _ _ s_wcmp h) args ha hp
theorem step_wcmp (hV : Valid Tryz.prog tab4 E) (h : P_wcmp) : Valid Tryz.prog tab5 E := hV.add c_wcmp (pure_wcmp hV h)
def P_wof : Prop :=
 (∀ n : Int, (-9223372036854775808) <= n -> n <= 9223372036854775807 ->
 (Pre_wof [[n]] ->
 (∀ b : Nat, (∀ n1 : Int, n1 = (n / 9223372036854775808) -> (-1) <= n1 -> n1 <= 0 ->
 (∀ n2 : Int, n2 = (IntKind.wrap .u64 n) -> 0 <= n2 -> n2 <= 18446744073709551615 ->
 Post_wof [[n]] [[n1, n2]])))))
theorem c_wof : canCall Tryz.prog 62 = true := by kernel_rfl
theorem s_wof : P_wof = sat E (symTop Tryz.prog tab5 2000 62 ash_wof sh_wof) := by kernel_rfl
theorem pure_wof (hV : Valid Tryz.prog tab5 E) (h : P_wof) : PureE 62 ash_wof sh_wof := fun args ha hp => top_sat hV (@Eq.mp _ _ s_wof h) args ha hp
theorem step_wof (hV : Valid Tryz.prog tab5 E) (h : P_wof) : Valid Tryz.prog tab6 E := hV.add c_wof (pure_wof hV h)
def P_lz64 : Prop :=
 (∀ n : Int, 0 <= n -> n <= 18446744073709551615 ->
 (Pre_lz64 [[n]] ->
 (Pre_len64 [[n]] /\
 (∀ n1 : Int, 0 <= n1 -> n1 <= 64 ->
 (Post_len64 [[n]] [[n1]] ->
 (∀ n2 : Int, n2 = (64 - n1) -> 0 <= n2 -> n2 <= 64 ->
 Post_lz64 [[n]] [[n2]]))))))
theorem c_lz64 : canCall Tryz.prog 127 = true := by kernel_rfl
theorem s_lz64 : P_lz64 = sat E (symTop Tryz.prog tab6 2000 127 ash_lz64 sh_lz64) := by kernel_rfl
theorem pure_lz64 (hV : Valid Tryz.prog tab6 E) (h : P_lz64) : PureE 127 ash_lz64 sh_lz64 := fun args ha hp => top_sat hV (@Eq.mp _ _ s_lz64 h) args ha hp
theorem step_lz64 (hV : Valid Tryz.prog tab6 E) (h : P_lz64) : Valid Tryz.prog tab7 E := hV.add c_lz64 (pure_lz64 hV h)
def P_div64 : Prop :=
  (∀ n : Int, 0 <= n -> n <= 18446744073709551615 ->
  (∀ n1 : Int, 0 <= n1 -> n1 <= 18446744073709551615 ->
  (∀ n2 : Int, 0 <= n2 -> n2 <= 18446744073709551615 ->
  (Pre_div64 [[n], [n1], [n2]] ->
  (((n2 = 0) ->
    False ) /\
   (¬ (n2 = 0) ->
    (((n2 <= n) ->
      False ) /\
     (¬ (n2 <= n) ->
      (((n = 0) ->
        ((1 <= n2) /\
        (∀ n3 : Int, n3 = n2 -> 1 <= n3 -> n3 <= 18446744073709551615 ->
        ((1 <= n2) /\
        (∀ n4 : Int, n4 = n2 -> 1 <= n4 -> n4 <= 18446744073709551615 ->
        (∀ n5 : Int, n5 = (IntKind.wrap .u64 (n1.tdiv n3)) -> 0 <= n5 -> n5 <= 18446744073709551615 ->
        (∀ n6 : Int, n6 = (n1.tmod n4) -> 0 <= n6 -> n6 <= 18446744073709551615 ->
        Post_div64 [[n], [n1], [n2]] [[n5], [n6]]))))))) /\
       (¬ (n = 0) ->
        (Pre_lz64 [[n2]] /\
        (∀ n3 : Int, 0 <= n3 -> n3 <= 64 ->
        (Post_lz64 [[n2]] [[n3]] ->
        (∀ n4 : Int, n4 = (shI .shl .u64 n2 n3) -> 0 <= n4 -> n4 <= 18446744073709551615 ->
        (∀ n5 : Int, n5 = (n4 / 4294967296) -> 0 <= n5 -> n5 <= 4294967295 ->
        (∀ n6 : Int, n6 = (n4 % 4294967296) -> 0 <= n6 -> n6 <= 4294967295 ->
        (∀ n7 : Int, n7 = (bitsI .or .u64 (shI .shl .u64 n n3) (shI .shr .u64 n1 (64 - n3))) -> 0 <= n7 -> n7 <= 18446744073709551615 ->
        (∀ n8 : Int, n8 = (shI .shl .u64 n1 n3) -> 0 <= n8 -> n8 <= 18446744073709551615 ->
        (∀ n9 : Int, n9 = (n8 / 4294967296) -> 0 <= n9 -> n9 <= 4294967295 ->
        (∀ n10 : Int, n10 = (n8 % 4294967296) -> 0 <= n10 -> n10 <= 4294967295 ->
        ((1 <= n5) /\
        (∀ n11 : Int, n11 = n5 -> 1 <= n11 -> n11 <= 4294967295 ->
        (∀ n12 : Int, n12 = (IntKind.wrap .u64 (n7.tdiv n11)) -> 0 <= n12 -> n12 <= 18446744073709551615 ->
        (∀ n13 : Int, n13 = (IntKind.wrap .u64 (n7 - (IntKind.wrap .u64 (n12 * n5)))) -> 0 <= n13 -> n13 <= 18446744073709551615 ->
        (Inv_dv1 [n7, n5, n6, n9] [n12, n13] /\
        (∀ n14 : Int, 0 <= n14 -> n14 <= 18446744073709551615 ->
        (∀ n15 : Int, 0 <= n15 -> n15 <= 18446744073709551615 ->
        (Inv_dv1 [n7, n5, n6, n9] [n14, n15] ->
        (∀ vs : List Value, vs.length = 21 ->
        (((4294967296 <= n14) ->
          (∀ n16 : Int, n16 = (IntKind.wrap .u64 (n14 - 1)) -> 0 <= n16 -> n16 <= 18446744073709551615 ->
          (∀ n17 : Int, n17 = (IntKind.wrap .u64 (n15 + n5)) -> 0 <= n17 -> n17 <= 18446744073709551615 ->
          (((4294967296 <= n17) ->
            (∀ n18 : Int, n18 = (IntKind.wrap .u64 ((IntKind.wrap .u64 ((IntKind.wrap .u64 (n7 * 4294967296)) + n9)) - (IntKind.wrap .u64 (n16 * n4)))) -> 0 <= n18 -> n18 <= 18446744073709551615 ->
            ((1 <= n5) /\
            (∀ n19 : Int, n19 = n5 -> 1 <= n19 -> n19 <= 4294967295 ->
            (∀ n20 : Int, n20 = (IntKind.wrap .u64 (n18.tdiv n19)) -> 0 <= n20 -> n20 <= 18446744073709551615 ->
            (∀ n21 : Int, n21 = (IntKind.wrap .u64 (n18 - (IntKind.wrap .u64 (n20 * n5)))) -> 0 <= n21 -> n21 <= 18446744073709551615 ->
            (Inv_dv2 [n18, n5, n6, n10] [n20, n21] /\
            (∀ n22 : Int, 0 <= n22 -> n22 <= 18446744073709551615 ->
            (∀ n23 : Int, 0 <= n23 -> n23 <= 18446744073709551615 ->
            (Inv_dv2 [n18, n5, n6, n10] [n22, n23] ->
            (∀ vs1 : List Value, vs1.length = 21 ->
            (((4294967296 <= n22) ->
              (∀ n24 : Int, n24 = (IntKind.wrap .u64 (n22 - 1)) -> 0 <= n24 -> n24 <= 18446744073709551615 ->
              (∀ n25 : Int, n25 = (IntKind.wrap .u64 (n23 + n5)) -> 0 <= n25 -> n25 <= 18446744073709551615 ->
              (((4294967296 <= n25) ->
                (∀ n26 : Int, n26 = (IntKind.wrap .u64 ((IntKind.wrap .u64 (n16 * 4294967296)) + n24)) -> 0 <= n26 -> n26 <= 18446744073709551615 ->
                (∀ n27 : Int, n27 = (shI .shr .u64 (IntKind.wrap .u64 ((IntKind.wrap .u64 ((IntKind.wrap .u64 (n18 * 4294967296)) + n10)) - (IntKind.wrap .u64 (n24 * n4)))) n3) -> 0 <= n27 -> n27 <= 18446744073709551615 ->
                Post_div64 [[n], [n1], [n2]] [[n26], [n27]]))) /\
               (¬ (4294967296 <= n25) ->
                (Inv_dv2 [n18, n5, n6, n10] [n24, n25] /\ Mea_dv2 [n18, n5, n6, n10] [n24, n25] < Mea_dv2 [n18, n5, n6, n10] [n22, n23])))))) /\
             (¬ (4294967296 <= n22) ->
              ((((IntKind.wrap .u64 ((IntKind.wrap .u64 (4294967296 * n23)) + n10)) < (IntKind.wrap .u64 (n22 * n6))) ->
                (∀ n24 : Int, n24 = (IntKind.wrap .u64 (n22 - 1)) -> 0 <= n24 -> n24 <= 18446744073709551615 ->
                (∀ n25 : Int, n25 = (IntKind.wrap .u64 (n23 + n5)) -> 0 <= n25 -> n25 <= 18446744073709551615 ->
                (((4294967296 <= n25) ->
                  (∀ n26 : Int, n26 = (IntKind.wrap .u64 ((IntKind.wrap .u64 (n16 * 4294967296)) + n24)) -> 0 <= n26 -> n26 <= 18446744073709551615 ->
                  (∀ n27 : Int, n27 = (shI .shr .u64 (IntKind.wrap .u64 ((IntKind.wrap .u64 ((IntKind.wrap .u64 (n18 * 4294967296)) + n10)) - (IntKind.wrap .u64 (n24 * n4)))) n3) -> 0 <= n27 -> n27 <= 18446744073709551615 ->
                  Post_div64 [[n], [n1], [n2]] [[n26], [n27]]))) /\
                 (¬ (4294967296 <= n25) ->
                  (Inv_dv2 [n18, n5, n6, n10] [n24, n25] /\ Mea_dv2 [n18, n5, n6, n10] [n24, n25] < Mea_dv2 [n18, n5, n6, n10] [n22, n23])))))) /\
               (¬ ((IntKind.wrap .u64 ((IntKind.wrap .u64 (4294967296 * n23)) + n10)) < (IntKind.wrap .u64 (n22 * n6))) ->
                (∀ n24 : Int, n24 = (IntKind.wrap .u64 ((IntKind.wrap .u64 (n16 * 4294967296)) + n22)) -> 0 <= n24 -> n24 <= 18446744073709551615 ->
                (∀ n25 : Int, n25 = (shI .shr .u64 (IntKind.wrap .u64 ((IntKind.wrap .u64 ((IntKind.wrap .u64 (n18 * 4294967296)) + n10)) - (IntKind.wrap .u64 (n22 * n4)))) n3) -> 0 <= n25 -> n25 <= 18446744073709551615 ->
                Post_div64 [[n], [n1], [n2]] [[n24], [n25]]))))))))))))))))) /\
           (¬ (4294967296 <= n17) ->
            (Inv_dv1 [n7, n5, n6, n9] [n16, n17] /\ Mea_dv1 [n7, n5, n6, n9] [n16, n17] < Mea_dv1 [n7, n5, n6, n9] [n14, n15])))))) /\
         (¬ (4294967296 <= n14) ->
          ((((IntKind.wrap .u64 ((IntKind.wrap .u64 (4294967296 * n15)) + n9)) < (IntKind.wrap .u64 (n14 * n6))) ->
            (∀ n16 : Int, n16 = (IntKind.wrap .u64 (n14 - 1)) -> 0 <= n16 -> n16 <= 18446744073709551615 ->
            (∀ n17 : Int, n17 = (IntKind.wrap .u64 (n15 + n5)) -> 0 <= n17 -> n17 <= 18446744073709551615 ->
            (((4294967296 <= n17) ->
              (∀ n18 : Int, n18 = (IntKind.wrap .u64 ((IntKind.wrap .u64 ((IntKind.wrap .u64 (n7 * 4294967296)) + n9)) - (IntKind.wrap .u64 (n16 * n4)))) -> 0 <= n18 -> n18 <= 18446744073709551615 ->
              ((1 <= n5) /\
              (∀ n19 : Int, n19 = n5 -> 1 <= n19 -> n19 <= 4294967295 ->
              (∀ n20 : Int, n20 = (IntKind.wrap .u64 (n18.tdiv n19)) -> 0 <= n20 -> n20 <= 18446744073709551615 ->
              (∀ n21 : Int, n21 = (IntKind.wrap .u64 (n18 - (IntKind.wrap .u64 (n20 * n5)))) -> 0 <= n21 -> n21 <= 18446744073709551615 ->
              (Inv_dv2 [n18, n5, n6, n10] [n20, n21] /\
              (∀ n22 : Int, 0 <= n22 -> n22 <= 18446744073709551615 ->
              (∀ n23 : Int, 0 <= n23 -> n23 <= 18446744073709551615 ->
              (Inv_dv2 [n18, n5, n6, n10] [n22, n23] ->
              (∀ vs1 : List Value, vs1.length = 21 ->
              (((4294967296 <= n22) ->
                (∀ n24 : Int, n24 = (IntKind.wrap .u64 (n22 - 1)) -> 0 <= n24 -> n24 <= 18446744073709551615 ->
                (∀ n25 : Int, n25 = (IntKind.wrap .u64 (n23 + n5)) -> 0 <= n25 -> n25 <= 18446744073709551615 ->
                (((4294967296 <= n25) ->
                  (∀ n26 : Int, n26 = (IntKind.wrap .u64 ((IntKind.wrap .u64 (n16 * 4294967296)) + n24)) -> 0 <= n26 -> n26 <= 18446744073709551615 ->
                  (∀ n27 : Int, n27 = (shI .shr .u64 (IntKind.wrap .u64 ((IntKind.wrap .u64 ((IntKind.wrap .u64 (n18 * 4294967296)) + n10)) - (IntKind.wrap .u64 (n24 * n4)))) n3) -> 0 <= n27 -> n27 <= 18446744073709551615 ->
                  Post_div64 [[n], [n1], [n2]] [[n26], [n27]]))) /\
                 (¬ (4294967296 <= n25) ->
                  (Inv_dv2 [n18, n5, n6, n10] [n24, n25] /\ Mea_dv2 [n18, n5, n6, n10] [n24, n25] < Mea_dv2 [n18, n5, n6, n10] [n22, n23])))))) /\
               (¬ (4294967296 <= n22) ->
                ((((IntKind.wrap .u64 ((IntKind.wrap .u64 (4294967296 * n23)) + n10)) < (IntKind.wrap .u64 (n22 * n6))) ->
                  (∀ n24 : Int, n24 = (IntKind.wrap .u64 (n22 - 1)) -> 0 <= n24 -> n24 <= 18446744073709551615 ->
                  (∀ n25 : Int, n25 = (IntKind.wrap .u64 (n23 + n5)) -> 0 <= n25 -> n25 <= 18446744073709551615 ->
                  (((4294967296 <= n25) ->
                    (∀ n26 : Int, n26 = (IntKind.wrap .u64 ((IntKind.wrap .u64 (n16 * 4294967296)) + n24)) -> 0 <= n26 -> n26 <= 18446744073709551615 ->
                    (∀ n27 : Int, n27 = (shI .shr .u64 (IntKind.wrap .u64 ((IntKind.wrap .u64 ((IntKind.wrap .u64 (n18 * 4294967296)) + n10)) - (IntKind.wrap .u64 (n24 * n4)))) n3) -> 0 <= n27 -> n27 <= 18446744073709551615 ->
                    Post_div64 [[n], [n1], [n2]] [[n26], [n27]]))) /\
                   (¬ (4294967296 <= n25) ->
                    (Inv_dv2 [n18, n5, n6, n10] [n24, n25] /\ Mea_dv2 [n18, n5, n6, n10] [n24, n25] < Mea_dv2 [n18, n5, n6, n10] [n22, n23])))))) /\
                 (¬ ((IntKind.wrap .u64 ((IntKind.wrap .u64 (4294967296 * n23)) + n10)) < (IntKind.wrap .u64 (n22 * n6))) ->
                  (∀ n24 : Int, n24 = (IntKind.wrap .u64 ((IntKind.wrap .u64 (n16 * 4294967296)) + n22)) -> 0 <= n24 -> n24 <= 18446744073709551615 ->
                  (∀ n25 : Int, n25 = (shI .shr .u64 (IntKind.wrap .u64 ((IntKind.wrap .u64 ((IntKind.wrap .u64 (n18 * 4294967296)) + n10)) - (IntKind.wrap .u64 (n22 * n4)))) n3) -> 0 <= n25 -> n25 <= 18446744073709551615 ->
                  Post_div64 [[n], [n1], [n2]] [[n24], [n25]]))))))))))))))))) /\
             (¬ (4294967296 <= n17) ->
              (Inv_dv1 [n7, n5, n6, n9] [n16, n17] /\ Mea_dv1 [n7, n5, n6, n9] [n16, n17] < Mea_dv1 [n7, n5, n6, n9] [n14, n15])))))) /\
           (¬ ((IntKind.wrap .u64 ((IntKind.wrap .u64 (4294967296 * n15)) + n9)) < (IntKind.wrap .u64 (n14 * n6))) ->
            (∀ n16 : Int, n16 = (IntKind.wrap .u64 ((IntKind.wrap .u64 ((IntKind.wrap .u64 (n7 * 4294967296)) + n9)) - (IntKind.wrap .u64 (n14 * n4)))) -> 0 <= n16 -> n16 <= 18446744073709551615 ->
            ((1 <= n5) /\
            (∀ n17 : Int, n17 = n5 -> 1 <= n17 -> n17 <= 4294967295 ->
            (∀ n18 : Int, n18 = (IntKind.wrap .u64 (n16.tdiv n17)) -> 0 <= n18 -> n18 <= 18446744073709551615 ->
            (∀ n19 : Int, n19 = (IntKind.wrap .u64 (n16 - (IntKind.wrap .u64 (n18 * n5)))) -> 0 <= n19 -> n19 <= 18446744073709551615 ->
            (Inv_dv2 [n16, n5, n6, n10] [n18, n19] /\
            (∀ n20 : Int, 0 <= n20 -> n20 <= 18446744073709551615 ->
            (∀ n21 : Int, 0 <= n21 -> n21 <= 18446744073709551615 ->
            (Inv_dv2 [n16, n5, n6, n10] [n20, n21] ->
            (∀ vs1 : List Value, vs1.length = 21 ->
            (((4294967296 <= n20) ->
              (∀ n22 : Int, n22 = (IntKind.wrap .u64 (n20 - 1)) -> 0 <= n22 -> n22 <= 18446744073709551615 ->
              (∀ n23 : Int, n23 = (IntKind.wrap .u64 (n21 + n5)) -> 0 <= n23 -> n23 <= 18446744073709551615 ->
              (((4294967296 <= n23) ->
                (∀ n24 : Int, n24 = (IntKind.wrap .u64 ((IntKind.wrap .u64 (n14 * 4294967296)) + n22)) -> 0 <= n24 -> n24 <= 18446744073709551615 ->
                (∀ n25 : Int, n25 = (shI .shr .u64 (IntKind.wrap .u64 ((IntKind.wrap .u64 ((IntKind.wrap .u64 (n16 * 4294967296)) + n10)) - (IntKind.wrap .u64 (n22 * n4)))) n3) -> 0 <= n25 -> n25 <= 18446744073709551615 ->
                Post_div64 [[n], [n1], [n2]] [[n24], [n25]]))) /\
               (¬ (4294967296 <= n23) ->
                (Inv_dv2 [n16, n5, n6, n10] [n22, n23] /\ Mea_dv2 [n16, n5, n6, n10] [n22, n23] < Mea_dv2 [n16, n5, n6, n10] [n20, n21])))))) /\
             (¬ (4294967296 <= n20) ->
              ((((IntKind.wrap .u64 ((IntKind.wrap .u64 (4294967296 * n21)) + n10)) < (IntKind.wrap .u64 (n20 * n6))) ->
                (∀ n22 : Int, n22 = (IntKind.wrap .u64 (n20 - 1)) -> 0 <= n22 -> n22 <= 18446744073709551615 ->
                (∀ n23 : Int, n23 = (IntKind.wrap .u64 (n21 + n5)) -> 0 <= n23 -> n23 <= 18446744073709551615 ->
                (((4294967296 <= n23) ->
                  (∀ n24 : Int, n24 = (IntKind.wrap .u64 ((IntKind.wrap .u64 (n14 * 4294967296)) + n22)) -> 0 <= n24 -> n24 <= 18446744073709551615 ->
                  (∀ n25 : Int, n25 = (shI .shr .u64 (IntKind.wrap .u64 ((IntKind.wrap .u64 ((IntKind.wrap .u64 (n16 * 4294967296)) + n10)) - (IntKind.wrap .u64 (n22 * n4)))) n3) -> 0 <= n25 -> n25 <= 18446744073709551615 ->
                  Post_div64 [[n], [n1], [n2]] [[n24], [n25]]))) /\
                 (¬ (4294967296 <= n23) ->
                  (Inv_dv2 [n16, n5, n6, n10] [n22, n23] /\ Mea_dv2 [n16, n5, n6, n10] [n22, n23] < Mea_dv2 [n16, n5, n6, n10] [n20, n21])))))) /\
               (¬ ((IntKind.wrap .u64 ((IntKind.wrap .u64 (4294967296 * n21)) + n10)) < (IntKind.wrap .u64 (n20 * n6))) ->
                (∀ n22 : Int, n22 = (IntKind.wrap .u64 ((IntKind.wrap .u64 (n14 * 4294967296)) + n20)) -> 0 <= n22 -> n22 <= 18446744073709551615 ->
                (∀ n23 : Int, n23 = (shI .shr .u64 (IntKind.wrap .u64 ((IntKind.wrap .u64 ((IntKind.wrap .u64 (n16 * 4294967296)) + n10)) - (IntKind.wrap .u64 (n20 * n4)))) n3) -> 0 <= n23 -> n23 <= 18446744073709551615 ->
                Post_div64 [[n], [n1], [n2]] [[n22], [n23]])))))))))))))))))))))))))))))))))))))))))))))))))
theorem c_div64 : canCall Tryz.prog 119 = true := by kernel_rfl
theorem s_div64 : P_div64 = sat E (symTop Tryz.prog tab7 2000 119 ash_div64 sh_div64) := by kernel_rfl
theorem pure_div64 (hV : Valid Tryz.prog tab7 E) (h : P_div64) : PureE 119 ash_div64 sh_div64 := fun args ha hp => top_sat hV (@Eq.mp _ _ s_div64 h) args ha hp
theorem step_div64 (hV : Valid Tryz.prog tab7 E) (h : P_div64) : Valid Tryz.prog tab8 E := hV.add c_div64 (pure_div64 hV h)
def P_turned : Prop :=
 (∀ n : Int, 0 <= n -> n <= 18446744073709551615 ->
 (∀ n1 : Int, 0 <= n1 -> n1 <= 18446744073709551615 ->
 (∀ n2 : Int, 0 <= n2 -> n2 <= 18446744073709551615 ->
 (Pre_turned [[n, n1, n2]] ->
 (∀ b : Nat, (∀ b1 : Nat, (∀ n3 : Int, n3 = (((18446744073709551615 - n) + 1) % 18446744073709551616) -> 0 <= n3 -> n3 <= 18446744073709551615 ->
 (∀ n4 : Int, n4 = (((18446744073709551615 - n) + 1) / 18446744073709551616) -> 0 <= n4 -> n4 <= 1 ->
 (∀ n5 : Int, n5 = (((18446744073709551615 - n1) + n4) % 18446744073709551616) -> 0 <= n5 -> n5 <= 18446744073709551615 ->
 (∀ n6 : Int, n6 = (((18446744073709551615 - n1) + n4) / 18446744073709551616) -> 0 <= n6 -> n6 <= 1 ->
 Post_turned [[n, n1, n2]] [[n3, n5, 0]]))))))))))
theorem c_turned : canCall Tryz.prog 104 = true := by kernel_rfl
theorem s_turned : P_turned = sat E (symTop Tryz.prog tab8 2000 104 ash_turned sh_turned) := by kernel_rfl
theorem pure_turned (hV : Valid Tryz.prog tab8 E) (h : P_turned) : PureE 104 ash_turned sh_turned := fun args ha hp => top_sat hV (@Eq.mp _ _ s_turned h) args ha hp
theorem step_turned (hV : Valid Tryz.prog tab8 E) (h : P_turned) : Valid Tryz.prog tab9 E := hV.add c_turned (pure_turned hV h)
def P_part : Prop :=
  (∀ n : Int, (-9223372036854775808) <= n -> n <= 9223372036854775807 ->
  (∀ n1 : Int, 0 <= n1 -> n1 <= 18446744073709551615 ->
  (Pre_part [[n, n1]] ->
  (∀ b : Nat, (∀ b1 : Nat, (∀ b2 : Nat, (∀ n2 : Int, n2 = (IntKind.wrap .u64 n) -> 0 <= n2 -> n2 <= 18446744073709551615 ->
  (((n < 0) ->
    (Pre_turned [[n1, n2, 0]] /\
    (∀ n3 : Int, 0 <= n3 -> n3 <= 18446744073709551615 ->
    (∀ n4 : Int, 0 <= n4 -> n4 <= 18446744073709551615 ->
    (∀ n5 : Int, 0 <= n5 -> n5 <= 18446744073709551615 ->
    (Post_turned [[n1, n2, 0]] [[n3, n4, n5]] ->
    Post_part [[n, n1]] [[b2i (decide (n < 0)), n3, n4, n5]])))))) /\
   (¬ (n < 0) ->
    Post_part [[n, n1]] [[b2i (decide (n < 0)), n1, n2, 0]])))))))))
theorem c_part : canCall Tryz.prog 85 = true := by kernel_rfl
theorem s_part : P_part = sat E (symTop Tryz.prog tab9 2000 85 ash_part sh_part) := by kernel_rfl
theorem pure_part (hV : Valid Tryz.prog tab9 E) (h : P_part) : PureE 85 ash_part sh_part := fun args ha hp => top_sat hV (@Eq.mp _ _ s_part h) args ha hp
theorem step_part (hV : Valid Tryz.prog tab9 E) (h : P_part) : Valid Tryz.prog tab10 E := hV.add c_part (pure_part hV h)
def P_whole : Prop :=
  (∀ t : Bool, (∀ n : Int, 0 <= n -> n <= 18446744073709551615 ->
  (∀ n1 : Int, 0 <= n1 -> n1 <= 18446744073709551615 ->
  (∀ n2 : Int, 0 <= n2 -> n2 <= 18446744073709551615 ->
  (Pre_whole [[b2i t, n, n1, n2]] ->
  (∀ b : Nat, (∀ b1 : Nat, (∀ b2 : Nat, (((¬ ((t = true) /\ ((n = 0) /\ ((n1 = 9223372036854775808) /\ (n2 = 0))))) ->
    (((0 < n2) ->
      Post_whole [[b2i t, n, n1, n2]] [[0, 0], [11]]) /\
     (¬ (0 < n2) ->
      (((0 < (n1 / 9223372036854775808)) ->
        Post_whole [[b2i t, n, n1, n2]] [[0, 0], [11]]) /\
       (¬ (0 < (n1 / 9223372036854775808)) ->
        (((t = true) ->
          (Pre_turned [[n, n1, n2]] /\
          (∀ n3 : Int, 0 <= n3 -> n3 <= 18446744073709551615 ->
          (∀ n4 : Int, 0 <= n4 -> n4 <= 18446744073709551615 ->
          (∀ n5 : Int, 0 <= n5 -> n5 <= 18446744073709551615 ->
          (Post_turned [[n, n1, n2]] [[n3, n4, n5]] ->
          (∀ n6 : Int, n6 = (IntKind.wrap .i64 n4) -> (-9223372036854775808) <= n6 -> n6 <= 9223372036854775807 ->
          Post_whole [[b2i t, n, n1, n2]] [[n6, n3], [0]]))))))) /\
         (¬ (t = true) ->
          (∀ n3 : Int, n3 = (IntKind.wrap .i64 n1) -> (-9223372036854775808) <= n3 -> n3 <= 9223372036854775807 ->
          Post_whole [[b2i t, n, n1, n2]] [[n3, n], [0]])))))))) /\
   (¬ (¬ ((t = true) /\ ((n = 0) /\ ((n1 = 9223372036854775808) /\ (n2 = 0))))) ->
    (((t = true) ->
      (Pre_turned [[n, n1, n2]] /\
      (∀ n3 : Int, 0 <= n3 -> n3 <= 18446744073709551615 ->
      (∀ n4 : Int, 0 <= n4 -> n4 <= 18446744073709551615 ->
      (∀ n5 : Int, 0 <= n5 -> n5 <= 18446744073709551615 ->
      (Post_turned [[n, n1, n2]] [[n3, n4, n5]] ->
      (∀ n6 : Int, n6 = (IntKind.wrap .i64 n4) -> (-9223372036854775808) <= n6 -> n6 <= 9223372036854775807 ->
      Post_whole [[b2i t, n, n1, n2]] [[n6, n3], [0]]))))))) /\
     (¬ (t = true) ->
      (∀ n3 : Int, n3 = (IntKind.wrap .i64 n1) -> (-9223372036854775808) <= n3 -> n3 <= 9223372036854775807 ->
      Post_whole [[b2i t, n, n1, n2]] [[n3, n], [0]])))))))))))))
theorem c_whole : canCall Tryz.prog 88 = true := by kernel_rfl
theorem s_whole : P_whole = sat E (symTop Tryz.prog tab10 2000 88 ash_whole sh_whole) := by kernel_rfl
theorem pure_whole (hV : Valid Tryz.prog tab10 E) (h : P_whole) : PureE 88 ash_whole sh_whole := fun args ha hp => top_sat hV (@Eq.mp _ _ s_whole h) args ha hp
theorem step_whole (hV : Valid Tryz.prog tab10 E) (h : P_whole) : Valid Tryz.prog tab11 E := hV.add c_whole (pure_whole hV h)
def P_wtimes : Prop :=
 (∀ n : Int, 0 <= n -> n <= 18446744073709551615 ->
 (∀ n1 : Int, 0 <= n1 -> n1 <= 18446744073709551615 ->
 (∀ n2 : Int, 0 <= n2 -> n2 <= 18446744073709551615 ->
 (∀ n3 : Int, 0 <= n3 -> n3 <= 18446744073709551615 ->
 (Pre_wtimes [[n, n1, n2], [n3]] ->
 (∀ b : Nat, (∀ b1 : Nat, (Pre_mul64 [[n], [n3]] /\
 (∀ n4 : Int, 0 <= n4 -> n4 <= 18446744073709551615 ->
 (∀ n5 : Int, 0 <= n5 -> n5 <= 18446744073709551615 ->
 (Post_mul64 [[n], [n3]] [[n4], [n5]] ->
 (Pre_mul64 [[n1], [n3]] /\
 (∀ n6 : Int, 0 <= n6 -> n6 <= 18446744073709551615 ->
 (∀ n7 : Int, 0 <= n7 -> n7 <= 18446744073709551615 ->
 (Post_mul64 [[n1], [n3]] [[n6], [n7]] ->
 (∀ n8 : Int, n8 = ((n7 + n4) % 18446744073709551616) -> 0 <= n8 -> n8 <= 18446744073709551615 ->
 (∀ n9 : Int, n9 = ((n7 + n4) / 18446744073709551616) -> 0 <= n9 -> n9 <= 1 ->
 (∀ n10 : Int, n10 = (IntKind.wrap .u64 (n6 + n9)) -> 0 <= n10 -> n10 <= 18446744073709551615 ->
 (Pre_mul64 [[n2], [n3]] /\
 (∀ n11 : Int, 0 <= n11 -> n11 <= 18446744073709551615 ->
 (∀ n12 : Int, 0 <= n12 -> n12 <= 18446744073709551615 ->
 (Post_mul64 [[n2], [n3]] [[n11], [n12]] ->
 (∀ n13 : Int, n13 = ((n12 + n10) % 18446744073709551616) -> 0 <= n13 -> n13 <= 18446744073709551615 ->
 (∀ n14 : Int, n14 = ((n12 + n10) / 18446744073709551616) -> 0 <= n14 -> n14 <= 1 ->
 (∀ n15 : Int, n15 = (IntKind.wrap .u64 (n11 + n14)) -> 0 <= n15 -> n15 <= 18446744073709551615 ->
 Post_wtimes [[n, n1, n2], [n3]] [[n5, n8, n13]])))))))))))))))))))))))))
theorem c_wtimes : canCall Tryz.prog 86 = true := by kernel_rfl
theorem s_wtimes : P_wtimes = sat E (symTop Tryz.prog tab11 2000 86 ash_wtimes sh_wtimes) := by kernel_rfl
theorem pure_wtimes (hV : Valid Tryz.prog tab11 E) (h : P_wtimes) : PureE 86 ash_wtimes sh_wtimes := fun args ha hp => top_sat hV (@Eq.mp _ _ s_wtimes h) args ha hp
theorem step_wtimes (hV : Valid Tryz.prog tab11 E) (h : P_wtimes) : Valid Tryz.prog tab12 E := hV.add c_wtimes (pure_wtimes hV h)
def P_size : Prop :=
  (∀ n : Int, (-9223372036854775808) <= n -> n <= 9223372036854775807 ->
  (Pre_size [[n]] ->
  (((n < 0) ->
    (∀ n1 : Int, n1 = (IntKind.wrap .u64 (0 - (IntKind.wrap .u64 n))) -> 0 <= n1 -> n1 <= 18446744073709551615 ->
    Post_size [[n]] [[n1]])) /\
   (¬ (n < 0) ->
    (∀ n1 : Int, n1 = (IntKind.wrap .u64 n) -> 0 <= n1 -> n1 <= 18446744073709551615 ->
    Post_size [[n]] [[n1]])))))
theorem c_size : canCall Tryz.prog 87 = true := by kernel_rfl
theorem s_size : P_size = sat E (symTop Tryz.prog tab12 2000 87 ash_size sh_size) := by kernel_rfl
theorem pure_size (hV : Valid Tryz.prog tab12 E) (h : P_size) : PureE 87 ash_size sh_size := fun args ha hp => top_sat hV (@Eq.mp _ _ s_size h) args ha hp
theorem step_size (hV : Valid Tryz.prog tab12 E) (h : P_size) : Valid Tryz.prog tab13 E := hV.add c_size (pure_size hV h)
def P_wadd : Prop :=
  (∀ n : Int, (-9223372036854775808) <= n -> n <= 9223372036854775807 ->
  (∀ n1 : Int, 0 <= n1 -> n1 <= 18446744073709551615 ->
  (∀ n2 : Int, (-9223372036854775808) <= n2 -> n2 <= 9223372036854775807 ->
  (∀ n3 : Int, 0 <= n3 -> n3 <= 18446744073709551615 ->
  (Pre_wadd [[n, n1], [n2, n3]] ->
  (∀ b : Nat, (∀ b1 : Nat, (∀ b2 : Nat, (∀ n4 : Int, n4 = ((n1 + n3) % 18446744073709551616) -> 0 <= n4 -> n4 <= 18446744073709551615 ->
  (∀ n5 : Int, n5 = ((n1 + n3) / 18446744073709551616) -> 0 <= n5 -> n5 <= 1 ->
  (∀ n6 : Int, n6 = (IntKind.wrap .i64 ((IntKind.wrap .i64 (n + n2)) + n5)) -> (-9223372036854775808) <= n6 -> n6 <= 9223372036854775807 ->
  ((((n < 0) <-> (n2 < 0)) ->
    (((¬ ((n6 < 0) <-> (n < 0))) ->
      Post_wadd [[n, n1], [n2, n3]] [[0, 0], [11]]) /\
     (¬ (¬ ((n6 < 0) <-> (n < 0))) ->
      Post_wadd [[n, n1], [n2, n3]] [[n6, n4], [0]]))) /\
   (¬ ((n < 0) <-> (n2 < 0)) ->
    Post_wadd [[n, n1], [n2, n3]] [[n6, n4], [0]])))))))))))))
theorem c_wadd : canCall Tryz.prog 90 = true := by kernel_rfl
theorem s_wadd : P_wadd = sat E (symTop Tryz.prog tab13 2000 90 ash_wadd sh_wadd) := by kernel_rfl
theorem pure_wadd (hV : Valid Tryz.prog tab13 E) (h : P_wadd) : PureE 90 ash_wadd sh_wadd := fun args ha hp => top_sat hV (@Eq.mp _ _ s_wadd h) args ha hp
theorem step_wadd (hV : Valid Tryz.prog tab13 E) (h : P_wadd) : Valid Tryz.prog tab14 E := hV.add c_wadd (pure_wadd hV h)
def P_wsub : Prop :=
  (∀ n : Int, (-9223372036854775808) <= n -> n <= 9223372036854775807 ->
  (∀ n1 : Int, 0 <= n1 -> n1 <= 18446744073709551615 ->
  (∀ n2 : Int, (-9223372036854775808) <= n2 -> n2 <= 9223372036854775807 ->
  (∀ n3 : Int, 0 <= n3 -> n3 <= 18446744073709551615 ->
  (Pre_wsub [[n, n1], [n2, n3]] ->
  (∀ b : Nat, (∀ b1 : Nat, (∀ b2 : Nat, (∀ n4 : Int, n4 = ((n1 - n3) % 18446744073709551616) -> 0 <= n4 -> n4 <= 18446744073709551615 ->
  (∀ n5 : Int, n5 = (0 - ((n1 - n3) / 18446744073709551616)) -> 0 <= n5 -> n5 <= 1 ->
  (∀ n6 : Int, n6 = (IntKind.wrap .i64 ((IntKind.wrap .i64 (n - n2)) - n5)) -> (-9223372036854775808) <= n6 -> n6 <= 9223372036854775807 ->
  (((¬ ((n < 0) <-> (n2 < 0))) ->
    (((¬ ((n6 < 0) <-> (n < 0))) ->
      Post_wsub [[n, n1], [n2, n3]] [[0, 0], [11]]) /\
     (¬ (¬ ((n6 < 0) <-> (n < 0))) ->
      Post_wsub [[n, n1], [n2, n3]] [[n6, n4], [0]]))) /\
   (¬ (¬ ((n < 0) <-> (n2 < 0))) ->
    Post_wsub [[n, n1], [n2, n3]] [[n6, n4], [0]])))))))))))))
theorem c_wsub : canCall Tryz.prog 107 = true := by kernel_rfl
theorem s_wsub : P_wsub = sat E (symTop Tryz.prog tab14 2000 107 ash_wsub sh_wsub) := by kernel_rfl
theorem pure_wsub (hV : Valid Tryz.prog tab14 E) (h : P_wsub) : PureE 107 ash_wsub sh_wsub := fun args ha hp => top_sat hV (@Eq.mp _ _ s_wsub h) args ha hp
theorem step_wsub (hV : Valid Tryz.prog tab14 E) (h : P_wsub) : Valid Tryz.prog tab15 E := hV.add c_wsub (pure_wsub hV h)
def P_wtms : Prop :=
 (∀ n : Int, (-9223372036854775808) <= n -> n <= 9223372036854775807 ->
 (∀ n1 : Int, 0 <= n1 -> n1 <= 18446744073709551615 ->
 (∀ n2 : Int, (-9223372036854775808) <= n2 -> n2 <= 9223372036854775807 ->
 (Pre_wtms [[n, n1], [n2]] ->
 (∀ b : Nat, (∀ b1 : Nat, (Pre_part [[n, n1]] /\
 (∀ t : Bool, (∀ n3 : Int, 0 <= n3 -> n3 <= 18446744073709551615 ->
 (∀ n4 : Int, 0 <= n4 -> n4 <= 18446744073709551615 ->
 (∀ n5 : Int, 0 <= n5 -> n5 <= 18446744073709551615 ->
 (Post_part [[n, n1]] [[b2i t, n3, n4, n5]] ->
 (∀ b2 : Nat, (Pre_size [[n2]] /\
 (∀ n6 : Int, 0 <= n6 -> n6 <= 18446744073709551615 ->
 (Post_size [[n2]] [[n6]] ->
 (Pre_wtimes [[n3, n4, n5], [n6]] /\
 (∀ n7 : Int, 0 <= n7 -> n7 <= 18446744073709551615 ->
 (∀ n8 : Int, 0 <= n8 -> n8 <= 18446744073709551615 ->
 (∀ n9 : Int, 0 <= n9 -> n9 <= 18446744073709551615 ->
 (Post_wtimes [[n3, n4, n5], [n6]] [[n7, n8, n9]] ->
 (Pre_whole [[b2i (!(t == (decide (n2 < 0)))), n7, n8, n9]] /\
 (∀ n10 : Int, (-9223372036854775808) <= n10 -> n10 <= 9223372036854775807 ->
 (∀ n11 : Int, 0 <= n11 -> n11 <= 18446744073709551615 ->
 (∀ n12 : Int, 0 <= n12 -> n12 <= 11 ->
 (Post_whole [[b2i (!(t == (decide (n2 < 0)))), n7, n8, n9]] [[n10, n11], [n12]] ->
 Post_wtms [[n, n1], [n2]] [[n10, n11], [n12]]))))))))))))))))))))))))))
theorem c_wtms : canCall Tryz.prog 61 = true := by kernel_rfl
theorem s_wtms : P_wtms = sat E (symTop Tryz.prog tab15 2000 61 ash_wtms sh_wtms) := by kernel_rfl
theorem pure_wtms (hV : Valid Tryz.prog tab15 E) (h : P_wtms) : PureE 61 ash_wtms sh_wtms := fun args ha hp => top_sat hV (@Eq.mp _ _ s_wtms h) args ha hp
theorem step_wtms (hV : Valid Tryz.prog tab15 E) (h : P_wtms) : Valid Tryz.prog tab16 E := hV.add c_wtms (pure_wtms hV h)
def P_wmul : Prop :=
 (∀ n : Int, (-9223372036854775808) <= n -> n <= 9223372036854775807 ->
 (∀ n1 : Int, (-9223372036854775808) <= n1 -> n1 <= 9223372036854775807 ->
 (Pre_wmul [[n], [n1]] ->
 (∀ b : Nat, (Pre_wof [[n]] /\
 (∀ n2 : Int, (-9223372036854775808) <= n2 -> n2 <= 9223372036854775807 ->
 (∀ n3 : Int, 0 <= n3 -> n3 <= 18446744073709551615 ->
 (Post_wof [[n]] [[n2, n3]] ->
 (Pre_wtms [[n2, n3], [n1]] /\
 (∀ n4 : Int, (-9223372036854775808) <= n4 -> n4 <= 9223372036854775807 ->
 (∀ n5 : Int, 0 <= n5 -> n5 <= 18446744073709551615 ->
 (∀ n6 : Int, 0 <= n6 -> n6 <= 11 ->
 (Post_wtms [[n2, n3], [n1]] [[n4, n5], [n6]] ->
 (∀ b1 : Nat, Post_wmul [[n], [n1]] [[n4, n5]]))))))))))))))
theorem c_wmul : canCall Tryz.prog 33 = true := by kernel_rfl
theorem s_wmul : P_wmul = sat E (symTop Tryz.prog tab16 2000 33 ash_wmul sh_wmul) := by kernel_rfl
theorem pure_wmul (hV : Valid Tryz.prog tab16 E) (h : P_wmul) : PureE 33 ash_wmul sh_wmul := fun args ha hp => top_sat hV (@Eq.mp _ _ s_wmul h) args ha hp
theorem step_wmul (hV : Valid Tryz.prog tab16 E) (h : P_wmul) : Valid Tryz.prog tab17 E := hV.add c_wmul (pure_wmul hV h)
def P_wdivided : Prop :=
 (∀ n : Int, 0 <= n -> n <= 18446744073709551615 ->
 (∀ n1 : Int, 0 <= n1 -> n1 <= 18446744073709551615 ->
 (∀ n2 : Int, 0 <= n2 -> n2 <= 18446744073709551615 ->
 (∀ n3 : Int, 0 <= n3 -> n3 <= 18446744073709551615 ->
 (Pre_wdivided [[n, n1, n2], [n3]] ->
 (∀ b : Nat, (∀ b1 : Nat, (Pre_div64 [[0], [n1], [n3]] /\
 (∀ n4 : Int, 0 <= n4 -> n4 <= 18446744073709551615 ->
 (∀ n5 : Int, 0 <= n5 -> n5 <= 18446744073709551615 ->
 (Post_div64 [[0], [n1], [n3]] [[n4], [n5]] ->
 (Pre_div64 [[n5], [n], [n3]] /\
 (∀ n6 : Int, 0 <= n6 -> n6 <= 18446744073709551615 ->
 (∀ n7 : Int, 0 <= n7 -> n7 <= 18446744073709551615 ->
 (Post_div64 [[n5], [n], [n3]] [[n6], [n7]] ->
 Post_wdivided [[n, n1, n2], [n3]] [[n6, n4, 0], [n7]])))))))))))))))
theorem c_wdivided : canCall Tryz.prog 106 = true := by kernel_rfl
theorem s_wdivided : P_wdivided = sat E (symTop Tryz.prog tab17 2000 106 ash_wdivided sh_wdivided) := by kernel_rfl
theorem pure_wdivided (hV : Valid Tryz.prog tab17 E) (h : P_wdivided) : PureE 106 ash_wdivided sh_wdivided := fun args ha hp => top_sat hV (@Eq.mp _ _ s_wdivided h) args ha hp
theorem step_wdivided (hV : Valid Tryz.prog tab17 E) (h : P_wdivided) : Valid Tryz.prog tab18 E := hV.add c_wdivided (pure_wdivided hV h)
def P_wfloor : Prop :=
  (∀ n : Int, (-9223372036854775808) <= n -> n <= 9223372036854775807 ->
  (∀ n1 : Int, 0 <= n1 -> n1 <= 18446744073709551615 ->
  (∀ n2 : Int, (-9223372036854775808) <= n2 -> n2 <= 9223372036854775807 ->
  (Pre_wfloor [[n, n1], [n2]] ->
  (∀ b : Nat, (∀ b1 : Nat, (((n2 < 1) ->
    Post_wfloor [[n, n1], [n2]] [[0, 0], [0], [1]]) /\
   (¬ (n2 < 1) ->
    (Pre_part [[n, n1]] /\
    (∀ t : Bool, (∀ n3 : Int, 0 <= n3 -> n3 <= 18446744073709551615 ->
    (∀ n4 : Int, 0 <= n4 -> n4 <= 18446744073709551615 ->
    (∀ n5 : Int, 0 <= n5 -> n5 <= 18446744073709551615 ->
    (Post_part [[n, n1]] [[b2i t, n3, n4, n5]] ->
    (∀ b2 : Nat, (∀ n6 : Int, n6 = (IntKind.wrap .u64 n2) -> 0 <= n6 -> n6 <= 18446744073709551615 ->
    (Pre_wdivided [[n3, n4, n5], [n6]] /\
    (∀ n7 : Int, 0 <= n7 -> n7 <= 18446744073709551615 ->
    (∀ n8 : Int, 0 <= n8 -> n8 <= 18446744073709551615 ->
    (∀ n9 : Int, 0 <= n9 -> n9 <= 18446744073709551615 ->
    (∀ n10 : Int, 0 <= n10 -> n10 <= 18446744073709551615 ->
    (Post_wdivided [[n3, n4, n5], [n6]] [[n7, n8, n9], [n10]] ->
    (∀ b3 : Nat, (Pre_whole [[b2i t, n7, n8, n9]] /\
    (∀ n11 : Int, (-9223372036854775808) <= n11 -> n11 <= 9223372036854775807 ->
    (∀ n12 : Int, 0 <= n12 -> n12 <= 18446744073709551615 ->
    (∀ n13 : Int, 0 <= n13 -> n13 <= 11 ->
    (Post_whole [[b2i t, n7, n8, n9]] [[n11, n12], [n13]] ->
    (((t = true) ->
      (((0 < n10) ->
        (Pre_wof [[1]] /\
        (∀ n14 : Int, (-9223372036854775808) <= n14 -> n14 <= 9223372036854775807 ->
        (∀ n15 : Int, 0 <= n15 -> n15 <= 18446744073709551615 ->
        (Post_wof [[1]] [[n14, n15]] ->
        (Pre_wsub [[n11, n12], [n14, n15]] /\
        (∀ n16 : Int, (-9223372036854775808) <= n16 -> n16 <= 9223372036854775807 ->
        (∀ n17 : Int, 0 <= n17 -> n17 <= 18446744073709551615 ->
        (∀ n18 : Int, 0 <= n18 -> n18 <= 11 ->
        (Post_wsub [[n11, n12], [n14, n15]] [[n16, n17], [n18]] ->
        (∀ n19 : Int, n19 = (IntKind.wrap .u64 ((IntKind.wrap .u64 n2) - n10)) -> 0 <= n19 -> n19 <= 18446744073709551615 ->
        (∀ n20 : Int, n20 = (IntKind.wrap .i64 n19) -> (-9223372036854775808) <= n20 -> n20 <= 9223372036854775807 ->
        Post_wfloor [[n, n1], [n2]] [[n16, n17], [n20], [0]])))))))))))) /\
       (¬ (0 < n10) ->
        (∀ n14 : Int, n14 = (IntKind.wrap .i64 n10) -> (-9223372036854775808) <= n14 -> n14 <= 9223372036854775807 ->
        Post_wfloor [[n, n1], [n2]] [[n11, n12], [n14], [0]])))) /\
     (¬ (t = true) ->
      (∀ n14 : Int, n14 = (IntKind.wrap .i64 n10) -> (-9223372036854775808) <= n14 -> n14 <= 9223372036854775807 ->
      Post_wfloor [[n, n1], [n2]] [[n11, n12], [n14], [0]])))))))))))))))))))))))))))))))
theorem c_wfloor : canCall Tryz.prog 89 = true := by kernel_rfl
theorem s_wfloor : P_wfloor = sat E (symTop Tryz.prog tab18 2000 89 ash_wfloor sh_wfloor) := by kernel_rfl
theorem pure_wfloor (hV : Valid Tryz.prog tab18 E) (h : P_wfloor) : PureE 89 ash_wfloor sh_wfloor := fun args ha hp => top_sat hV (@Eq.mp _ _ s_wfloor h) args ha hp
theorem step_wfloor (hV : Valid Tryz.prog tab18 E) (h : P_wfloor) : Valid Tryz.prog tab19 E := hV.add c_wfloor (pure_wfloor hV h)
def P_wnear : Prop :=
  (∀ n : Int, (-9223372036854775808) <= n -> n <= 9223372036854775807 ->
  (∀ n1 : Int, 0 <= n1 -> n1 <= 18446744073709551615 ->
  (∀ n2 : Int, (-9223372036854775808) <= n2 -> n2 <= 9223372036854775807 ->
  (Pre_wnear [[n, n1], [n2]] ->
  (∀ b : Nat, (∀ b1 : Nat, (Pre_wfloor [[n, n1], [n2]] /\
  (∀ n3 : Int, (-9223372036854775808) <= n3 -> n3 <= 9223372036854775807 ->
  (∀ n4 : Int, 0 <= n4 -> n4 <= 18446744073709551615 ->
  (∀ n5 : Int, (-9223372036854775808) <= n5 -> n5 <= 9223372036854775807 ->
  (∀ n6 : Int, 0 <= n6 -> n6 <= 11 ->
  (Post_wfloor [[n, n1], [n2]] [[n3, n4], [n5], [n6]] ->
  (∀ b2 : Nat, (((n6 = 0) ->
    ((((IntKind.wrap .i64 (n2 - n5)) <= n5) ->
      (Pre_wof [[1]] /\
      (∀ n7 : Int, (-9223372036854775808) <= n7 -> n7 <= 9223372036854775807 ->
      (∀ n8 : Int, 0 <= n8 -> n8 <= 18446744073709551615 ->
      (Post_wof [[1]] [[n7, n8]] ->
      (Pre_wadd [[n3, n4], [n7, n8]] /\
      (∀ n9 : Int, (-9223372036854775808) <= n9 -> n9 <= 9223372036854775807 ->
      (∀ n10 : Int, 0 <= n10 -> n10 <= 18446744073709551615 ->
      (∀ n11 : Int, 0 <= n11 -> n11 <= 11 ->
      (Post_wadd [[n3, n4], [n7, n8]] [[n9, n10], [n11]] ->
      Post_wnear [[n, n1], [n2]] [[n9, n10], [n11]])))))))))) /\
     (¬ ((IntKind.wrap .i64 (n2 - n5)) <= n5) ->
      Post_wnear [[n, n1], [n2]] [[n3, n4], [n6]]))) /\
   (¬ (n6 = 0) ->
    Post_wnear [[n, n1], [n2]] [[n3, n4], [n6]])))))))))))))))
theorem c_wnear : canCall Tryz.prog 63 = true := by kernel_rfl
theorem s_wnear : P_wnear = sat E (symTop Tryz.prog tab19 2000 63 ash_wnear sh_wnear) := by kernel_rfl
theorem pure_wnear (hV : Valid Tryz.prog tab19 E) (h : P_wnear) : PureE 63 ash_wnear sh_wnear := fun args ha hp => top_sat hV (@Eq.mp _ _ s_wnear h) args ha hp
theorem step_wnear (hV : Valid Tryz.prog tab19 E) (h : P_wnear) : Valid Tryz.prog tab20 E := hV.add c_wnear (pure_wnear hV h)
def P_wint : Prop :=
  (∀ n : Int, (-9223372036854775808) <= n -> n <= 9223372036854775807 ->
  (∀ n1 : Int, 0 <= n1 -> n1 <= 18446744073709551615 ->
  (Pre_wint [[n, n1]] ->
  (∀ b : Nat, (∀ n2 : Int, n2 = (IntKind.wrap .i64 n1) -> (-9223372036854775808) <= n2 -> n2 <= 9223372036854775807 ->
  (Pre_wof [[n2]] /\
  (∀ n3 : Int, (-9223372036854775808) <= n3 -> n3 <= 9223372036854775807 ->
  (∀ n4 : Int, 0 <= n4 -> n4 <= 18446744073709551615 ->
  (Post_wof [[n2]] [[n3, n4]] ->
  ((((n = n3) /\ (n1 = n4)) ->
    Post_wint [[n, n1]] [[n2], [b2i true]]) /\
   (¬ ((n = n3) /\ (n1 = n4)) ->
    Post_wint [[n, n1]] [[0], [b2i false]])))))))))))
theorem c_wint : canCall Tryz.prog 64 = true := by kernel_rfl
theorem s_wint : P_wint = sat E (symTop Tryz.prog tab20 2000 64 ash_wint sh_wint) := by kernel_rfl
theorem pure_wint (hV : Valid Tryz.prog tab20 E) (h : P_wint) : PureE 64 ash_wint sh_wint := fun args ha hp => top_sat hV (@Eq.mp _ _ s_wint h) args ha hp
theorem step_wint (hV : Valid Tryz.prog tab20 E) (h : P_wint) : Valid Tryz.prog tab21 E := hV.add c_wint (pure_wint hV h)
def P_narrow1 : Prop :=
 (∀ n : Int, 0 <= n -> n <= 18446744073709551615 ->
 (Pre_narrow1 [[n]] ->
 (∀ n1 : Int, n1 = (IntKind.wrap .u64 (n * n)) -> 0 <= n1 -> n1 <= 18446744073709551615 ->
 Post_narrow1 [[n]] [[n1]])))
theorem c_narrow1 : canCall Tryz.prog 121 = true := by kernel_rfl
theorem s_narrow1 : P_narrow1 = sat E (symTop Tryz.prog tab21 2000 121 ash_narrow1 sh_narrow1) := by kernel_rfl
theorem pure_narrow1 (hV : Valid Tryz.prog tab21 E) (h : P_narrow1) : PureE 121 ash_narrow1 sh_narrow1 := fun args ha hp => top_sat hV (@Eq.mp _ _ s_narrow1 h) args ha hp
theorem step_narrow1 (hV : Valid Tryz.prog tab21 E) (h : P_narrow1) : Valid Tryz.prog tab22 E := hV.add c_narrow1 (pure_narrow1 hV h)
def P_narrow2 : Prop :=
 (∀ n : Int, 0 <= n -> n <= 18446744073709551615 ->
 (∀ n1 : Int, 0 <= n1 -> n1 <= 18446744073709551615 ->
 (Pre_narrow2 [[n], [n1]] ->
 Post_narrow2 [[n], [n1]] [[b2i (decide (n1 < n))]])))
theorem c_narrow2 : canCall Tryz.prog 122 = true := by kernel_rfl
theorem s_narrow2 : P_narrow2 = sat E (symTop Tryz.prog tab22 2000 122 ash_narrow2 sh_narrow2) := by kernel_rfl
theorem pure_narrow2 (hV : Valid Tryz.prog tab22 E) (h : P_narrow2) : PureE 122 ash_narrow2 sh_narrow2 := fun args ha hp => top_sat hV (@Eq.mp _ _ s_narrow2 h) args ha hp
theorem step_narrow2 (hV : Valid Tryz.prog tab22 E) (h : P_narrow2) : Valid Tryz.prog tab23 E := hV.add c_narrow2 (pure_narrow2 hV h)
def P_wide1 : Prop :=
 (∀ n : Int, 0 <= n -> n <= 18446744073709551615 ->
 (Pre_wide1 [[n]] ->
 (∀ b : Nat, (Pre_mul64 [[n], [n]] /\
 (∀ n1 : Int, 0 <= n1 -> n1 <= 18446744073709551615 ->
 (∀ n2 : Int, 0 <= n2 -> n2 <= 18446744073709551615 ->
 (Post_mul64 [[n], [n]] [[n1], [n2]] ->
 Post_wide1 [[n]] [[n1, n2]])))))))
theorem c_wide1 : canCall Tryz.prog 132 = true := by kernel_rfl
theorem s_wide1 : P_wide1 = sat E (symTop Tryz.prog tab23 2000 132 ash_wide1 sh_wide1) := by kernel_rfl
theorem pure_wide1 (hV : Valid Tryz.prog tab23 E) (h : P_wide1) : PureE 132 ash_wide1 sh_wide1 := fun args ha hp => top_sat hV (@Eq.mp _ _ s_wide1 h) args ha hp
theorem step_wide1 (hV : Valid Tryz.prog tab23 E) (h : P_wide1) : Valid Tryz.prog tab24 E := hV.add c_wide1 (pure_wide1 hV h)
def P_wide2 : Prop :=
  (∀ n : Int, 0 <= n -> n <= 18446744073709551615 ->
  (∀ n1 : Int, 0 <= n1 -> n1 <= 18446744073709551615 ->
  (∀ n2 : Int, 0 <= n2 -> n2 <= 18446744073709551615 ->
  (∀ n3 : Int, 0 <= n3 -> n3 <= 18446744073709551615 ->
  (Pre_wide2 [[n, n1], [n2, n3]] ->
  (∀ b : Nat, (∀ b1 : Nat, (((n2 < n) ->
    Post_wide2 [[n, n1], [n2, n3]] [[b2i true]]) /\
   (¬ (n2 < n) ->
    (((n = n2) ->
      Post_wide2 [[n, n1], [n2, n3]] [[b2i (decide (n3 < n1))]]) /\
     (¬ (n = n2) ->
      Post_wide2 [[n, n1], [n2, n3]] [[b2i false]])))))))))))
theorem c_wide2 : canCall Tryz.prog 133 = true := by kernel_rfl
theorem s_wide2 : P_wide2 = sat E (symTop Tryz.prog tab24 2000 133 ash_wide2 sh_wide2) := by kernel_rfl
theorem pure_wide2 (hV : Valid Tryz.prog tab24 E) (h : P_wide2) : PureE 133 ash_wide2 sh_wide2 := fun args ha hp => top_sat hV (@Eq.mp _ _ s_wide2 h) args ha hp
theorem step_wide2 (hV : Valid Tryz.prog tab24 E) (h : P_wide2) : Valid Tryz.prog tab25 E := hV.add c_wide2 (pure_wide2 hV h)
def P_rootnarrow : Prop :=
  (∀ n : Int, 0 <= n -> n <= 18446744073709551615 ->
  (Pre_rootnarrow [[n], [32], [0, 0]] ->
  (∀ b : Nat, (Inv_rootnarrow [n, 32] [0, 0] /\
  (∀ n1 : Int, 0 <= n1 -> n1 <= 18446744073709551615 ->
  (∀ n2 : Int, 0 <= n2 -> n2 <= 32 ->
  (Inv_rootnarrow [n, 32] [n1, n2] ->
  (∀ vs : List Value, vs.length = 24 ->
  (((n2 < 32) ->
    ((0 <= (31 - n2)) /\
    (∀ n3 : Int, n3 = (31 - n2) -> 0 <= n3 -> n3 <= 31 ->
    (∀ n4 : Int, n4 = (bitsI .or .u64 n1 (shI .shl .u64 1 n3)) -> 0 <= n4 -> n4 <= 18446744073709551615 ->
    (Pre_narrow1 [[n4]] /\
    (∀ n5 : Int, 0 <= n5 -> n5 <= 18446744073709551615 ->
    (Post_narrow1 [[n4]] [[n5]] ->
    (Pre_narrow2 [[n5], [n]] /\
    (∀ t : Bool, (Post_narrow2 [[n5], [n]] [[b2i t]] ->
    (((¬ (t = true)) ->
      (((n2 + 1) <= 32) /\
      (∀ n6 : Int, n6 = (n2 + 1) -> 0 <= n6 -> n6 <= 32 ->
      (Inv_rootnarrow [n, 32] [n4, n6] /\ Mea_rootnarrow [n, 32] [n4, n6] < Mea_rootnarrow [n, 32] [n1, n2])))) /\
     (¬ (¬ (t = true)) ->
      (((n2 + 1) <= 32) /\
      (∀ n6 : Int, n6 = (n2 + 1) -> 0 <= n6 -> n6 <= 32 ->
      (Inv_rootnarrow [n, 32] [n1, n6] /\ Mea_rootnarrow [n, 32] [n1, n6] < Mea_rootnarrow [n, 32] [n1, n2]))))))))))))))) /\
   (¬ (n2 < 32) ->
    Post_rootnarrow [[n], [32], [0, 0]] [[n1]]))))))))))
theorem c_rootnarrow : canCall Tryz.prog 111 = true := by kernel_rfl
theorem s_rootnarrow : P_rootnarrow = sat E (symTop Tryz.prog tab25 2000 111 ash_rootnarrow sh_rootnarrow) := by kernel_rfl
theorem pure_rootnarrow (hV : Valid Tryz.prog tab25 E) (h : P_rootnarrow) : PureE 111 ash_rootnarrow sh_rootnarrow := fun args ha hp => top_sat hV (@Eq.mp _ _ s_rootnarrow h) args ha hp
theorem step_rootnarrow (hV : Valid Tryz.prog tab25 E) (h : P_rootnarrow) : Valid Tryz.prog tab26 E := hV.add c_rootnarrow (pure_rootnarrow hV h)
def P_rootwide : Prop :=
  (∀ n : Int, 0 <= n -> n <= 18446744073709551615 ->
  (∀ n1 : Int, 0 <= n1 -> n1 <= 18446744073709551615 ->
  (Pre_rootwide [[n, n1], [64], [0, 0]] ->
  (∀ b : Nat, (∀ b1 : Nat, (Inv_rootwide [n, n1, 64] [0, 0] /\
  (∀ n2 : Int, 0 <= n2 -> n2 <= 18446744073709551615 ->
  (∀ n3 : Int, 0 <= n3 -> n3 <= 64 ->
  (Inv_rootwide [n, n1, 64] [n2, n3] ->
  (∀ vs : List Value, vs.length = 24 ->
  (((n3 < 64) ->
    ((0 <= (63 - n3)) /\
    (∀ n4 : Int, n4 = (63 - n3) -> 0 <= n4 -> n4 <= 63 ->
    (∀ n5 : Int, n5 = (bitsI .or .u64 n2 (shI .shl .u64 1 n4)) -> 0 <= n5 -> n5 <= 18446744073709551615 ->
    (Pre_wide1 [[n5]] /\
    (∀ n6 : Int, 0 <= n6 -> n6 <= 18446744073709551615 ->
    (∀ n7 : Int, 0 <= n7 -> n7 <= 18446744073709551615 ->
    (Post_wide1 [[n5]] [[n6, n7]] ->
    (Pre_wide2 [[n6, n7], [n, n1]] /\
    (∀ t : Bool, (Post_wide2 [[n6, n7], [n, n1]] [[b2i t]] ->
    (((¬ (t = true)) ->
      (((n3 + 1) <= 64) /\
      (∀ n8 : Int, n8 = (n3 + 1) -> 0 <= n8 -> n8 <= 64 ->
      (Inv_rootwide [n, n1, 64] [n5, n8] /\ Mea_rootwide [n, n1, 64] [n5, n8] < Mea_rootwide [n, n1, 64] [n2, n3])))) /\
     (¬ (¬ (t = true)) ->
      (((n3 + 1) <= 64) /\
      (∀ n8 : Int, n8 = (n3 + 1) -> 0 <= n8 -> n8 <= 64 ->
      (Inv_rootwide [n, n1, 64] [n2, n8] /\ Mea_rootwide [n, n1, 64] [n2, n8] < Mea_rootwide [n, n1, 64] [n2, n3])))))))))))))))) /\
   (¬ (n3 < 64) ->
    Post_rootwide [[n, n1], [64], [0, 0]] [[n2]]))))))))))))
theorem c_rootwide : canCall Tryz.prog 125 = true := by kernel_rfl
theorem s_rootwide : P_rootwide = sat E (symTop Tryz.prog tab26 2000 125 ash_rootwide sh_rootwide) := by kernel_rfl
theorem pure_rootwide (hV : Valid Tryz.prog tab26 E) (h : P_rootwide) : PureE 125 ash_rootwide sh_rootwide := fun args ha hp => top_sat hV (@Eq.mp _ _ s_rootwide h) args ha hp
theorem step_rootwide (hV : Valid Tryz.prog tab26 E) (h : P_rootwide) : Valid Tryz.prog tab27 E := hV.add c_rootwide (pure_rootwide hV h)
def P_mknarrow : Prop :=
 (Pre_mknarrow [] ->
 (∀ b : Nat, Post_mknarrow [] [[0, 0]]))
theorem c_mknarrow : canCall Tryz.prog 112 = true := by kernel_rfl
theorem s_mknarrow : P_mknarrow = sat E (symTop Tryz.prog tab27 2000 112 ash_mknarrow sh_mknarrow) := by kernel_rfl
theorem pure_mknarrow (hV : Valid Tryz.prog tab27 E) (h : P_mknarrow) : PureE 112 ash_mknarrow sh_mknarrow := fun args ha hp => top_sat hV (@Eq.mp _ _ s_mknarrow h) args ha hp
theorem step_mknarrow (hV : Valid Tryz.prog tab27 E) (h : P_mknarrow) : Valid Tryz.prog tab28 E := hV.add c_mknarrow (pure_mknarrow hV h)
def P_mkwide : Prop :=
 (Pre_mkwide [] ->
 (∀ b : Nat, Post_mkwide [] [[0, 0]]))
theorem c_mkwide : canCall Tryz.prog 126 = true := by kernel_rfl
theorem s_mkwide : P_mkwide = sat E (symTop Tryz.prog tab28 2000 126 ash_mkwide sh_mkwide) := by kernel_rfl
theorem pure_mkwide (hV : Valid Tryz.prog tab28 E) (h : P_mkwide) : PureE 126 ash_mkwide sh_mkwide := fun args ha hp => top_sat hV (@Eq.mp _ _ s_mkwide h) args ha hp
theorem step_mkwide (hV : Valid Tryz.prog tab28 E) (h : P_mkwide) : Valid Tryz.prog tab29 E := hV.add c_mkwide (pure_mkwide hV h)
def P_root : Prop :=
 (∀ n : Int, 0 <= n -> n <= 18446744073709551615 ->
 (Pre_root [[n]] ->
 (Pre_mknarrow [] /\
 (Post_mknarrow [] [[0, 0]] ->
 (Pre_rootnarrow [[n], [32], [0, 0]] /\
 (∀ n1 : Int, 0 <= n1 -> n1 <= 18446744073709551615 ->
 (Post_rootnarrow [[n], [32], [0, 0]] [[n1]] ->
 Post_root [[n]] [[n1]])))))))
theorem c_root : canCall Tryz.prog 92 = true := by kernel_rfl
theorem s_root : P_root = sat E (symTop Tryz.prog tab29 2000 92 ash_root sh_root) := by kernel_rfl
theorem pure_root (hV : Valid Tryz.prog tab29 E) (h : P_root) : PureE 92 ash_root sh_root := fun args ha hp => top_sat hV (@Eq.mp _ _ s_root h) args ha hp
theorem step_root (hV : Valid Tryz.prog tab29 E) (h : P_root) : Valid Tryz.prog tab30 E := hV.add c_root (pure_root hV h)
def P_rootWide : Prop :=
  (∀ n : Int, (-9223372036854775808) <= n -> n <= 9223372036854775807 ->
  (∀ n1 : Int, 0 <= n1 -> n1 <= 18446744073709551615 ->
  (Pre_rootWide [[n, n1]] ->
  (∀ b : Nat, (Pre_wof [[0]] /\
  (∀ n2 : Int, (-9223372036854775808) <= n2 -> n2 <= 9223372036854775807 ->
  (∀ n3 : Int, 0 <= n3 -> n3 <= 18446744073709551615 ->
  (Post_wof [[0]] [[n2, n3]] ->
  (Pre_wcmp [[n, n1], [n2, n3]] /\
  (∀ n4 : Int, (-1) <= n4 -> n4 <= 1 ->
  (Post_wcmp [[n, n1], [n2, n3]] [[n4]] ->
  (((n4 < 0) ->
    Post_rootWide [[n, n1]] [[0], [1]]) /\
   (¬ (n4 < 0) ->
    (Pre_mkwide [] /\
    (Post_mkwide [] [[0, 0]] ->
    (∀ n5 : Int, n5 = (IntKind.wrap .u64 n) -> 0 <= n5 -> n5 <= 18446744073709551615 ->
    (Pre_rootwide [[n5, n1], [64], [0, 0]] /\
    (∀ n6 : Int, 0 <= n6 -> n6 <= 18446744073709551615 ->
    (Post_rootwide [[n5, n1], [64], [0, 0]] [[n6]] ->
    Post_rootWide [[n, n1]] [[n6], [0]])))))))))))))))))))
theorem c_rootWide : canCall Tryz.prog 117 = true := by kernel_rfl
theorem s_rootWide : P_rootWide = sat E (symTop Tryz.prog tab30 2000 117 ash_rootWide sh_rootWide) := by kernel_rfl
theorem pure_rootWide (hV : Valid Tryz.prog tab30 E) (h : P_rootWide) : PureE 117 ash_rootWide sh_rootWide := fun args ha hp => top_sat hV (@Eq.mp _ _ s_rootWide h) args ha hp
theorem step_rootWide (hV : Valid Tryz.prog tab30 E) (h : P_rootWide) : Valid Tryz.prog tab31 E := hV.add c_rootWide (pure_rootWide hV h)
def P_sqrt : Prop :=
  (∀ n : Int, (-2147483648) <= n -> n <= 2147483647 ->
  (Pre_sqrt [[n]] ->
  (((n < 0) ->
    Post_sqrt [[n]] [[0], [1]]) /\
   (¬ (n < 0) ->
    (∀ n1 : Int, n1 = (IntKind.wrap .u64 ((IntKind.wrap .u64 n) * 65536)) -> 0 <= n1 -> n1 <= 18446744073709551615 ->
    (Pre_root [[n1]] /\
    (∀ n2 : Int, 0 <= n2 -> n2 <= 18446744073709551615 ->
    (Post_root [[n1]] [[n2]] ->
    (∀ n3 : Int, n3 = (IntKind.wrap .i32 n2) -> (-2147483648) <= n3 -> n3 <= 2147483647 ->
    Post_sqrt [[n]] [[n3], [0]])))))))))
theorem c_sqrt : canCall Tryz.prog 76 = true := by kernel_rfl
theorem s_sqrt : P_sqrt = sat E (symTop Tryz.prog tab31 2000 76 ash_sqrt sh_sqrt) := by kernel_rfl
theorem pure_sqrt (hV : Valid Tryz.prog tab31 E) (h : P_sqrt) : PureE 76 ash_sqrt sh_sqrt := fun args ha hp => top_sat hV (@Eq.mp _ _ s_sqrt h) args ha hp
theorem step_sqrt (hV : Valid Tryz.prog tab31 E) (h : P_sqrt) : Valid Tryz.prog tab32 E := hV.add c_sqrt (pure_sqrt hV h)
def P_log : Prop :=
 (∀ n : Int, 0 <= n -> n <= 18446744073709551615 ->
 (Pre_log [[n]] ->
 (Pre_len64 [[n]] /\
 (∀ n1 : Int, 0 <= n1 -> n1 <= 64 ->
 (Post_len64 [[n]] [[n1]] ->
 (∀ n2 : Int, n2 = (n1 - 1) -> (-1) <= n2 -> n2 <= 63 ->
 Post_log [[n]] [[n2]]))))))
theorem c_log : canCall Tryz.prog 99 = true := by kernel_rfl
theorem s_log : P_log = sat E (symTop Tryz.prog tab32 2000 99 ash_log sh_log) := by kernel_rfl
theorem pure_log (hV : Valid Tryz.prog tab32 E) (h : P_log) : PureE 99 ash_log sh_log := fun args ha hp => top_sat hV (@Eq.mp _ _ s_log h) args ha hp
theorem step_log (hV : Valid Tryz.prog tab32 E) (h : P_log) : Valid Tryz.prog tab33 E := hV.add c_log (pure_log hV h)
def madeT (p0 p1 : Int) (K : Int -> Int -> Prop) : Prop :=
 (∀ b0 : Int, b0 = (IntKind.wrap .u64 (IntKind.wrap .i64 (4611686018427387904 + p0))) -> 0 <= b0 -> b0 <= 18446744073709551615 ->
 (Pre_mul64 [[b0], [2305843009213693952]] /\
 (∀ b1 : Int, 0 <= b1 -> b1 <= 18446744073709551615 ->
 (∀ b2 : Int, 0 <= b2 -> b2 <= 18446744073709551615 ->
 (Post_mul64 [[b0], [2305843009213693952]] [[b1], [b2]] ->
 (∀ b3 : Int, b3 = (IntKind.wrap .i64 b1) -> (-9223372036854775808) <= b3 -> b3 <= 9223372036854775807 ->
 (Pre_rootWide [[b3, b2]] /\
 (∀ b4 : Int, 0 <= b4 -> b4 <= 18446744073709551615 ->
 (∀ b5 : Int, (-9223372036854775808) <= b5 -> b5 <= 9223372036854775807 ->
 (Post_rootWide [[b3, b2]] [[b4], [b5]] ->
 (Pre_wmul [[p1], [2305843009213693952]] /\
 (∀ b6 : Int, (-9223372036854775808) <= b6 -> b6 <= 9223372036854775807 ->
 (∀ b7 : Int, 0 <= b7 -> b7 <= 18446744073709551615 ->
 (Post_wmul [[p1], [2305843009213693952]] [[b6, b7]] ->
 (∀ b8 : Int, b8 = (IntKind.wrap .i64 b4) -> (-9223372036854775808) <= b8 -> b8 <= 9223372036854775807 ->
 (Pre_wfloor [[b6, b7], [b8]] /\
 (∀ b9 : Int, (-9223372036854775808) <= b9 -> b9 <= 9223372036854775807 ->
 (∀ b10 : Int, 0 <= b10 -> b10 <= 18446744073709551615 ->
 (∀ b11 : Int, (-9223372036854775808) <= b11 -> b11 <= 9223372036854775807 ->
 (∀ b12 : Int, 0 <= b12 -> b12 <= 11 ->
 (Post_wfloor [[b6, b7], [b8]] [[b9, b10], [b11], [b12]] ->
 (∀ b13 : Nat, (∀ b14 : Int, b14 = (IntKind.wrap .i64 b4) -> (-9223372036854775808) <= b14 -> b14 <= 9223372036854775807 ->
 (Pre_wint [[b9, b10]] /\
 (∀ b15 : Int, (-9223372036854775808) <= b15 -> b15 <= 9223372036854775807 ->
 (∀ b16 : Bool, (Post_wint [[b9, b10]] [[b15], [b2i b16]] ->
 K b14 b15)))))))))))))))))))))))))))
def madeE (p0 p1 : Int) (K : Int -> Prop) : Prop :=
 ((p0 <= p1) /\
 ((p1 <= p0) /\
 (∀ b0 : Int, b0 = p1 -> p0 <= b0 -> b0 <= p0 ->
 K b0)))
def P_made : Prop :=
 (Pre_made [] ->
 (∀ b : Nat, (Pre_mul64 [[4611686018427387904], [2305843009213693952]] /\
 (∀ n : Int, 0 <= n -> n <= 18446744073709551615 ->
 (∀ n1 : Int, 0 <= n1 -> n1 <= 18446744073709551615 ->
 (Post_mul64 [[4611686018427387904], [2305843009213693952]] [[n], [n1]] ->
 (∀ n2 : Int, n2 = (IntKind.wrap .i64 n) -> (-9223372036854775808) <= n2 -> n2 <= 9223372036854775807 ->
 (Pre_rootWide [[n2, n1]] /\
 (∀ n3 : Int, 0 <= n3 -> n3 <= 18446744073709551615 ->
 (∀ n4 : Int, (-9223372036854775808) <= n4 -> n4 <= 9223372036854775807 ->
 (Post_rootWide [[n2, n1]] [[n3], [n4]] ->
 (Pre_wmul [[4611686018427387904], [2305843009213693952]] /\
 (∀ n5 : Int, (-9223372036854775808) <= n5 -> n5 <= 9223372036854775807 ->
 (∀ n6 : Int, 0 <= n6 -> n6 <= 18446744073709551615 ->
 (Post_wmul [[4611686018427387904], [2305843009213693952]] [[n5, n6]] ->
 (∀ n7 : Int, n7 = (IntKind.wrap .i64 n3) -> (-9223372036854775808) <= n7 -> n7 <= 9223372036854775807 ->
 (Pre_wfloor [[n5, n6], [n7]] /\
 (∀ n8 : Int, (-9223372036854775808) <= n8 -> n8 <= 9223372036854775807 ->
 (∀ n9 : Int, 0 <= n9 -> n9 <= 18446744073709551615 ->
 (∀ n10 : Int, (-9223372036854775808) <= n10 -> n10 <= 9223372036854775807 ->
 (∀ n11 : Int, 0 <= n11 -> n11 <= 11 ->
 (Post_wfloor [[n5, n6], [n7]] [[n8, n9], [n10], [n11]] ->
 (∀ b1 : Nat, (∀ n12 : Int, n12 = (IntKind.wrap .i64 n3) -> (-9223372036854775808) <= n12 -> n12 <= 9223372036854775807 ->
 (Pre_wint [[n8, n9]] /\
 (∀ n13 : Int, (-9223372036854775808) <= n13 -> n13 <= 9223372036854775807 ->
 (∀ t : Bool, (Post_wint [[n8, n9]] [[n13], [b2i t]] ->
 (madeT n12 n13 fun n27 n28 =>
 (madeT n27 n28 fun n42 n43 =>
 (madeT n42 n43 fun n57 n58 =>
 (madeT n57 n58 fun n72 n73 =>
 (madeT n72 n73 fun n87 n88 =>
 (madeT n87 n88 fun n102 n103 =>
 (madeT n102 n103 fun n117 n118 =>
 (madeT n117 n118 fun n132 n133 =>
 (madeT n132 n133 fun n147 n148 =>
 (madeT n147 n148 fun n162 n163 =>
 (madeT n162 n163 fun n177 n178 =>
 (madeT n177 n178 fun n192 n193 =>
 (madeT n192 n193 fun n207 n208 =>
 (madeT n207 n208 fun n222 n223 =>
 (madeT n222 n223 fun n237 n238 =>
 (madeT n237 n238 fun n252 n253 =>
 (madeT n252 n253 fun n267 n268 =>
 (madeT n267 n268 fun n282 n283 =>
 (madeT n282 n283 fun n297 n298 =>
 (madeT n297 n298 fun n312 n313 =>
 (madeT n312 n313 fun n327 n328 =>
 (madeT n327 n328 fun n342 n343 =>
 (madeT n342 n343 fun n357 n358 =>
 (madeT n357 n358 fun n372 n373 =>
 (madeT n372 n373 fun n387 n388 =>
 (madeT n387 n388 fun n402 n403 =>
 (madeT n402 n403 fun n417 n418 =>
 (madeT n417 n418 fun n432 n433 =>
 (madeT n432 n433 fun n447 n448 =>
 (madeT n447 n448 fun n462 n463 =>
 (madeT n462 n463 fun n477 n478 =>
 (madeT n477 n478 fun n492 n493 =>
 (madeT n492 n493 fun n507 n508 =>
 (madeT n507 n508 fun n522 n523 =>
 (madeT n522 n523 fun n537 n538 =>
 (madeT n537 n538 fun n552 n553 =>
 (madeT n552 n553 fun n567 n568 =>
 (madeT n567 n568 fun n582 n583 =>
 (madeT n582 n583 fun n597 n598 =>
 (madeE 3260954456333195553 n12 fun n599 =>
 (madeE 3260954456333195553 n13 fun n600 =>
 (madeE 4260642322793532497 n27 fun n601 =>
 (madeE 1764815834521887441 n28 fun n602 =>
 (madeE 4523073764714963029 n42 fun n603 =>
 (madeE 899695310372275546 n43 fun n604 =>
 (madeE 4589479489746651963 n57 fun n605 =>
 (madeE 452024275624069879 n58 fun n606 =>
 (madeE 4606131040650197959 n72 fun n607 =>
 (madeE 226284707652502140 n73 fun n608 =>
 (madeE 4610297064819661174 n87 fun n609 =>
 (madeE 113176440454146015 n88 fun n610 =>
 (madeE 4611338766951757486 n102 fun n611 =>
 (madeE 56592481536850978 n103 fun n612 =>
 (madeE 4611599204741358746 n117 fun n613 =>
 (madeE 28296773447188931 n118 fun n614 =>
 (madeE 4611664314954810277 n132 fun n615 =>
 (madeE 14148453308909939 n133 fun n616 =>
 (madeE 4611680592556051597 n147 fun n617 =>
 (madeE 7074234977634092 n148 fun n618 =>
 (madeE 4611684661959354333 n162 fun n619 =>
 (madeE 3537118529214895 n163 fun n620 =>
 (madeE 4611685679310367042 n177 fun n621 =>
 (madeE 1768559394657193 n178 fun n622 =>
 (madeE 4611685933648131909 n192 fun n623 =>
 (madeE 884279713584815 n193 fun n624 =>
 (madeE 4611685997232573856 n207 fun n625 =>
 (madeE 442139858824434 n208 fun n626 =>
 (madeE 4611686013128684388 n222 fun n627 =>
 (madeE 221069929666220 n223 fun n628 =>
 (madeE 4611686017102712024 n237 fun n629 =>
 (madeE 110534964864860 n238 fun n630 =>
 (madeE 4611686018096218933 n252 fun n631 =>
 (madeE 55267482436398 n253 fun n632 =>
 (madeE 4611686018344595661 n267 fun n633 =>
 (madeE 27633741218695 n268 fun n634 =>
 (madeE 4611686018406689843 n282 fun n635 =>
 (madeE 13816870609409 n283 fun n636 =>
 (madeE 4611686018422213388 n297 fun n637 =>
 (madeE 6908435304712 n298 fun n638 =>
 (madeE 4611686018426094274 n312 fun n639 =>
 (madeE 3454217652356 n313 fun n640 =>
 (madeE 4611686018427064496 n327 fun n641 =>
 (madeE 1727108826178 n328 fun n642 =>
 (madeE 4611686018427307051 n342 fun n643 =>
 (madeE 863554413089 n343 fun n644 =>
 (madeE 4611686018427367690 n357 fun n645 =>
 (madeE 431777206544 n358 fun n646 =>
 (madeE 4611686018427382850 n372 fun n647 =>
 (madeE 215888603272 n373 fun n648 =>
 (madeE 4611686018427386640 n387 fun n649 =>
 (madeE 107944301636 n388 fun n650 =>
 (madeE 4611686018427387587 n402 fun n651 =>
 (madeE 53972150818 n403 fun n652 =>
 (madeE 4611686018427387824 n417 fun n653 =>
 (madeE 26986075409 n418 fun n654 =>
 (madeE 4611686018427387883 n432 fun n655 =>
 (madeE 13493037704 n433 fun n656 =>
 (madeE 4611686018427387898 n447 fun n657 =>
 (madeE 6746518852 n448 fun n658 =>
 (madeE 4611686018427387902 n462 fun n659 =>
 (madeE 3373259426 n463 fun n660 =>
 (madeE 4611686018427387903 n477 fun n661 =>
 (madeE 1686629713 n478 fun n662 =>
 (madeE 4611686018427387903 n492 fun n663 =>
 (madeE 843314856 n493 fun n664 =>
 (madeE 4611686018427387903 n507 fun n665 =>
 (madeE 421657428 n508 fun n666 =>
 (madeE 4611686018427387903 n522 fun n667 =>
 (madeE 210828714 n523 fun n668 =>
 (madeE 4611686018427387903 n537 fun n669 =>
 (madeE 105414357 n538 fun n670 =>
 (madeE 4611686018427387903 n552 fun n671 =>
 (madeE 52707178 n553 fun n672 =>
 (madeE 4611686018427387903 n567 fun n673 =>
 (madeE 26353589 n568 fun n674 =>
 (madeE 4611686018427387903 n582 fun n675 =>
 (madeE 13176794 n583 fun n676 =>
 (madeE 4611686018427387903 n597 fun n677 =>
 (madeE 6588397 n598 fun n678 =>
 Post_made [] [[0, 4611686018427387904, n599, n600, n601, n602, n603, n604, n605, n606, n607, n608, n609, n610, n611, n612, n613, n614, n615, n616, n617, n618, n619, n620, n621, n622, n623, n624, n625, n626, n627, n628, n629, n630, n631, n632, n633, n634, n635, n636, n637, n638, n639, n640, n641, n642, n643, n644, n645, n646, n647, n648, n649, n650, n651, n652, n653, n654, n655, n656, n657, n658, n659, n660, n661, n662, n663, n664, n665, n666, n667, n668, n669, n670, n671, n672, n673, n674, n675, n676, n677, n678]])))))))))))))))))))))))))))))))))))))))))))))))))))))))))))))))))))))))))))))))))))))))))))))))))))))))))))))))))))))))))))))))))))))))))))))))))))
theorem c_made : canCall Tryz.prog 100 = true := by kernel_rfl
theorem s_made : P_made = sat E (symTop Tryz.prog tab33 2000 100 ash_made sh_made) := by kernel_rfl
theorem pure_made (hV : Valid Tryz.prog tab33 E) (h : P_made) : PureE 100 ash_made sh_made := fun args ha hp => top_sat hV (@Eq.mp _ _ s_made h) args ha hp
theorem step_made (hV : Valid Tryz.prog tab33 E) (h : P_made) : Valid Tryz.prog tab34 E := hV.add c_made (pure_made hV h)
def P_crossed : Prop :=
 (∀ n : Int, (-9223372036854775808) <= n -> n <= 9223372036854775807 ->
 (∀ n1 : Int, (-9223372036854775808) <= n1 -> n1 <= 9223372036854775807 ->
 (∀ n2 : Int, (-9223372036854775808) <= n2 -> n2 <= 9223372036854775807 ->
 (∀ n3 : Int, (-9223372036854775808) <= n3 -> n3 <= 9223372036854775807 ->
 (Pre_crossed [[n], [n1], [n2], [n3]] ->
 (Pre_wmul [[n], [n1]] /\
 (∀ n4 : Int, (-9223372036854775808) <= n4 -> n4 <= 9223372036854775807 ->
 (∀ n5 : Int, 0 <= n5 -> n5 <= 18446744073709551615 ->
 (Post_wmul [[n], [n1]] [[n4, n5]] ->
 (Pre_wmul [[n2], [n3]] /\
 (∀ n6 : Int, (-9223372036854775808) <= n6 -> n6 <= 9223372036854775807 ->
 (∀ n7 : Int, 0 <= n7 -> n7 <= 18446744073709551615 ->
 (Post_wmul [[n2], [n3]] [[n6, n7]] ->
 (Pre_wadd [[n4, n5], [n6, n7]] /\
 (∀ n8 : Int, (-9223372036854775808) <= n8 -> n8 <= 9223372036854775807 ->
 (∀ n9 : Int, 0 <= n9 -> n9 <= 18446744073709551615 ->
 (∀ n10 : Int, 0 <= n10 -> n10 <= 11 ->
 (Post_wadd [[n4, n5], [n6, n7]] [[n8, n9], [n10]] ->
 (∀ b : Nat, (Pre_wfloor [[n8, n9], [4611686018427387904]] /\
 (∀ n11 : Int, (-9223372036854775808) <= n11 -> n11 <= 9223372036854775807 ->
 (∀ n12 : Int, 0 <= n12 -> n12 <= 18446744073709551615 ->
 (∀ n13 : Int, (-9223372036854775808) <= n13 -> n13 <= 9223372036854775807 ->
 (∀ n14 : Int, 0 <= n14 -> n14 <= 11 ->
 (Post_wfloor [[n8, n9], [4611686018427387904]] [[n11, n12], [n13], [n14]] ->
 (∀ b1 : Nat, (Pre_wint [[n11, n12]] /\
 (∀ n15 : Int, (-9223372036854775808) <= n15 -> n15 <= 9223372036854775807 ->
 (∀ t : Bool, (Post_wint [[n11, n12]] [[n15], [b2i t]] ->
 Post_crossed [[n], [n1], [n2], [n3]] [[n15]]))))))))))))))))))))))))))))))
theorem c_crossed : canCall Tryz.prog 118 = true := by kernel_rfl
theorem s_crossed : P_crossed = sat E (symTop Tryz.prog tab34 2000 118 ash_crossed sh_crossed) := by kernel_rfl
theorem pure_crossed (hV : Valid Tryz.prog tab34 E) (h : P_crossed) : PureE 118 ash_crossed sh_crossed := fun args ha hp => top_sat hV (@Eq.mp _ _ s_crossed h) args ha hp
theorem step_crossed (hV : Valid Tryz.prog tab34 E) (h : P_crossed) : Valid Tryz.prog tab35 E := hV.add c_crossed (pure_crossed hV h)
def P_pon : Prop :=
 (∀ n : Int, (-9223372036854775808) <= n -> n <= 9223372036854775807 ->
 (∀ n1 : Int, (-9223372036854775808) <= n1 -> n1 <= 9223372036854775807 ->
 (∀ n2 : Int, (-9223372036854775808) <= n2 -> n2 <= 9223372036854775807 ->
 (∀ n3 : Int, (-9223372036854775808) <= n3 -> n3 <= 9223372036854775807 ->
 (Pre_pon [[n, n1], [n2, n3]] ->
 (∀ b : Nat, (∀ b1 : Nat, (∀ b2 : Nat, (∀ n4 : Int, n4 = (IntKind.wrap .i64 (0 - n1)) -> (-9223372036854775808) <= n4 -> n4 <= 9223372036854775807 ->
 (Pre_crossed [[n], [n2], [n4], [n3]] /\
 (∀ n5 : Int, (-9223372036854775808) <= n5 -> n5 <= 9223372036854775807 ->
 (Post_crossed [[n], [n2], [n4], [n3]] [[n5]] ->
 (Pre_crossed [[n1], [n2], [n], [n3]] /\
 (∀ n6 : Int, (-9223372036854775808) <= n6 -> n6 <= 9223372036854775807 ->
 (Post_crossed [[n1], [n2], [n], [n3]] [[n6]] ->
 Post_pon [[n, n1], [n2, n3]] [[n5, n6]])))))))))))))))
theorem c_pon : canCall Tryz.prog 109 = true := by kernel_rfl
theorem s_pon : P_pon = sat E (symTop Tryz.prog tab35 2000 109 ash_pon sh_pon) := by kernel_rfl
theorem pure_pon (hV : Valid Tryz.prog tab35 E) (h : P_pon) : PureE 109 ash_pon sh_pon := fun args ha hp => top_sat hV (@Eq.mp _ _ s_pon h) args ha hp
theorem step_pon (hV : Valid Tryz.prog tab35 E) (h : P_pon) : Valid Tryz.prog tab36 E := hV.add c_pon (pure_pon hV h)
def P_pback : Prop :=
 (∀ n : Int, (-9223372036854775808) <= n -> n <= 9223372036854775807 ->
 (∀ n1 : Int, (-9223372036854775808) <= n1 -> n1 <= 9223372036854775807 ->
 (∀ n2 : Int, (-9223372036854775808) <= n2 -> n2 <= 9223372036854775807 ->
 (∀ n3 : Int, (-9223372036854775808) <= n3 -> n3 <= 9223372036854775807 ->
 (Pre_pback [[n, n1], [n2, n3]] ->
 (∀ b : Nat, (∀ b1 : Nat, (∀ b2 : Nat, (Pre_crossed [[n], [n2], [n1], [n3]] /\
 (∀ n4 : Int, (-9223372036854775808) <= n4 -> n4 <= 9223372036854775807 ->
 (Post_crossed [[n], [n2], [n1], [n3]] [[n4]] ->
 (∀ n5 : Int, n5 = (IntKind.wrap .i64 (0 - n)) -> (-9223372036854775808) <= n5 -> n5 <= 9223372036854775807 ->
 (Pre_crossed [[n1], [n2], [n5], [n3]] /\
 (∀ n6 : Int, (-9223372036854775808) <= n6 -> n6 <= 9223372036854775807 ->
 (Post_crossed [[n1], [n2], [n5], [n3]] [[n6]] ->
 Post_pback [[n, n1], [n2, n3]] [[n4, n6]])))))))))))))))
theorem c_pback : canCall Tryz.prog 101 = true := by kernel_rfl
theorem s_pback : P_pback = sat E (symTop Tryz.prog tab36 2000 101 ash_pback sh_pback) := by kernel_rfl
theorem pure_pback (hV : Valid Tryz.prog tab36 E) (h : P_pback) : PureE 101 ash_pback sh_pback := fun args ha hp => top_sat hV (@Eq.mp _ _ s_pback h) args ha hp
theorem step_pback (hV : Valid Tryz.prog tab36 E) (h : P_pback) : Valid Tryz.prog tab37 E := hV.add c_pback (pure_pback hV h)
def P_quarters : Prop :=
  (∀ n : Int, (-2147483648) <= n -> n <= 2147483647 ->
  (Pre_quarters [[n]] ->
  (∀ n1 : Int, n1 = (n.tdiv 5898240) -> (-2147483648) <= n1 -> n1 <= 2147483648 ->
  ((((n.tmod 5898240) < 0) ->
    (∀ n2 : Int, n2 = (n1 - 1) -> (-2147483649) <= n2 -> n2 <= 2147483647 ->
    (∀ n3 : Int, n3 = (bitsI .and .i64 n2 3) -> (-9223372036854775808) <= n3 -> n3 <= 9223372036854775807 ->
    (∀ n4 : Int, n4 = ((IntKind.wrap .u64 ((IntKind.wrap .u64 (n - (n2 * 5898240))) * 1099511627776)) / 5898240) -> 0 <= n4 -> n4 <= 3127499741229 ->
    ((0 <= n3) /\
    ((n3 <= 3) /\
    (∀ n5 : Int, n5 = n3 -> 0 <= n5 -> n5 <= 3 ->
    ((n4 <= 1099511627775) /\
    (∀ n6 : Int, n6 = n4 -> 0 <= n6 -> n6 <= 1099511627775 ->
    Post_quarters [[n]] [[n5], [n6]]))))))))) /\
   (¬ ((n.tmod 5898240) < 0) ->
    (∀ n2 : Int, n2 = (bitsI .and .i64 n1 3) -> (-9223372036854775808) <= n2 -> n2 <= 9223372036854775807 ->
    (∀ n3 : Int, n3 = ((IntKind.wrap .u64 ((IntKind.wrap .u64 (n - (n1 * 5898240))) * 1099511627776)) / 5898240) -> 0 <= n3 -> n3 <= 3127499741229 ->
    ((0 <= n2) /\
    ((n2 <= 3) /\
    (∀ n4 : Int, n4 = n2 -> 0 <= n4 -> n4 <= 3 ->
    ((n3 <= 1099511627775) /\
    (∀ n5 : Int, n5 = n3 -> 0 <= n5 -> n5 <= 1099511627775 ->
    Post_quarters [[n]] [[n4], [n5]]))))))))))))
theorem c_quarters : canCall Tryz.prog 108 = true := by kernel_rfl
theorem s_quarters : P_quarters = sat E (symTop Tryz.prog tab37 2000 108 ash_quarters sh_quarters) := by kernel_rfl
theorem pure_quarters (hV : Valid Tryz.prog tab37 E) (h : P_quarters) : PureE 108 ash_quarters sh_quarters := fun args ha hp => top_sat hV (@Eq.mp _ _ s_quarters h) args ha hp
theorem step_quarters (hV : Valid Tryz.prog tab37 E) (h : P_quarters) : Valid Tryz.prog tab38 E := hV.add c_quarters (pure_quarters hV h)
def P_anear : Prop :=
 (∀ n : Int, (-4611686018427387984) <= n -> n <= 4611686018427387984 ->
 (Pre_anear [[n]] ->
 (∀ n1 : Int, n1 = (((n / 35184372088832) + 1) / 2) -> (-65536) <= n1 -> n1 <= 65536 ->
 Post_anear [[n]] [[n1]])))
theorem c_anear : canCall Tryz.prog 110 = true := by kernel_rfl
theorem s_anear : P_anear = sat E (symTop Tryz.prog tab38 2000 110 ash_anear sh_anear) := by kernel_rfl
theorem pure_anear (hV : Valid Tryz.prog tab38 E) (h : P_anear) : PureE 110 ash_anear sh_anear := fun args ha hp => top_sat hV (@Eq.mp _ _ s_anear h) args ha hp
theorem step_anear (hV : Valid Tryz.prog tab38 E) (h : P_anear) : Valid Tryz.prog tab39 E := hV.add c_anear (pure_anear hV h)
def P_direction : Prop :=
  (∀ n : Int, (-2147483648) <= n -> n <= 2147483647 ->
  (Pre_direction [[n]] ->
  (Pre_quarters [[n]] /\
  (∀ n1 : Int, 0 <= n1 -> n1 <= 3 ->
  (∀ n2 : Int, 0 <= n2 -> n2 <= 1099511627775 ->
  (Post_quarters [[n]] [[n1], [n2]] ->
  (Pre_made [] /\
  (Post_made [] [[0, 4611686018427387904, 3260954456333195553, 3260954456333195553, 4260642322793532497, 1764815834521887441, 4523073764714963029, 899695310372275546, 4589479489746651963, 452024275624069879, 4606131040650197959, 226284707652502140, 4610297064819661174, 113176440454146015, 4611338766951757486, 56592481536850978, 4611599204741358746, 28296773447188931, 4611664314954810277, 14148453308909939, 4611680592556051597, 7074234977634092, 4611684661959354333, 3537118529214895, 4611685679310367042, 1768559394657193, 4611685933648131909, 884279713584815, 4611685997232573856, 442139858824434, 4611686013128684388, 221069929666220, 4611686017102712024, 110534964864860, 4611686018096218933, 55267482436398, 4611686018344595661, 27633741218695, 4611686018406689843, 13816870609409, 4611686018422213388, 6908435304712, 4611686018426094274, 3454217652356, 4611686018427064496, 1727108826178, 4611686018427307051, 863554413089, 4611686018427367690, 431777206544, 4611686018427382850, 215888603272, 4611686018427386640, 107944301636, 4611686018427387587, 53972150818, 4611686018427387824, 26986075409, 4611686018427387883, 13493037704, 4611686018427387898, 6746518852, 4611686018427387902, 3373259426, 4611686018427387903, 1686629713, 4611686018427387903, 843314856, 4611686018427387903, 421657428, 4611686018427387903, 210828714, 4611686018427387903, 105414357, 4611686018427387903, 52707178, 4611686018427387903, 26353589, 4611686018427387903, 13176794, 4611686018427387903, 6588397]] ->
  (∀ b : Nat, (∀ b1 : Nat, (Inv_dir [n2] [1, 4611686018427387904, 0] /\
  (∀ n3 : Int, 1 <= n3 -> n3 <= 41 ->
  (∀ n4 : Int, (-4611686018427387984) <= n4 -> n4 <= 4611686018427387984 ->
  (∀ n5 : Int, (-4611686018427387984) <= n5 -> n5 <= 4611686018427387984 ->
  (Inv_dir [n2] [n3, n4, n5] ->
  (∀ vs : List Value, vs.length = 17 ->
  (((n3 < 41) ->
    ((0 <= (40 - n3)) /\
    (∀ n6 : Int, n6 = (40 - n3) -> 0 <= n6 -> n6 <= 39 ->
    (((((shI .shr .u64 n2 n6) % 2) = 1) ->
      ((n3 < 41) /\
      (∀ n7 : Int, n7 = (tX.getD (Int.toNat n3) 0) -> 0 <= n7 -> n7 <= 4611686018427387903 ->
      (∀ n8 : Int, n8 = (tY.getD (Int.toNat n3) 0) -> 0 <= n8 -> n8 <= 4611686018427387904 ->
      (Pre_pon [[n4, n5], [n7, n8]] /\
      (∀ n9 : Int, (-9223372036854775808) <= n9 -> n9 <= 9223372036854775807 ->
      (∀ n10 : Int, (-9223372036854775808) <= n10 -> n10 <= 9223372036854775807 ->
      (Post_pon [[n4, n5], [n7, n8]] [[n9, n10]] ->
      (∀ n11 : Int, n11 = (n3 + 1) -> 2 <= n11 -> n11 <= 42 ->
      ((n11 <= 41) /\
      (∀ n12 : Int, n12 = n11 -> 1 <= n12 -> n12 <= 41 ->
      (((-4611686018427387984) <= n9) /\
      ((n9 <= 4611686018427387984) /\
      (∀ n13 : Int, n13 = n9 -> (-4611686018427387984) <= n13 -> n13 <= 4611686018427387984 ->
      (((-4611686018427387984) <= n10) /\
      ((n10 <= 4611686018427387984) /\
      (∀ n14 : Int, n14 = n10 -> (-4611686018427387984) <= n14 -> n14 <= 4611686018427387984 ->
      (Inv_dir [n2] [n12, n13, n14] /\ Mea_dir [n2] [n12, n13, n14] < Mea_dir [n2] [n3, n4, n5])))))))))))))))))) /\
     (¬ (((shI .shr .u64 n2 n6) % 2) = 1) ->
      (∀ n7 : Int, n7 = (n3 + 1) -> 2 <= n7 -> n7 <= 42 ->
      ((n7 <= 41) /\
      (∀ n8 : Int, n8 = n7 -> 1 <= n8 -> n8 <= 41 ->
      (Inv_dir [n2] [n8, n4, n5] /\ Mea_dir [n2] [n8, n4, n5] < Mea_dir [n2] [n3, n4, n5]))))))))) /\
   (¬ (n3 < 41) ->
    (Pre_anear [[n4]] /\
    (∀ n6 : Int, (-65537) <= n6 -> n6 <= 65537 ->
    (Post_anear [[n4]] [[n6]] ->
    (Pre_anear [[n5]] /\
    (∀ n7 : Int, (-65537) <= n7 -> n7 <= 65537 ->
    (Post_anear [[n5]] [[n7]] ->
    (((0 < n1) ->
      (∀ n8 : Int, n8 = (0 - n7) -> (-65537) <= n8 -> n8 <= 65537 ->
      (((1 < n1) ->
        (∀ n9 : Int, n9 = (0 - n6) -> (-65537) <= n9 -> n9 <= 65537 ->
        (((2 < n1) ->
          (∀ n10 : Int, n10 = (0 - n8) -> (-65537) <= n10 -> n10 <= 65537 ->
          (((-65536) <= n10) /\
          ((n10 <= 65536) /\
          (∀ n11 : Int, n11 = n10 -> (-65536) <= n11 -> n11 <= 65536 ->
          (((-65536) <= n9) /\
          ((n9 <= 65536) /\
          (∀ n12 : Int, n12 = n9 -> (-65536) <= n12 -> n12 <= 65536 ->
          Post_direction [[n]] [[n11], [n12]])))))))) /\
         (¬ (2 < n1) ->
          (((-65536) <= n9) /\
          ((n9 <= 65536) /\
          (∀ n10 : Int, n10 = n9 -> (-65536) <= n10 -> n10 <= 65536 ->
          (((-65536) <= n8) /\
          ((n8 <= 65536) /\
          (∀ n11 : Int, n11 = n8 -> (-65536) <= n11 -> n11 <= 65536 ->
          Post_direction [[n]] [[n10], [n11]])))))))))) /\
       (¬ (1 < n1) ->
        (((-65536) <= n8) /\
        ((n8 <= 65536) /\
        (∀ n9 : Int, n9 = n8 -> (-65536) <= n9 -> n9 <= 65536 ->
        (((-65536) <= n6) /\
        ((n6 <= 65536) /\
        (∀ n10 : Int, n10 = n6 -> (-65536) <= n10 -> n10 <= 65536 ->
        Post_direction [[n]] [[n9], [n10]])))))))))) /\
     (¬ (0 < n1) ->
      (((-65536) <= n6) /\
      ((n6 <= 65536) /\
      (∀ n8 : Int, n8 = n6 -> (-65536) <= n8 -> n8 <= 65536 ->
      (((-65536) <= n7) /\
      ((n7 <= 65536) /\
      (∀ n9 : Int, n9 = n7 -> (-65536) <= n9 -> n9 <= 65536 ->
      Post_direction [[n]] [[n8], [n9]]))))))))))))))))))))))))))))))))
theorem c_direction : canCall Tryz.prog 91 = true := by kernel_rfl
theorem s_direction : P_direction = sat E (symTop Tryz.prog tab39 2000 91 ash_direction sh_direction) := by kernel_rfl
theorem pure_direction (hV : Valid Tryz.prog tab39 E) (h : P_direction) : PureE 91 ash_direction sh_direction := fun args ha hp => top_sat hV (@Eq.mp _ _ s_direction h) args ha hp
theorem step_direction (hV : Valid Tryz.prog tab39 E) (h : P_direction) : Valid Tryz.prog tab40 E := hV.add c_direction (pure_direction hV h)
def P_asin : Prop :=
 (∀ n : Int, (-2147483648) <= n -> n <= 2147483647 ->
 (Pre_asin [[n]] ->
 (Pre_direction [[n]] /\
 (∀ n1 : Int, (-65536) <= n1 -> n1 <= 65536 ->
 (∀ n2 : Int, (-65536) <= n2 -> n2 <= 65536 ->
 (Post_direction [[n]] [[n1], [n2]] ->
 Post_asin [[n]] [[n2]]))))))
theorem c_asin : canCall Tryz.prog 73 = true := by kernel_rfl
theorem s_asin : P_asin = sat E (symTop Tryz.prog tab40 2000 73 ash_asin sh_asin) := by kernel_rfl
theorem pure_asin (hV : Valid Tryz.prog tab40 E) (h : P_asin) : PureE 73 ash_asin sh_asin := fun args ha hp => top_sat hV (@Eq.mp _ _ s_asin h) args ha hp
theorem step_asin (hV : Valid Tryz.prog tab40 E) (h : P_asin) : Valid Tryz.prog tab41 E := hV.add c_asin (pure_asin hV h)
def P_acos : Prop :=
 (∀ n : Int, (-2147483648) <= n -> n <= 2147483647 ->
 (Pre_acos [[n]] ->
 (Pre_direction [[n]] /\
 (∀ n1 : Int, (-65536) <= n1 -> n1 <= 65536 ->
 (∀ n2 : Int, (-65536) <= n2 -> n2 <= 65536 ->
 (Post_direction [[n]] [[n1], [n2]] ->
 Post_acos [[n]] [[n1]]))))))
theorem c_acos : canCall Tryz.prog 74 = true := by kernel_rfl
theorem s_acos : P_acos = sat E (symTop Tryz.prog tab41 2000 74 ash_acos sh_acos) := by kernel_rfl
theorem pure_acos (hV : Valid Tryz.prog tab41 E) (h : P_acos) : PureE 74 ash_acos sh_acos := fun args ha hp => top_sat hV (@Eq.mp _ _ s_acos h) args ha hp
theorem step_acos (hV : Valid Tryz.prog tab41 E) (h : P_acos) : Valid Tryz.prog tab42 E := hV.add c_acos (pure_acos hV h)
def P_afirst : Prop :=
  (∀ n : Int, (-9223372036854775808) <= n -> n <= 9223372036854775807 ->
  (∀ n1 : Int, (-9223372036854775808) <= n1 -> n1 <= 9223372036854775807 ->
  (Pre_afirst [[n], [n1]] ->
  (∀ b : Nat, (((0 < n) ->
    (((0 <= n1) ->
      ((1 <= n) /\
      ((n <= 2147483648) /\
      (∀ n2 : Int, n2 = n -> 1 <= n2 -> n2 <= 2147483648 ->
      ((0 <= n1) /\
      ((n1 <= 2147483648) /\
      (∀ n3 : Int, n3 = n1 -> 0 <= n3 -> n3 <= 2147483648 ->
      Post_afirst [[n], [n1]] [[0], [n2, n3]]))))))) /\
     (¬ (0 <= n1) ->
      (((0 < n1) ->
        (∀ n2 : Int, n2 = (IntKind.wrap .i64 (0 - n)) -> (-9223372036854775808) <= n2 -> n2 <= 9223372036854775807 ->
        ((1 <= n1) /\
        ((n1 <= 2147483648) /\
        (∀ n3 : Int, n3 = n1 -> 1 <= n3 -> n3 <= 2147483648 ->
        ((0 <= n2) /\
        ((n2 <= 2147483648) /\
        (∀ n4 : Int, n4 = n2 -> 0 <= n4 -> n4 <= 2147483648 ->
        Post_afirst [[n], [n1]] [[1], [n3, n4]])))))))) /\
       (¬ (0 < n1) ->
        (((n < 0) ->
          (∀ n2 : Int, n2 = (IntKind.wrap .i64 (0 - n)) -> (-9223372036854775808) <= n2 -> n2 <= 9223372036854775807 ->
          (∀ n3 : Int, n3 = (IntKind.wrap .i64 (0 - n1)) -> (-9223372036854775808) <= n3 -> n3 <= 9223372036854775807 ->
          ((1 <= n2) /\
          ((n2 <= 2147483648) /\
          (∀ n4 : Int, n4 = n2 -> 1 <= n4 -> n4 <= 2147483648 ->
          ((0 <= n3) /\
          ((n3 <= 2147483648) /\
          (∀ n5 : Int, n5 = n3 -> 0 <= n5 -> n5 <= 2147483648 ->
          Post_afirst [[n], [n1]] [[2], [n4, n5]]))))))))) /\
         (¬ (n < 0) ->
          (∀ n2 : Int, n2 = (IntKind.wrap .i64 (0 - n1)) -> (-9223372036854775808) <= n2 -> n2 <= 9223372036854775807 ->
          ((1 <= n2) /\
          ((n2 <= 2147483648) /\
          (∀ n3 : Int, n3 = n2 -> 1 <= n3 -> n3 <= 2147483648 ->
          ((0 <= n) /\
          ((n <= 2147483648) /\
          (∀ n4 : Int, n4 = n -> 0 <= n4 -> n4 <= 2147483648 ->
          Post_afirst [[n], [n1]] [[3], [n3, n4]])))))))))))))) /\
   (¬ (0 < n) ->
    (((0 < n1) ->
      (∀ n2 : Int, n2 = (IntKind.wrap .i64 (0 - n)) -> (-9223372036854775808) <= n2 -> n2 <= 9223372036854775807 ->
      ((1 <= n1) /\
      ((n1 <= 2147483648) /\
      (∀ n3 : Int, n3 = n1 -> 1 <= n3 -> n3 <= 2147483648 ->
      ((0 <= n2) /\
      ((n2 <= 2147483648) /\
      (∀ n4 : Int, n4 = n2 -> 0 <= n4 -> n4 <= 2147483648 ->
      Post_afirst [[n], [n1]] [[1], [n3, n4]])))))))) /\
     (¬ (0 < n1) ->
      (((n < 0) ->
        (∀ n2 : Int, n2 = (IntKind.wrap .i64 (0 - n)) -> (-9223372036854775808) <= n2 -> n2 <= 9223372036854775807 ->
        (∀ n3 : Int, n3 = (IntKind.wrap .i64 (0 - n1)) -> (-9223372036854775808) <= n3 -> n3 <= 9223372036854775807 ->
        ((1 <= n2) /\
        ((n2 <= 2147483648) /\
        (∀ n4 : Int, n4 = n2 -> 1 <= n4 -> n4 <= 2147483648 ->
        ((0 <= n3) /\
        ((n3 <= 2147483648) /\
        (∀ n5 : Int, n5 = n3 -> 0 <= n5 -> n5 <= 2147483648 ->
        Post_afirst [[n], [n1]] [[2], [n4, n5]]))))))))) /\
       (¬ (n < 0) ->
        (∀ n2 : Int, n2 = (IntKind.wrap .i64 (0 - n1)) -> (-9223372036854775808) <= n2 -> n2 <= 9223372036854775807 ->
        ((1 <= n2) /\
        ((n2 <= 2147483648) /\
        (∀ n3 : Int, n3 = n2 -> 1 <= n3 -> n3 <= 2147483648 ->
        ((0 <= n) /\
        ((n <= 2147483648) /\
        (∀ n4 : Int, n4 = n -> 0 <= n4 -> n4 <= 2147483648 ->
        Post_afirst [[n], [n1]] [[3], [n3, n4]])))))))))))))))))
theorem c_afirst : canCall Tryz.prog 98 = true := by kernel_rfl
theorem s_afirst : P_afirst = sat E (symTop Tryz.prog tab42 2000 98 ash_afirst sh_afirst) := by kernel_rfl
theorem pure_afirst (hV : Valid Tryz.prog tab42 E) (h : P_afirst) : PureE 98 ash_afirst sh_afirst := fun args ha hp => top_sat hV (@Eq.mp _ _ s_afirst h) args ha hp
theorem step_afirst (hV : Valid Tryz.prog tab42 E) (h : P_afirst) : Valid Tryz.prog tab43 E := hV.add c_afirst (pure_afirst hV h)
def P_atan : Prop :=
  (∀ n : Int, (-2147483648) <= n -> n <= 2147483647 ->
  (∀ n1 : Int, (-2147483648) <= n1 -> n1 <= 2147483647 ->
  (Pre_atan [[n], [n1]] ->
  (((n1 = 0) ->
    (((n = 0) ->
      Post_atan [[n], [n1]] [[0], [12]]) /\
     (¬ (n = 0) ->
      (Pre_afirst [[n1], [n]] /\
      (∀ n2 : Int, 0 <= n2 -> n2 <= 3 ->
      (∀ n3 : Int, 1 <= n3 -> n3 <= 2147483648 ->
      (∀ n4 : Int, 0 <= n4 -> n4 <= 2147483648 ->
      (Post_afirst [[n1], [n]] [[n2], [n3, n4]] ->
      (∀ b : Nat, (∀ n5 : Int, n5 = (max n3 n4) -> 1 <= n5 -> n5 <= 2147483648 ->
      (Pre_log [[n5]] /\
      (∀ n6 : Int, (-9223372036854775808) <= n6 -> n6 <= 9223372036854775807 ->
      (Post_log [[n5]] [[n6]] ->
      (∀ n7 : Int, n7 = (IntKind.wrap .i64 (60 - n6)) -> (-9223372036854775808) <= n7 -> n7 <= 9223372036854775807 ->
      ((0 <= n7) /\
      (∀ n8 : Int, n8 = n7 -> 0 <= n8 -> n8 <= 9223372036854775807 ->
      ((0 <= n7) /\
      (∀ n9 : Int, n9 = n7 -> 0 <= n9 -> n9 <= 9223372036854775807 ->
      (∀ n10 : Int, n10 = (shI .shl .i64 n3 n8) -> (-9223372036854775808) <= n10 -> n10 <= 9223372036854775807 ->
      (∀ n11 : Int, n11 = (shI .shl .i64 n4 n9) -> (-9223372036854775808) <= n11 -> n11 <= 9223372036854775807 ->
      (Pre_made [] /\
      (Post_made [] [[0, 4611686018427387904, 3260954456333195553, 3260954456333195553, 4260642322793532497, 1764815834521887441, 4523073764714963029, 899695310372275546, 4589479489746651963, 452024275624069879, 4606131040650197959, 226284707652502140, 4610297064819661174, 113176440454146015, 4611338766951757486, 56592481536850978, 4611599204741358746, 28296773447188931, 4611664314954810277, 14148453308909939, 4611680592556051597, 7074234977634092, 4611684661959354333, 3537118529214895, 4611685679310367042, 1768559394657193, 4611685933648131909, 884279713584815, 4611685997232573856, 442139858824434, 4611686013128684388, 221069929666220, 4611686017102712024, 110534964864860, 4611686018096218933, 55267482436398, 4611686018344595661, 27633741218695, 4611686018406689843, 13816870609409, 4611686018422213388, 6908435304712, 4611686018426094274, 3454217652356, 4611686018427064496, 1727108826178, 4611686018427307051, 863554413089, 4611686018427367690, 431777206544, 4611686018427382850, 215888603272, 4611686018427386640, 107944301636, 4611686018427387587, 53972150818, 4611686018427387824, 26986075409, 4611686018427387883, 13493037704, 4611686018427387898, 6746518852, 4611686018427387902, 3373259426, 4611686018427387903, 1686629713, 4611686018427387903, 843314856, 4611686018427387903, 421657428, 4611686018427387903, 210828714, 4611686018427387903, 105414357, 4611686018427387903, 52707178, 4611686018427387903, 26353589, 4611686018427387903, 13176794, 4611686018427387903, 6588397]] ->
      (∀ b1 : Nat, (((-4611686018427387984) <= n10) /\
      ((n10 <= 4611686018427387984) /\
      (∀ n12 : Int, n12 = n10 -> (-4611686018427387984) <= n12 -> n12 <= 4611686018427387984 ->
      (((-4611686018427387984) <= n11) /\
      ((n11 <= 4611686018427387984) /\
      (∀ n13 : Int, n13 = n11 -> (-4611686018427387984) <= n13 -> n13 <= 4611686018427387984 ->
      (Inv_atn [n2, n12, n13] [1, n2, n12, n13] /\
      (∀ n14 : Int, 1 <= n14 -> n14 <= 41 ->
      (∀ n15 : Int, 0 <= n15 -> n15 <= 4398046511104 ->
      (∀ n16 : Int, (-4611686018427387984) <= n16 -> n16 <= 4611686018427387984 ->
      (∀ n17 : Int, (-4611686018427387984) <= n17 -> n17 <= 4611686018427387984 ->
      (Inv_atn [n2, n12, n13] [n14, n15, n16, n17] ->
      (∀ vs : List Value, vs.length = 22 ->
      (((n14 < 41) ->
        (∀ n18 : Int, n18 = (n15 * 2) -> 0 <= n18 -> n18 <= 8796093022208 ->
        ((n14 < 41) /\
        (∀ n19 : Int, n19 = (tX.getD (Int.toNat n14) 0) -> 0 <= n19 -> n19 <= 4611686018427387903 ->
        (∀ n20 : Int, n20 = (tY.getD (Int.toNat n14) 0) -> 0 <= n20 -> n20 <= 4611686018427387904 ->
        (Pre_pback [[n16, n17], [n19, n20]] /\
        (∀ n21 : Int, (-9223372036854775808) <= n21 -> n21 <= 9223372036854775807 ->
        (∀ n22 : Int, (-9223372036854775808) <= n22 -> n22 <= 9223372036854775807 ->
        (Post_pback [[n16, n17], [n19, n20]] [[n21, n22]] ->
        (∀ b2 : Nat, (((0 <= n22) ->
          (∀ n23 : Int, n23 = (n18 + 1) -> 1 <= n23 -> n23 <= 8796093022209 ->
          (∀ n24 : Int, n24 = (n14 + 1) -> 2 <= n24 -> n24 <= 42 ->
          ((n24 <= 41) /\
          (∀ n25 : Int, n25 = n24 -> 1 <= n25 -> n25 <= 41 ->
          ((n23 <= 4398046511104) /\
          (∀ n26 : Int, n26 = n23 -> 0 <= n26 -> n26 <= 4398046511104 ->
          (((-4611686018427387984) <= n21) /\
          ((n21 <= 4611686018427387984) /\
          (∀ n27 : Int, n27 = n21 -> (-4611686018427387984) <= n27 -> n27 <= 4611686018427387984 ->
          (((-4611686018427387984) <= n22) /\
          ((n22 <= 4611686018427387984) /\
          (∀ n28 : Int, n28 = n22 -> (-4611686018427387984) <= n28 -> n28 <= 4611686018427387984 ->
          (Inv_atn [n2, n12, n13] [n25, n26, n27, n28] /\ Mea_atn [n2, n12, n13] [n25, n26, n27, n28] < Mea_atn [n2, n12, n13] [n14, n15, n16, n17])))))))))))))) /\
         (¬ (0 <= n22) ->
          (∀ n23 : Int, n23 = (n14 + 1) -> 2 <= n23 -> n23 <= 42 ->
          ((n23 <= 41) /\
          (∀ n24 : Int, n24 = n23 -> 1 <= n24 -> n24 <= 41 ->
          ((n18 <= 4398046511104) /\
          (∀ n25 : Int, n25 = n18 -> 0 <= n25 -> n25 <= 4398046511104 ->
          (Inv_atn [n2, n12, n13] [n24, n25, n16, n17] /\ Mea_atn [n2, n12, n13] [n24, n25, n16, n17] < Mea_atn [n2, n12, n13] [n14, n15, n16, n17])))))))))))))))))) /\
       (¬ (n14 < 41) ->
        (Pre_wmul [[n15], [5898240]] /\
        (∀ n18 : Int, (-9223372036854775808) <= n18 -> n18 <= 9223372036854775807 ->
        (∀ n19 : Int, 0 <= n19 -> n19 <= 18446744073709551615 ->
        (Post_wmul [[n15], [5898240]] [[n18, n19]] ->
        (Pre_wnear [[n18, n19], [1099511627776]] /\
        (∀ n20 : Int, (-9223372036854775808) <= n20 -> n20 <= 9223372036854775807 ->
        (∀ n21 : Int, 0 <= n21 -> n21 <= 18446744073709551615 ->
        (∀ n22 : Int, 0 <= n22 -> n22 <= 11 ->
        (Post_wnear [[n18, n19], [1099511627776]] [[n20, n21], [n22]] ->
        (∀ b2 : Nat, (Pre_wint [[n20, n21]] /\
        (∀ n23 : Int, (-9223372036854775808) <= n23 -> n23 <= 9223372036854775807 ->
        (∀ t : Bool, (Post_wint [[n20, n21]] [[n23], [b2i t]] ->
        (∀ n24 : Int, n24 = (IntKind.wrap .i32 (n23.tmod 23592960)) -> (-2147483648) <= n24 -> n24 <= 2147483647 ->
        ((0 <= n24) /\
        ((n24 <= 23592959) /\
        (∀ n25 : Int, n25 = n24 -> 0 <= n25 -> n25 <= 23592959 ->
        Post_atan [[n], [n1]] [[n25], [0]])))))))))))))))))))))))))))))))))))))))))))))))))))))))) /\
   (¬ (n1 = 0) ->
    (Pre_afirst [[n1], [n]] /\
    (∀ n2 : Int, 0 <= n2 -> n2 <= 3 ->
    (∀ n3 : Int, 1 <= n3 -> n3 <= 2147483648 ->
    (∀ n4 : Int, 0 <= n4 -> n4 <= 2147483648 ->
    (Post_afirst [[n1], [n]] [[n2], [n3, n4]] ->
    (∀ b : Nat, (∀ n5 : Int, n5 = (max n3 n4) -> 1 <= n5 -> n5 <= 2147483648 ->
    (Pre_log [[n5]] /\
    (∀ n6 : Int, (-9223372036854775808) <= n6 -> n6 <= 9223372036854775807 ->
    (Post_log [[n5]] [[n6]] ->
    (∀ n7 : Int, n7 = (IntKind.wrap .i64 (60 - n6)) -> (-9223372036854775808) <= n7 -> n7 <= 9223372036854775807 ->
    ((0 <= n7) /\
    (∀ n8 : Int, n8 = n7 -> 0 <= n8 -> n8 <= 9223372036854775807 ->
    ((0 <= n7) /\
    (∀ n9 : Int, n9 = n7 -> 0 <= n9 -> n9 <= 9223372036854775807 ->
    (∀ n10 : Int, n10 = (shI .shl .i64 n3 n8) -> (-9223372036854775808) <= n10 -> n10 <= 9223372036854775807 ->
    (∀ n11 : Int, n11 = (shI .shl .i64 n4 n9) -> (-9223372036854775808) <= n11 -> n11 <= 9223372036854775807 ->
    (Pre_made [] /\
    (Post_made [] [[0, 4611686018427387904, 3260954456333195553, 3260954456333195553, 4260642322793532497, 1764815834521887441, 4523073764714963029, 899695310372275546, 4589479489746651963, 452024275624069879, 4606131040650197959, 226284707652502140, 4610297064819661174, 113176440454146015, 4611338766951757486, 56592481536850978, 4611599204741358746, 28296773447188931, 4611664314954810277, 14148453308909939, 4611680592556051597, 7074234977634092, 4611684661959354333, 3537118529214895, 4611685679310367042, 1768559394657193, 4611685933648131909, 884279713584815, 4611685997232573856, 442139858824434, 4611686013128684388, 221069929666220, 4611686017102712024, 110534964864860, 4611686018096218933, 55267482436398, 4611686018344595661, 27633741218695, 4611686018406689843, 13816870609409, 4611686018422213388, 6908435304712, 4611686018426094274, 3454217652356, 4611686018427064496, 1727108826178, 4611686018427307051, 863554413089, 4611686018427367690, 431777206544, 4611686018427382850, 215888603272, 4611686018427386640, 107944301636, 4611686018427387587, 53972150818, 4611686018427387824, 26986075409, 4611686018427387883, 13493037704, 4611686018427387898, 6746518852, 4611686018427387902, 3373259426, 4611686018427387903, 1686629713, 4611686018427387903, 843314856, 4611686018427387903, 421657428, 4611686018427387903, 210828714, 4611686018427387903, 105414357, 4611686018427387903, 52707178, 4611686018427387903, 26353589, 4611686018427387903, 13176794, 4611686018427387903, 6588397]] ->
    (∀ b1 : Nat, (((-4611686018427387984) <= n10) /\
    ((n10 <= 4611686018427387984) /\
    (∀ n12 : Int, n12 = n10 -> (-4611686018427387984) <= n12 -> n12 <= 4611686018427387984 ->
    (((-4611686018427387984) <= n11) /\
    ((n11 <= 4611686018427387984) /\
    (∀ n13 : Int, n13 = n11 -> (-4611686018427387984) <= n13 -> n13 <= 4611686018427387984 ->
    (Inv_atn [n2, n12, n13] [1, n2, n12, n13] /\
    (∀ n14 : Int, 1 <= n14 -> n14 <= 41 ->
    (∀ n15 : Int, 0 <= n15 -> n15 <= 4398046511104 ->
    (∀ n16 : Int, (-4611686018427387984) <= n16 -> n16 <= 4611686018427387984 ->
    (∀ n17 : Int, (-4611686018427387984) <= n17 -> n17 <= 4611686018427387984 ->
    (Inv_atn [n2, n12, n13] [n14, n15, n16, n17] ->
    (∀ vs : List Value, vs.length = 22 ->
    (((n14 < 41) ->
      (∀ n18 : Int, n18 = (n15 * 2) -> 0 <= n18 -> n18 <= 8796093022208 ->
      ((n14 < 41) /\
      (∀ n19 : Int, n19 = (tX.getD (Int.toNat n14) 0) -> 0 <= n19 -> n19 <= 4611686018427387903 ->
      (∀ n20 : Int, n20 = (tY.getD (Int.toNat n14) 0) -> 0 <= n20 -> n20 <= 4611686018427387904 ->
      (Pre_pback [[n16, n17], [n19, n20]] /\
      (∀ n21 : Int, (-9223372036854775808) <= n21 -> n21 <= 9223372036854775807 ->
      (∀ n22 : Int, (-9223372036854775808) <= n22 -> n22 <= 9223372036854775807 ->
      (Post_pback [[n16, n17], [n19, n20]] [[n21, n22]] ->
      (∀ b2 : Nat, (((0 <= n22) ->
        (∀ n23 : Int, n23 = (n18 + 1) -> 1 <= n23 -> n23 <= 8796093022209 ->
        (∀ n24 : Int, n24 = (n14 + 1) -> 2 <= n24 -> n24 <= 42 ->
        ((n24 <= 41) /\
        (∀ n25 : Int, n25 = n24 -> 1 <= n25 -> n25 <= 41 ->
        ((n23 <= 4398046511104) /\
        (∀ n26 : Int, n26 = n23 -> 0 <= n26 -> n26 <= 4398046511104 ->
        (((-4611686018427387984) <= n21) /\
        ((n21 <= 4611686018427387984) /\
        (∀ n27 : Int, n27 = n21 -> (-4611686018427387984) <= n27 -> n27 <= 4611686018427387984 ->
        (((-4611686018427387984) <= n22) /\
        ((n22 <= 4611686018427387984) /\
        (∀ n28 : Int, n28 = n22 -> (-4611686018427387984) <= n28 -> n28 <= 4611686018427387984 ->
        (Inv_atn [n2, n12, n13] [n25, n26, n27, n28] /\ Mea_atn [n2, n12, n13] [n25, n26, n27, n28] < Mea_atn [n2, n12, n13] [n14, n15, n16, n17])))))))))))))) /\
       (¬ (0 <= n22) ->
        (∀ n23 : Int, n23 = (n14 + 1) -> 2 <= n23 -> n23 <= 42 ->
        ((n23 <= 41) /\
        (∀ n24 : Int, n24 = n23 -> 1 <= n24 -> n24 <= 41 ->
        ((n18 <= 4398046511104) /\
        (∀ n25 : Int, n25 = n18 -> 0 <= n25 -> n25 <= 4398046511104 ->
        (Inv_atn [n2, n12, n13] [n24, n25, n16, n17] /\ Mea_atn [n2, n12, n13] [n24, n25, n16, n17] < Mea_atn [n2, n12, n13] [n14, n15, n16, n17])))))))))))))))))) /\
     (¬ (n14 < 41) ->
      (Pre_wmul [[n15], [5898240]] /\
      (∀ n18 : Int, (-9223372036854775808) <= n18 -> n18 <= 9223372036854775807 ->
      (∀ n19 : Int, 0 <= n19 -> n19 <= 18446744073709551615 ->
      (Post_wmul [[n15], [5898240]] [[n18, n19]] ->
      (Pre_wnear [[n18, n19], [1099511627776]] /\
      (∀ n20 : Int, (-9223372036854775808) <= n20 -> n20 <= 9223372036854775807 ->
      (∀ n21 : Int, 0 <= n21 -> n21 <= 18446744073709551615 ->
      (∀ n22 : Int, 0 <= n22 -> n22 <= 11 ->
      (Post_wnear [[n18, n19], [1099511627776]] [[n20, n21], [n22]] ->
      (∀ b2 : Nat, (Pre_wint [[n20, n21]] /\
      (∀ n23 : Int, (-9223372036854775808) <= n23 -> n23 <= 9223372036854775807 ->
      (∀ t : Bool, (Post_wint [[n20, n21]] [[n23], [b2i t]] ->
      (∀ n24 : Int, n24 = (IntKind.wrap .i32 (n23.tmod 23592960)) -> (-2147483648) <= n24 -> n24 <= 2147483647 ->
      ((0 <= n24) /\
      ((n24 <= 23592959) /\
      (∀ n25 : Int, n25 = n24 -> 0 <= n25 -> n25 <= 23592959 ->
      Post_atan [[n], [n1]] [[n25], [0]]))))))))))))))))))))))))))))))))))))))))))))))))))))))))))
theorem c_atan : canCall Tryz.prog 80 = true := by kernel_rfl
theorem s_atan : P_atan = sat E (symTop Tryz.prog tab43 2000 80 ash_atan sh_atan) := by kernel_rfl
theorem pure_atan (hV : Valid Tryz.prog tab43 E) (h : P_atan) : PureE 80 ash_atan sh_atan := fun args ha hp => top_sat hV (@Eq.mp _ _ s_atan h) args ha hp
theorem step_atan (hV : Valid Tryz.prog tab43 E) (h : P_atan) : Valid Tryz.prog tab44 E := hV.add c_atan (pure_atan hV h)
def P_sat : Prop :=
 (∀ n : Int, (-9223372036854775808) <= n -> n <= 9223372036854775807 ->
 (Pre_sat [[n]] ->
 (∀ n1 : Int, n1 = (max (-2147483648) (min 2147483647 n)) -> (-2147483648) <= n1 -> n1 <= 2147483647 ->
 Post_sat [[n]] [[n1]])))
theorem c_sat : canCall Tryz.prog 32 = true := by kernel_rfl
theorem s_sat : P_sat = sat E (symTop Tryz.prog tab44 2000 32 ash_sat sh_sat) := by kernel_rfl
theorem pure_sat (hV : Valid Tryz.prog tab44 E) (h : P_sat) : PureE 32 ash_sat sh_sat := fun args ha hp => top_sat hV (@Eq.mp _ _ s_sat h) args ha hp
theorem step_sat (hV : Valid Tryz.prog tab44 E) (h : P_sat) : Valid Tryz.prog tab45 E := hV.add c_sat (pure_sat hV h)
def P_held : Prop :=
  (∀ n : Int, (-9223372036854775808) <= n -> n <= 9223372036854775807 ->
  (∀ n1 : Int, 0 <= n1 -> n1 <= 18446744073709551615 ->
  (∀ n2 : Int, (-9223372036854775808) <= n2 -> n2 <= 9223372036854775807 ->
  (Pre_held [[n, n1, n2]] ->
  (∀ b : Nat, (Pre_wnear [[n, n1], [n2]] /\
  (∀ n3 : Int, (-9223372036854775808) <= n3 -> n3 <= 9223372036854775807 ->
  (∀ n4 : Int, 0 <= n4 -> n4 <= 18446744073709551615 ->
  (∀ n5 : Int, 0 <= n5 -> n5 <= 11 ->
  (Post_wnear [[n, n1], [n2]] [[n3, n4], [n5]] ->
  (∀ b1 : Nat, (Pre_wint [[n3, n4]] /\
  (∀ n6 : Int, (-9223372036854775808) <= n6 -> n6 <= 9223372036854775807 ->
  (∀ t : Bool, (Post_wint [[n3, n4]] [[n6], [b2i t]] ->
  (((t = true) ->
    (Pre_sat [[n6]] /\
    (∀ n7 : Int, (-2147483648) <= n7 -> n7 <= 2147483647 ->
    (Post_sat [[n6]] [[n7]] ->
    Post_held [[n, n1, n2]] [[n7]])))) /\
   (¬ (t = true) ->
    (((n3 < 0) ->
      Post_held [[n, n1, n2]] [[(-2147483648)]]) /\
     (¬ (n3 < 0) ->
      Post_held [[n, n1, n2]] [[2147483647]])))))))))))))))))))
theorem c_held : canCall Tryz.prog 34 = true := by kernel_rfl
theorem s_held : P_held = sat E (symTop Tryz.prog tab45 2000 34 ash_held sh_held) := by kernel_rfl
theorem pure_held (hV : Valid Tryz.prog tab45 E) (h : P_held) : PureE 34 ash_held sh_held := fun args ha hp => top_sat hV (@Eq.mp _ _ s_held h) args ha hp
theorem step_held (hV : Valid Tryz.prog tab45 E) (h : P_held) : Valid Tryz.prog tab46 E := hV.add c_held (pure_held hV h)
def P_fmul : Prop :=
 (∀ n : Int, (-2147483648) <= n -> n <= 2147483647 ->
 (∀ n1 : Int, (-2147483648) <= n1 -> n1 <= 2147483647 ->
 (Pre_fmul [[n], [n1]] ->
 (Pre_wmul [[n], [n1]] /\
 (∀ n2 : Int, (-9223372036854775808) <= n2 -> n2 <= 9223372036854775807 ->
 (∀ n3 : Int, 0 <= n3 -> n3 <= 18446744073709551615 ->
 (Post_wmul [[n], [n1]] [[n2, n3]] ->
 (Pre_held [[n2, n3, 65536]] /\
 (∀ n4 : Int, (-2147483648) <= n4 -> n4 <= 2147483647 ->
 (Post_held [[n2, n3, 65536]] [[n4]] ->
 Post_fmul [[n], [n1]] [[n4]]))))))))))
theorem c_fmul : canCall Tryz.prog 20 = true := by kernel_rfl
theorem s_fmul : P_fmul = sat E (symTop Tryz.prog tab46 2000 20 ash_fmul sh_fmul) := by kernel_rfl
theorem pure_fmul (hV : Valid Tryz.prog tab46 E) (h : P_fmul) : PureE 20 ash_fmul sh_fmul := fun args ha hp => top_sat hV (@Eq.mp _ _ s_fmul h) args ha hp
theorem step_fmul (hV : Valid Tryz.prog tab46 E) (h : P_fmul) : Valid Tryz.prog tab47 E := hV.add c_fmul (pure_fmul hV h)
def P_fby : Prop :=
  (∀ n : Int, (-9223372036854775808) <= n -> n <= 9223372036854775807 ->
  (∀ n1 : Int, (-2147483648) <= n1 -> n1 <= 2147483647 ->
  (Pre_fby [[n], [n1]] ->
  (∀ b : Nat, (((n1 = 0) ->
    Post_fby [[n], [n1]] [[0, 0, 0], [12]]) /\
   (¬ (n1 = 0) ->
    (((n1 < 0) ->
      (Pre_wmul [[n], [(-65536)]] /\
      (∀ n2 : Int, (-9223372036854775808) <= n2 -> n2 <= 9223372036854775807 ->
      (∀ n3 : Int, 0 <= n3 -> n3 <= 18446744073709551615 ->
      (Post_wmul [[n], [(-65536)]] [[n2, n3]] ->
      (∀ n4 : Int, n4 = (0 - n1) -> (-2147483647) <= n4 -> n4 <= 2147483648 ->
      Post_fby [[n], [n1]] [[n2, n3, n4], [0]])))))) /\
     (¬ (n1 < 0) ->
      (Pre_wmul [[n], [65536]] /\
      (∀ n2 : Int, (-9223372036854775808) <= n2 -> n2 <= 9223372036854775807 ->
      (∀ n3 : Int, 0 <= n3 -> n3 <= 18446744073709551615 ->
      (Post_wmul [[n], [65536]] [[n2, n3]] ->
      Post_fby [[n], [n1]] [[n2, n3, n1], [0]]))))))))))))
theorem c_fby : canCall Tryz.prog 114 = true := by kernel_rfl
theorem s_fby : P_fby = sat E (symTop Tryz.prog tab47 2000 114 ash_fby sh_fby) := by kernel_rfl
theorem pure_fby (hV : Valid Tryz.prog tab47 E) (h : P_fby) : PureE 114 ash_fby sh_fby := fun args ha hp => top_sat hV (@Eq.mp _ _ s_fby h) args ha hp
theorem step_fby (hV : Valid Tryz.prog tab47 E) (h : P_fby) : Valid Tryz.prog tab48 E := hV.add c_fby (pure_fby hV h)
def P_fratio : Prop :=
  (∀ n : Int, (-9223372036854775808) <= n -> n <= 9223372036854775807 ->
  (∀ n1 : Int, (-2147483648) <= n1 -> n1 <= 2147483647 ->
  (Pre_fratio [[n], [n1]] ->
  (Pre_fby [[n], [n1]] /\
  (∀ n2 : Int, (-9223372036854775808) <= n2 -> n2 <= 9223372036854775807 ->
  (∀ n3 : Int, 0 <= n3 -> n3 <= 18446744073709551615 ->
  (∀ n4 : Int, (-9223372036854775808) <= n4 -> n4 <= 9223372036854775807 ->
  (∀ n5 : Int, 0 <= n5 -> n5 <= 15 ->
  (Post_fby [[n], [n1]] [[n2, n3, n4], [n5]] ->
  (∀ b : Nat, (((¬ (n5 = 0)) ->
    Post_fratio [[n], [n1]] [[0], [n5]]) /\
   (¬ (¬ (n5 = 0)) ->
    (Pre_held [[n2, n3, n4]] /\
    (∀ n6 : Int, (-2147483648) <= n6 -> n6 <= 2147483647 ->
    (Post_held [[n2, n3, n4]] [[n6]] ->
    Post_fratio [[n], [n1]] [[n6], [0]])))))))))))))))
theorem c_fratio : canCall Tryz.prog 95 = true := by kernel_rfl
theorem s_fratio : P_fratio = sat E (symTop Tryz.prog tab48 2000 95 ash_fratio sh_fratio) := by kernel_rfl
theorem pure_fratio (hV : Valid Tryz.prog tab48 E) (h : P_fratio) : PureE 95 ash_fratio sh_fratio := fun args ha hp => top_sat hV (@Eq.mp _ _ s_fratio h) args ha hp
theorem step_fratio (hV : Valid Tryz.prog tab48 E) (h : P_fratio) : Valid Tryz.prog tab49 E := hV.add c_fratio (pure_fratio hV h)
def pmadeT (p0 : Int) (K : Int -> Prop) : Prop :=
 (∀ b0 : Int, b0 = (p0 / 4) -> 0 <= b0 -> b0 <= 4611686018427387903 ->
 (∀ b1 : Int, b1 = (IntKind.wrap .u64 (p0 * 4611686018427387904)) -> 0 <= b1 -> b1 <= 18446744073709551615 ->
 (Pre_rootWide [[b0, b1]] /\
 (∀ b2 : Int, 0 <= b2 -> b2 <= 18446744073709551615 ->
 (∀ b3 : Int, (-9223372036854775808) <= b3 -> b3 <= 9223372036854775807 ->
 (Post_rootWide [[b0, b1]] [[b2], [b3]] ->
 K b2))))))
def pmadeE (p0 p1 : Int) (K : Int -> Prop) : Prop :=
 ((p0 <= p1) /\
 ((p1 <= p0) /\
 (∀ b0 : Int, b0 = p1 -> p0 <= b0 -> b0 <= p0 ->
 K b0)))
def P_pmade : Prop :=
 (Pre_pmade [] ->
 (∀ b : Nat, (∀ b1 : Nat, (Pre_rootWide [[2305843009213693952, 0]] /\
 (∀ n : Int, 0 <= n -> n <= 18446744073709551615 ->
 (∀ n1 : Int, (-9223372036854775808) <= n1 -> n1 <= 9223372036854775807 ->
 (Post_rootWide [[2305843009213693952, 0]] [[n], [n1]] ->
 (pmadeT n fun n4 =>
 (pmadeT n4 fun n8 =>
 (pmadeT n8 fun n12 =>
 (pmadeT n12 fun n16 =>
 (pmadeT n16 fun n20 =>
 (pmadeT n20 fun n24 =>
 (pmadeT n24 fun n28 =>
 (pmadeT n28 fun n32 =>
 (pmadeT n32 fun n36 =>
 (pmadeT n36 fun n40 =>
 (pmadeT n40 fun n44 =>
 (pmadeT n44 fun n48 =>
 (pmadeT n48 fun n52 =>
 (pmadeT n52 fun n56 =>
 (pmadeT n56 fun n60 =>
 (pmadeT n60 fun n64 =>
 (pmadeT n64 fun n68 =>
 (pmadeT n68 fun n72 =>
 (pmadeT n72 fun n76 =>
 (pmadeT n76 fun n80 =>
 (pmadeT n80 fun n84 =>
 (pmadeT n84 fun n88 =>
 (pmadeT n88 fun n92 =>
 (pmadeT n92 fun n96 =>
 (pmadeT n96 fun n100 =>
 (pmadeT n100 fun n104 =>
 (pmadeT n104 fun n108 =>
 (pmadeT n108 fun n112 =>
 (pmadeT n112 fun n116 =>
 (pmadeT n116 fun n120 =>
 (pmadeT n120 fun n124 =>
 (pmadeE 6521908912666391106 n fun n126 =>
 (pmadeE 5484249825272419511 n4 fun n127 =>
 (pmadeE 5029079263719320435 n8 fun n128 =>
 (pmadeE 4815862801830788490 n12 fun n129 =>
 (pmadeE 4712668792719003883 n16 fun n130 =>
 (pmadeE 4661903986662671289 n20 fun n131 =>
 (pmadeE 4636727017470743989 n24 fun n132 =>
 (pmadeE 4624189567668517719 n28 fun n133 =>
 (pmadeE 4617933561212708775 n32 fun n134 =>
 (pmadeE 4614808732577250067 n36 fun n135 =>
 (pmadeE 4613247111281068007 n40 fun n136 =>
 (pmadeE 4612466498810092973 n44 fun n137 =>
 (pmadeE 4612076242109103706 n48 fun n138 =>
 (pmadeE 4611881126141011235 n52 fun n139 =>
 (pmadeE 4611783571252412753 n56 fun n140 =>
 (pmadeE 4611734794581956352 n60 fun n141 =>
 (pmadeE 4611710406440186475 n64 fun n142 =>
 (pmadeE 4611698212417665818 n68 fun n143 =>
 (pmadeE 4611692115418496523 n72 fun n144 =>
 (pmadeE 4611689066921934629 n76 fun n145 =>
 (pmadeE 4611687542674409370 n80 fun n146 =>
 (pmadeE 4611686780550835663 n84 fun n147 =>
 (pmadeE 4611686399489096040 n88 fun n148 =>
 (pmadeE 4611686208958238036 n92 fun n149 =>
 (pmadeE 4611686113692811986 n96 fun n150 =>
 (pmadeE 4611686066060099699 n100 fun n151 =>
 (pmadeE 4611686042243743740 n104 fun n152 =>
 (pmadeE 4611686030335565806 n108 fun n153 =>
 (pmadeE 4611686024381476851 n112 fun n154 =>
 (pmadeE 4611686021404432376 n116 fun n155 =>
 (pmadeE 4611686019915910139 n120 fun n156 =>
 (pmadeE 4611686019171649021 n124 fun n157 =>
 Post_pmade [] [[0, n126, n127, n128, n129, n130, n131, n132, n133, n134, n135, n136, n137, n138, n139, n140, n141, n142, n143, n144, n145, n146, n147, n148, n149, n150, n151, n152, n153, n154, n155, n156, n157]]))))))))))))))))))))))))))))))))))))))))))))))))))))))))))))))))))))))
theorem c_pmade : canCall Tryz.prog 115 = true := by kernel_rfl
theorem s_pmade : P_pmade = sat E (symTop Tryz.prog tab49 2000 115 ash_pmade sh_pmade) := by kernel_rfl
theorem pure_pmade (hV : Valid Tryz.prog tab49 E) (h : P_pmade) : PureE 115 ash_pmade sh_pmade := fun args ha hp => top_sat hV (@Eq.mp _ _ s_pmade h) args ha hp
theorem step_pmade (hV : Valid Tryz.prog tab49 E) (h : P_pmade) : Valid Tryz.prog tab50 E := hV.add c_pmade (pure_pmade hV h)
def P_ptimes : Prop :=
 (∀ n : Int, 0 <= n -> n <= 18446744073709551615 ->
 (∀ n1 : Int, 0 <= n1 -> n1 <= 18446744073709551615 ->
 (Pre_ptimes [[n], [n1]] ->
 (Pre_mul64 [[n], [n1]] /\
 (∀ n2 : Int, 0 <= n2 -> n2 <= 18446744073709551615 ->
 (∀ n3 : Int, 0 <= n3 -> n3 <= 18446744073709551615 ->
 (Post_mul64 [[n], [n1]] [[n2], [n3]] ->
 (∀ n4 : Int, n4 = (bitsI .or .u64 (IntKind.wrap .u64 (n2 * 4)) (n3 / 4611686018427387904)) -> 0 <= n4 -> n4 <= 18446744073709551615 ->
 Post_ptimes [[n], [n1]] [[n4]]))))))))
theorem c_ptimes : canCall Tryz.prog 113 = true := by kernel_rfl
theorem s_ptimes : P_ptimes = sat E (symTop Tryz.prog tab50 2000 113 ash_ptimes sh_ptimes) := by kernel_rfl
theorem pure_ptimes (hV : Valid Tryz.prog tab50 E) (h : P_ptimes) : PureE 113 ash_ptimes sh_ptimes := fun args ha hp => top_sat hV (@Eq.mp _ _ s_ptimes h) args ha hp
theorem step_ptimes (hV : Valid Tryz.prog tab50 E) (h : P_ptimes) : Valid Tryz.prog tab51 E := hV.add c_ptimes (pure_ptimes hV h)
def P_power : Prop :=
  (∀ n : Int, (-9223372036854775808) <= n -> n <= 9223372036854775807 ->
  (Pre_power [[n]] ->
  (∀ n1 : Int, n1 = (n / 4294967296) -> (-2147483648) <= n1 -> n1 <= 2147483647 ->
  (((15 <= n1) ->
    Post_power [[n]] [[2147483648]]) /\
   (¬ (15 <= n1) ->
    (∀ n2 : Int, n2 = (46 - n1) -> (-2147483601) <= n2 -> n2 <= 2147483694 ->
    (((63 < n2) ->
      Post_power [[n]] [[0]]) /\
     (¬ (63 < n2) ->
      (Pre_pmade [] /\
      (Post_pmade [] [[0, 6521908912666391106, 5484249825272419511, 5029079263719320435, 4815862801830788490, 4712668792719003883, 4661903986662671289, 4636727017470743989, 4624189567668517719, 4617933561212708775, 4614808732577250067, 4613247111281068007, 4612466498810092973, 4612076242109103706, 4611881126141011235, 4611783571252412753, 4611734794581956352, 4611710406440186475, 4611698212417665818, 4611692115418496523, 4611689066921934629, 4611687542674409370, 4611686780550835663, 4611686399489096040, 4611686208958238036, 4611686113692811986, 4611686066060099699, 4611686042243743740, 4611686030335565806, 4611686024381476851, 4611686021404432376, 4611686019915910139, 4611686019171649021]] ->
      (∀ b : Nat, (Inv_pw [n] [0, 4611686018427387904] /\
      (∀ n3 : Int, 0 <= n3 -> n3 <= 33 ->
      (∀ n4 : Int, 4611686018427387904 <= n4 -> n4 <= 9223372036854775808 ->
      (Inv_pw [n] [n3, n4] ->
      (∀ vs : List Value, vs.length = 26 ->
      (((n3 < 33) ->
        (((n3 = 0) ->
          (((n3 + 1) <= 33) /\
          (∀ n5 : Int, n5 = (n3 + 1) -> 0 <= n5 -> n5 <= 33 ->
          (Inv_pw [n] [n5, n4] /\ Mea_pw [n] [n5, n4] < Mea_pw [n] [n3, n4])))) /\
         (¬ (n3 = 0) ->
          ((((IntKind.wrap .u64 ((IntKind.wrap .u64 n) * 4294967296)) = 0) ->
            ((0 <= (n2 - 1)) /\
            (∀ n5 : Int, n5 = (n2 - 1) -> 0 <= n5 -> n5 <= 2147483693 ->
            (∀ n6 : Int, n6 = (min ((IntKind.wrap .u64 ((shI .shr .u64 n4 n5) + 1)) / 2) 2147483648) -> 0 <= n6 -> n6 <= 2147483648 ->
            Post_power [[n]] [[n6]])))) /\
           (¬ ((IntKind.wrap .u64 ((IntKind.wrap .u64 n) * 4294967296)) = 0) ->
            ((0 <= (32 - n3)) /\
            (∀ n5 : Int, n5 = (32 - n3) -> 0 <= n5 -> n5 <= 32 ->
            ((((bitsI .and .i64 (shI .shr .i64 n n5) 1) = 1) ->
              ((n3 < 33) /\
              (∀ n6 : Int, n6 = (tP.getD (Int.toNat n3) 0) -> 0 <= n6 -> n6 <= 6521908912666391106 ->
              (Pre_ptimes [[n4], [n6]] /\
              (∀ n7 : Int, 0 <= n7 -> n7 <= 18446744073709551615 ->
              (Post_ptimes [[n4], [n6]] [[n7]] ->
              (((n3 + 1) <= 33) /\
              (∀ n8 : Int, n8 = (n3 + 1) -> 0 <= n8 -> n8 <= 33 ->
              ((4611686018427387904 <= n7) /\
              ((n7 <= 9223372036854775808) /\
              (∀ n9 : Int, n9 = n7 -> 4611686018427387904 <= n9 -> n9 <= 9223372036854775808 ->
              (Inv_pw [n] [n8, n9] /\ Mea_pw [n] [n8, n9] < Mea_pw [n] [n3, n4])))))))))))) /\
             (¬ ((bitsI .and .i64 (shI .shr .i64 n n5) 1) = 1) ->
              (((n3 + 1) <= 33) /\
              (∀ n6 : Int, n6 = (n3 + 1) -> 0 <= n6 -> n6 <= 33 ->
              (Inv_pw [n] [n6, n4] /\ Mea_pw [n] [n6, n4] < Mea_pw [n] [n3, n4])))))))))))) /\
       (¬ (n3 < 33) ->
        ((0 <= (n2 - 1)) /\
        (∀ n5 : Int, n5 = (n2 - 1) -> 0 <= n5 -> n5 <= 2147483693 ->
        (∀ n6 : Int, n6 = (min ((IntKind.wrap .u64 ((shI .shr .u64 n4 n5) + 1)) / 2) 2147483648) -> 0 <= n6 -> n6 <= 2147483648 ->
        Post_power [[n]] [[n6]])))))))))))))))))))))
theorem c_power : canCall Tryz.prog 96 = true := by kernel_rfl
theorem s_power : P_power = sat E (symTop Tryz.prog tab51 2000 96 ash_power sh_power) := by kernel_rfl
theorem pure_power (hV : Valid Tryz.prog tab51 E) (h : P_power) : PureE 96 ash_power sh_power := fun args ha hp => top_sat hV (@Eq.mp _ _ s_power h) args ha hp
theorem step_power (hV : Valid Tryz.prog tab51 E) (h : P_power) : Valid Tryz.prog tab52 E := hV.add c_power (pure_power hV h)
def P_plong : Prop :=
  (∀ n : Int, 1 <= n -> n <= 2147483648 ->
  (Pre_plong [[n]] ->
  (Pre_log [[n]] /\
  (∀ n1 : Int, (-9223372036854775808) <= n1 -> n1 <= 9223372036854775807 ->
  (Post_log [[n]] [[n1]] ->
  ((0 <= (IntKind.wrap .i64 (62 - n1))) /\
  (∀ n2 : Int, n2 = (IntKind.wrap .i64 (62 - n1)) -> 0 <= n2 -> n2 <= 9223372036854775807 ->
  (∀ n3 : Int, n3 = (shI .shl .u64 n n2) -> 0 <= n3 -> n3 <= 18446744073709551615 ->
  (∀ n4 : Int, n4 = (IntKind.wrap .i64 (n1 - 16)) -> (-9223372036854775808) <= n4 -> n4 <= 9223372036854775807 ->
  ((4611686018427387904 <= n3) /\
  ((n3 <= 9223372036854775807) /\
  (∀ n5 : Int, n5 = n3 -> 4611686018427387904 <= n5 -> n5 <= 9223372036854775807 ->
  (((-17592186044416) <= n4) /\
  ((n4 <= 17592186044416) /\
  (∀ n6 : Int, n6 = n4 -> (-17592186044416) <= n6 -> n6 <= 17592186044416 ->
  (Inv_lng [n5, n6] [0, n5, n6] /\
  (∀ n7 : Int, 0 <= n7 -> n7 <= 40 ->
  (∀ n8 : Int, 4611686018427387904 <= n8 -> n8 <= 9223372036854775807 ->
  (∀ n9 : Int, (-17592186044416) <= n9 -> n9 <= 17592186044416 ->
  (Inv_lng [n5, n6] [n7, n8, n9] ->
  (∀ vs : List Value, vs.length = 22 ->
  (((n7 = 40) ->
    ((n9 <= 16492674416640) /\
    (∀ n10 : Int, n10 = n9 -> (-17592186044416) <= n10 -> n10 <= 16492674416640 ->
    Post_plong [[n]] [[n10]]))) /\
   (¬ (n7 = 40) ->
    (Pre_ptimes [[n8], [n8]] /\
    (∀ n10 : Int, 0 <= n10 -> n10 <= 18446744073709551615 ->
    (Post_ptimes [[n8], [n8]] [[n10]] ->
    (∀ n11 : Int, n11 = (n10 / 9223372036854775808) -> 0 <= n11 -> n11 <= 1 ->
    (∀ n12 : Int, n12 = (shI .shr .u64 n10 n11) -> 0 <= n12 -> n12 <= 18446744073709551615 ->
    (∀ n13 : Int, n13 = ((2 * n9) + n11) -> (-35184372088832) <= n13 -> n13 <= 35184372088833 ->
    (∀ n14 : Int, n14 = (n7 + 1) -> 1 <= n14 -> n14 <= 41 ->
    ((n14 <= 40) /\
    (∀ n15 : Int, n15 = n14 -> 0 <= n15 -> n15 <= 40 ->
    ((4611686018427387904 <= n12) /\
    ((n12 <= 9223372036854775807) /\
    (∀ n16 : Int, n16 = n12 -> 4611686018427387904 <= n16 -> n16 <= 9223372036854775807 ->
    (((-17592186044416) <= n13) /\
    ((n13 <= 17592186044416) /\
    (∀ n17 : Int, n17 = n13 -> (-17592186044416) <= n17 -> n17 <= 17592186044416 ->
    (Inv_lng [n5, n6] [n15, n16, n17] /\ Mea_lng [n5, n6] [n15, n16, n17] < Mea_lng [n5, n6] [n7, n8, n9])))))))))))))))))))))))))))))))))))))))
theorem c_plong : canCall Tryz.prog 94 = true := by kernel_rfl
theorem s_plong : P_plong = sat E (symTop Tryz.prog tab52 2000 94 ash_plong sh_plong) := by kernel_rfl
theorem pure_plong (hV : Valid Tryz.prog tab52 E) (h : P_plong) : PureE 94 ash_plong sh_plong := fun args ha hp => top_sat hV (@Eq.mp _ _ s_plong h) args ha hp
theorem step_plong (hV : Valid Tryz.prog tab52 E) (h : P_plong) : Valid Tryz.prog tab53 E := hV.add c_plong (pure_plong hV h)
def P_pnear : Prop :=
 (∀ n : Int, (-17592186044416) <= n -> n <= 16492674416640 ->
 (Pre_pnear [[n], [24]] ->
 (∀ n1 : Int, n1 = (((n / 8388608) + 1) / 2) -> (-1048576) <= n1 -> n1 <= 983040 ->
 Post_pnear [[n], [24]] [[n1]])))
theorem c_pnear : canCall Tryz.prog 93 = true := by kernel_rfl
theorem s_pnear : P_pnear = sat E (symTop Tryz.prog tab53 2000 93 ash_pnear sh_pnear) := by kernel_rfl
theorem pure_pnear (hV : Valid Tryz.prog tab53 E) (h : P_pnear) : PureE 93 ash_pnear sh_pnear := fun args ha hp => top_sat hV (@Eq.mp _ _ s_pnear h) args ha hp
theorem step_pnear (hV : Valid Tryz.prog tab53 E) (h : P_pnear) : Valid Tryz.prog tab54 E := hV.add c_pnear (pure_pnear hV h)
def P_pexpo : Prop :=
 (∀ n : Int, 1 <= n -> n <= 2147483648 ->
 (∀ n1 : Int, (-2147483648) <= n1 -> n1 <= 2147483647 ->
 (Pre_pexpo [[n], [n1]] ->
 (Pre_plong [[n]] /\
 (∀ n2 : Int, (-17592186044416) <= n2 -> n2 <= 16492674416640 ->
 (Post_plong [[n]] [[n2]] ->
 (Pre_wmul [[n2], [n1]] /\
 (∀ n3 : Int, (-9223372036854775808) <= n3 -> n3 <= 9223372036854775807 ->
 (∀ n4 : Int, 0 <= n4 -> n4 <= 18446744073709551615 ->
 (Post_wmul [[n2], [n1]] [[n3, n4]] ->
 (Pre_wnear [[n3, n4], [16777216]] /\
 (∀ n5 : Int, (-9223372036854775808) <= n5 -> n5 <= 9223372036854775807 ->
 (∀ n6 : Int, 0 <= n6 -> n6 <= 18446744073709551615 ->
 (∀ n7 : Int, 0 <= n7 -> n7 <= 11 ->
 (Post_wnear [[n3, n4], [16777216]] [[n5, n6], [n7]] ->
 (∀ b : Nat, (Pre_wint [[n5, n6]] /\
 (∀ n8 : Int, (-9223372036854775808) <= n8 -> n8 <= 9223372036854775807 ->
 (∀ t : Bool, (Post_wint [[n5, n6]] [[n8], [b2i t]] ->
 (∀ n9 : Int, n9 = (max (-1099511627776) (min 1099511627776 n8)) -> (-1099511627776) <= n9 -> n9 <= 1099511627776 ->
 Post_pexpo [[n], [n1]] [[n9]])))))))))))))))))))))
theorem c_pexpo : canCall Tryz.prog 97 = true := by kernel_rfl
theorem s_pexpo : P_pexpo = sat E (symTop Tryz.prog tab54 2000 97 ash_pexpo sh_pexpo) := by kernel_rfl
theorem pure_pexpo (hV : Valid Tryz.prog tab54 E) (h : P_pexpo) : PureE 97 ash_pexpo sh_pexpo := fun args ha hp => top_sat hV (@Eq.mp _ _ s_pexpo h) args ha hp
theorem step_pexpo (hV : Valid Tryz.prog tab54 E) (h : P_pexpo) : Valid Tryz.prog tab55 E := hV.add c_pexpo (pure_pexpo hV h)
def P_log2 : Prop :=
  (∀ n : Int, (-2147483648) <= n -> n <= 2147483647 ->
  (Pre_log2 [[n]] ->
  (((n <= 0) ->
    Post_log2 [[n]] [[0], [1]]) /\
   (¬ (n <= 0) ->
    (∀ n1 : Int, n1 = (IntKind.wrap .u64 n) -> 0 <= n1 -> n1 <= 18446744073709551615 ->
    ((1 <= n1) /\
    ((n1 <= 2147483648) /\
    (∀ n2 : Int, n2 = n1 -> 1 <= n2 -> n2 <= 2147483648 ->
    (Pre_plong [[n2]] /\
    (∀ n3 : Int, (-17592186044416) <= n3 -> n3 <= 16492674416640 ->
    (Post_plong [[n2]] [[n3]] ->
    (Pre_pnear [[n3], [24]] /\
    (∀ n4 : Int, (-1048576) <= n4 -> n4 <= 983040 ->
    (Post_pnear [[n3], [24]] [[n4]] ->
    (Pre_sat [[n4]] /\
    (∀ n5 : Int, (-2147483648) <= n5 -> n5 <= 2147483647 ->
    (Post_sat [[n4]] [[n5]] ->
    (((-1048576) <= n5) /\
    ((n5 <= 983040) /\
    (∀ n6 : Int, n6 = n5 -> (-1048576) <= n6 -> n6 <= 983040 ->
    Post_log2 [[n]] [[n6], [0]]))))))))))))))))))))
theorem c_log2 : canCall Tryz.prog 77 = true := by kernel_rfl
theorem s_log2 : P_log2 = sat E (symTop Tryz.prog tab55 2000 77 ash_log2 sh_log2) := by kernel_rfl
theorem pure_log2 (hV : Valid Tryz.prog tab55 E) (h : P_log2) : PureE 77 ash_log2 sh_log2 := fun args ha hp => top_sat hV (@Eq.mp _ _ s_log2 h) args ha hp
theorem step_log2 (hV : Valid Tryz.prog tab55 E) (h : P_log2) : Valid Tryz.prog tab56 E := hV.add c_log2 (pure_log2 hV h)
def P_pow : Prop :=
  (∀ n : Int, (-2147483648) <= n -> n <= 2147483647 ->
  (∀ n1 : Int, (-2147483648) <= n1 -> n1 <= 2147483647 ->
  (Pre_pow [[n], [n1]] ->
  (((n1 = 0) ->
    Post_pow [[n], [n1]] [[65536], [0]]) /\
   (¬ (n1 = 0) ->
    (((n = 0) ->
      (((n1 < 0) ->
        Post_pow [[n], [n1]] [[0], [12]]) /\
       (¬ (n1 < 0) ->
        (((n = 0) ->
          Post_pow [[n], [n1]] [[0], [0]]) /\
         (¬ (n = 0) ->
          (((n < 0) ->
            (((¬ ((n1.tmod 65536) = 0)) ->
              Post_pow [[n], [n1]] [[0], [1]]) /\
             (¬ (¬ ((n1.tmod 65536) = 0)) ->
              (∀ n2 : Int, n2 = (max n (0 - n)) -> (-2147483647) <= n2 -> n2 <= 2147483648 ->
              (∀ n3 : Int, n3 = (IntKind.wrap .u64 n2) -> 0 <= n3 -> n3 <= 18446744073709551615 ->
              ((1 <= n3) /\
              ((n3 <= 2147483648) /\
              (∀ n4 : Int, n4 = n3 -> 1 <= n4 -> n4 <= 2147483648 ->
              (Pre_pexpo [[n4], [n1]] /\
              (∀ n5 : Int, (-1099511627776) <= n5 -> n5 <= 1099511627776 ->
              (Post_pexpo [[n4], [n1]] [[n5]] ->
              (Pre_power [[n5]] /\
              (∀ n6 : Int, 0 <= n6 -> n6 <= 2147483648 ->
              (Post_power [[n5]] [[n6]] ->
              (((n < 0) ->
                (((¬ (((IntKind.wrap .i32 (n1.tdiv 65536)).tmod 2) = 0)) ->
                  (∀ n7 : Int, n7 = (0 - n6) -> (-2147483648) <= n7 -> n7 <= 0 ->
                  (Pre_sat [[n7]] /\
                  (∀ n8 : Int, (-2147483648) <= n8 -> n8 <= 2147483647 ->
                  (Post_sat [[n7]] [[n8]] ->
                  Post_pow [[n], [n1]] [[n8], [0]]))))) /\
                 (¬ (¬ (((IntKind.wrap .i32 (n1.tdiv 65536)).tmod 2) = 0)) ->
                  (Pre_sat [[n6]] /\
                  (∀ n7 : Int, (-2147483648) <= n7 -> n7 <= 2147483647 ->
                  (Post_sat [[n6]] [[n7]] ->
                  Post_pow [[n], [n1]] [[n7], [0]])))))) /\
               (¬ (n < 0) ->
                (Pre_sat [[n6]] /\
                (∀ n7 : Int, (-2147483648) <= n7 -> n7 <= 2147483647 ->
                (Post_sat [[n6]] [[n7]] ->
                Post_pow [[n], [n1]] [[n7], [0]]))))))))))))))))))) /\
           (¬ (n < 0) ->
            (∀ n2 : Int, n2 = (max n (0 - n)) -> (-2147483647) <= n2 -> n2 <= 2147483648 ->
            (∀ n3 : Int, n3 = (IntKind.wrap .u64 n2) -> 0 <= n3 -> n3 <= 18446744073709551615 ->
            ((1 <= n3) /\
            ((n3 <= 2147483648) /\
            (∀ n4 : Int, n4 = n3 -> 1 <= n4 -> n4 <= 2147483648 ->
            (Pre_pexpo [[n4], [n1]] /\
            (∀ n5 : Int, (-1099511627776) <= n5 -> n5 <= 1099511627776 ->
            (Post_pexpo [[n4], [n1]] [[n5]] ->
            (Pre_power [[n5]] /\
            (∀ n6 : Int, 0 <= n6 -> n6 <= 2147483648 ->
            (Post_power [[n5]] [[n6]] ->
            (((n < 0) ->
              (((¬ (((IntKind.wrap .i32 (n1.tdiv 65536)).tmod 2) = 0)) ->
                (∀ n7 : Int, n7 = (0 - n6) -> (-2147483648) <= n7 -> n7 <= 0 ->
                (Pre_sat [[n7]] /\
                (∀ n8 : Int, (-2147483648) <= n8 -> n8 <= 2147483647 ->
                (Post_sat [[n7]] [[n8]] ->
                Post_pow [[n], [n1]] [[n8], [0]]))))) /\
               (¬ (¬ (((IntKind.wrap .i32 (n1.tdiv 65536)).tmod 2) = 0)) ->
                (Pre_sat [[n6]] /\
                (∀ n7 : Int, (-2147483648) <= n7 -> n7 <= 2147483647 ->
                (Post_sat [[n6]] [[n7]] ->
                Post_pow [[n], [n1]] [[n7], [0]])))))) /\
             (¬ (n < 0) ->
              (Pre_sat [[n6]] /\
              (∀ n7 : Int, (-2147483648) <= n7 -> n7 <= 2147483647 ->
              (Post_sat [[n6]] [[n7]] ->
              Post_pow [[n], [n1]] [[n7], [0]]))))))))))))))))))))))) /\
     (¬ (n = 0) ->
      (((n = 0) ->
        Post_pow [[n], [n1]] [[0], [0]]) /\
       (¬ (n = 0) ->
        (((n < 0) ->
          (((¬ ((n1.tmod 65536) = 0)) ->
            Post_pow [[n], [n1]] [[0], [1]]) /\
           (¬ (¬ ((n1.tmod 65536) = 0)) ->
            (∀ n2 : Int, n2 = (max n (0 - n)) -> (-2147483647) <= n2 -> n2 <= 2147483648 ->
            (∀ n3 : Int, n3 = (IntKind.wrap .u64 n2) -> 0 <= n3 -> n3 <= 18446744073709551615 ->
            ((1 <= n3) /\
            ((n3 <= 2147483648) /\
            (∀ n4 : Int, n4 = n3 -> 1 <= n4 -> n4 <= 2147483648 ->
            (Pre_pexpo [[n4], [n1]] /\
            (∀ n5 : Int, (-1099511627776) <= n5 -> n5 <= 1099511627776 ->
            (Post_pexpo [[n4], [n1]] [[n5]] ->
            (Pre_power [[n5]] /\
            (∀ n6 : Int, 0 <= n6 -> n6 <= 2147483648 ->
            (Post_power [[n5]] [[n6]] ->
            (((n < 0) ->
              (((¬ (((IntKind.wrap .i32 (n1.tdiv 65536)).tmod 2) = 0)) ->
                (∀ n7 : Int, n7 = (0 - n6) -> (-2147483648) <= n7 -> n7 <= 0 ->
                (Pre_sat [[n7]] /\
                (∀ n8 : Int, (-2147483648) <= n8 -> n8 <= 2147483647 ->
                (Post_sat [[n7]] [[n8]] ->
                Post_pow [[n], [n1]] [[n8], [0]]))))) /\
               (¬ (¬ (((IntKind.wrap .i32 (n1.tdiv 65536)).tmod 2) = 0)) ->
                (Pre_sat [[n6]] /\
                (∀ n7 : Int, (-2147483648) <= n7 -> n7 <= 2147483647 ->
                (Post_sat [[n6]] [[n7]] ->
                Post_pow [[n], [n1]] [[n7], [0]])))))) /\
             (¬ (n < 0) ->
              (Pre_sat [[n6]] /\
              (∀ n7 : Int, (-2147483648) <= n7 -> n7 <= 2147483647 ->
              (Post_sat [[n6]] [[n7]] ->
              Post_pow [[n], [n1]] [[n7], [0]]))))))))))))))))))) /\
         (¬ (n < 0) ->
          (∀ n2 : Int, n2 = (max n (0 - n)) -> (-2147483647) <= n2 -> n2 <= 2147483648 ->
          (∀ n3 : Int, n3 = (IntKind.wrap .u64 n2) -> 0 <= n3 -> n3 <= 18446744073709551615 ->
          ((1 <= n3) /\
          ((n3 <= 2147483648) /\
          (∀ n4 : Int, n4 = n3 -> 1 <= n4 -> n4 <= 2147483648 ->
          (Pre_pexpo [[n4], [n1]] /\
          (∀ n5 : Int, (-1099511627776) <= n5 -> n5 <= 1099511627776 ->
          (Post_pexpo [[n4], [n1]] [[n5]] ->
          (Pre_power [[n5]] /\
          (∀ n6 : Int, 0 <= n6 -> n6 <= 2147483648 ->
          (Post_power [[n5]] [[n6]] ->
          (((n < 0) ->
            (((¬ (((IntKind.wrap .i32 (n1.tdiv 65536)).tmod 2) = 0)) ->
              (∀ n7 : Int, n7 = (0 - n6) -> (-2147483648) <= n7 -> n7 <= 0 ->
              (Pre_sat [[n7]] /\
              (∀ n8 : Int, (-2147483648) <= n8 -> n8 <= 2147483647 ->
              (Post_sat [[n7]] [[n8]] ->
              Post_pow [[n], [n1]] [[n8], [0]]))))) /\
             (¬ (¬ (((IntKind.wrap .i32 (n1.tdiv 65536)).tmod 2) = 0)) ->
              (Pre_sat [[n6]] /\
              (∀ n7 : Int, (-2147483648) <= n7 -> n7 <= 2147483647 ->
              (Post_sat [[n6]] [[n7]] ->
              Post_pow [[n], [n1]] [[n7], [0]])))))) /\
           (¬ (n < 0) ->
            (Pre_sat [[n6]] /\
            (∀ n7 : Int, (-2147483648) <= n7 -> n7 <= 2147483647 ->
            (Post_sat [[n6]] [[n7]] ->
            Post_pow [[n], [n1]] [[n7], [0]])))))))))))))))))))))))))))
theorem c_pow : canCall Tryz.prog 79 = true := by kernel_rfl
theorem s_pow : P_pow = sat E (symTop Tryz.prog tab56 2000 79 ash_pow sh_pow) := by kernel_rfl
theorem pure_pow (hV : Valid Tryz.prog tab56 E) (h : P_pow) : PureE 79 ash_pow sh_pow := fun args ha hp => top_sat hV (@Eq.mp _ _ s_pow h) args ha hp
theorem step_pow (hV : Valid Tryz.prog tab56 E) (h : P_pow) : Valid Tryz.prog tab57 E := hV.add c_pow (pure_pow hV h)
def P_fadd : Prop :=
 (∀ n : Int, (-2147483648) <= n -> n <= 2147483647 ->
 (∀ n1 : Int, (-2147483648) <= n1 -> n1 <= 2147483647 ->
 (Pre_fadd [[n], [n1]] ->
 (∀ n2 : Int, n2 = (n + n1) -> (-4294967296) <= n2 -> n2 <= 4294967294 ->
 (Pre_sat [[n2]] /\
 (∀ n3 : Int, (-2147483648) <= n3 -> n3 <= 2147483647 ->
 (Post_sat [[n2]] [[n3]] ->
 Post_fadd [[n], [n1]] [[n3]])))))))
theorem c_fadd : canCall Tryz.prog 18 = true := by kernel_rfl
theorem s_fadd : P_fadd = sat E (symTop Tryz.prog tab57 2000 18 ash_fadd sh_fadd) := by kernel_rfl
theorem pure_fadd (hV : Valid Tryz.prog tab57 E) (h : P_fadd) : PureE 18 ash_fadd sh_fadd := fun args ha hp => top_sat hV (@Eq.mp _ _ s_fadd h) args ha hp
theorem step_fadd (hV : Valid Tryz.prog tab57 E) (h : P_fadd) : Valid Tryz.prog tab58 E := hV.add c_fadd (pure_fadd hV h)
def P_fsub : Prop :=
 (∀ n : Int, (-2147483648) <= n -> n <= 2147483647 ->
 (∀ n1 : Int, (-2147483648) <= n1 -> n1 <= 2147483647 ->
 (Pre_fsub [[n], [n1]] ->
 (∀ n2 : Int, n2 = (n - n1) -> (-4294967295) <= n2 -> n2 <= 4294967295 ->
 (Pre_sat [[n2]] /\
 (∀ n3 : Int, (-2147483648) <= n3 -> n3 <= 2147483647 ->
 (Post_sat [[n2]] [[n3]] ->
 Post_fsub [[n], [n1]] [[n3]])))))))
theorem c_fsub : canCall Tryz.prog 19 = true := by kernel_rfl
theorem s_fsub : P_fsub = sat E (symTop Tryz.prog tab58 2000 19 ash_fsub sh_fsub) := by kernel_rfl
theorem pure_fsub (hV : Valid Tryz.prog tab58 E) (h : P_fsub) : PureE 19 ash_fsub sh_fsub := fun args ha hp => top_sat hV (@Eq.mp _ _ s_fsub h) args ha hp
theorem step_fsub (hV : Valid Tryz.prog tab58 E) (h : P_fsub) : Valid Tryz.prog tab59 E := hV.add c_fsub (pure_fsub hV h)
def P_fdiv : Prop :=
 (∀ n : Int, (-2147483648) <= n -> n <= 2147483647 ->
 (∀ n1 : Int, (-2147483648) <= n1 -> n1 <= 2147483647 ->
 (Pre_fdiv [[n], [n1]] ->
 (Pre_fratio [[n], [n1]] /\
 (∀ n2 : Int, (-2147483648) <= n2 -> n2 <= 2147483647 ->
 (∀ n3 : Int, 0 <= n3 -> n3 <= 15 ->
 (Post_fratio [[n], [n1]] [[n2], [n3]] ->
 Post_fdiv [[n], [n1]] [[n2], [n3]])))))))
theorem c_fdiv : canCall Tryz.prog 78 = true := by kernel_rfl
theorem s_fdiv : P_fdiv = sat E (symTop Tryz.prog tab59 2000 78 ash_fdiv sh_fdiv) := by kernel_rfl
theorem pure_fdiv (hV : Valid Tryz.prog tab59 E) (h : P_fdiv) : PureE 78 ash_fdiv sh_fdiv := fun args ha hp => top_sat hV (@Eq.mp _ _ s_fdiv h) args ha hp
theorem step_fdiv (hV : Valid Tryz.prog tab59 E) (h : P_fdiv) : Valid Tryz.prog tab60 E := hV.add c_fdiv (pure_fdiv hV h)
def P_fof : Prop :=
 (∀ n : Int, (-32768) <= n -> n <= 32767 ->
 (Pre_fof [[n]] ->
 (Pre_wmul [[n], [65536]] /\
 (∀ n1 : Int, (-9223372036854775808) <= n1 -> n1 <= 9223372036854775807 ->
 (∀ n2 : Int, 0 <= n2 -> n2 <= 18446744073709551615 ->
 (Post_wmul [[n], [65536]] [[n1, n2]] ->
 (Pre_held [[n1, n2, 1]] /\
 (∀ n3 : Int, (-2147483648) <= n3 -> n3 <= 2147483647 ->
 (Post_held [[n1, n2, 1]] [[n3]] ->
 Post_fof [[n]] [[n3]])))))))))
theorem s_fof : P_fof = sat E (symTop Tryz.prog tab60 2000 22 ash_fof sh_fof) := by kernel_rfl
theorem pure_fof (hV : Valid Tryz.prog tab60 E) (h : P_fof) : PureE 22 ash_fof sh_fof := fun args ha hp => top_sat hV (@Eq.mp _ _ s_fof h) args ha hp
end Go.Proofs.YtcjllibeaiofpaaGreatDoor.Sx
