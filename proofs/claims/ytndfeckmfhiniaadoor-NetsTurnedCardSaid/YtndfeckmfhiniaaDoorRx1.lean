/-
  What each function comes to, part 1. Printed by a program of our own.
-/
import Derived.Test.YtndfeckmfhiniaaDoorRxh
set_option maxRecDepth 1000000
set_option linter.all false
namespace Go.Proofs.YtndfeckmfhiniaaDoor.Sx
open Go Go.RowKit

/-- math/bits.Len64 -/
def P_len64 : Prop :=
  (∀ n : Int, 0 ≤ n → n ≤ 18446744073709551615 →
  (Pre_len64 [[n]] →
  (((4294967296 ≤ n) →
    (∀ n1 : Int, n1 = (n / 4294967296) → 0 ≤ n1 → n1 ≤ 4294967295 →
    (((65536 ≤ n1) →
      (∀ n2 : Int, n2 = (n1 / 65536) → 0 ≤ n2 → n2 ≤ 65535 →
      (((256 ≤ n2) →
        (∀ n3 : Int, n3 = (n2 / 256) → 0 ≤ n3 → n3 ≤ 255 →
        (∀ n4 : Int, n4 = (len8tab.getD (Int.toNat n3) 0) → 0 ≤ n4 → n4 ≤ 8 →
        (∀ n5 : Int, n5 = (56 + n4) → 56 ≤ n5 → n5 ≤ 64 →
        Post_len64 [[n]] [[n5]])))) ∧
       (¬ (256 ≤ n2) →
        (∀ n3 : Int, n3 = (len8tab.getD (Int.toNat (IntKind.wrap .u8 n2)) 0) → 0 ≤ n3 → n3 ≤ 8 →
        (∀ n4 : Int, n4 = (48 + n3) → 48 ≤ n4 → n4 ≤ 56 →
        Post_len64 [[n]] [[n4]])))))) ∧
     (¬ (65536 ≤ n1) →
      (((256 ≤ n1) →
        (∀ n2 : Int, n2 = (n1 / 256) → 0 ≤ n2 → n2 ≤ 16777215 →
        (∀ n3 : Int, n3 = (len8tab.getD (Int.toNat (IntKind.wrap .u8 n2)) 0) → 0 ≤ n3 → n3 ≤ 8 →
        (∀ n4 : Int, n4 = (40 + n3) → 40 ≤ n4 → n4 ≤ 48 →
        Post_len64 [[n]] [[n4]])))) ∧
       (¬ (256 ≤ n1) →
        (∀ n2 : Int, n2 = (len8tab.getD (Int.toNat (IntKind.wrap .u8 n1)) 0) → 0 ≤ n2 → n2 ≤ 8 →
        (∀ n3 : Int, n3 = (32 + n2) → 32 ≤ n3 → n3 ≤ 40 →
        Post_len64 [[n]] [[n3]])))))))) ∧
   (¬ (4294967296 ≤ n) →
    (((65536 ≤ n) →
      (∀ n1 : Int, n1 = (n / 65536) → 0 ≤ n1 → n1 ≤ 281474976710655 →
      (((256 ≤ n1) →
        (∀ n2 : Int, n2 = (n1 / 256) → 0 ≤ n2 → n2 ≤ 1099511627775 →
        (∀ n3 : Int, n3 = (len8tab.getD (Int.toNat (IntKind.wrap .u8 n2)) 0) → 0 ≤ n3 → n3 ≤ 8 →
        (∀ n4 : Int, n4 = (24 + n3) → 24 ≤ n4 → n4 ≤ 32 →
        Post_len64 [[n]] [[n4]])))) ∧
       (¬ (256 ≤ n1) →
        (∀ n2 : Int, n2 = (len8tab.getD (Int.toNat (IntKind.wrap .u8 n1)) 0) → 0 ≤ n2 → n2 ≤ 8 →
        (∀ n3 : Int, n3 = (16 + n2) → 16 ≤ n3 → n3 ≤ 24 →
        Post_len64 [[n]] [[n3]])))))) ∧
     (¬ (65536 ≤ n) →
      (((256 ≤ n) →
        (∀ n1 : Int, n1 = (n / 256) → 0 ≤ n1 → n1 ≤ 72057594037927935 →
        (∀ n2 : Int, n2 = (len8tab.getD (Int.toNat (IntKind.wrap .u8 n1)) 0) → 0 ≤ n2 → n2 ≤ 8 →
        (∀ n3 : Int, n3 = (8 + n2) → 8 ≤ n3 → n3 ≤ 16 →
        Post_len64 [[n]] [[n3]])))) ∧
       (¬ (256 ≤ n) →
        (∀ n1 : Int, n1 = (len8tab.getD (Int.toNat (IntKind.wrap .u8 n)) 0) → 0 ≤ n1 → n1 ≤ 8 →
        Post_len64 [[n]] [[n1]])))))))))
theorem c_len64 : canCall Tryd.prog 64 = true := by kernel_rfl
theorem s_len64 : P_len64 = sat E (symTop Tryd.prog tab0 2000 64 ash_len64 sh_len64) := by kernel_rfl
theorem pure_len64 (hV : Valid Tryd.prog tab0 E) (h : P_len64) (args : List Value) (ha : shaFits ash_len64 args) (hp : E.pre 64 (args.map vints)) : Pure Tryd.prog 64 args.toArray fun v => sh_len64.fits v ∧ E.post 64 (args.map vints) (vres v) := @top_sat Tryd.prog tab0 E hV 2000 64 ash_len64 sh_len64 (@Eq.mp _ _ s_len64 h) args ha hp
theorem step_len64 (hV : Valid Tryd.prog tab0 E) (h : P_len64) : Valid Tryd.prog tab1 E := hV.add c_len64 (pure_len64 hV h)

/-- math/bits.Mul64 -/
def P_mul64 : Prop :=
  (∀ n : Int, 0 ≤ n → n ≤ 18446744073709551615 →
  (∀ n1 : Int, 0 ≤ n1 → n1 ≤ 18446744073709551615 →
  (Pre_mul64 [[n], [n1]] →
  (∀ n2 : Int, n2 = (n % 4294967296) → 0 ≤ n2 → n2 ≤ 4294967295 →
  (∀ n3 : Int, n3 = (n / 4294967296) → 0 ≤ n3 → n3 ≤ 4294967295 →
  (∀ n4 : Int, n4 = (n1 % 4294967296) → 0 ≤ n4 → n4 ≤ 4294967295 →
  (∀ n5 : Int, n5 = (n1 / 4294967296) → 0 ≤ n5 → n5 ≤ 4294967295 →
  (∀ n6 : Int, n6 = (n2 * n4) → 0 ≤ n6 → n6 ≤ 18446744065119617025 →
  (∀ n7 : Int, n7 = ((n3 * n4) + (n6 / 4294967296)) → 0 ≤ n7 → n7 ≤ 18446744069414584319 →
  (∀ n8 : Int, n8 = (n7 % 4294967296) → 0 ≤ n8 → n8 ≤ 4294967295 →
  (∀ n9 : Int, n9 = (n7 / 4294967296) → 0 ≤ n9 → n9 ≤ 4294967294 →
  (∀ n10 : Int, n10 = (n8 + (n2 * n5)) → 0 ≤ n10 → n10 ≤ 18446744069414584320 →
  (∀ n11 : Int, n11 = (((n3 * n5) + n9) + (n10 / 4294967296)) → 0 ≤ n11 → n11 ≤ 18446744073709551614 →
  (∀ n12 : Int, n12 = (IntKind.wrap .u64 (n * n1)) → 0 ≤ n12 → n12 ≤ 18446744073709551615 →
  Post_mul64 [[n], [n1]] [[n11], [n12]]))))))))))))))
theorem c_mul64 : canCall Tryd.prog 55 = true := by kernel_rfl
theorem s_mul64 : P_mul64 = sat E (symTop Tryd.prog tab1 2000 55 ash_mul64 sh_mul64) := by kernel_rfl
theorem pure_mul64 (hV : Valid Tryd.prog tab1 E) (h : P_mul64) (args : List Value) (ha : shaFits ash_mul64 args) (hp : E.pre 55 (args.map vints)) : Pure Tryd.prog 55 args.toArray fun v => sh_mul64.fits v ∧ E.post 55 (args.map vints) (vres v) := @top_sat Tryd.prog tab1 E hV 2000 55 ash_mul64 sh_mul64 (@Eq.mp _ _ s_mul64 h) args ha hp
theorem step_mul64 (hV : Valid Tryd.prog tab1 E) (h : P_mul64) : Valid Tryd.prog tab2 E := hV.add c_mul64 (pure_mul64 hV h)

/-- cmp.Compare[int64] -/
def P_cmpi64 : Prop :=
  (∀ n : Int, (-9223372036854775808) ≤ n → n ≤ 9223372036854775807 →
  (∀ n1 : Int, (-9223372036854775808) ≤ n1 → n1 ≤ 9223372036854775807 →
  (Pre_cmpi64 [[n], [n1]] →
  (((¬ (n = n)) →
    (((¬ (n1 = n1)) →
      Post_cmpi64 [[n], [n1]] [[0]]) ∧
     (¬ (¬ (n1 = n1)) →
      Post_cmpi64 [[n], [n1]] [[(-1)]]))) ∧
   (¬ (¬ (n = n)) →
    (((¬ (n1 = n1)) →
      Post_cmpi64 [[n], [n1]] [[1]]) ∧
     (¬ (¬ (n1 = n1)) →
      (((n < n1) →
        Post_cmpi64 [[n], [n1]] [[(-1)]]) ∧
       (¬ (n < n1) →
        (((n1 < n) →
          Post_cmpi64 [[n], [n1]] [[1]]) ∧
         (¬ (n1 < n) →
          Post_cmpi64 [[n], [n1]] [[0]])))))))))))
theorem c_cmpi64 : canCall Tryd.prog 58 = true := by kernel_rfl
theorem s_cmpi64 : P_cmpi64 = sat E (symTop Tryd.prog tab2 2000 58 ash_cmpi64 sh_cmpi64) := by kernel_rfl
theorem pure_cmpi64 (hV : Valid Tryd.prog tab2 E) (h : P_cmpi64) (args : List Value) (ha : shaFits ash_cmpi64 args) (hp : E.pre 58 (args.map vints)) : Pure Tryd.prog 58 args.toArray fun v => sh_cmpi64.fits v ∧ E.post 58 (args.map vints) (vres v) := @top_sat Tryd.prog tab2 E hV 2000 58 ash_cmpi64 sh_cmpi64 (@Eq.mp _ _ s_cmpi64 h) args ha hp
theorem step_cmpi64 (hV : Valid Tryd.prog tab2 E) (h : P_cmpi64) : Valid Tryd.prog tab3 E := hV.add c_cmpi64 (pure_cmpi64 hV h)

/-- cmp.Compare[uint64] -/
def P_cmpu64 : Prop :=
  (∀ n : Int, 0 ≤ n → n ≤ 18446744073709551615 →
  (∀ n1 : Int, 0 ≤ n1 → n1 ≤ 18446744073709551615 →
  (Pre_cmpu64 [[n], [n1]] →
  (((¬ (n = n)) →
    (((¬ (n1 = n1)) →
      Post_cmpu64 [[n], [n1]] [[0]]) ∧
     (¬ (¬ (n1 = n1)) →
      Post_cmpu64 [[n], [n1]] [[(-1)]]))) ∧
   (¬ (¬ (n = n)) →
    (((¬ (n1 = n1)) →
      Post_cmpu64 [[n], [n1]] [[1]]) ∧
     (¬ (¬ (n1 = n1)) →
      (((n < n1) →
        Post_cmpu64 [[n], [n1]] [[(-1)]]) ∧
       (¬ (n < n1) →
        (((n1 < n) →
          Post_cmpu64 [[n], [n1]] [[1]]) ∧
         (¬ (n1 < n) →
          Post_cmpu64 [[n], [n1]] [[0]])))))))))))
theorem c_cmpu64 : canCall Tryd.prog 59 = true := by kernel_rfl
theorem s_cmpu64 : P_cmpu64 = sat E (symTop Tryd.prog tab3 2000 59 ash_cmpu64 sh_cmpu64) := by kernel_rfl
theorem pure_cmpu64 (hV : Valid Tryd.prog tab3 E) (h : P_cmpu64) (args : List Value) (ha : shaFits ash_cmpu64 args) (hp : E.pre 59 (args.map vints)) : Pure Tryd.prog 59 args.toArray fun v => sh_cmpu64.fits v ∧ E.post 59 (args.map vints) (vres v) := @top_sat Tryd.prog tab3 E hV 2000 59 ash_cmpu64 sh_cmpu64 (@Eq.mp _ _ s_cmpu64 h) args ha hp
theorem step_cmpu64 (hV : Valid Tryd.prog tab3 E) (h : P_cmpu64) : Valid Tryd.prog tab4 E := hV.add c_cmpu64 (pure_cmpu64 hV h)

/-- gouache/wides.Cmp -/
def P_wcmp : Prop :=
  (∀ n : Int, (-9223372036854775808) ≤ n → n ≤ 9223372036854775807 →
  (∀ n1 : Int, 0 ≤ n1 → n1 ≤ 18446744073709551615 →
  (∀ n2 : Int, (-9223372036854775808) ≤ n2 → n2 ≤ 9223372036854775807 →
  (∀ n3 : Int, 0 ≤ n3 → n3 ≤ 18446744073709551615 →
  (Pre_wcmp [[n, n1], [n2, n3]] →
  (∀ b : Nat, (∀ b1 : Nat, (Pre_cmpi64 [[n], [n2]] ∧
  (∀ n4 : Int, (-1) ≤ n4 → n4 ≤ 1 →
  (Post_cmpi64 [[n], [n2]] [[n4]] →
  (Pre_cmpu64 [[n1], [n3]] ∧
  (∀ n5 : Int, (-1) ≤ n5 → n5 ≤ 1 →
  (Post_cmpu64 [[n1], [n3]] [[n5]] →
  (∀ b2 : Nat, (((¬ (n4 = 0)) →
    Post_wcmp [[n, n1], [n2, n3]] [[n4]]) ∧
   (¬ (¬ (n4 = 0)) →
    (((¬ (n5 = 0)) →
      Post_wcmp [[n, n1], [n2, n3]] [[n5]]) ∧
     (¬ (¬ (n5 = 0)) →
      Post_wcmp [[n, n1], [n2, n3]] [[0]]))))))))))))))))))
theorem c_wcmp : canCall Tryd.prog 52 = true := by kernel_rfl
theorem s_wcmp : P_wcmp = sat E (symTop Tryd.prog tab4 2000 52 ash_wcmp sh_wcmp) := by kernel_rfl
theorem pure_wcmp (hV : Valid Tryd.prog tab4 E) (h : P_wcmp) (args : List Value) (ha : shaFits ash_wcmp args) (hp : E.pre 52 (args.map vints)) : Pure Tryd.prog 52 args.toArray fun v => sh_wcmp.fits v ∧ E.post 52 (args.map vints) (vres v) := @top_sat Tryd.prog tab4 E hV 2000 52 ash_wcmp sh_wcmp (@Eq.mp _ _ s_wcmp h) args ha hp
theorem step_wcmp (hV : Valid Tryd.prog tab4 E) (h : P_wcmp) : Valid Tryd.prog tab5 E := hV.add c_wcmp (pure_wcmp hV h)

/-- gouache/wides.Of -/
def P_wof : Prop :=
  (∀ n : Int, (-9223372036854775808) ≤ n → n ≤ 9223372036854775807 →
  (Pre_wof [[n]] →
  (∀ b : Nat, (∀ n1 : Int, n1 = (n / 9223372036854775808) → (-1) ≤ n1 → n1 ≤ 0 →
  (∀ n2 : Int, n2 = (IntKind.wrap .u64 n) → 0 ≤ n2 → n2 ≤ 18446744073709551615 →
  Post_wof [[n]] [[n1, n2]])))))
theorem c_wof : canCall Tryd.prog 37 = true := by kernel_rfl
theorem s_wof : P_wof = sat E (symTop Tryd.prog tab5 2000 37 ash_wof sh_wof) := by kernel_rfl
theorem pure_wof (hV : Valid Tryd.prog tab5 E) (h : P_wof) (args : List Value) (ha : shaFits ash_wof args) (hp : E.pre 37 (args.map vints)) : Pure Tryd.prog 37 args.toArray fun v => sh_wof.fits v ∧ E.post 37 (args.map vints) (vres v) := @top_sat Tryd.prog tab5 E hV 2000 37 ash_wof sh_wof (@Eq.mp _ _ s_wof h) args ha hp
theorem step_wof (hV : Valid Tryd.prog tab5 E) (h : P_wof) : Valid Tryd.prog tab6 E := hV.add c_wof (pure_wof hV h)

/-- math/bits.LeadingZeros64 -/
def P_lz64 : Prop :=
  (∀ n : Int, 0 ≤ n → n ≤ 18446744073709551615 →
  (Pre_lz64 [[n]] →
  (Pre_len64 [[n]] ∧
  (∀ n1 : Int, 0 ≤ n1 → n1 ≤ 64 →
  (Post_len64 [[n]] [[n1]] →
  (∀ n2 : Int, n2 = (64 - n1) → 0 ≤ n2 → n2 ≤ 64 →
  Post_lz64 [[n]] [[n2]]))))))
theorem c_lz64 : canCall Tryd.prog 63 = true := by kernel_rfl
theorem s_lz64 : P_lz64 = sat E (symTop Tryd.prog tab6 2000 63 ash_lz64 sh_lz64) := by kernel_rfl
theorem pure_lz64 (hV : Valid Tryd.prog tab6 E) (h : P_lz64) (args : List Value) (ha : shaFits ash_lz64 args) (hp : E.pre 63 (args.map vints)) : Pure Tryd.prog 63 args.toArray fun v => sh_lz64.fits v ∧ E.post 63 (args.map vints) (vres v) := @top_sat Tryd.prog tab6 E hV 2000 63 ash_lz64 sh_lz64 (@Eq.mp _ _ s_lz64 h) args ha hp
theorem step_lz64 (hV : Valid Tryd.prog tab6 E) (h : P_lz64) : Valid Tryd.prog tab7 E := hV.add c_lz64 (pure_lz64 hV h)

/-- math/bits.Div64 -/
def P_div64 : Prop :=
  (∀ n : Int, 0 ≤ n → n ≤ 18446744073709551615 →
  (∀ n1 : Int, 0 ≤ n1 → n1 ≤ 18446744073709551615 →
  (∀ n2 : Int, 0 ≤ n2 → n2 ≤ 18446744073709551615 →
  (Pre_div64 [[n], [n1], [n2]] →
  (((n2 = 0) →
    False /- op -/) ∧
   (¬ (n2 = 0) →
    (((n2 ≤ n) →
      False /- op -/) ∧
     (¬ (n2 ≤ n) →
      (((n = 0) →
        ((1 ≤ n2) ∧
        (∀ n3 : Int, n3 = n2 → 1 ≤ n3 → n3 ≤ 18446744073709551615 →
        ((1 ≤ n2) ∧
        (∀ n4 : Int, n4 = n2 → 1 ≤ n4 → n4 ≤ 18446744073709551615 →
        (∀ n5 : Int, n5 = (IntKind.wrap .u64 (n1.tdiv n3)) → 0 ≤ n5 → n5 ≤ 18446744073709551615 →
        (∀ n6 : Int, n6 = (n1.tmod n4) → 0 ≤ n6 → n6 ≤ 18446744073709551615 →
        Post_div64 [[n], [n1], [n2]] [[n5], [n6]]))))))) ∧
       (¬ (n = 0) →
        (Pre_lz64 [[n2]] ∧
        (∀ n3 : Int, 0 ≤ n3 → n3 ≤ 64 →
        (Post_lz64 [[n2]] [[n3]] →
        (∀ n4 : Int, n4 = (shI .shl .u64 n2 n3) → 0 ≤ n4 → n4 ≤ 18446744073709551615 →
        (∀ n5 : Int, n5 = (n4 / 4294967296) → 0 ≤ n5 → n5 ≤ 4294967295 →
        (∀ n6 : Int, n6 = (n4 % 4294967296) → 0 ≤ n6 → n6 ≤ 4294967295 →
        (∀ n7 : Int, n7 = (bitsI .or .u64 (shI .shl .u64 n n3) (shI .shr .u64 n1 (64 - n3))) → 0 ≤ n7 → n7 ≤ 18446744073709551615 →
        (∀ n8 : Int, n8 = (shI .shl .u64 n1 n3) → 0 ≤ n8 → n8 ≤ 18446744073709551615 →
        (∀ n9 : Int, n9 = (n8 / 4294967296) → 0 ≤ n9 → n9 ≤ 4294967295 →
        (∀ n10 : Int, n10 = (n8 % 4294967296) → 0 ≤ n10 → n10 ≤ 4294967295 →
        ((1 ≤ n5) ∧
        (∀ n11 : Int, n11 = n5 → 1 ≤ n11 → n11 ≤ 4294967295 →
        (∀ n12 : Int, n12 = (IntKind.wrap .u64 (n7.tdiv n11)) → 0 ≤ n12 → n12 ≤ 18446744073709551615 →
        (∀ n13 : Int, n13 = (IntKind.wrap .u64 (n7 - (IntKind.wrap .u64 (n12 * n5)))) → 0 ≤ n13 → n13 ≤ 18446744073709551615 →
        (Inv_dv1 [n7, n5, n6, n9] [n12, n13] ∧
        (∀ n14 : Int, 0 ≤ n14 → n14 ≤ 18446744073709551615 →
        (∀ n15 : Int, 0 ≤ n15 → n15 ≤ 18446744073709551615 →
        (Inv_dv1 [n7, n5, n6, n9] [n14, n15] →
        (∀ vs : List Value, vs.length = 21 →
        (((4294967296 ≤ n14) →
          (∀ n16 : Int, n16 = (IntKind.wrap .u64 (n14 - 1)) → 0 ≤ n16 → n16 ≤ 18446744073709551615 →
          (∀ n17 : Int, n17 = (IntKind.wrap .u64 (n15 + n5)) → 0 ≤ n17 → n17 ≤ 18446744073709551615 →
          (((4294967296 ≤ n17) →
            (∀ n18 : Int, n18 = (IntKind.wrap .u64 ((IntKind.wrap .u64 ((IntKind.wrap .u64 (n7 * 4294967296)) + n9)) - (IntKind.wrap .u64 (n16 * n4)))) → 0 ≤ n18 → n18 ≤ 18446744073709551615 →
            ((1 ≤ n5) ∧
            (∀ n19 : Int, n19 = n5 → 1 ≤ n19 → n19 ≤ 4294967295 →
            (∀ n20 : Int, n20 = (IntKind.wrap .u64 (n18.tdiv n19)) → 0 ≤ n20 → n20 ≤ 18446744073709551615 →
            (∀ n21 : Int, n21 = (IntKind.wrap .u64 (n18 - (IntKind.wrap .u64 (n20 * n5)))) → 0 ≤ n21 → n21 ≤ 18446744073709551615 →
            (Inv_dv2 [n18, n5, n6, n10] [n20, n21] ∧
            (∀ n22 : Int, 0 ≤ n22 → n22 ≤ 18446744073709551615 →
            (∀ n23 : Int, 0 ≤ n23 → n23 ≤ 18446744073709551615 →
            (Inv_dv2 [n18, n5, n6, n10] [n22, n23] →
            (∀ vs1 : List Value, vs1.length = 21 →
            (((4294967296 ≤ n22) →
              (∀ n24 : Int, n24 = (IntKind.wrap .u64 (n22 - 1)) → 0 ≤ n24 → n24 ≤ 18446744073709551615 →
              (∀ n25 : Int, n25 = (IntKind.wrap .u64 (n23 + n5)) → 0 ≤ n25 → n25 ≤ 18446744073709551615 →
              (((4294967296 ≤ n25) →
                (∀ n26 : Int, n26 = (IntKind.wrap .u64 ((IntKind.wrap .u64 (n16 * 4294967296)) + n24)) → 0 ≤ n26 → n26 ≤ 18446744073709551615 →
                (∀ n27 : Int, n27 = (shI .shr .u64 (IntKind.wrap .u64 ((IntKind.wrap .u64 ((IntKind.wrap .u64 (n18 * 4294967296)) + n10)) - (IntKind.wrap .u64 (n24 * n4)))) n3) → 0 ≤ n27 → n27 ≤ 18446744073709551615 →
                Post_div64 [[n], [n1], [n2]] [[n26], [n27]]))) ∧
               (¬ (4294967296 ≤ n25) →
                (Inv_dv2 [n18, n5, n6, n10] [n24, n25] ∧ Mea_dv2 [n18, n5, n6, n10] [n24, n25] < Mea_dv2 [n18, n5, n6, n10] [n22, n23])))))) ∧
             (¬ (4294967296 ≤ n22) →
              ((((IntKind.wrap .u64 ((IntKind.wrap .u64 (4294967296 * n23)) + n10)) < (IntKind.wrap .u64 (n22 * n6))) →
                (∀ n24 : Int, n24 = (IntKind.wrap .u64 (n22 - 1)) → 0 ≤ n24 → n24 ≤ 18446744073709551615 →
                (∀ n25 : Int, n25 = (IntKind.wrap .u64 (n23 + n5)) → 0 ≤ n25 → n25 ≤ 18446744073709551615 →
                (((4294967296 ≤ n25) →
                  (∀ n26 : Int, n26 = (IntKind.wrap .u64 ((IntKind.wrap .u64 (n16 * 4294967296)) + n24)) → 0 ≤ n26 → n26 ≤ 18446744073709551615 →
                  (∀ n27 : Int, n27 = (shI .shr .u64 (IntKind.wrap .u64 ((IntKind.wrap .u64 ((IntKind.wrap .u64 (n18 * 4294967296)) + n10)) - (IntKind.wrap .u64 (n24 * n4)))) n3) → 0 ≤ n27 → n27 ≤ 18446744073709551615 →
                  Post_div64 [[n], [n1], [n2]] [[n26], [n27]]))) ∧
                 (¬ (4294967296 ≤ n25) →
                  (Inv_dv2 [n18, n5, n6, n10] [n24, n25] ∧ Mea_dv2 [n18, n5, n6, n10] [n24, n25] < Mea_dv2 [n18, n5, n6, n10] [n22, n23])))))) ∧
               (¬ ((IntKind.wrap .u64 ((IntKind.wrap .u64 (4294967296 * n23)) + n10)) < (IntKind.wrap .u64 (n22 * n6))) →
                (∀ n24 : Int, n24 = (IntKind.wrap .u64 ((IntKind.wrap .u64 (n16 * 4294967296)) + n22)) → 0 ≤ n24 → n24 ≤ 18446744073709551615 →
                (∀ n25 : Int, n25 = (shI .shr .u64 (IntKind.wrap .u64 ((IntKind.wrap .u64 ((IntKind.wrap .u64 (n18 * 4294967296)) + n10)) - (IntKind.wrap .u64 (n22 * n4)))) n3) → 0 ≤ n25 → n25 ≤ 18446744073709551615 →
                Post_div64 [[n], [n1], [n2]] [[n24], [n25]]))))))))))))))))) ∧
           (¬ (4294967296 ≤ n17) →
            (Inv_dv1 [n7, n5, n6, n9] [n16, n17] ∧ Mea_dv1 [n7, n5, n6, n9] [n16, n17] < Mea_dv1 [n7, n5, n6, n9] [n14, n15])))))) ∧
         (¬ (4294967296 ≤ n14) →
          ((((IntKind.wrap .u64 ((IntKind.wrap .u64 (4294967296 * n15)) + n9)) < (IntKind.wrap .u64 (n14 * n6))) →
            (∀ n16 : Int, n16 = (IntKind.wrap .u64 (n14 - 1)) → 0 ≤ n16 → n16 ≤ 18446744073709551615 →
            (∀ n17 : Int, n17 = (IntKind.wrap .u64 (n15 + n5)) → 0 ≤ n17 → n17 ≤ 18446744073709551615 →
            (((4294967296 ≤ n17) →
              (∀ n18 : Int, n18 = (IntKind.wrap .u64 ((IntKind.wrap .u64 ((IntKind.wrap .u64 (n7 * 4294967296)) + n9)) - (IntKind.wrap .u64 (n16 * n4)))) → 0 ≤ n18 → n18 ≤ 18446744073709551615 →
              ((1 ≤ n5) ∧
              (∀ n19 : Int, n19 = n5 → 1 ≤ n19 → n19 ≤ 4294967295 →
              (∀ n20 : Int, n20 = (IntKind.wrap .u64 (n18.tdiv n19)) → 0 ≤ n20 → n20 ≤ 18446744073709551615 →
              (∀ n21 : Int, n21 = (IntKind.wrap .u64 (n18 - (IntKind.wrap .u64 (n20 * n5)))) → 0 ≤ n21 → n21 ≤ 18446744073709551615 →
              (Inv_dv2 [n18, n5, n6, n10] [n20, n21] ∧
              (∀ n22 : Int, 0 ≤ n22 → n22 ≤ 18446744073709551615 →
              (∀ n23 : Int, 0 ≤ n23 → n23 ≤ 18446744073709551615 →
              (Inv_dv2 [n18, n5, n6, n10] [n22, n23] →
              (∀ vs1 : List Value, vs1.length = 21 →
              (((4294967296 ≤ n22) →
                (∀ n24 : Int, n24 = (IntKind.wrap .u64 (n22 - 1)) → 0 ≤ n24 → n24 ≤ 18446744073709551615 →
                (∀ n25 : Int, n25 = (IntKind.wrap .u64 (n23 + n5)) → 0 ≤ n25 → n25 ≤ 18446744073709551615 →
                (((4294967296 ≤ n25) →
                  (∀ n26 : Int, n26 = (IntKind.wrap .u64 ((IntKind.wrap .u64 (n16 * 4294967296)) + n24)) → 0 ≤ n26 → n26 ≤ 18446744073709551615 →
                  (∀ n27 : Int, n27 = (shI .shr .u64 (IntKind.wrap .u64 ((IntKind.wrap .u64 ((IntKind.wrap .u64 (n18 * 4294967296)) + n10)) - (IntKind.wrap .u64 (n24 * n4)))) n3) → 0 ≤ n27 → n27 ≤ 18446744073709551615 →
                  Post_div64 [[n], [n1], [n2]] [[n26], [n27]]))) ∧
                 (¬ (4294967296 ≤ n25) →
                  (Inv_dv2 [n18, n5, n6, n10] [n24, n25] ∧ Mea_dv2 [n18, n5, n6, n10] [n24, n25] < Mea_dv2 [n18, n5, n6, n10] [n22, n23])))))) ∧
               (¬ (4294967296 ≤ n22) →
                ((((IntKind.wrap .u64 ((IntKind.wrap .u64 (4294967296 * n23)) + n10)) < (IntKind.wrap .u64 (n22 * n6))) →
                  (∀ n24 : Int, n24 = (IntKind.wrap .u64 (n22 - 1)) → 0 ≤ n24 → n24 ≤ 18446744073709551615 →
                  (∀ n25 : Int, n25 = (IntKind.wrap .u64 (n23 + n5)) → 0 ≤ n25 → n25 ≤ 18446744073709551615 →
                  (((4294967296 ≤ n25) →
                    (∀ n26 : Int, n26 = (IntKind.wrap .u64 ((IntKind.wrap .u64 (n16 * 4294967296)) + n24)) → 0 ≤ n26 → n26 ≤ 18446744073709551615 →
                    (∀ n27 : Int, n27 = (shI .shr .u64 (IntKind.wrap .u64 ((IntKind.wrap .u64 ((IntKind.wrap .u64 (n18 * 4294967296)) + n10)) - (IntKind.wrap .u64 (n24 * n4)))) n3) → 0 ≤ n27 → n27 ≤ 18446744073709551615 →
                    Post_div64 [[n], [n1], [n2]] [[n26], [n27]]))) ∧
                   (¬ (4294967296 ≤ n25) →
                    (Inv_dv2 [n18, n5, n6, n10] [n24, n25] ∧ Mea_dv2 [n18, n5, n6, n10] [n24, n25] < Mea_dv2 [n18, n5, n6, n10] [n22, n23])))))) ∧
                 (¬ ((IntKind.wrap .u64 ((IntKind.wrap .u64 (4294967296 * n23)) + n10)) < (IntKind.wrap .u64 (n22 * n6))) →
                  (∀ n24 : Int, n24 = (IntKind.wrap .u64 ((IntKind.wrap .u64 (n16 * 4294967296)) + n22)) → 0 ≤ n24 → n24 ≤ 18446744073709551615 →
                  (∀ n25 : Int, n25 = (shI .shr .u64 (IntKind.wrap .u64 ((IntKind.wrap .u64 ((IntKind.wrap .u64 (n18 * 4294967296)) + n10)) - (IntKind.wrap .u64 (n22 * n4)))) n3) → 0 ≤ n25 → n25 ≤ 18446744073709551615 →
                  Post_div64 [[n], [n1], [n2]] [[n24], [n25]]))))))))))))))))) ∧
             (¬ (4294967296 ≤ n17) →
              (Inv_dv1 [n7, n5, n6, n9] [n16, n17] ∧ Mea_dv1 [n7, n5, n6, n9] [n16, n17] < Mea_dv1 [n7, n5, n6, n9] [n14, n15])))))) ∧
           (¬ ((IntKind.wrap .u64 ((IntKind.wrap .u64 (4294967296 * n15)) + n9)) < (IntKind.wrap .u64 (n14 * n6))) →
            (∀ n16 : Int, n16 = (IntKind.wrap .u64 ((IntKind.wrap .u64 ((IntKind.wrap .u64 (n7 * 4294967296)) + n9)) - (IntKind.wrap .u64 (n14 * n4)))) → 0 ≤ n16 → n16 ≤ 18446744073709551615 →
            ((1 ≤ n5) ∧
            (∀ n17 : Int, n17 = n5 → 1 ≤ n17 → n17 ≤ 4294967295 →
            (∀ n18 : Int, n18 = (IntKind.wrap .u64 (n16.tdiv n17)) → 0 ≤ n18 → n18 ≤ 18446744073709551615 →
            (∀ n19 : Int, n19 = (IntKind.wrap .u64 (n16 - (IntKind.wrap .u64 (n18 * n5)))) → 0 ≤ n19 → n19 ≤ 18446744073709551615 →
            (Inv_dv2 [n16, n5, n6, n10] [n18, n19] ∧
            (∀ n20 : Int, 0 ≤ n20 → n20 ≤ 18446744073709551615 →
            (∀ n21 : Int, 0 ≤ n21 → n21 ≤ 18446744073709551615 →
            (Inv_dv2 [n16, n5, n6, n10] [n20, n21] →
            (∀ vs1 : List Value, vs1.length = 21 →
            (((4294967296 ≤ n20) →
              (∀ n22 : Int, n22 = (IntKind.wrap .u64 (n20 - 1)) → 0 ≤ n22 → n22 ≤ 18446744073709551615 →
              (∀ n23 : Int, n23 = (IntKind.wrap .u64 (n21 + n5)) → 0 ≤ n23 → n23 ≤ 18446744073709551615 →
              (((4294967296 ≤ n23) →
                (∀ n24 : Int, n24 = (IntKind.wrap .u64 ((IntKind.wrap .u64 (n14 * 4294967296)) + n22)) → 0 ≤ n24 → n24 ≤ 18446744073709551615 →
                (∀ n25 : Int, n25 = (shI .shr .u64 (IntKind.wrap .u64 ((IntKind.wrap .u64 ((IntKind.wrap .u64 (n16 * 4294967296)) + n10)) - (IntKind.wrap .u64 (n22 * n4)))) n3) → 0 ≤ n25 → n25 ≤ 18446744073709551615 →
                Post_div64 [[n], [n1], [n2]] [[n24], [n25]]))) ∧
               (¬ (4294967296 ≤ n23) →
                (Inv_dv2 [n16, n5, n6, n10] [n22, n23] ∧ Mea_dv2 [n16, n5, n6, n10] [n22, n23] < Mea_dv2 [n16, n5, n6, n10] [n20, n21])))))) ∧
             (¬ (4294967296 ≤ n20) →
              ((((IntKind.wrap .u64 ((IntKind.wrap .u64 (4294967296 * n21)) + n10)) < (IntKind.wrap .u64 (n20 * n6))) →
                (∀ n22 : Int, n22 = (IntKind.wrap .u64 (n20 - 1)) → 0 ≤ n22 → n22 ≤ 18446744073709551615 →
                (∀ n23 : Int, n23 = (IntKind.wrap .u64 (n21 + n5)) → 0 ≤ n23 → n23 ≤ 18446744073709551615 →
                (((4294967296 ≤ n23) →
                  (∀ n24 : Int, n24 = (IntKind.wrap .u64 ((IntKind.wrap .u64 (n14 * 4294967296)) + n22)) → 0 ≤ n24 → n24 ≤ 18446744073709551615 →
                  (∀ n25 : Int, n25 = (shI .shr .u64 (IntKind.wrap .u64 ((IntKind.wrap .u64 ((IntKind.wrap .u64 (n16 * 4294967296)) + n10)) - (IntKind.wrap .u64 (n22 * n4)))) n3) → 0 ≤ n25 → n25 ≤ 18446744073709551615 →
                  Post_div64 [[n], [n1], [n2]] [[n24], [n25]]))) ∧
                 (¬ (4294967296 ≤ n23) →
                  (Inv_dv2 [n16, n5, n6, n10] [n22, n23] ∧ Mea_dv2 [n16, n5, n6, n10] [n22, n23] < Mea_dv2 [n16, n5, n6, n10] [n20, n21])))))) ∧
               (¬ ((IntKind.wrap .u64 ((IntKind.wrap .u64 (4294967296 * n21)) + n10)) < (IntKind.wrap .u64 (n20 * n6))) →
                (∀ n22 : Int, n22 = (IntKind.wrap .u64 ((IntKind.wrap .u64 (n14 * 4294967296)) + n20)) → 0 ≤ n22 → n22 ≤ 18446744073709551615 →
                (∀ n23 : Int, n23 = (shI .shr .u64 (IntKind.wrap .u64 ((IntKind.wrap .u64 ((IntKind.wrap .u64 (n16 * 4294967296)) + n10)) - (IntKind.wrap .u64 (n20 * n4)))) n3) → 0 ≤ n23 → n23 ≤ 18446744073709551615 →
                Post_div64 [[n], [n1], [n2]] [[n22], [n23]])))))))))))))))))))))))))))))))))))))))))))))))))
theorem c_div64 : canCall Tryd.prog 60 = true := by kernel_rfl
theorem s_div64 : P_div64 = sat E (symTop Tryd.prog tab7 2000 60 ash_div64 sh_div64) := by kernel_rfl
theorem pure_div64 (hV : Valid Tryd.prog tab7 E) (h : P_div64) (args : List Value) (ha : shaFits ash_div64 args) (hp : E.pre 60 (args.map vints)) : Pure Tryd.prog 60 args.toArray fun v => sh_div64.fits v ∧ E.post 60 (args.map vints) (vres v) := @top_sat Tryd.prog tab7 E hV 2000 60 ash_div64 sh_div64 (@Eq.mp _ _ s_div64 h) args ha hp
theorem step_div64 (hV : Valid Tryd.prog tab7 E) (h : P_div64) : Valid Tryd.prog tab8 E := hV.add c_div64 (pure_div64 hV h)

/-- (gouache/wides.words).turned -/
def P_turned : Prop :=
  (∀ n : Int, 0 ≤ n → n ≤ 18446744073709551615 →
  (∀ n1 : Int, 0 ≤ n1 → n1 ≤ 18446744073709551615 →
  (∀ n2 : Int, 0 ≤ n2 → n2 ≤ 18446744073709551615 →
  (Pre_turned [[n, n1, n2]] →
  (∀ b : Nat, (∀ b1 : Nat, (∀ n3 : Int, n3 = (((18446744073709551615 - n) + 1) % 18446744073709551616) → 0 ≤ n3 → n3 ≤ 18446744073709551615 →
  (∀ n4 : Int, n4 = (((18446744073709551615 - n) + 1) / 18446744073709551616) → 0 ≤ n4 → n4 ≤ 1 →
  (∀ n5 : Int, n5 = (((18446744073709551615 - n1) + n4) % 18446744073709551616) → 0 ≤ n5 → n5 ≤ 18446744073709551615 →
  (∀ n6 : Int, n6 = (((18446744073709551615 - n1) + n4) / 18446744073709551616) → 0 ≤ n6 → n6 ≤ 1 →
  Post_turned [[n, n1, n2]] [[n3, n5, 0]]))))))))))
theorem c_turned : canCall Tryd.prog 54 = true := by kernel_rfl
theorem s_turned : P_turned = sat E (symTop Tryd.prog tab8 2000 54 ash_turned sh_turned) := by kernel_rfl
theorem pure_turned (hV : Valid Tryd.prog tab8 E) (h : P_turned) (args : List Value) (ha : shaFits ash_turned args) (hp : E.pre 54 (args.map vints)) : Pure Tryd.prog 54 args.toArray fun v => sh_turned.fits v ∧ E.post 54 (args.map vints) (vres v) := @top_sat Tryd.prog tab8 E hV 2000 54 ash_turned sh_turned (@Eq.mp _ _ s_turned h) args ha hp
theorem step_turned (hV : Valid Tryd.prog tab8 E) (h : P_turned) : Valid Tryd.prog tab9 E := hV.add c_turned (pure_turned hV h)

/-- gouache/wides.part -/
def P_part : Prop :=
  (∀ n : Int, (-9223372036854775808) ≤ n → n ≤ 9223372036854775807 →
  (∀ n1 : Int, 0 ≤ n1 → n1 ≤ 18446744073709551615 →
  (Pre_part [[n, n1]] →
  (∀ b : Nat, (∀ b1 : Nat, (∀ b2 : Nat, (∀ n2 : Int, n2 = (IntKind.wrap .u64 n) → 0 ≤ n2 → n2 ≤ 18446744073709551615 →
  (((n < 0) →
    (Pre_turned [[n1, n2, 0]] ∧
    (∀ n3 : Int, 0 ≤ n3 → n3 ≤ 18446744073709551615 →
    (∀ n4 : Int, 0 ≤ n4 → n4 ≤ 18446744073709551615 →
    (∀ n5 : Int, 0 ≤ n5 → n5 ≤ 18446744073709551615 →
    (Post_turned [[n1, n2, 0]] [[n3, n4, n5]] →
    Post_part [[n, n1]] [[b2i (decide (n < 0)), n3, n4, n5]])))))) ∧
   (¬ (n < 0) →
    Post_part [[n, n1]] [[b2i (decide (n < 0)), n1, n2, 0]])))))))))
theorem c_part : canCall Tryd.prog 47 = true := by kernel_rfl
theorem s_part : P_part = sat E (symTop Tryd.prog tab9 2000 47 ash_part sh_part) := by kernel_rfl
theorem pure_part (hV : Valid Tryd.prog tab9 E) (h : P_part) (args : List Value) (ha : shaFits ash_part args) (hp : E.pre 47 (args.map vints)) : Pure Tryd.prog 47 args.toArray fun v => sh_part.fits v ∧ E.post 47 (args.map vints) (vres v) := @top_sat Tryd.prog tab9 E hV 2000 47 ash_part sh_part (@Eq.mp _ _ s_part h) args ha hp
theorem step_part (hV : Valid Tryd.prog tab9 E) (h : P_part) : Valid Tryd.prog tab10 E := hV.add c_part (pure_part hV h)

/-- (gouache/wides.parted).whole -/
def P_whole : Prop :=
  (∀ t : Bool, (∀ n : Int, 0 ≤ n → n ≤ 18446744073709551615 →
  (∀ n1 : Int, 0 ≤ n1 → n1 ≤ 18446744073709551615 →
  (∀ n2 : Int, 0 ≤ n2 → n2 ≤ 18446744073709551615 →
  (Pre_whole [[b2i t, n, n1, n2]] →
  (∀ b : Nat, (∀ b1 : Nat, (∀ b2 : Nat, (((¬ ((t = true) ∧ ((n = 0) ∧ ((n1 = 9223372036854775808) ∧ (n2 = 0))))) →
    (((0 < n2) →
      Post_whole [[b2i t, n, n1, n2]] [[0, 0], [11]]) ∧
     (¬ (0 < n2) →
      (((0 < (n1 / 9223372036854775808)) →
        Post_whole [[b2i t, n, n1, n2]] [[0, 0], [11]]) ∧
       (¬ (0 < (n1 / 9223372036854775808)) →
        (((t = true) →
          (Pre_turned [[n, n1, n2]] ∧
          (∀ n3 : Int, 0 ≤ n3 → n3 ≤ 18446744073709551615 →
          (∀ n4 : Int, 0 ≤ n4 → n4 ≤ 18446744073709551615 →
          (∀ n5 : Int, 0 ≤ n5 → n5 ≤ 18446744073709551615 →
          (Post_turned [[n, n1, n2]] [[n3, n4, n5]] →
          (∀ n6 : Int, n6 = (IntKind.wrap .i64 n4) → (-9223372036854775808) ≤ n6 → n6 ≤ 9223372036854775807 →
          Post_whole [[b2i t, n, n1, n2]] [[n6, n3], [0]]))))))) ∧
         (¬ (t = true) →
          (∀ n3 : Int, n3 = (IntKind.wrap .i64 n1) → (-9223372036854775808) ≤ n3 → n3 ≤ 9223372036854775807 →
          Post_whole [[b2i t, n, n1, n2]] [[n3, n], [0]])))))))) ∧
   (¬ (¬ ((t = true) ∧ ((n = 0) ∧ ((n1 = 9223372036854775808) ∧ (n2 = 0))))) →
    (((t = true) →
      (Pre_turned [[n, n1, n2]] ∧
      (∀ n3 : Int, 0 ≤ n3 → n3 ≤ 18446744073709551615 →
      (∀ n4 : Int, 0 ≤ n4 → n4 ≤ 18446744073709551615 →
      (∀ n5 : Int, 0 ≤ n5 → n5 ≤ 18446744073709551615 →
      (Post_turned [[n, n1, n2]] [[n3, n4, n5]] →
      (∀ n6 : Int, n6 = (IntKind.wrap .i64 n4) → (-9223372036854775808) ≤ n6 → n6 ≤ 9223372036854775807 →
      Post_whole [[b2i t, n, n1, n2]] [[n6, n3], [0]]))))))) ∧
     (¬ (t = true) →
      (∀ n3 : Int, n3 = (IntKind.wrap .i64 n1) → (-9223372036854775808) ≤ n3 → n3 ≤ 9223372036854775807 →
      Post_whole [[b2i t, n, n1, n2]] [[n3, n], [0]])))))))))))))
theorem c_whole : canCall Tryd.prog 50 = true := by kernel_rfl
theorem s_whole : P_whole = sat E (symTop Tryd.prog tab10 2000 50 ash_whole sh_whole) := by kernel_rfl
theorem pure_whole (hV : Valid Tryd.prog tab10 E) (h : P_whole) (args : List Value) (ha : shaFits ash_whole args) (hp : E.pre 50 (args.map vints)) : Pure Tryd.prog 50 args.toArray fun v => sh_whole.fits v ∧ E.post 50 (args.map vints) (vres v) := @top_sat Tryd.prog tab10 E hV 2000 50 ash_whole sh_whole (@Eq.mp _ _ s_whole h) args ha hp
theorem step_whole (hV : Valid Tryd.prog tab10 E) (h : P_whole) : Valid Tryd.prog tab11 E := hV.add c_whole (pure_whole hV h)

/-- (gouache/wides.words).times -/
def P_wtimes : Prop :=
  (∀ n : Int, 0 ≤ n → n ≤ 18446744073709551615 →
  (∀ n1 : Int, 0 ≤ n1 → n1 ≤ 18446744073709551615 →
  (∀ n2 : Int, 0 ≤ n2 → n2 ≤ 18446744073709551615 →
  (∀ n3 : Int, 0 ≤ n3 → n3 ≤ 18446744073709551615 →
  (Pre_wtimes [[n, n1, n2], [n3]] →
  (∀ b : Nat, (∀ b1 : Nat, (Pre_mul64 [[n], [n3]] ∧
  (∀ n4 : Int, 0 ≤ n4 → n4 ≤ 18446744073709551615 →
  (∀ n5 : Int, 0 ≤ n5 → n5 ≤ 18446744073709551615 →
  (Post_mul64 [[n], [n3]] [[n4], [n5]] →
  (Pre_mul64 [[n1], [n3]] ∧
  (∀ n6 : Int, 0 ≤ n6 → n6 ≤ 18446744073709551615 →
  (∀ n7 : Int, 0 ≤ n7 → n7 ≤ 18446744073709551615 →
  (Post_mul64 [[n1], [n3]] [[n6], [n7]] →
  (∀ n8 : Int, n8 = ((n7 + n4) % 18446744073709551616) → 0 ≤ n8 → n8 ≤ 18446744073709551615 →
  (∀ n9 : Int, n9 = ((n7 + n4) / 18446744073709551616) → 0 ≤ n9 → n9 ≤ 1 →
  (∀ n10 : Int, n10 = (IntKind.wrap .u64 (n6 + n9)) → 0 ≤ n10 → n10 ≤ 18446744073709551615 →
  (Pre_mul64 [[n2], [n3]] ∧
  (∀ n11 : Int, 0 ≤ n11 → n11 ≤ 18446744073709551615 →
  (∀ n12 : Int, 0 ≤ n12 → n12 ≤ 18446744073709551615 →
  (Post_mul64 [[n2], [n3]] [[n11], [n12]] →
  (∀ n13 : Int, n13 = ((n12 + n10) % 18446744073709551616) → 0 ≤ n13 → n13 ≤ 18446744073709551615 →
  (∀ n14 : Int, n14 = ((n12 + n10) / 18446744073709551616) → 0 ≤ n14 → n14 ≤ 1 →
  (∀ n15 : Int, n15 = (IntKind.wrap .u64 (n11 + n14)) → 0 ≤ n15 → n15 ≤ 18446744073709551615 →
  Post_wtimes [[n, n1, n2], [n3]] [[n5, n8, n13]])))))))))))))))))))))))))
theorem c_wtimes : canCall Tryd.prog 48 = true := by kernel_rfl
theorem s_wtimes : P_wtimes = sat E (symTop Tryd.prog tab11 2000 48 ash_wtimes sh_wtimes) := by kernel_rfl
theorem pure_wtimes (hV : Valid Tryd.prog tab11 E) (h : P_wtimes) (args : List Value) (ha : shaFits ash_wtimes args) (hp : E.pre 48 (args.map vints)) : Pure Tryd.prog 48 args.toArray fun v => sh_wtimes.fits v ∧ E.post 48 (args.map vints) (vres v) := @top_sat Tryd.prog tab11 E hV 2000 48 ash_wtimes sh_wtimes (@Eq.mp _ _ s_wtimes h) args ha hp
theorem step_wtimes (hV : Valid Tryd.prog tab11 E) (h : P_wtimes) : Valid Tryd.prog tab12 E := hV.add c_wtimes (pure_wtimes hV h)

/-- gouache/wides.size -/
def P_size : Prop :=
  (∀ n : Int, (-9223372036854775808) ≤ n → n ≤ 9223372036854775807 →
  (Pre_size [[n]] →
  (((n < 0) →
    (∀ n1 : Int, n1 = (IntKind.wrap .u64 (0 - (IntKind.wrap .u64 n))) → 0 ≤ n1 → n1 ≤ 18446744073709551615 →
    Post_size [[n]] [[n1]])) ∧
   (¬ (n < 0) →
    (∀ n1 : Int, n1 = (IntKind.wrap .u64 n) → 0 ≤ n1 → n1 ≤ 18446744073709551615 →
    Post_size [[n]] [[n1]])))))
theorem c_size : canCall Tryd.prog 49 = true := by kernel_rfl
theorem s_size : P_size = sat E (symTop Tryd.prog tab12 2000 49 ash_size sh_size) := by kernel_rfl
theorem pure_size (hV : Valid Tryd.prog tab12 E) (h : P_size) (args : List Value) (ha : shaFits ash_size args) (hp : E.pre 49 (args.map vints)) : Pure Tryd.prog 49 args.toArray fun v => sh_size.fits v ∧ E.post 49 (args.map vints) (vres v) := @top_sat Tryd.prog tab12 E hV 2000 49 ash_size sh_size (@Eq.mp _ _ s_size h) args ha hp
theorem step_size (hV : Valid Tryd.prog tab12 E) (h : P_size) : Valid Tryd.prog tab13 E := hV.add c_size (pure_size hV h)

/-- gouache/wides.Add -/
def P_wadd : Prop :=
  (∀ n : Int, (-9223372036854775808) ≤ n → n ≤ 9223372036854775807 →
  (∀ n1 : Int, 0 ≤ n1 → n1 ≤ 18446744073709551615 →
  (∀ n2 : Int, (-9223372036854775808) ≤ n2 → n2 ≤ 9223372036854775807 →
  (∀ n3 : Int, 0 ≤ n3 → n3 ≤ 18446744073709551615 →
  (Pre_wadd [[n, n1], [n2, n3]] →
  (∀ b : Nat, (∀ b1 : Nat, (∀ b2 : Nat, (∀ n4 : Int, n4 = ((n1 + n3) % 18446744073709551616) → 0 ≤ n4 → n4 ≤ 18446744073709551615 →
  (∀ n5 : Int, n5 = ((n1 + n3) / 18446744073709551616) → 0 ≤ n5 → n5 ≤ 1 →
  (∀ n6 : Int, n6 = (IntKind.wrap .i64 ((IntKind.wrap .i64 (n + n2)) + n5)) → (-9223372036854775808) ≤ n6 → n6 ≤ 9223372036854775807 →
  ((((n < 0) ↔ (n2 < 0)) →
    (((¬ ((n6 < 0) ↔ (n < 0))) →
      Post_wadd [[n, n1], [n2, n3]] [[0, 0], [11]]) ∧
     (¬ (¬ ((n6 < 0) ↔ (n < 0))) →
      Post_wadd [[n, n1], [n2, n3]] [[n6, n4], [0]]))) ∧
   (¬ ((n < 0) ↔ (n2 < 0)) →
    Post_wadd [[n, n1], [n2, n3]] [[n6, n4], [0]])))))))))))))
theorem c_wadd : canCall Tryd.prog 32 = true := by kernel_rfl
theorem s_wadd : P_wadd = sat E (symTop Tryd.prog tab13 2000 32 ash_wadd sh_wadd) := by kernel_rfl
theorem pure_wadd (hV : Valid Tryd.prog tab13 E) (h : P_wadd) (args : List Value) (ha : shaFits ash_wadd args) (hp : E.pre 32 (args.map vints)) : Pure Tryd.prog 32 args.toArray fun v => sh_wadd.fits v ∧ E.post 32 (args.map vints) (vres v) := @top_sat Tryd.prog tab13 E hV 2000 32 ash_wadd sh_wadd (@Eq.mp _ _ s_wadd h) args ha hp
theorem step_wadd (hV : Valid Tryd.prog tab13 E) (h : P_wadd) : Valid Tryd.prog tab14 E := hV.add c_wadd (pure_wadd hV h)

/-- gouache/wides.Sub -/
def P_wsub : Prop :=
  (∀ n : Int, (-9223372036854775808) ≤ n → n ≤ 9223372036854775807 →
  (∀ n1 : Int, 0 ≤ n1 → n1 ≤ 18446744073709551615 →
  (∀ n2 : Int, (-9223372036854775808) ≤ n2 → n2 ≤ 9223372036854775807 →
  (∀ n3 : Int, 0 ≤ n3 → n3 ≤ 18446744073709551615 →
  (Pre_wsub [[n, n1], [n2, n3]] →
  (∀ b : Nat, (∀ b1 : Nat, (∀ b2 : Nat, (∀ n4 : Int, n4 = ((n1 - n3) % 18446744073709551616) → 0 ≤ n4 → n4 ≤ 18446744073709551615 →
  (∀ n5 : Int, n5 = (0 - ((n1 - n3) / 18446744073709551616)) → 0 ≤ n5 → n5 ≤ 1 →
  (∀ n6 : Int, n6 = (IntKind.wrap .i64 ((IntKind.wrap .i64 (n - n2)) - n5)) → (-9223372036854775808) ≤ n6 → n6 ≤ 9223372036854775807 →
  (((¬ ((n < 0) ↔ (n2 < 0))) →
    (((¬ ((n6 < 0) ↔ (n < 0))) →
      Post_wsub [[n, n1], [n2, n3]] [[0, 0], [11]]) ∧
     (¬ (¬ ((n6 < 0) ↔ (n < 0))) →
      Post_wsub [[n, n1], [n2, n3]] [[n6, n4], [0]]))) ∧
   (¬ (¬ ((n < 0) ↔ (n2 < 0))) →
    Post_wsub [[n, n1], [n2, n3]] [[n6, n4], [0]])))))))))))))
theorem c_wsub : canCall Tryd.prog 51 = true := by kernel_rfl
theorem s_wsub : P_wsub = sat E (symTop Tryd.prog tab14 2000 51 ash_wsub sh_wsub) := by kernel_rfl
theorem pure_wsub (hV : Valid Tryd.prog tab14 E) (h : P_wsub) (args : List Value) (ha : shaFits ash_wsub args) (hp : E.pre 51 (args.map vints)) : Pure Tryd.prog 51 args.toArray fun v => sh_wsub.fits v ∧ E.post 51 (args.map vints) (vres v) := @top_sat Tryd.prog tab14 E hV 2000 51 ash_wsub sh_wsub (@Eq.mp _ _ s_wsub h) args ha hp
theorem step_wsub (hV : Valid Tryd.prog tab14 E) (h : P_wsub) : Valid Tryd.prog tab15 E := hV.add c_wsub (pure_wsub hV h)

/-- gouache/wides.Times -/
def P_wtms : Prop :=
  (∀ n : Int, (-9223372036854775808) ≤ n → n ≤ 9223372036854775807 →
  (∀ n1 : Int, 0 ≤ n1 → n1 ≤ 18446744073709551615 →
  (∀ n2 : Int, (-9223372036854775808) ≤ n2 → n2 ≤ 9223372036854775807 →
  (Pre_wtms [[n, n1], [n2]] →
  (∀ b : Nat, (∀ b1 : Nat, (Pre_part [[n, n1]] ∧
  (∀ t : Bool, (∀ n3 : Int, 0 ≤ n3 → n3 ≤ 18446744073709551615 →
  (∀ n4 : Int, 0 ≤ n4 → n4 ≤ 18446744073709551615 →
  (∀ n5 : Int, 0 ≤ n5 → n5 ≤ 18446744073709551615 →
  (Post_part [[n, n1]] [[b2i t, n3, n4, n5]] →
  (∀ b2 : Nat, (Pre_size [[n2]] ∧
  (∀ n6 : Int, 0 ≤ n6 → n6 ≤ 18446744073709551615 →
  (Post_size [[n2]] [[n6]] →
  (Pre_wtimes [[n3, n4, n5], [n6]] ∧
  (∀ n7 : Int, 0 ≤ n7 → n7 ≤ 18446744073709551615 →
  (∀ n8 : Int, 0 ≤ n8 → n8 ≤ 18446744073709551615 →
  (∀ n9 : Int, 0 ≤ n9 → n9 ≤ 18446744073709551615 →
  (Post_wtimes [[n3, n4, n5], [n6]] [[n7, n8, n9]] →
  (Pre_whole [[b2i (!(t == (decide (n2 < 0)))), n7, n8, n9]] ∧
  (∀ n10 : Int, (-9223372036854775808) ≤ n10 → n10 ≤ 9223372036854775807 →
  (∀ n11 : Int, 0 ≤ n11 → n11 ≤ 18446744073709551615 →
  (∀ n12 : Int, 0 ≤ n12 → n12 ≤ 11 →
  (Post_whole [[b2i (!(t == (decide (n2 < 0)))), n7, n8, n9]] [[n10, n11], [n12]] →
  Post_wtms [[n, n1], [n2]] [[n10, n11], [n12]]))))))))))))))))))))))))))
theorem c_wtms : canCall Tryd.prog 42 = true := by kernel_rfl
theorem s_wtms : P_wtms = sat E (symTop Tryd.prog tab15 2000 42 ash_wtms sh_wtms) := by kernel_rfl
theorem pure_wtms (hV : Valid Tryd.prog tab15 E) (h : P_wtms) (args : List Value) (ha : shaFits ash_wtms args) (hp : E.pre 42 (args.map vints)) : Pure Tryd.prog 42 args.toArray fun v => sh_wtms.fits v ∧ E.post 42 (args.map vints) (vres v) := @top_sat Tryd.prog tab15 E hV 2000 42 ash_wtms sh_wtms (@Eq.mp _ _ s_wtms h) args ha hp
theorem step_wtms (hV : Valid Tryd.prog tab15 E) (h : P_wtms) : Valid Tryd.prog tab16 E := hV.add c_wtms (pure_wtms hV h)

/-- gouache/wides.Mul -/
def P_wmul : Prop :=
  (∀ n : Int, (-9223372036854775808) ≤ n → n ≤ 9223372036854775807 →
  (∀ n1 : Int, (-9223372036854775808) ≤ n1 → n1 ≤ 9223372036854775807 →
  (Pre_wmul [[n], [n1]] →
  (∀ b : Nat, (Pre_wof [[n]] ∧
  (∀ n2 : Int, (-9223372036854775808) ≤ n2 → n2 ≤ 9223372036854775807 →
  (∀ n3 : Int, 0 ≤ n3 → n3 ≤ 18446744073709551615 →
  (Post_wof [[n]] [[n2, n3]] →
  (Pre_wtms [[n2, n3], [n1]] ∧
  (∀ n4 : Int, (-9223372036854775808) ≤ n4 → n4 ≤ 9223372036854775807 →
  (∀ n5 : Int, 0 ≤ n5 → n5 ≤ 18446744073709551615 →
  (∀ n6 : Int, 0 ≤ n6 → n6 ≤ 11 →
  (Post_wtms [[n2, n3], [n1]] [[n4, n5], [n6]] →
  (∀ b1 : Nat, Post_wmul [[n], [n1]] [[n4, n5]]))))))))))))))
theorem c_wmul : canCall Tryd.prog 33 = true := by kernel_rfl
theorem s_wmul : P_wmul = sat E (symTop Tryd.prog tab16 2000 33 ash_wmul sh_wmul) := by kernel_rfl
theorem pure_wmul (hV : Valid Tryd.prog tab16 E) (h : P_wmul) (args : List Value) (ha : shaFits ash_wmul args) (hp : E.pre 33 (args.map vints)) : Pure Tryd.prog 33 args.toArray fun v => sh_wmul.fits v ∧ E.post 33 (args.map vints) (vres v) := @top_sat Tryd.prog tab16 E hV 2000 33 ash_wmul sh_wmul (@Eq.mp _ _ s_wmul h) args ha hp
theorem step_wmul (hV : Valid Tryd.prog tab16 E) (h : P_wmul) : Valid Tryd.prog tab17 E := hV.add c_wmul (pure_wmul hV h)

/-- (gouache/wides.words).divided -/
def P_wdivided : Prop :=
  (∀ n : Int, 0 ≤ n → n ≤ 18446744073709551615 →
  (∀ n1 : Int, 0 ≤ n1 → n1 ≤ 18446744073709551615 →
  (∀ n2 : Int, 0 ≤ n2 → n2 ≤ 18446744073709551615 →
  (∀ n3 : Int, 0 ≤ n3 → n3 ≤ 18446744073709551615 →
  (Pre_wdivided [[n, n1, n2], [n3]] →
  (∀ b : Nat, (∀ b1 : Nat, (Pre_div64 [[0], [n1], [n3]] ∧
  (∀ n4 : Int, 0 ≤ n4 → n4 ≤ 18446744073709551615 →
  (∀ n5 : Int, 0 ≤ n5 → n5 ≤ 18446744073709551615 →
  (Post_div64 [[0], [n1], [n3]] [[n4], [n5]] →
  (Pre_div64 [[n5], [n], [n3]] ∧
  (∀ n6 : Int, 0 ≤ n6 → n6 ≤ 18446744073709551615 →
  (∀ n7 : Int, 0 ≤ n7 → n7 ≤ 18446744073709551615 →
  (Post_div64 [[n5], [n], [n3]] [[n6], [n7]] →
  Post_wdivided [[n, n1, n2], [n3]] [[n6, n4, 0], [n7]])))))))))))))))
theorem c_wdivided : canCall Tryd.prog 53 = true := by kernel_rfl
theorem s_wdivided : P_wdivided = sat E (symTop Tryd.prog tab17 2000 53 ash_wdivided sh_wdivided) := by kernel_rfl
theorem pure_wdivided (hV : Valid Tryd.prog tab17 E) (h : P_wdivided) (args : List Value) (ha : shaFits ash_wdivided args) (hp : E.pre 53 (args.map vints)) : Pure Tryd.prog 53 args.toArray fun v => sh_wdivided.fits v ∧ E.post 53 (args.map vints) (vres v) := @top_sat Tryd.prog tab17 E hV 2000 53 ash_wdivided sh_wdivided (@Eq.mp _ _ s_wdivided h) args ha hp
theorem step_wdivided (hV : Valid Tryd.prog tab17 E) (h : P_wdivided) : Valid Tryd.prog tab18 E := hV.add c_wdivided (pure_wdivided hV h)

/-- gouache/wides.Floor -/
def P_wfloor : Prop :=
  (∀ n : Int, (-9223372036854775808) ≤ n → n ≤ 9223372036854775807 →
  (∀ n1 : Int, 0 ≤ n1 → n1 ≤ 18446744073709551615 →
  (∀ n2 : Int, (-9223372036854775808) ≤ n2 → n2 ≤ 9223372036854775807 →
  (Pre_wfloor [[n, n1], [n2]] →
  (∀ b : Nat, (∀ b1 : Nat, (((n2 < 1) →
    Post_wfloor [[n, n1], [n2]] [[0, 0], [0], [1]]) ∧
   (¬ (n2 < 1) →
    (Pre_part [[n, n1]] ∧
    (∀ t : Bool, (∀ n3 : Int, 0 ≤ n3 → n3 ≤ 18446744073709551615 →
    (∀ n4 : Int, 0 ≤ n4 → n4 ≤ 18446744073709551615 →
    (∀ n5 : Int, 0 ≤ n5 → n5 ≤ 18446744073709551615 →
    (Post_part [[n, n1]] [[b2i t, n3, n4, n5]] →
    (∀ b2 : Nat, (∀ n6 : Int, n6 = (IntKind.wrap .u64 n2) → 0 ≤ n6 → n6 ≤ 18446744073709551615 →
    (Pre_wdivided [[n3, n4, n5], [n6]] ∧
    (∀ n7 : Int, 0 ≤ n7 → n7 ≤ 18446744073709551615 →
    (∀ n8 : Int, 0 ≤ n8 → n8 ≤ 18446744073709551615 →
    (∀ n9 : Int, 0 ≤ n9 → n9 ≤ 18446744073709551615 →
    (∀ n10 : Int, 0 ≤ n10 → n10 ≤ 18446744073709551615 →
    (Post_wdivided [[n3, n4, n5], [n6]] [[n7, n8, n9], [n10]] →
    (∀ b3 : Nat, (Pre_whole [[b2i t, n7, n8, n9]] ∧
    (∀ n11 : Int, (-9223372036854775808) ≤ n11 → n11 ≤ 9223372036854775807 →
    (∀ n12 : Int, 0 ≤ n12 → n12 ≤ 18446744073709551615 →
    (∀ n13 : Int, 0 ≤ n13 → n13 ≤ 11 →
    (Post_whole [[b2i t, n7, n8, n9]] [[n11, n12], [n13]] →
    (((t = true) →
      (((0 < n10) →
        (Pre_wof [[1]] ∧
        (∀ n14 : Int, (-9223372036854775808) ≤ n14 → n14 ≤ 9223372036854775807 →
        (∀ n15 : Int, 0 ≤ n15 → n15 ≤ 18446744073709551615 →
        (Post_wof [[1]] [[n14, n15]] →
        (Pre_wsub [[n11, n12], [n14, n15]] ∧
        (∀ n16 : Int, (-9223372036854775808) ≤ n16 → n16 ≤ 9223372036854775807 →
        (∀ n17 : Int, 0 ≤ n17 → n17 ≤ 18446744073709551615 →
        (∀ n18 : Int, 0 ≤ n18 → n18 ≤ 11 →
        (Post_wsub [[n11, n12], [n14, n15]] [[n16, n17], [n18]] →
        (∀ n19 : Int, n19 = (IntKind.wrap .u64 ((IntKind.wrap .u64 n2) - n10)) → 0 ≤ n19 → n19 ≤ 18446744073709551615 →
        (∀ n20 : Int, n20 = (IntKind.wrap .i64 n19) → (-9223372036854775808) ≤ n20 → n20 ≤ 9223372036854775807 →
        Post_wfloor [[n, n1], [n2]] [[n16, n17], [n20], [0]])))))))))))) ∧
       (¬ (0 < n10) →
        (∀ n14 : Int, n14 = (IntKind.wrap .i64 n10) → (-9223372036854775808) ≤ n14 → n14 ≤ 9223372036854775807 →
        Post_wfloor [[n, n1], [n2]] [[n11, n12], [n14], [0]])))) ∧
     (¬ (t = true) →
      (∀ n14 : Int, n14 = (IntKind.wrap .i64 n10) → (-9223372036854775808) ≤ n14 → n14 ≤ 9223372036854775807 →
      Post_wfloor [[n, n1], [n2]] [[n11, n12], [n14], [0]])))))))))))))))))))))))))))))))
theorem c_wfloor : canCall Tryd.prog 46 = true := by kernel_rfl
theorem s_wfloor : P_wfloor = sat E (symTop Tryd.prog tab18 2000 46 ash_wfloor sh_wfloor) := by kernel_rfl
theorem pure_wfloor (hV : Valid Tryd.prog tab18 E) (h : P_wfloor) (args : List Value) (ha : shaFits ash_wfloor args) (hp : E.pre 46 (args.map vints)) : Pure Tryd.prog 46 args.toArray fun v => sh_wfloor.fits v ∧ E.post 46 (args.map vints) (vres v) := @top_sat Tryd.prog tab18 E hV 2000 46 ash_wfloor sh_wfloor (@Eq.mp _ _ s_wfloor h) args ha hp
theorem step_wfloor (hV : Valid Tryd.prog tab18 E) (h : P_wfloor) : Valid Tryd.prog tab19 E := hV.add c_wfloor (pure_wfloor hV h)

/-- gouache/wides.Near -/
def P_wnear : Prop :=
  (∀ n : Int, (-9223372036854775808) ≤ n → n ≤ 9223372036854775807 →
  (∀ n1 : Int, 0 ≤ n1 → n1 ≤ 18446744073709551615 →
  (∀ n2 : Int, (-9223372036854775808) ≤ n2 → n2 ≤ 9223372036854775807 →
  (Pre_wnear [[n, n1], [n2]] →
  (∀ b : Nat, (∀ b1 : Nat, (Pre_wfloor [[n, n1], [n2]] ∧
  (∀ n3 : Int, (-9223372036854775808) ≤ n3 → n3 ≤ 9223372036854775807 →
  (∀ n4 : Int, 0 ≤ n4 → n4 ≤ 18446744073709551615 →
  (∀ n5 : Int, (-9223372036854775808) ≤ n5 → n5 ≤ 9223372036854775807 →
  (∀ n6 : Int, 0 ≤ n6 → n6 ≤ 11 →
  (Post_wfloor [[n, n1], [n2]] [[n3, n4], [n5], [n6]] →
  (∀ b2 : Nat, (((n6 = 0) →
    ((((IntKind.wrap .i64 (n2 - n5)) ≤ n5) →
      (Pre_wof [[1]] ∧
      (∀ n7 : Int, (-9223372036854775808) ≤ n7 → n7 ≤ 9223372036854775807 →
      (∀ n8 : Int, 0 ≤ n8 → n8 ≤ 18446744073709551615 →
      (Post_wof [[1]] [[n7, n8]] →
      (Pre_wadd [[n3, n4], [n7, n8]] ∧
      (∀ n9 : Int, (-9223372036854775808) ≤ n9 → n9 ≤ 9223372036854775807 →
      (∀ n10 : Int, 0 ≤ n10 → n10 ≤ 18446744073709551615 →
      (∀ n11 : Int, 0 ≤ n11 → n11 ≤ 11 →
      (Post_wadd [[n3, n4], [n7, n8]] [[n9, n10], [n11]] →
      Post_wnear [[n, n1], [n2]] [[n9, n10], [n11]])))))))))) ∧
     (¬ ((IntKind.wrap .i64 (n2 - n5)) ≤ n5) →
      Post_wnear [[n, n1], [n2]] [[n3, n4], [n6]]))) ∧
   (¬ (n6 = 0) →
    Post_wnear [[n, n1], [n2]] [[n3, n4], [n6]])))))))))))))))
theorem c_wnear : canCall Tryd.prog 39 = true := by kernel_rfl
theorem s_wnear : P_wnear = sat E (symTop Tryd.prog tab19 2000 39 ash_wnear sh_wnear) := by kernel_rfl
theorem pure_wnear (hV : Valid Tryd.prog tab19 E) (h : P_wnear) (args : List Value) (ha : shaFits ash_wnear args) (hp : E.pre 39 (args.map vints)) : Pure Tryd.prog 39 args.toArray fun v => sh_wnear.fits v ∧ E.post 39 (args.map vints) (vres v) := @top_sat Tryd.prog tab19 E hV 2000 39 ash_wnear sh_wnear (@Eq.mp _ _ s_wnear h) args ha hp
theorem step_wnear (hV : Valid Tryd.prog tab19 E) (h : P_wnear) : Valid Tryd.prog tab20 E := hV.add c_wnear (pure_wnear hV h)

/-- gouache/wides.Int -/
def P_wint : Prop :=
  (∀ n : Int, (-9223372036854775808) ≤ n → n ≤ 9223372036854775807 →
  (∀ n1 : Int, 0 ≤ n1 → n1 ≤ 18446744073709551615 →
  (Pre_wint [[n, n1]] →
  (∀ b : Nat, (∀ n2 : Int, n2 = (IntKind.wrap .i64 n1) → (-9223372036854775808) ≤ n2 → n2 ≤ 9223372036854775807 →
  (Pre_wof [[n2]] ∧
  (∀ n3 : Int, (-9223372036854775808) ≤ n3 → n3 ≤ 9223372036854775807 →
  (∀ n4 : Int, 0 ≤ n4 → n4 ≤ 18446744073709551615 →
  (Post_wof [[n2]] [[n3, n4]] →
  ((((n = n3) ∧ (n1 = n4)) →
    Post_wint [[n, n1]] [[n2], [b2i true]]) ∧
   (¬ ((n = n3) ∧ (n1 = n4)) →
    Post_wint [[n, n1]] [[0], [b2i false]])))))))))))
theorem c_wint : canCall Tryd.prog 40 = true := by kernel_rfl
theorem s_wint : P_wint = sat E (symTop Tryd.prog tab20 2000 40 ash_wint sh_wint) := by kernel_rfl
theorem pure_wint (hV : Valid Tryd.prog tab20 E) (h : P_wint) (args : List Value) (ha : shaFits ash_wint args) (hp : E.pre 40 (args.map vints)) : Pure Tryd.prog 40 args.toArray fun v => sh_wint.fits v ∧ E.post 40 (args.map vints) (vres v) := @top_sat Tryd.prog tab20 E hV 2000 40 ash_wint sh_wint (@Eq.mp _ _ s_wint h) args ha hp
theorem step_wint (hV : Valid Tryd.prog tab20 E) (h : P_wint) : Valid Tryd.prog tab21 E := hV.add c_wint (pure_wint hV h)

/-- gouache/decodes.greatest -/
def P_greatest : Prop :=
  (∀ n : Int, (-9223372036854775808) ≤ n → n ≤ 9223372036854775807 →
  (Pre_greatest [[n]] →
  (((n < 1) →
    Post_greatest [[n]] [[0]]) ∧
   (¬ (n < 1) →
    (((32 < n) →
      Post_greatest [[n]] [[0]]) ∧
     (¬ (32 < n) →
      ((0 ≤ n) ∧
      (∀ n1 : Int, n1 = n → 0 ≤ n1 → n1 ≤ 9223372036854775807 →
      (∀ n2 : Int, n2 = (IntKind.wrap .i64 ((shI .shl .i64 1 n1) - 1)) → (-9223372036854775808) ≤ n2 → n2 ≤ 9223372036854775807 →
      ((0 ≤ n2) ∧
      ((n2 ≤ 4294967295) ∧
      (∀ n3 : Int, n3 = n2 → 0 ≤ n3 → n3 ≤ 4294967295 →
      Post_greatest [[n]] [[n3]]))))))))))))
theorem c_greatest : canCall Tryd.prog 30 = true := by kernel_rfl
theorem s_greatest : P_greatest = sat E (symTop Tryd.prog tab21 2000 30 ash_greatest sh_greatest) := by kernel_rfl
theorem pure_greatest (hV : Valid Tryd.prog tab21 E) (h : P_greatest) (args : List Value) (ha : shaFits ash_greatest args) (hp : E.pre 30 (args.map vints)) : Pure Tryd.prog 30 args.toArray fun v => sh_greatest.fits v ∧ E.post 30 (args.map vints) (vres v) := @top_sat Tryd.prog tab21 E hV 2000 30 ash_greatest sh_greatest (@Eq.mp _ _ s_greatest h) args ha hp
theorem step_greatest (hV : Valid Tryd.prog tab21 E) (h : P_greatest) : Valid Tryd.prog tab22 E := hV.add c_greatest (pure_greatest hV h)

/-- gouache/decodes.width -/
def P_width : Prop :=
  (∀ n : Int, (-2147483648) ≤ n → n ≤ 2147483647 →
  (∀ n1 : Int, (-2147483648) ≤ n1 → n1 ≤ 2147483647 →
  (Pre_width [[n, n1]] →
  (∀ b : Nat, (∀ n2 : Int, n2 = (n1 - n) → (-4294967295) ≤ n2 → n2 ≤ 4294967295 →
  Post_width [[n, n1]] [[n2]])))))
theorem c_width : canCall Tryd.prog 34 = true := by kernel_rfl
theorem s_width : P_width = sat E (symTop Tryd.prog tab22 2000 34 ash_width sh_width) := by kernel_rfl
theorem pure_width (hV : Valid Tryd.prog tab22 E) (h : P_width) (args : List Value) (ha : shaFits ash_width args) (hp : E.pre 34 (args.map vints)) : Pure Tryd.prog 34 args.toArray fun v => sh_width.fits v ∧ E.post 34 (args.map vints) (vres v) := @top_sat Tryd.prog tab22 E hV 2000 34 ash_width sh_width (@Eq.mp _ _ s_width h) args ha hp
theorem step_width (hV : Valid Tryd.prog tab22 E) (h : P_width) : Valid Tryd.prog tab23 E := hV.add c_width (pure_width hV h)

/-- gouache/decodes.led -/
def P_led : Prop :=
  (∀ n : Int, 0 ≤ n → n ≤ 4294967295 →
  (∀ n1 : Int, (-9223372036854775808) ≤ n1 → n1 ≤ 9223372036854775807 →
  (∀ n2 : Int, (-2147483648) ≤ n2 → n2 ≤ 2147483647 →
  (∀ n3 : Int, (-2147483648) ≤ n3 → n3 ≤ 2147483647 →
  (Pre_led [[n], [n1], [n2, n3]] →
  (∀ b : Nat, (∀ b1 : Nat, (Pre_greatest [[n1]] ∧
  (∀ n4 : Int, 0 ≤ n4 → n4 ≤ 4294967295 →
  (Post_greatest [[n1]] [[n4]] →
  (((0 < n4) →
    (((¬ (n ≤ n4)) →
      (Pre_wmul [[n2], [n4]] ∧
      (∀ n5 : Int, (-9223372036854775808) ≤ n5 → n5 ≤ 9223372036854775807 →
      (∀ n6 : Int, 0 ≤ n6 → n6 ≤ 18446744073709551615 →
      (Post_wmul [[n2], [n4]] [[n5, n6]] →
      (Pre_width [[n2, n3]] ∧
      (∀ n7 : Int, (-4294967295) ≤ n7 → n7 ≤ 4294967295 →
      (Post_width [[n2, n3]] [[n7]] →
      (Pre_wmul [[n], [n7]] ∧
      (∀ n8 : Int, (-9223372036854775808) ≤ n8 → n8 ≤ 9223372036854775807 →
      (∀ n9 : Int, 0 ≤ n9 → n9 ≤ 18446744073709551615 →
      (Post_wmul [[n], [n7]] [[n8, n9]] →
      (Pre_wadd [[n5, n6], [n8, n9]] ∧
      (∀ n10 : Int, (-9223372036854775808) ≤ n10 → n10 ≤ 9223372036854775807 →
      (∀ n11 : Int, 0 ≤ n11 → n11 ≤ 18446744073709551615 →
      (∀ n12 : Int, 0 ≤ n12 → n12 ≤ 11 →
      (Post_wadd [[n5, n6], [n8, n9]] [[n10, n11], [n12]] →
      (∀ b2 : Nat, Post_led [[n], [n1], [n2, n3]] [[0, 0, 0, 1]])))))))))))))))))) ∧
     (¬ (¬ (n ≤ n4)) →
      (Pre_wmul [[n2], [n4]] ∧
      (∀ n5 : Int, (-9223372036854775808) ≤ n5 → n5 ≤ 9223372036854775807 →
      (∀ n6 : Int, 0 ≤ n6 → n6 ≤ 18446744073709551615 →
      (Post_wmul [[n2], [n4]] [[n5, n6]] →
      (Pre_width [[n2, n3]] ∧
      (∀ n7 : Int, (-4294967295) ≤ n7 → n7 ≤ 4294967295 →
      (Post_width [[n2, n3]] [[n7]] →
      (Pre_wmul [[n], [n7]] ∧
      (∀ n8 : Int, (-9223372036854775808) ≤ n8 → n8 ≤ 9223372036854775807 →
      (∀ n9 : Int, 0 ≤ n9 → n9 ≤ 18446744073709551615 →
      (Post_wmul [[n], [n7]] [[n8, n9]] →
      (Pre_wadd [[n5, n6], [n8, n9]] ∧
      (∀ n10 : Int, (-9223372036854775808) ≤ n10 → n10 ≤ 9223372036854775807 →
      (∀ n11 : Int, 0 ≤ n11 → n11 ≤ 18446744073709551615 →
      (∀ n12 : Int, 0 ≤ n12 → n12 ≤ 11 →
      (Post_wadd [[n5, n6], [n8, n9]] [[n10, n11], [n12]] →
      (∀ b2 : Nat, Post_led [[n], [n1], [n2, n3]] [[n10, n11, n4, 0]])))))))))))))))))))) ∧
   (¬ (0 < n4) →
    (Pre_wmul [[n2], [n4]] ∧
    (∀ n5 : Int, (-9223372036854775808) ≤ n5 → n5 ≤ 9223372036854775807 →
    (∀ n6 : Int, 0 ≤ n6 → n6 ≤ 18446744073709551615 →
    (Post_wmul [[n2], [n4]] [[n5, n6]] →
    (Pre_width [[n2, n3]] ∧
    (∀ n7 : Int, (-4294967295) ≤ n7 → n7 ≤ 4294967295 →
    (Post_width [[n2, n3]] [[n7]] →
    (Pre_wmul [[n], [n7]] ∧
    (∀ n8 : Int, (-9223372036854775808) ≤ n8 → n8 ≤ 9223372036854775807 →
    (∀ n9 : Int, 0 ≤ n9 → n9 ≤ 18446744073709551615 →
    (Post_wmul [[n], [n7]] [[n8, n9]] →
    (Pre_wadd [[n5, n6], [n8, n9]] ∧
    (∀ n10 : Int, (-9223372036854775808) ≤ n10 → n10 ≤ 9223372036854775807 →
    (∀ n11 : Int, 0 ≤ n11 → n11 ≤ 18446744073709551615 →
    (∀ n12 : Int, 0 ≤ n12 → n12 ≤ 11 →
    (Post_wadd [[n5, n6], [n8, n9]] [[n10, n11], [n12]] →
    (∀ b2 : Nat, Post_led [[n], [n1], [n2, n3]] [[0, 0, 0, 1]])))))))))))))))))))))))))))))
theorem c_led : canCall Tryd.prog 20 = true := by kernel_rfl
theorem s_led : P_led = sat E (symTop Tryd.prog tab23 2000 20 ash_led sh_led) := by kernel_rfl
theorem pure_led (hV : Valid Tryd.prog tab23 E) (h : P_led) (args : List Value) (ha : shaFits ash_led args) (hp : E.pre 20 (args.map vints)) : Pure Tryd.prog 20 args.toArray fun v => sh_led.fits v ∧ E.post 20 (args.map vints) (vres v) := @top_sat Tryd.prog tab23 E hV 2000 20 ash_led sh_led (@Eq.mp _ _ s_led h) args ha hp
theorem step_led (hV : Valid Tryd.prog tab23 E) (h : P_led) : Valid Tryd.prog tab24 E := hV.add c_led (pure_led hV h)

/-- gouache/decodes.Value -/
def P_value : Prop :=
  (∀ n : Int, 0 ≤ n → n ≤ 4294967295 →
  (∀ n1 : Int, (-9223372036854775808) ≤ n1 → n1 ≤ 9223372036854775807 →
  (∀ n2 : Int, (-2147483648) ≤ n2 → n2 ≤ 2147483647 →
  (∀ n3 : Int, (-2147483648) ≤ n3 → n3 ≤ 2147483647 →
  (Pre_value [[n], [n1], [n2, n3]] →
  (∀ b : Nat, (∀ b1 : Nat, (Pre_led [[n], [n1], [n2, n3]] ∧
  (∀ n4 : Int, (-9223372036854775808) ≤ n4 → n4 ≤ 9223372036854775807 →
  (∀ n5 : Int, 0 ≤ n5 → n5 ≤ 18446744073709551615 →
  (∀ n6 : Int, (-9223372036854775808) ≤ n6 → n6 ≤ 9223372036854775807 →
  (∀ n7 : Int, 0 ≤ n7 → n7 ≤ 15 →
  (Post_led [[n], [n1], [n2, n3]] [[n4, n5, n6, n7]] →
  (∀ b2 : Nat, Post_value [[n], [n1], [n2, n3]] [[n4, n5, n6], [n7]]))))))))))))))
theorem c_value : canCall Tryd.prog 16 = true := by kernel_rfl
theorem s_value : P_value = sat E (symTop Tryd.prog tab24 2000 16 ash_value sh_value) := by kernel_rfl
theorem pure_value (hV : Valid Tryd.prog tab24 E) (h : P_value) (args : List Value) (ha : shaFits ash_value args) (hp : E.pre 16 (args.map vints)) : Pure Tryd.prog 16 args.toArray fun v => sh_value.fits v ∧ E.post 16 (args.map vints) (vres v) := @top_sat Tryd.prog tab24 E hV 2000 16 ash_value sh_value (@Eq.mp _ _ s_value h) args ha hp
theorem step_value (hV : Valid Tryd.prog tab24 E) (h : P_value) : Valid Tryd.prog tab25 E := hV.add c_value (pure_value hV h)

/-- gouache/places.small -/
def P_psmall : Prop :=
  (∀ n : Int, (-9223372036854775808) ≤ n → n ≤ 9223372036854775807 →
  (∀ n1 : Int, 0 ≤ n1 → n1 ≤ 18446744073709551615 →
  (Pre_psmall [[n, n1]] →
  (∀ b : Nat, (∀ b1 : Nat, (Pre_wof [[0]] ∧
  (∀ n2 : Int, (-9223372036854775808) ≤ n2 → n2 ≤ 9223372036854775807 →
  (∀ n3 : Int, 0 ≤ n3 → n3 ≤ 18446744073709551615 →
  (Post_wof [[0]] [[n2, n3]] →
  (Pre_wsub [[n2, n3], [4, 0]] ∧
  (∀ n4 : Int, (-9223372036854775808) ≤ n4 → n4 ≤ 9223372036854775807 →
  (∀ n5 : Int, 0 ≤ n5 → n5 ≤ 18446744073709551615 →
  (∀ n6 : Int, 0 ≤ n6 → n6 ≤ 11 →
  (Post_wsub [[n2, n3], [4, 0]] [[n4, n5], [n6]] →
  (∀ b2 : Nat, (Pre_wcmp [[n, n1], [4, 0]] ∧
  (∀ n7 : Int, (-1) ≤ n7 → n7 ≤ 1 →
  (Post_wcmp [[n, n1], [4, 0]] [[n7]] →
  (((n7 ≤ 0) →
    (Pre_wcmp [[n, n1], [n4, n5]] ∧
    (∀ n8 : Int, (-1) ≤ n8 → n8 ≤ 1 →
    (Post_wcmp [[n, n1], [n4, n5]] [[n8]] →
    Post_psmall [[n, n1]] [[b2i (decide (0 ≤ n8))]])))) ∧
   (¬ (n7 ≤ 0) →
    Post_psmall [[n, n1]] [[b2i false]]))))))))))))))))))))
theorem c_psmall : canCall Tryd.prog 45 = true := by kernel_rfl
theorem s_psmall : P_psmall = sat E (symTop Tryd.prog tab25 2000 45 ash_psmall sh_psmall) := by kernel_rfl
theorem pure_psmall (hV : Valid Tryd.prog tab25 E) (h : P_psmall) (args : List Value) (ha : shaFits ash_psmall args) (hp : E.pre 45 (args.map vints)) : Pure Tryd.prog 45 args.toArray fun v => sh_psmall.fits v ∧ E.post 45 (args.map vints) (vres v) := @top_sat Tryd.prog tab25 E hV 2000 45 ash_psmall sh_psmall (@Eq.mp _ _ s_psmall h) args ha hp
theorem step_psmall (hV : Valid Tryd.prog tab25 E) (h : P_psmall) : Valid Tryd.prog tab26 E := hV.add c_psmall (pure_psmall hV h)

/-- gouache/places.Place -/
def P_pplace : Prop :=
  (∀ n : Int, (-2147483648) ≤ n → n ≤ 2147483647 →
  (∀ n1 : Int, (-2147483648) ≤ n1 → n1 ≤ 2147483647 →
  (∀ n2 : Int, (-2147483648) ≤ n2 → n2 ≤ 2147483647 →
  (∀ n3 : Int, (-2147483648) ≤ n3 → n3 ≤ 2147483647 →
  (∀ n4 : Int, (-2147483648) ≤ n4 → n4 ≤ 2147483647 →
  (∀ n5 : Int, (-2147483648) ≤ n5 → n5 ≤ 2147483647 →
  (∀ n6 : Int, (-9223372036854775808) ≤ n6 → n6 ≤ 9223372036854775807 →
  (∀ n7 : Int, 0 ≤ n7 → n7 ≤ 18446744073709551615 →
  (∀ n8 : Int, (-9223372036854775808) ≤ n8 → n8 ≤ 9223372036854775807 →
  (∀ n9 : Int, (-9223372036854775808) ≤ n9 → n9 ≤ 9223372036854775807 →
  (∀ n10 : Int, 0 ≤ n10 → n10 ≤ 18446744073709551615 →
  (∀ n11 : Int, (-9223372036854775808) ≤ n11 → n11 ≤ 9223372036854775807 →
  (Pre_pplace [[n, n1, n2, n3, n4, n5], [n6, n7, n8], [n9, n10, n11]] →
  (∀ b : Nat, (∀ b1 : Nat, (∀ b2 : Nat, (∀ b3 : Nat, (∀ b4 : Nat, (∀ b5 : Nat, (∀ b6 : Nat, (∀ b7 : Nat, (∀ b8 : Nat, (∀ b9 : Nat, (((¬ (n8 = n11)) →
    (∀ b10 : Nat, (∀ b11 : Nat, Post_pplace [[n, n1, n2, n3, n4, n5], [n6, n7, n8], [n9, n10, n11]] [[0, 0], [1]]))) ∧
   (¬ (¬ (n8 = n11)) →
    (((n8 < 1) →
      (∀ b10 : Nat, (∀ b11 : Nat, Post_pplace [[n, n1, n2, n3, n4, n5], [n6, n7, n8], [n9, n10, n11]] [[0, 0], [1]]))) ∧
     (¬ (n8 < 1) →
      (((4294967295 < n8) →
        (∀ b10 : Nat, (∀ b11 : Nat, Post_pplace [[n, n1, n2, n3, n4, n5], [n6, n7, n8], [n9, n10, n11]] [[0, 0], [1]]))) ∧
       (¬ (4294967295 < n8) →
        (Pre_psmall [[n6, n7]] ∧
        (∀ t : Bool, (Post_psmall [[n6, n7]] [[b2i t]] →
        (((¬ (t = true)) →
          (∀ b10 : Nat, (∀ b11 : Nat, Post_pplace [[n, n1, n2, n3, n4, n5], [n6, n7, n8], [n9, n10, n11]] [[0, 0], [1]]))) ∧
         (¬ (¬ (t = true)) →
          (Pre_psmall [[n9, n10]] ∧
          (∀ t1 : Bool, (Post_psmall [[n9, n10]] [[b2i t1]] →
          (((¬ (t1 = true)) →
            (∀ b10 : Nat, (∀ b11 : Nat, Post_pplace [[n, n1, n2, n3, n4, n5], [n6, n7, n8], [n9, n10, n11]] [[0, 0], [1]]))) ∧
           (¬ (¬ (t1 = true)) →
            (∀ n12 : Int, n12 = (IntKind.wrap .i64 (n8 * 65536)) → (-9223372036854775808) ≤ n12 → n12 ≤ 9223372036854775807 →
            (Pre_wof [[n12]] ∧
            (∀ n13 : Int, (-9223372036854775808) ≤ n13 → n13 ≤ 9223372036854775807 →
            (∀ n14 : Int, 0 ≤ n14 → n14 ≤ 18446744073709551615 →
            (Post_wof [[n12]] [[n13, n14]] →
            (∀ b10 : Nat, (∀ b11 : Nat, (∀ b12 : Nat, (∀ b13 : Nat, (∀ b14 : Nat, (Pre_wtms [[n6, n7], [n]] ∧
            (∀ n15 : Int, (-9223372036854775808) ≤ n15 → n15 ≤ 9223372036854775807 →
            (∀ n16 : Int, 0 ≤ n16 → n16 ≤ 18446744073709551615 →
            (∀ n17 : Int, 0 ≤ n17 → n17 ≤ 11 →
            (Post_wtms [[n6, n7], [n]] [[n15, n16], [n17]] →
            (∀ b15 : Nat, (Pre_wadd [[0, 0], [n15, n16]] ∧
            (∀ n18 : Int, (-9223372036854775808) ≤ n18 → n18 ≤ 9223372036854775807 →
            (∀ n19 : Int, 0 ≤ n19 → n19 ≤ 18446744073709551615 →
            (∀ n20 : Int, 0 ≤ n20 → n20 ≤ 11 →
            (Post_wadd [[0, 0], [n15, n16]] [[n18, n19], [n20]] →
            (∀ b16 : Nat, (Pre_wtms [[n9, n10], [n2]] ∧
            (∀ n21 : Int, (-9223372036854775808) ≤ n21 → n21 ≤ 9223372036854775807 →
            (∀ n22 : Int, 0 ≤ n22 → n22 ≤ 18446744073709551615 →
            (∀ n23 : Int, 0 ≤ n23 → n23 ≤ 11 →
            (Post_wtms [[n9, n10], [n2]] [[n21, n22], [n23]] →
            (∀ b17 : Nat, (Pre_wadd [[n18, n19], [n21, n22]] ∧
            (∀ n24 : Int, (-9223372036854775808) ≤ n24 → n24 ≤ 9223372036854775807 →
            (∀ n25 : Int, 0 ≤ n25 → n25 ≤ 18446744073709551615 →
            (∀ n26 : Int, 0 ≤ n26 → n26 ≤ 11 →
            (Post_wadd [[n18, n19], [n21, n22]] [[n24, n25], [n26]] →
            (∀ b18 : Nat, (Pre_wtms [[n13, n14], [n4]] ∧
            (∀ n27 : Int, (-9223372036854775808) ≤ n27 → n27 ≤ 9223372036854775807 →
            (∀ n28 : Int, 0 ≤ n28 → n28 ≤ 18446744073709551615 →
            (∀ n29 : Int, 0 ≤ n29 → n29 ≤ 11 →
            (Post_wtms [[n13, n14], [n4]] [[n27, n28], [n29]] →
            (∀ b19 : Nat, (Pre_wadd [[n24, n25], [n27, n28]] ∧
            (∀ n30 : Int, (-9223372036854775808) ≤ n30 → n30 ≤ 9223372036854775807 →
            (∀ n31 : Int, 0 ≤ n31 → n31 ≤ 18446744073709551615 →
            (∀ n32 : Int, 0 ≤ n32 → n32 ≤ 11 →
            (Post_wadd [[n24, n25], [n27, n28]] [[n30, n31], [n32]] →
            (∀ b20 : Nat, (∀ n33 : Int, n33 = (IntKind.wrap .i64 (n8 * 65536)) → (-9223372036854775808) ≤ n33 → n33 ≤ 9223372036854775807 →
            (Pre_wnear [[n30, n31], [n33]] ∧
            (∀ n34 : Int, (-9223372036854775808) ≤ n34 → n34 ≤ 9223372036854775807 →
            (∀ n35 : Int, 0 ≤ n35 → n35 ≤ 18446744073709551615 →
            (∀ n36 : Int, 0 ≤ n36 → n36 ≤ 11 →
            (Post_wnear [[n30, n31], [n33]] [[n34, n35], [n36]] →
            (∀ b21 : Nat, (Pre_wint [[n34, n35]] ∧
            (∀ n37 : Int, (-9223372036854775808) ≤ n37 → n37 ≤ 9223372036854775807 →
            (∀ t2 : Bool, (Post_wint [[n34, n35]] [[n37], [b2i t2]] →
            (((¬ (t2 = true)) →
              (∀ b22 : Nat, (∀ b23 : Nat, Post_pplace [[n, n1, n2, n3, n4, n5], [n6, n7, n8], [n9, n10, n11]] [[0, 0], [8]]))) ∧
             (¬ (¬ (t2 = true)) →
              (((68719476736 < n37) →
                (∀ b22 : Nat, (∀ b23 : Nat, Post_pplace [[n, n1, n2, n3, n4, n5], [n6, n7, n8], [n9, n10, n11]] [[0, 0], [8]]))) ∧
               (¬ (68719476736 < n37) →
                (((n37 < (-68719476736)) →
                  (∀ b22 : Nat, (∀ b23 : Nat, Post_pplace [[n, n1, n2, n3, n4, n5], [n6, n7, n8], [n9, n10, n11]] [[0, 0], [8]]))) ∧
                 (¬ (n37 < (-68719476736)) →
                  (∀ b22 : Nat, (∀ b23 : Nat, (∀ b24 : Nat, (Pre_wtms [[n6, n7], [n1]] ∧
                  (∀ n38 : Int, (-9223372036854775808) ≤ n38 → n38 ≤ 9223372036854775807 →
                  (∀ n39 : Int, 0 ≤ n39 → n39 ≤ 18446744073709551615 →
                  (∀ n40 : Int, 0 ≤ n40 → n40 ≤ 11 →
                  (Post_wtms [[n6, n7], [n1]] [[n38, n39], [n40]] →
                  (∀ b25 : Nat, (Pre_wadd [[0, 0], [n38, n39]] ∧
                  (∀ n41 : Int, (-9223372036854775808) ≤ n41 → n41 ≤ 9223372036854775807 →
                  (∀ n42 : Int, 0 ≤ n42 → n42 ≤ 18446744073709551615 →
                  (∀ n43 : Int, 0 ≤ n43 → n43 ≤ 11 →
                  (Post_wadd [[0, 0], [n38, n39]] [[n41, n42], [n43]] →
                  (∀ b26 : Nat, (Pre_wtms [[n9, n10], [n3]] ∧
                  (∀ n44 : Int, (-9223372036854775808) ≤ n44 → n44 ≤ 9223372036854775807 →
                  (∀ n45 : Int, 0 ≤ n45 → n45 ≤ 18446744073709551615 →
                  (∀ n46 : Int, 0 ≤ n46 → n46 ≤ 11 →
                  (Post_wtms [[n9, n10], [n3]] [[n44, n45], [n46]] →
                  (∀ b27 : Nat, (Pre_wadd [[n41, n42], [n44, n45]] ∧
                  (∀ n47 : Int, (-9223372036854775808) ≤ n47 → n47 ≤ 9223372036854775807 →
                  (∀ n48 : Int, 0 ≤ n48 → n48 ≤ 18446744073709551615 →
                  (∀ n49 : Int, 0 ≤ n49 → n49 ≤ 11 →
                  (Post_wadd [[n41, n42], [n44, n45]] [[n47, n48], [n49]] →
                  (∀ b28 : Nat, (Pre_wtms [[n13, n14], [n5]] ∧
                  (∀ n50 : Int, (-9223372036854775808) ≤ n50 → n50 ≤ 9223372036854775807 →
                  (∀ n51 : Int, 0 ≤ n51 → n51 ≤ 18446744073709551615 →
                  (∀ n52 : Int, 0 ≤ n52 → n52 ≤ 11 →
                  (Post_wtms [[n13, n14], [n5]] [[n50, n51], [n52]] →
                  (∀ b29 : Nat, (Pre_wadd [[n47, n48], [n50, n51]] ∧
                  (∀ n53 : Int, (-9223372036854775808) ≤ n53 → n53 ≤ 9223372036854775807 →
                  (∀ n54 : Int, 0 ≤ n54 → n54 ≤ 18446744073709551615 →
                  (∀ n55 : Int, 0 ≤ n55 → n55 ≤ 11 →
                  (Post_wadd [[n47, n48], [n50, n51]] [[n53, n54], [n55]] →
                  (∀ b30 : Nat, (∀ n56 : Int, n56 = (IntKind.wrap .i64 (n8 * 65536)) → (-9223372036854775808) ≤ n56 → n56 ≤ 9223372036854775807 →
                  (Pre_wnear [[n53, n54], [n56]] ∧
                  (∀ n57 : Int, (-9223372036854775808) ≤ n57 → n57 ≤ 9223372036854775807 →
                  (∀ n58 : Int, 0 ≤ n58 → n58 ≤ 18446744073709551615 →
                  (∀ n59 : Int, 0 ≤ n59 → n59 ≤ 11 →
                  (Post_wnear [[n53, n54], [n56]] [[n57, n58], [n59]] →
                  (∀ b31 : Nat, (Pre_wint [[n57, n58]] ∧
                  (∀ n60 : Int, (-9223372036854775808) ≤ n60 → n60 ≤ 9223372036854775807 →
                  (∀ t3 : Bool, (Post_wint [[n57, n58]] [[n60], [b2i t3]] →
                  (((¬ (t3 = true)) →
                    (∀ b32 : Nat, (∀ b33 : Nat, Post_pplace [[n, n1, n2, n3, n4, n5], [n6, n7, n8], [n9, n10, n11]] [[0, 0], [8]]))) ∧
                   (¬ (¬ (t3 = true)) →
                    (((68719476736 < n60) →
                      (∀ b32 : Nat, (∀ b33 : Nat, Post_pplace [[n, n1, n2, n3, n4, n5], [n6, n7, n8], [n9, n10, n11]] [[0, 0], [8]]))) ∧
                     (¬ (68719476736 < n60) →
                      (((n60 < (-68719476736)) →
                        (∀ b32 : Nat, (∀ b33 : Nat, Post_pplace [[n, n1, n2, n3, n4, n5], [n6, n7, n8], [n9, n10, n11]] [[0, 0], [8]]))) ∧
                       (¬ (n60 < (-68719476736)) →
                        (∀ b32 : Nat, (∀ b33 : Nat, (((-68719476736) ≤ n37) ∧
                        ((n37 ≤ 68719476736) ∧
                        (∀ n61 : Int, n61 = n37 → (-68719476736) ≤ n61 → n61 ≤ 68719476736 →
                        (((-68719476736) ≤ n60) ∧
                        ((n60 ≤ 68719476736) ∧
                        (∀ n62 : Int, n62 = n60 → (-68719476736) ≤ n62 → n62 ≤ 68719476736 →
                        Post_pplace [[n, n1, n2, n3, n4, n5], [n6, n7, n8], [n9, n10, n11]] [[n61, n62], [0]]))))))))))))))))))))))))))))))))))))))))))))))))))))))))))))))))))))))))))))))))))))))))))))))))))))))))))))))))))))))))))))))))))))))))))))))))))))))))))))))))))))))
theorem c_pplace : canCall Tryd.prog 17 = true := by kernel_rfl
theorem s_pplace : P_pplace = sat E (symTop Tryd.prog tab26 2000 17 ash_pplace sh_pplace) := by kernel_rfl
theorem pure_pplace (hV : Valid Tryd.prog tab26 E) (h : P_pplace) (args : List Value) (ha : shaFits ash_pplace args) (hp : E.pre 17 (args.map vints)) : Pure Tryd.prog 17 args.toArray fun v => sh_pplace.fits v ∧ E.post 17 (args.map vints) (vres v) := @top_sat Tryd.prog tab26 E hV 2000 17 ash_pplace sh_pplace (@Eq.mp _ _ s_pplace h) args ha hp
theorem step_pplace (hV : Valid Tryd.prog tab26 E) (h : P_pplace) : Valid Tryd.prog tab27 E := hV.add c_pplace (pure_pplace hV h)

/-- gouache/layouts.Check -/
def P_lcheck : Prop :=
  (∀ n : Int, (-9223372036854775808) ≤ n → n ≤ 9223372036854775807 →
  (∀ n1 : Int, (-9223372036854775808) ≤ n1 → n1 ≤ 9223372036854775807 →
  (∀ n2 : Int, (-9223372036854775808) ≤ n2 → n2 ≤ 9223372036854775807 →
  (∀ n3 : Int, (-9223372036854775808) ≤ n3 → n3 ≤ 9223372036854775807 →
  (∀ n4 : Int, (-9223372036854775808) ≤ n4 → n4 ≤ 9223372036854775807 →
  (∀ n5 : Int, (-9223372036854775808) ≤ n5 → n5 ≤ 9223372036854775807 →
  (∀ n6 : Int, (-2147483648) ≤ n6 → n6 ≤ 2147483647 →
  (∀ n7 : Int, (-2147483648) ≤ n7 → n7 ≤ 2147483647 →
  (∀ n8 : Int, (-2147483648) ≤ n8 → n8 ≤ 2147483647 →
  (∀ n9 : Int, (-2147483648) ≤ n9 → n9 ≤ 2147483647 →
  (∀ n10 : Int, (-2147483648) ≤ n10 → n10 ≤ 2147483647 →
  (∀ n11 : Int, (-2147483648) ≤ n11 → n11 ≤ 2147483647 →
  (∀ n12 : Int, (-2147483648) ≤ n12 → n12 ≤ 2147483647 →
  (∀ n13 : Int, (-2147483648) ≤ n13 → n13 ≤ 2147483647 →
  (∀ n14 : Int, (-2147483648) ≤ n14 → n14 ≤ 2147483647 →
  (∀ n15 : Int, (-2147483648) ≤ n15 → n15 ≤ 2147483647 →
  (∀ n16 : Int, (-2147483648) ≤ n16 → n16 ≤ 2147483647 →
  (∀ n17 : Int, (-2147483648) ≤ n17 → n17 ≤ 2147483647 →
  (Pre_lcheck [[n, n1, n2, n3, n4, n5, n6, n7, n8, n9, n10, n11, n12, n13, n14, n15, n16, n17]] →
  (∀ b : Nat, (((0 ≤ n1) →
    (((n1 < 64) →
      ((0 ≤ n1) ∧
      (∀ n18 : Int, n18 = n1 → 0 ≤ n18 → n18 ≤ 9223372036854775807 →
      (((((shI .shr .u64 4311814422 n18) % 2) = 1) →
        (((0 ≤ n2) →
          (((n2 < 64) →
            ((0 ≤ n2) ∧
            (∀ n19 : Int, n19 = n2 → 0 ≤ n19 → n19 ≤ 9223372036854775807 →
            (((((shI .shr .u64 69910 n19) % 2) = 1) →
              (((1 ≤ n4) →
                (((n = 5) →
                  (((n4 ≤ 4) →
                    (((¬ (2 ≤ n5)) →
                      Post_lcheck [[n, n1, n2, n3, n4, n5, n6, n7, n8, n9, n10, n11, n12, n13, n14, n15, n16, n17]] [[4]]) ∧
                     (¬ (¬ (2 ≤ n5)) →
                      Post_lcheck [[n, n1, n2, n3, n4, n5, n6, n7, n8, n9, n10, n11, n12, n13, n14, n15, n16, n17]] [[0]]))) ∧
                   (¬ (n4 ≤ 4) →
                    Post_lcheck [[n, n1, n2, n3, n4, n5, n6, n7, n8, n9, n10, n11, n12, n13, n14, n15, n16, n17]] [[4]]))) ∧
                 (¬ (n = 5) →
                  (((n = 4) →
                    (((n4 ≤ 4) →
                      (((0 ≤ n3) →
                        (((n3 < 64) →
                          ((0 ≤ n3) ∧
                          (∀ n20 : Int, n20 = n3 → 0 ≤ n20 → n20 ≤ 9223372036854775807 →
                          (((¬ (((shI .shr .u64 276 n20) % 2) = 1)) →
                            Post_lcheck [[n, n1, n2, n3, n4, n5, n6, n7, n8, n9, n10, n11, n12, n13, n14, n15, n16, n17]] [[4]]) ∧
                           (¬ (¬ (((shI .shr .u64 276 n20) % 2) = 1)) →
                            Post_lcheck [[n, n1, n2, n3, n4, n5, n6, n7, n8, n9, n10, n11, n12, n13, n14, n15, n16, n17]] [[0]]))))) ∧
                         (¬ (n3 < 64) →
                          Post_lcheck [[n, n1, n2, n3, n4, n5, n6, n7, n8, n9, n10, n11, n12, n13, n14, n15, n16, n17]] [[4]]))) ∧
                       (¬ (0 ≤ n3) →
                        Post_lcheck [[n, n1, n2, n3, n4, n5, n6, n7, n8, n9, n10, n11, n12, n13, n14, n15, n16, n17]] [[4]]))) ∧
                     (¬ (n4 ≤ 4) →
                      Post_lcheck [[n, n1, n2, n3, n4, n5, n6, n7, n8, n9, n10, n11, n12, n13, n14, n15, n16, n17]] [[4]]))) ∧
                   (¬ (n = 4) →
                    (((n = 6) →
                      (((n4 ≤ 4) →
                        (((0 ≤ n3) →
                          (((n3 < 64) →
                            ((0 ≤ n3) ∧
                            (∀ n20 : Int, n20 = n3 → 0 ≤ n20 → n20 ≤ 9223372036854775807 →
                            (((¬ (((shI .shr .u64 276 n20) % 2) = 1)) →
                              Post_lcheck [[n, n1, n2, n3, n4, n5, n6, n7, n8, n9, n10, n11, n12, n13, n14, n15, n16, n17]] [[4]]) ∧
                             (¬ (¬ (((shI .shr .u64 276 n20) % 2) = 1)) →
                              Post_lcheck [[n, n1, n2, n3, n4, n5, n6, n7, n8, n9, n10, n11, n12, n13, n14, n15, n16, n17]] [[0]]))))) ∧
                           (¬ (n3 < 64) →
                            Post_lcheck [[n, n1, n2, n3, n4, n5, n6, n7, n8, n9, n10, n11, n12, n13, n14, n15, n16, n17]] [[4]]))) ∧
                         (¬ (0 ≤ n3) →
                          Post_lcheck [[n, n1, n2, n3, n4, n5, n6, n7, n8, n9, n10, n11, n12, n13, n14, n15, n16, n17]] [[4]]))) ∧
                       (¬ (n4 ≤ 4) →
                        Post_lcheck [[n, n1, n2, n3, n4, n5, n6, n7, n8, n9, n10, n11, n12, n13, n14, n15, n16, n17]] [[4]]))) ∧
                     (¬ (n = 6) →
                      (((n = 7) →
                        (((n4 ≤ 4) →
                          (((0 ≤ n3) →
                            (((n3 < 64) →
                              ((0 ≤ n3) ∧
                              (∀ n20 : Int, n20 = n3 → 0 ≤ n20 → n20 ≤ 9223372036854775807 →
                              (((¬ (((shI .shr .u64 276 n20) % 2) = 1)) →
                                Post_lcheck [[n, n1, n2, n3, n4, n5, n6, n7, n8, n9, n10, n11, n12, n13, n14, n15, n16, n17]] [[4]]) ∧
                               (¬ (¬ (((shI .shr .u64 276 n20) % 2) = 1)) →
                                Post_lcheck [[n, n1, n2, n3, n4, n5, n6, n7, n8, n9, n10, n11, n12, n13, n14, n15, n16, n17]] [[0]]))))) ∧
                             (¬ (n3 < 64) →
                              Post_lcheck [[n, n1, n2, n3, n4, n5, n6, n7, n8, n9, n10, n11, n12, n13, n14, n15, n16, n17]] [[4]]))) ∧
                           (¬ (0 ≤ n3) →
                            Post_lcheck [[n, n1, n2, n3, n4, n5, n6, n7, n8, n9, n10, n11, n12, n13, n14, n15, n16, n17]] [[4]]))) ∧
                         (¬ (n4 ≤ 4) →
                          Post_lcheck [[n, n1, n2, n3, n4, n5, n6, n7, n8, n9, n10, n11, n12, n13, n14, n15, n16, n17]] [[4]]))) ∧
                       (¬ (n = 7) →
                        Post_lcheck [[n, n1, n2, n3, n4, n5, n6, n7, n8, n9, n10, n11, n12, n13, n14, n15, n16, n17]] [[4]]))))))))) ∧
               (¬ (1 ≤ n4) →
                (((n = 5) →
                  Post_lcheck [[n, n1, n2, n3, n4, n5, n6, n7, n8, n9, n10, n11, n12, n13, n14, n15, n16, n17]] [[4]]) ∧
                 (¬ (n = 5) →
                  (((n = 4) →
                    Post_lcheck [[n, n1, n2, n3, n4, n5, n6, n7, n8, n9, n10, n11, n12, n13, n14, n15, n16, n17]] [[4]]) ∧
                   (¬ (n = 4) →
                    (((n = 6) →
                      Post_lcheck [[n, n1, n2, n3, n4, n5, n6, n7, n8, n9, n10, n11, n12, n13, n14, n15, n16, n17]] [[4]]) ∧
                     (¬ (n = 6) →
                      (((n = 7) →
                        Post_lcheck [[n, n1, n2, n3, n4, n5, n6, n7, n8, n9, n10, n11, n12, n13, n14, n15, n16, n17]] [[4]]) ∧
                       (¬ (n = 7) →
                        Post_lcheck [[n, n1, n2, n3, n4, n5, n6, n7, n8, n9, n10, n11, n12, n13, n14, n15, n16, n17]] [[4]]))))))))))) ∧
             (¬ (((shI .shr .u64 69910 n19) % 2) = 1) →
              (((n = 5) →
                Post_lcheck [[n, n1, n2, n3, n4, n5, n6, n7, n8, n9, n10, n11, n12, n13, n14, n15, n16, n17]] [[4]]) ∧
               (¬ (n = 5) →
                (((n = 4) →
                  Post_lcheck [[n, n1, n2, n3, n4, n5, n6, n7, n8, n9, n10, n11, n12, n13, n14, n15, n16, n17]] [[4]]) ∧
                 (¬ (n = 4) →
                  (((n = 6) →
                    Post_lcheck [[n, n1, n2, n3, n4, n5, n6, n7, n8, n9, n10, n11, n12, n13, n14, n15, n16, n17]] [[4]]) ∧
                   (¬ (n = 6) →
                    (((n = 7) →
                      Post_lcheck [[n, n1, n2, n3, n4, n5, n6, n7, n8, n9, n10, n11, n12, n13, n14, n15, n16, n17]] [[4]]) ∧
                     (¬ (n = 7) →
                      Post_lcheck [[n, n1, n2, n3, n4, n5, n6, n7, n8, n9, n10, n11, n12, n13, n14, n15, n16, n17]] [[4]]))))))))))))) ∧
           (¬ (n2 < 64) →
            (((n = 5) →
              Post_lcheck [[n, n1, n2, n3, n4, n5, n6, n7, n8, n9, n10, n11, n12, n13, n14, n15, n16, n17]] [[4]]) ∧
             (¬ (n = 5) →
              (((n = 4) →
                Post_lcheck [[n, n1, n2, n3, n4, n5, n6, n7, n8, n9, n10, n11, n12, n13, n14, n15, n16, n17]] [[4]]) ∧
               (¬ (n = 4) →
                (((n = 6) →
                  Post_lcheck [[n, n1, n2, n3, n4, n5, n6, n7, n8, n9, n10, n11, n12, n13, n14, n15, n16, n17]] [[4]]) ∧
                 (¬ (n = 6) →
                  (((n = 7) →
                    Post_lcheck [[n, n1, n2, n3, n4, n5, n6, n7, n8, n9, n10, n11, n12, n13, n14, n15, n16, n17]] [[4]]) ∧
                   (¬ (n = 7) →
                    Post_lcheck [[n, n1, n2, n3, n4, n5, n6, n7, n8, n9, n10, n11, n12, n13, n14, n15, n16, n17]] [[4]]))))))))))) ∧
         (¬ (0 ≤ n2) →
          (((n = 5) →
            Post_lcheck [[n, n1, n2, n3, n4, n5, n6, n7, n8, n9, n10, n11, n12, n13, n14, n15, n16, n17]] [[4]]) ∧
           (¬ (n = 5) →
            (((n = 4) →
              Post_lcheck [[n, n1, n2, n3, n4, n5, n6, n7, n8, n9, n10, n11, n12, n13, n14, n15, n16, n17]] [[4]]) ∧
             (¬ (n = 4) →
              (((n = 6) →
                Post_lcheck [[n, n1, n2, n3, n4, n5, n6, n7, n8, n9, n10, n11, n12, n13, n14, n15, n16, n17]] [[4]]) ∧
               (¬ (n = 6) →
                (((n = 7) →
                  Post_lcheck [[n, n1, n2, n3, n4, n5, n6, n7, n8, n9, n10, n11, n12, n13, n14, n15, n16, n17]] [[4]]) ∧
                 (¬ (n = 7) →
                  Post_lcheck [[n, n1, n2, n3, n4, n5, n6, n7, n8, n9, n10, n11, n12, n13, n14, n15, n16, n17]] [[4]]))))))))))) ∧
       (¬ (((shI .shr .u64 4311814422 n18) % 2) = 1) →
        (((n = 5) →
          Post_lcheck [[n, n1, n2, n3, n4, n5, n6, n7, n8, n9, n10, n11, n12, n13, n14, n15, n16, n17]] [[4]]) ∧
         (¬ (n = 5) →
          (((n = 4) →
            Post_lcheck [[n, n1, n2, n3, n4, n5, n6, n7, n8, n9, n10, n11, n12, n13, n14, n15, n16, n17]] [[4]]) ∧
           (¬ (n = 4) →
            (((n = 6) →
              Post_lcheck [[n, n1, n2, n3, n4, n5, n6, n7, n8, n9, n10, n11, n12, n13, n14, n15, n16, n17]] [[4]]) ∧
             (¬ (n = 6) →
              (((n = 7) →
                Post_lcheck [[n, n1, n2, n3, n4, n5, n6, n7, n8, n9, n10, n11, n12, n13, n14, n15, n16, n17]] [[4]]) ∧
               (¬ (n = 7) →
                Post_lcheck [[n, n1, n2, n3, n4, n5, n6, n7, n8, n9, n10, n11, n12, n13, n14, n15, n16, n17]] [[4]]))))))))))))) ∧
     (¬ (n1 < 64) →
      (((n = 5) →
        Post_lcheck [[n, n1, n2, n3, n4, n5, n6, n7, n8, n9, n10, n11, n12, n13, n14, n15, n16, n17]] [[4]]) ∧
       (¬ (n = 5) →
        (((n = 4) →
          Post_lcheck [[n, n1, n2, n3, n4, n5, n6, n7, n8, n9, n10, n11, n12, n13, n14, n15, n16, n17]] [[4]]) ∧
         (¬ (n = 4) →
          (((n = 6) →
            Post_lcheck [[n, n1, n2, n3, n4, n5, n6, n7, n8, n9, n10, n11, n12, n13, n14, n15, n16, n17]] [[4]]) ∧
           (¬ (n = 6) →
            (((n = 7) →
              Post_lcheck [[n, n1, n2, n3, n4, n5, n6, n7, n8, n9, n10, n11, n12, n13, n14, n15, n16, n17]] [[4]]) ∧
             (¬ (n = 7) →
              Post_lcheck [[n, n1, n2, n3, n4, n5, n6, n7, n8, n9, n10, n11, n12, n13, n14, n15, n16, n17]] [[4]]))))))))))) ∧
   (¬ (0 ≤ n1) →
    (((n = 5) →
      Post_lcheck [[n, n1, n2, n3, n4, n5, n6, n7, n8, n9, n10, n11, n12, n13, n14, n15, n16, n17]] [[4]]) ∧
     (¬ (n = 5) →
      (((n = 4) →
        Post_lcheck [[n, n1, n2, n3, n4, n5, n6, n7, n8, n9, n10, n11, n12, n13, n14, n15, n16, n17]] [[4]]) ∧
       (¬ (n = 4) →
        (((n = 6) →
          Post_lcheck [[n, n1, n2, n3, n4, n5, n6, n7, n8, n9, n10, n11, n12, n13, n14, n15, n16, n17]] [[4]]) ∧
         (¬ (n = 6) →
          (((n = 7) →
            Post_lcheck [[n, n1, n2, n3, n4, n5, n6, n7, n8, n9, n10, n11, n12, n13, n14, n15, n16, n17]] [[4]]) ∧
           (¬ (n = 7) →
            Post_lcheck [[n, n1, n2, n3, n4, n5, n6, n7, n8, n9, n10, n11, n12, n13, n14, n15, n16, n17]] [[4]]))))))))))))))))))))))))))))))
theorem c_lcheck : canCall Tryd.prog 14 = true := by kernel_rfl
theorem s_lcheck : P_lcheck = sat E (symTop Tryd.prog tab27 2000 14 ash_lcheck sh_lcheck) := by kernel_rfl
theorem pure_lcheck (hV : Valid Tryd.prog tab27 E) (h : P_lcheck) (args : List Value) (ha : shaFits ash_lcheck args) (hp : E.pre 14 (args.map vints)) : Pure Tryd.prog 14 args.toArray fun v => sh_lcheck.fits v ∧ E.post 14 (args.map vints) (vres v) := @top_sat Tryd.prog tab27 E hV 2000 14 ash_lcheck sh_lcheck (@Eq.mp _ _ s_lcheck h) args ha hp
theorem step_lcheck (hV : Valid Tryd.prog tab27 E) (h : P_lcheck) : Valid Tryd.prog tab28 E := hV.add c_lcheck (pure_lcheck hV h)

/-- gouache/nets.order -/
def P_norder : Prop :=
  (Pre_norder [] →
  (∀ b : Nat, Post_norder [] [[0, 1, 2, 3, 7, 11, 15, 14, 13, 12, 8, 4, 5, 6, 10, 9]]))
theorem c_norder : canCall Tryd.prog 15 = true := by kernel_rfl
theorem s_norder : P_norder = sat E (symTop Tryd.prog tab28 2000 15 ash_norder sh_norder) := by kernel_rfl
theorem pure_norder (hV : Valid Tryd.prog tab28 E) (h : P_norder) (args : List Value) (ha : shaFits ash_norder args) (hp : E.pre 15 (args.map vints)) : Pure Tryd.prog 15 args.toArray fun v => sh_norder.fits v ∧ E.post 15 (args.map vints) (vres v) := @top_sat Tryd.prog tab28 E hV 2000 15 ash_norder sh_norder (@Eq.mp _ _ s_norder h) args ha hp
theorem step_norder (hV : Valid Tryd.prog tab28 E) (h : P_norder) : Valid Tryd.prog tab29 E := hV.add c_norder (pure_norder hV h)

/-- gouache/nets.ninth -/
def P_nninth : Prop :=
  (∀ n : Int, (-9223372036854775808) ≤ n → n ≤ 9223372036854775807 →
  (Pre_nninth [[n]] →
  (Pre_wof [[n]] ∧
  (∀ n1 : Int, (-9223372036854775808) ≤ n1 → n1 ≤ 9223372036854775807 →
  (∀ n2 : Int, 0 ≤ n2 → n2 ≤ 18446744073709551615 →
  (Post_wof [[n]] [[n1, n2]] →
  (Pre_wnear [[n1, n2], [9]] ∧
  (∀ n3 : Int, (-9223372036854775808) ≤ n3 → n3 ≤ 9223372036854775807 →
  (∀ n4 : Int, 0 ≤ n4 → n4 ≤ 18446744073709551615 →
  (∀ n5 : Int, 0 ≤ n5 → n5 ≤ 11 →
  (Post_wnear [[n1, n2], [9]] [[n3, n4], [n5]] →
  (∀ b : Nat, (Pre_wint [[n3, n4]] ∧
  (∀ n6 : Int, (-9223372036854775808) ≤ n6 → n6 ≤ 9223372036854775807 →
  (∀ t : Bool, (Post_wint [[n3, n4]] [[n6], [b2i t]] →
  Post_nninth [[n]] [[n6]]))))))))))))))))
theorem c_nninth : canCall Tryd.prog 26 = true := by kernel_rfl
theorem s_nninth : P_nninth = sat E (symTop Tryd.prog tab29 2000 26 ash_nninth sh_nninth) := by kernel_rfl
theorem pure_nninth (hV : Valid Tryd.prog tab29 E) (h : P_nninth) (args : List Value) (ha : shaFits ash_nninth args) (hp : E.pre 26 (args.map vints)) : Pure Tryd.prog 26 args.toArray fun v => sh_nninth.fits v ∧ E.post 26 (args.map vints) (vres v) := @top_sat Tryd.prog tab29 E hV 2000 26 ash_nninth sh_nninth (@Eq.mp _ _ s_nninth h) args ha hp
theorem step_nninth (hV : Valid Tryd.prog tab29 E) (h : P_nninth) : Valid Tryd.prog tab30 E := hV.add c_nninth (pure_nninth hV h)


end Go.Proofs.YtndfeckmfhiniaaDoor.Sx
