/-
  What each function comes to, part 1. Printed by a program of our own.
-/
import Derived.Test.YtlclmanhkhfilaaDoorRxh
set_option maxRecDepth 1000000
set_option linter.all false
namespace Go.Proofs.YtlclmanhkhfilaaDoor.Sx
open Go Go.RowKit

/-- math/bits.Len64 -/
def P_len64 : Prop :=
  (∀ n : Int, 0 ≤ n → n ≤ 18446744073709551615 →
  (Pre_len64 [[n]] →
  (((4294967296 ≤ n) →
    (∀ n1 : Int, n1 = (n / 4294967296) → 0 ≤ n1 → n1 ≤ 4294967295 →
    (((65536 ≤ n1) →
      (∀ n2 : Int, n2 = (n1 / 65536) → 0 ≤ n2 → n2 ≤ 65535 →
      (((256 ≤ n2) →
        (∀ n3 : Int, n3 = (n2 / 256) → 0 ≤ n3 → n3 ≤ 255 →
        (∀ n4 : Int, n4 = (len8tab.getD (Int.toNat n3) 0) → 0 ≤ n4 → n4 ≤ 8 →
        (∀ n5 : Int, n5 = (56 + n4) → 56 ≤ n5 → n5 ≤ 64 →
        Post_len64 [[n]] [[n5]])))) ∧
       (¬ (256 ≤ n2) →
        (∀ n3 : Int, n3 = (len8tab.getD (Int.toNat (IntKind.wrap .u8 n2)) 0) → 0 ≤ n3 → n3 ≤ 8 →
        (∀ n4 : Int, n4 = (48 + n3) → 48 ≤ n4 → n4 ≤ 56 →
        Post_len64 [[n]] [[n4]])))))) ∧
     (¬ (65536 ≤ n1) →
      (((256 ≤ n1) →
        (∀ n2 : Int, n2 = (n1 / 256) → 0 ≤ n2 → n2 ≤ 16777215 →
        (∀ n3 : Int, n3 = (len8tab.getD (Int.toNat (IntKind.wrap .u8 n2)) 0) → 0 ≤ n3 → n3 ≤ 8 →
        (∀ n4 : Int, n4 = (40 + n3) → 40 ≤ n4 → n4 ≤ 48 →
        Post_len64 [[n]] [[n4]])))) ∧
       (¬ (256 ≤ n1) →
        (∀ n2 : Int, n2 = (len8tab.getD (Int.toNat (IntKind.wrap .u8 n1)) 0) → 0 ≤ n2 → n2 ≤ 8 →
        (∀ n3 : Int, n3 = (32 + n2) → 32 ≤ n3 → n3 ≤ 40 →
        Post_len64 [[n]] [[n3]])))))))) ∧
   (¬ (4294967296 ≤ n) →
    (((65536 ≤ n) →
      (∀ n1 : Int, n1 = (n / 65536) → 0 ≤ n1 → n1 ≤ 281474976710655 →
      (((256 ≤ n1) →
        (∀ n2 : Int, n2 = (n1 / 256) → 0 ≤ n2 → n2 ≤ 1099511627775 →
        (∀ n3 : Int, n3 = (len8tab.getD (Int.toNat (IntKind.wrap .u8 n2)) 0) → 0 ≤ n3 → n3 ≤ 8 →
        (∀ n4 : Int, n4 = (24 + n3) → 24 ≤ n4 → n4 ≤ 32 →
        Post_len64 [[n]] [[n4]])))) ∧
       (¬ (256 ≤ n1) →
        (∀ n2 : Int, n2 = (len8tab.getD (Int.toNat (IntKind.wrap .u8 n1)) 0) → 0 ≤ n2 → n2 ≤ 8 →
        (∀ n3 : Int, n3 = (16 + n2) → 16 ≤ n3 → n3 ≤ 24 →
        Post_len64 [[n]] [[n3]])))))) ∧
     (¬ (65536 ≤ n) →
      (((256 ≤ n) →
        (∀ n1 : Int, n1 = (n / 256) → 0 ≤ n1 → n1 ≤ 72057594037927935 →
        (∀ n2 : Int, n2 = (len8tab.getD (Int.toNat (IntKind.wrap .u8 n1)) 0) → 0 ≤ n2 → n2 ≤ 8 →
        (∀ n3 : Int, n3 = (8 + n2) → 8 ≤ n3 → n3 ≤ 16 →
        Post_len64 [[n]] [[n3]])))) ∧
       (¬ (256 ≤ n) →
        (∀ n1 : Int, n1 = (len8tab.getD (Int.toNat (IntKind.wrap .u8 n)) 0) → 0 ≤ n1 → n1 ≤ 8 →
        Post_len64 [[n]] [[n1]])))))))))
theorem c_len64 : canCall Tryd.prog 47 = true := by kernel_rfl
theorem s_len64 : P_len64 = sat E (symTop Tryd.prog tab0 2000 47 ash_len64 sh_len64) := by kernel_rfl
theorem pure_len64 (hV : Valid Tryd.prog tab0 E) (h : P_len64) (args : List Value) (ha : shaFits ash_len64 args) (hp : E.pre 47 (args.map vints)) : Pure Tryd.prog 47 args.toArray fun v => sh_len64.fits v ∧ E.post 47 (args.map vints) (vres v) := @top_sat Tryd.prog tab0 E hV 2000 47 ash_len64 sh_len64 (@Eq.mp _ _ s_len64 h) args ha hp
theorem step_len64 (hV : Valid Tryd.prog tab0 E) (h : P_len64) : Valid Tryd.prog tab1 E := hV.add c_len64 (pure_len64 hV h)

/-- math/bits.Mul64 -/
def P_mul64 : Prop :=
  (∀ n : Int, 0 ≤ n → n ≤ 18446744073709551615 →
  (∀ n1 : Int, 0 ≤ n1 → n1 ≤ 18446744073709551615 →
  (Pre_mul64 [[n], [n1]] →
  (∀ n2 : Int, n2 = (n % 4294967296) → 0 ≤ n2 → n2 ≤ 4294967295 →
  (∀ n3 : Int, n3 = (n / 4294967296) → 0 ≤ n3 → n3 ≤ 4294967295 →
  (∀ n4 : Int, n4 = (n1 % 4294967296) → 0 ≤ n4 → n4 ≤ 4294967295 →
  (∀ n5 : Int, n5 = (n1 / 4294967296) → 0 ≤ n5 → n5 ≤ 4294967295 →
  (∀ n6 : Int, n6 = (n2 * n4) → 0 ≤ n6 → n6 ≤ 18446744065119617025 →
  (∀ n7 : Int, n7 = ((n3 * n4) + (n6 / 4294967296)) → 0 ≤ n7 → n7 ≤ 18446744069414584319 →
  (∀ n8 : Int, n8 = (n7 % 4294967296) → 0 ≤ n8 → n8 ≤ 4294967295 →
  (∀ n9 : Int, n9 = (n7 / 4294967296) → 0 ≤ n9 → n9 ≤ 4294967294 →
  (∀ n10 : Int, n10 = (n8 + (n2 * n5)) → 0 ≤ n10 → n10 ≤ 18446744069414584320 →
  (∀ n11 : Int, n11 = (((n3 * n5) + n9) + (n10 / 4294967296)) → 0 ≤ n11 → n11 ≤ 18446744073709551614 →
  (∀ n12 : Int, n12 = (IntKind.wrap .u64 (n * n1)) → 0 ≤ n12 → n12 ≤ 18446744073709551615 →
  Post_mul64 [[n], [n1]] [[n11], [n12]]))))))))))))))
theorem c_mul64 : canCall Tryd.prog 32 = true := by kernel_rfl
theorem s_mul64 : P_mul64 = sat E (symTop Tryd.prog tab1 2000 32 ash_mul64 sh_mul64) := by kernel_rfl
theorem pure_mul64 (hV : Valid Tryd.prog tab1 E) (h : P_mul64) (args : List Value) (ha : shaFits ash_mul64 args) (hp : E.pre 32 (args.map vints)) : Pure Tryd.prog 32 args.toArray fun v => sh_mul64.fits v ∧ E.post 32 (args.map vints) (vres v) := @top_sat Tryd.prog tab1 E hV 2000 32 ash_mul64 sh_mul64 (@Eq.mp _ _ s_mul64 h) args ha hp
theorem step_mul64 (hV : Valid Tryd.prog tab1 E) (h : P_mul64) : Valid Tryd.prog tab2 E := hV.add c_mul64 (pure_mul64 hV h)

/-- cmp.Compare[int64] -/
def P_cmpi64 : Prop :=
  (∀ n : Int, (-9223372036854775808) ≤ n → n ≤ 9223372036854775807 →
  (∀ n1 : Int, (-9223372036854775808) ≤ n1 → n1 ≤ 9223372036854775807 →
  (Pre_cmpi64 [[n], [n1]] →
  (((¬ (n = n)) →
    (((¬ (n1 = n1)) →
      Post_cmpi64 [[n], [n1]] [[0]]) ∧
     (¬ (¬ (n1 = n1)) →
      Post_cmpi64 [[n], [n1]] [[(-1)]]))) ∧
   (¬ (¬ (n = n)) →
    (((¬ (n1 = n1)) →
      Post_cmpi64 [[n], [n1]] [[1]]) ∧
     (¬ (¬ (n1 = n1)) →
      (((n < n1) →
        Post_cmpi64 [[n], [n1]] [[(-1)]]) ∧
       (¬ (n < n1) →
        (((n1 < n) →
          Post_cmpi64 [[n], [n1]] [[1]]) ∧
         (¬ (n1 < n) →
          Post_cmpi64 [[n], [n1]] [[0]])))))))))))
theorem c_cmpi64 : canCall Tryd.prog 55 = true := by kernel_rfl
theorem s_cmpi64 : P_cmpi64 = sat E (symTop Tryd.prog tab2 2000 55 ash_cmpi64 sh_cmpi64) := by kernel_rfl
theorem pure_cmpi64 (hV : Valid Tryd.prog tab2 E) (h : P_cmpi64) (args : List Value) (ha : shaFits ash_cmpi64 args) (hp : E.pre 55 (args.map vints)) : Pure Tryd.prog 55 args.toArray fun v => sh_cmpi64.fits v ∧ E.post 55 (args.map vints) (vres v) := @top_sat Tryd.prog tab2 E hV 2000 55 ash_cmpi64 sh_cmpi64 (@Eq.mp _ _ s_cmpi64 h) args ha hp
theorem step_cmpi64 (hV : Valid Tryd.prog tab2 E) (h : P_cmpi64) : Valid Tryd.prog tab3 E := hV.add c_cmpi64 (pure_cmpi64 hV h)

/-- cmp.Compare[uint64] -/
def P_cmpu64 : Prop :=
  (∀ n : Int, 0 ≤ n → n ≤ 18446744073709551615 →
  (∀ n1 : Int, 0 ≤ n1 → n1 ≤ 18446744073709551615 →
  (Pre_cmpu64 [[n], [n1]] →
  (((¬ (n = n)) →
    (((¬ (n1 = n1)) →
      Post_cmpu64 [[n], [n1]] [[0]]) ∧
     (¬ (¬ (n1 = n1)) →
      Post_cmpu64 [[n], [n1]] [[(-1)]]))) ∧
   (¬ (¬ (n = n)) →
    (((¬ (n1 = n1)) →
      Post_cmpu64 [[n], [n1]] [[1]]) ∧
     (¬ (¬ (n1 = n1)) →
      (((n < n1) →
        Post_cmpu64 [[n], [n1]] [[(-1)]]) ∧
       (¬ (n < n1) →
        (((n1 < n) →
          Post_cmpu64 [[n], [n1]] [[1]]) ∧
         (¬ (n1 < n) →
          Post_cmpu64 [[n], [n1]] [[0]])))))))))))
theorem c_cmpu64 : canCall Tryd.prog 56 = true := by kernel_rfl
theorem s_cmpu64 : P_cmpu64 = sat E (symTop Tryd.prog tab3 2000 56 ash_cmpu64 sh_cmpu64) := by kernel_rfl
theorem pure_cmpu64 (hV : Valid Tryd.prog tab3 E) (h : P_cmpu64) (args : List Value) (ha : shaFits ash_cmpu64 args) (hp : E.pre 56 (args.map vints)) : Pure Tryd.prog 56 args.toArray fun v => sh_cmpu64.fits v ∧ E.post 56 (args.map vints) (vres v) := @top_sat Tryd.prog tab3 E hV 2000 56 ash_cmpu64 sh_cmpu64 (@Eq.mp _ _ s_cmpu64 h) args ha hp
theorem step_cmpu64 (hV : Valid Tryd.prog tab3 E) (h : P_cmpu64) : Valid Tryd.prog tab4 E := hV.add c_cmpu64 (pure_cmpu64 hV h)

/-- gouache/wides.Cmp -/
def P_wcmp : Prop :=
  (∀ n : Int, (-9223372036854775808) ≤ n → n ≤ 9223372036854775807 →
  (∀ n1 : Int, 0 ≤ n1 → n1 ≤ 18446744073709551615 →
  (∀ n2 : Int, (-9223372036854775808) ≤ n2 → n2 ≤ 9223372036854775807 →
  (∀ n3 : Int, 0 ≤ n3 → n3 ≤ 18446744073709551615 →
  (Pre_wcmp [[n, n1], [n2, n3]] →
  (∀ b : Nat, (∀ b1 : Nat, (Pre_cmpi64 [[n], [n2]] ∧
  (∀ n4 : Int, (-1) ≤ n4 → n4 ≤ 1 →
  (Post_cmpi64 [[n], [n2]] [[n4]] →
  (Pre_cmpu64 [[n1], [n3]] ∧
  (∀ n5 : Int, (-1) ≤ n5 → n5 ≤ 1 →
  (Post_cmpu64 [[n1], [n3]] [[n5]] →
  (∀ b2 : Nat, (((¬ (n4 = 0)) →
    Post_wcmp [[n, n1], [n2, n3]] [[n4]]) ∧
   (¬ (¬ (n4 = 0)) →
    (((¬ (n5 = 0)) →
      Post_wcmp [[n, n1], [n2, n3]] [[n5]]) ∧
     (¬ (¬ (n5 = 0)) →
      Post_wcmp [[n, n1], [n2, n3]] [[0]]))))))))))))))))))
theorem c_wcmp : canCall Tryd.prog 48 = true := by kernel_rfl
theorem s_wcmp : P_wcmp = sat E (symTop Tryd.prog tab4 2000 48 ash_wcmp sh_wcmp) := by kernel_rfl
theorem pure_wcmp (hV : Valid Tryd.prog tab4 E) (h : P_wcmp) (args : List Value) (ha : shaFits ash_wcmp args) (hp : E.pre 48 (args.map vints)) : Pure Tryd.prog 48 args.toArray fun v => sh_wcmp.fits v ∧ E.post 48 (args.map vints) (vres v) := @top_sat Tryd.prog tab4 E hV 2000 48 ash_wcmp sh_wcmp (@Eq.mp _ _ s_wcmp h) args ha hp
theorem step_wcmp (hV : Valid Tryd.prog tab4 E) (h : P_wcmp) : Valid Tryd.prog tab5 E := hV.add c_wcmp (pure_wcmp hV h)

/-- gouache/wides.Of -/
def P_wof : Prop :=
  (∀ n : Int, (-9223372036854775808) ≤ n → n ≤ 9223372036854775807 →
  (Pre_wof [[n]] →
  (∀ b : Nat, (∀ n1 : Int, n1 = (n / 9223372036854775808) → (-1) ≤ n1 → n1 ≤ 0 →
  (∀ n2 : Int, n2 = (IntKind.wrap .u64 n) → 0 ≤ n2 → n2 ≤ 18446744073709551615 →
  Post_wof [[n]] [[n1, n2]])))))
theorem c_wof : canCall Tryd.prog 35 = true := by kernel_rfl
theorem s_wof : P_wof = sat E (symTop Tryd.prog tab5 2000 35 ash_wof sh_wof) := by kernel_rfl
theorem pure_wof (hV : Valid Tryd.prog tab5 E) (h : P_wof) (args : List Value) (ha : shaFits ash_wof args) (hp : E.pre 35 (args.map vints)) : Pure Tryd.prog 35 args.toArray fun v => sh_wof.fits v ∧ E.post 35 (args.map vints) (vres v) := @top_sat Tryd.prog tab5 E hV 2000 35 ash_wof sh_wof (@Eq.mp _ _ s_wof h) args ha hp
theorem step_wof (hV : Valid Tryd.prog tab5 E) (h : P_wof) : Valid Tryd.prog tab6 E := hV.add c_wof (pure_wof hV h)

/-- math/bits.LeadingZeros64 -/
def P_lz64 : Prop :=
  (∀ n : Int, 0 ≤ n → n ≤ 18446744073709551615 →
  (Pre_lz64 [[n]] →
  (Pre_len64 [[n]] ∧
  (∀ n1 : Int, 0 ≤ n1 → n1 ≤ 64 →
  (Post_len64 [[n]] [[n1]] →
  (∀ n2 : Int, n2 = (64 - n1) → 0 ≤ n2 → n2 ≤ 64 →
  Post_lz64 [[n]] [[n2]]))))))
theorem c_lz64 : canCall Tryd.prog 59 = true := by kernel_rfl
theorem s_lz64 : P_lz64 = sat E (symTop Tryd.prog tab6 2000 59 ash_lz64 sh_lz64) := by kernel_rfl
theorem pure_lz64 (hV : Valid Tryd.prog tab6 E) (h : P_lz64) (args : List Value) (ha : shaFits ash_lz64 args) (hp : E.pre 59 (args.map vints)) : Pure Tryd.prog 59 args.toArray fun v => sh_lz64.fits v ∧ E.post 59 (args.map vints) (vres v) := @top_sat Tryd.prog tab6 E hV 2000 59 ash_lz64 sh_lz64 (@Eq.mp _ _ s_lz64 h) args ha hp
theorem step_lz64 (hV : Valid Tryd.prog tab6 E) (h : P_lz64) : Valid Tryd.prog tab7 E := hV.add c_lz64 (pure_lz64 hV h)

/-- math/bits.Div64 -/
def P_div64 : Prop :=
  (∀ n : Int, 0 ≤ n → n ≤ 18446744073709551615 →
  (∀ n1 : Int, 0 ≤ n1 → n1 ≤ 18446744073709551615 →
  (∀ n2 : Int, 0 ≤ n2 → n2 ≤ 18446744073709551615 →
  (Pre_div64 [[n], [n1], [n2]] →
  (((n2 = 0) →
    False /- op -/) ∧
   (¬ (n2 = 0) →
    (((n2 ≤ n) →
      False /- op -/) ∧
     (¬ (n2 ≤ n) →
      (((n = 0) →
        ((1 ≤ n2) ∧
        (∀ n3 : Int, n3 = n2 → 1 ≤ n3 → n3 ≤ 18446744073709551615 →
        ((1 ≤ n2) ∧
        (∀ n4 : Int, n4 = n2 → 1 ≤ n4 → n4 ≤ 18446744073709551615 →
        (∀ n5 : Int, n5 = (IntKind.wrap .u64 (n1.tdiv n3)) → 0 ≤ n5 → n5 ≤ 18446744073709551615 →
        (∀ n6 : Int, n6 = (n1.tmod n4) → 0 ≤ n6 → n6 ≤ 18446744073709551615 →
        Post_div64 [[n], [n1], [n2]] [[n5], [n6]]))))))) ∧
       (¬ (n = 0) →
        (Pre_lz64 [[n2]] ∧
        (∀ n3 : Int, 0 ≤ n3 → n3 ≤ 64 →
        (Post_lz64 [[n2]] [[n3]] →
        (∀ n4 : Int, n4 = (shI .shl .u64 n2 n3) → 0 ≤ n4 → n4 ≤ 18446744073709551615 →
        (∀ n5 : Int, n5 = (n4 / 4294967296) → 0 ≤ n5 → n5 ≤ 4294967295 →
        (∀ n6 : Int, n6 = (n4 % 4294967296) → 0 ≤ n6 → n6 ≤ 4294967295 →
        (∀ n7 : Int, n7 = (bitsI .or .u64 (shI .shl .u64 n n3) (shI .shr .u64 n1 (64 - n3))) → 0 ≤ n7 → n7 ≤ 18446744073709551615 →
        (∀ n8 : Int, n8 = (shI .shl .u64 n1 n3) → 0 ≤ n8 → n8 ≤ 18446744073709551615 →
        (∀ n9 : Int, n9 = (n8 / 4294967296) → 0 ≤ n9 → n9 ≤ 4294967295 →
        (∀ n10 : Int, n10 = (n8 % 4294967296) → 0 ≤ n10 → n10 ≤ 4294967295 →
        ((1 ≤ n5) ∧
        (∀ n11 : Int, n11 = n5 → 1 ≤ n11 → n11 ≤ 4294967295 →
        (∀ n12 : Int, n12 = (IntKind.wrap .u64 (n7.tdiv n11)) → 0 ≤ n12 → n12 ≤ 18446744073709551615 →
        (∀ n13 : Int, n13 = (IntKind.wrap .u64 (n7 - (IntKind.wrap .u64 (n12 * n5)))) → 0 ≤ n13 → n13 ≤ 18446744073709551615 →
        (Inv_dv1 [n7, n5, n6, n9] [n12, n13] ∧
        (∀ n14 : Int, 0 ≤ n14 → n14 ≤ 18446744073709551615 →
        (∀ n15 : Int, 0 ≤ n15 → n15 ≤ 18446744073709551615 →
        (Inv_dv1 [n7, n5, n6, n9] [n14, n15] →
        (∀ vs : List Value, vs.length = 21 →
        (((4294967296 ≤ n14) →
          (∀ n16 : Int, n16 = (IntKind.wrap .u64 (n14 - 1)) → 0 ≤ n16 → n16 ≤ 18446744073709551615 →
          (∀ n17 : Int, n17 = (IntKind.wrap .u64 (n15 + n5)) → 0 ≤ n17 → n17 ≤ 18446744073709551615 →
          (((4294967296 ≤ n17) →
            (∀ n18 : Int, n18 = (IntKind.wrap .u64 ((IntKind.wrap .u64 ((IntKind.wrap .u64 (n7 * 4294967296)) + n9)) - (IntKind.wrap .u64 (n16 * n4)))) → 0 ≤ n18 → n18 ≤ 18446744073709551615 →
            ((1 ≤ n5) ∧
            (∀ n19 : Int, n19 = n5 → 1 ≤ n19 → n19 ≤ 4294967295 →
            (∀ n20 : Int, n20 = (IntKind.wrap .u64 (n18.tdiv n19)) → 0 ≤ n20 → n20 ≤ 18446744073709551615 →
            (∀ n21 : Int, n21 = (IntKind.wrap .u64 (n18 - (IntKind.wrap .u64 (n20 * n5)))) → 0 ≤ n21 → n21 ≤ 18446744073709551615 →
            (Inv_dv2 [n18, n5, n6, n10] [n20, n21] ∧
            (∀ n22 : Int, 0 ≤ n22 → n22 ≤ 18446744073709551615 →
            (∀ n23 : Int, 0 ≤ n23 → n23 ≤ 18446744073709551615 →
            (Inv_dv2 [n18, n5, n6, n10] [n22, n23] →
            (∀ vs1 : List Value, vs1.length = 21 →
            (((4294967296 ≤ n22) →
              (∀ n24 : Int, n24 = (IntKind.wrap .u64 (n22 - 1)) → 0 ≤ n24 → n24 ≤ 18446744073709551615 →
              (∀ n25 : Int, n25 = (IntKind.wrap .u64 (n23 + n5)) → 0 ≤ n25 → n25 ≤ 18446744073709551615 →
              (((4294967296 ≤ n25) →
                (∀ n26 : Int, n26 = (IntKind.wrap .u64 ((IntKind.wrap .u64 (n16 * 4294967296)) + n24)) → 0 ≤ n26 → n26 ≤ 18446744073709551615 →
                (∀ n27 : Int, n27 = (shI .shr .u64 (IntKind.wrap .u64 ((IntKind.wrap .u64 ((IntKind.wrap .u64 (n18 * 4294967296)) + n10)) - (IntKind.wrap .u64 (n24 * n4)))) n3) → 0 ≤ n27 → n27 ≤ 18446744073709551615 →
                Post_div64 [[n], [n1], [n2]] [[n26], [n27]]))) ∧
               (¬ (4294967296 ≤ n25) →
                (Inv_dv2 [n18, n5, n6, n10] [n24, n25] ∧ Mea_dv2 [n18, n5, n6, n10] [n24, n25] < Mea_dv2 [n18, n5, n6, n10] [n22, n23])))))) ∧
             (¬ (4294967296 ≤ n22) →
              ((((IntKind.wrap .u64 ((IntKind.wrap .u64 (4294967296 * n23)) + n10)) < (IntKind.wrap .u64 (n22 * n6))) →
                (∀ n24 : Int, n24 = (IntKind.wrap .u64 (n22 - 1)) → 0 ≤ n24 → n24 ≤ 18446744073709551615 →
                (∀ n25 : Int, n25 = (IntKind.wrap .u64 (n23 + n5)) → 0 ≤ n25 → n25 ≤ 18446744073709551615 →
                (((4294967296 ≤ n25) →
                  (∀ n26 : Int, n26 = (IntKind.wrap .u64 ((IntKind.wrap .u64 (n16 * 4294967296)) + n24)) → 0 ≤ n26 → n26 ≤ 18446744073709551615 →
                  (∀ n27 : Int, n27 = (shI .shr .u64 (IntKind.wrap .u64 ((IntKind.wrap .u64 ((IntKind.wrap .u64 (n18 * 4294967296)) + n10)) - (IntKind.wrap .u64 (n24 * n4)))) n3) → 0 ≤ n27 → n27 ≤ 18446744073709551615 →
                  Post_div64 [[n], [n1], [n2]] [[n26], [n27]]))) ∧
                 (¬ (4294967296 ≤ n25) →
                  (Inv_dv2 [n18, n5, n6, n10] [n24, n25] ∧ Mea_dv2 [n18, n5, n6, n10] [n24, n25] < Mea_dv2 [n18, n5, n6, n10] [n22, n23])))))) ∧
               (¬ ((IntKind.wrap .u64 ((IntKind.wrap .u64 (4294967296 * n23)) + n10)) < (IntKind.wrap .u64 (n22 * n6))) →
                (∀ n24 : Int, n24 = (IntKind.wrap .u64 ((IntKind.wrap .u64 (n16 * 4294967296)) + n22)) → 0 ≤ n24 → n24 ≤ 18446744073709551615 →
                (∀ n25 : Int, n25 = (shI .shr .u64 (IntKind.wrap .u64 ((IntKind.wrap .u64 ((IntKind.wrap .u64 (n18 * 4294967296)) + n10)) - (IntKind.wrap .u64 (n22 * n4)))) n3) → 0 ≤ n25 → n25 ≤ 18446744073709551615 →
                Post_div64 [[n], [n1], [n2]] [[n24], [n25]]))))))))))))))))) ∧
           (¬ (4294967296 ≤ n17) →
            (Inv_dv1 [n7, n5, n6, n9] [n16, n17] ∧ Mea_dv1 [n7, n5, n6, n9] [n16, n17] < Mea_dv1 [n7, n5, n6, n9] [n14, n15])))))) ∧
         (¬ (4294967296 ≤ n14) →
          ((((IntKind.wrap .u64 ((IntKind.wrap .u64 (4294967296 * n15)) + n9)) < (IntKind.wrap .u64 (n14 * n6))) →
            (∀ n16 : Int, n16 = (IntKind.wrap .u64 (n14 - 1)) → 0 ≤ n16 → n16 ≤ 18446744073709551615 →
            (∀ n17 : Int, n17 = (IntKind.wrap .u64 (n15 + n5)) → 0 ≤ n17 → n17 ≤ 18446744073709551615 →
            (((4294967296 ≤ n17) →
              (∀ n18 : Int, n18 = (IntKind.wrap .u64 ((IntKind.wrap .u64 ((IntKind.wrap .u64 (n7 * 4294967296)) + n9)) - (IntKind.wrap .u64 (n16 * n4)))) → 0 ≤ n18 → n18 ≤ 18446744073709551615 →
              ((1 ≤ n5) ∧
              (∀ n19 : Int, n19 = n5 → 1 ≤ n19 → n19 ≤ 4294967295 →
              (∀ n20 : Int, n20 = (IntKind.wrap .u64 (n18.tdiv n19)) → 0 ≤ n20 → n20 ≤ 18446744073709551615 →
              (∀ n21 : Int, n21 = (IntKind.wrap .u64 (n18 - (IntKind.wrap .u64 (n20 * n5)))) → 0 ≤ n21 → n21 ≤ 18446744073709551615 →
              (Inv_dv2 [n18, n5, n6, n10] [n20, n21] ∧
              (∀ n22 : Int, 0 ≤ n22 → n22 ≤ 18446744073709551615 →
              (∀ n23 : Int, 0 ≤ n23 → n23 ≤ 18446744073709551615 →
              (Inv_dv2 [n18, n5, n6, n10] [n22, n23] →
              (∀ vs1 : List Value, vs1.length = 21 →
              (((4294967296 ≤ n22) →
                (∀ n24 : Int, n24 = (IntKind.wrap .u64 (n22 - 1)) → 0 ≤ n24 → n24 ≤ 18446744073709551615 →
                (∀ n25 : Int, n25 = (IntKind.wrap .u64 (n23 + n5)) → 0 ≤ n25 → n25 ≤ 18446744073709551615 →
                (((4294967296 ≤ n25) →
                  (∀ n26 : Int, n26 = (IntKind.wrap .u64 ((IntKind.wrap .u64 (n16 * 4294967296)) + n24)) → 0 ≤ n26 → n26 ≤ 18446744073709551615 →
                  (∀ n27 : Int, n27 = (shI .shr .u64 (IntKind.wrap .u64 ((IntKind.wrap .u64 ((IntKind.wrap .u64 (n18 * 4294967296)) + n10)) - (IntKind.wrap .u64 (n24 * n4)))) n3) → 0 ≤ n27 → n27 ≤ 18446744073709551615 →
                  Post_div64 [[n], [n1], [n2]] [[n26], [n27]]))) ∧
                 (¬ (4294967296 ≤ n25) →
                  (Inv_dv2 [n18, n5, n6, n10] [n24, n25] ∧ Mea_dv2 [n18, n5, n6, n10] [n24, n25] < Mea_dv2 [n18, n5, n6, n10] [n22, n23])))))) ∧
               (¬ (4294967296 ≤ n22) →
                ((((IntKind.wrap .u64 ((IntKind.wrap .u64 (4294967296 * n23)) + n10)) < (IntKind.wrap .u64 (n22 * n6))) →
                  (∀ n24 : Int, n24 = (IntKind.wrap .u64 (n22 - 1)) → 0 ≤ n24 → n24 ≤ 18446744073709551615 →
                  (∀ n25 : Int, n25 = (IntKind.wrap .u64 (n23 + n5)) → 0 ≤ n25 → n25 ≤ 18446744073709551615 →
                  (((4294967296 ≤ n25) →
                    (∀ n26 : Int, n26 = (IntKind.wrap .u64 ((IntKind.wrap .u64 (n16 * 4294967296)) + n24)) → 0 ≤ n26 → n26 ≤ 18446744073709551615 →
                    (∀ n27 : Int, n27 = (shI .shr .u64 (IntKind.wrap .u64 ((IntKind.wrap .u64 ((IntKind.wrap .u64 (n18 * 4294967296)) + n10)) - (IntKind.wrap .u64 (n24 * n4)))) n3) → 0 ≤ n27 → n27 ≤ 18446744073709551615 →
                    Post_div64 [[n], [n1], [n2]] [[n26], [n27]]))) ∧
                   (¬ (4294967296 ≤ n25) →
                    (Inv_dv2 [n18, n5, n6, n10] [n24, n25] ∧ Mea_dv2 [n18, n5, n6, n10] [n24, n25] < Mea_dv2 [n18, n5, n6, n10] [n22, n23])))))) ∧
                 (¬ ((IntKind.wrap .u64 ((IntKind.wrap .u64 (4294967296 * n23)) + n10)) < (IntKind.wrap .u64 (n22 * n6))) →
                  (∀ n24 : Int, n24 = (IntKind.wrap .u64 ((IntKind.wrap .u64 (n16 * 4294967296)) + n22)) → 0 ≤ n24 → n24 ≤ 18446744073709551615 →
                  (∀ n25 : Int, n25 = (shI .shr .u64 (IntKind.wrap .u64 ((IntKind.wrap .u64 ((IntKind.wrap .u64 (n18 * 4294967296)) + n10)) - (IntKind.wrap .u64 (n22 * n4)))) n3) → 0 ≤ n25 → n25 ≤ 18446744073709551615 →
                  Post_div64 [[n], [n1], [n2]] [[n24], [n25]]))))))))))))))))) ∧
             (¬ (4294967296 ≤ n17) →
              (Inv_dv1 [n7, n5, n6, n9] [n16, n17] ∧ Mea_dv1 [n7, n5, n6, n9] [n16, n17] < Mea_dv1 [n7, n5, n6, n9] [n14, n15])))))) ∧
           (¬ ((IntKind.wrap .u64 ((IntKind.wrap .u64 (4294967296 * n15)) + n9)) < (IntKind.wrap .u64 (n14 * n6))) →
            (∀ n16 : Int, n16 = (IntKind.wrap .u64 ((IntKind.wrap .u64 ((IntKind.wrap .u64 (n7 * 4294967296)) + n9)) - (IntKind.wrap .u64 (n14 * n4)))) → 0 ≤ n16 → n16 ≤ 18446744073709551615 →
            ((1 ≤ n5) ∧
            (∀ n17 : Int, n17 = n5 → 1 ≤ n17 → n17 ≤ 4294967295 →
            (∀ n18 : Int, n18 = (IntKind.wrap .u64 (n16.tdiv n17)) → 0 ≤ n18 → n18 ≤ 18446744073709551615 →
            (∀ n19 : Int, n19 = (IntKind.wrap .u64 (n16 - (IntKind.wrap .u64 (n18 * n5)))) → 0 ≤ n19 → n19 ≤ 18446744073709551615 →
            (Inv_dv2 [n16, n5, n6, n10] [n18, n19] ∧
            (∀ n20 : Int, 0 ≤ n20 → n20 ≤ 18446744073709551615 →
            (∀ n21 : Int, 0 ≤ n21 → n21 ≤ 18446744073709551615 →
            (Inv_dv2 [n16, n5, n6, n10] [n20, n21] →
            (∀ vs1 : List Value, vs1.length = 21 →
            (((4294967296 ≤ n20) →
              (∀ n22 : Int, n22 = (IntKind.wrap .u64 (n20 - 1)) → 0 ≤ n22 → n22 ≤ 18446744073709551615 →
              (∀ n23 : Int, n23 = (IntKind.wrap .u64 (n21 + n5)) → 0 ≤ n23 → n23 ≤ 18446744073709551615 →
              (((4294967296 ≤ n23) →
                (∀ n24 : Int, n24 = (IntKind.wrap .u64 ((IntKind.wrap .u64 (n14 * 4294967296)) + n22)) → 0 ≤ n24 → n24 ≤ 18446744073709551615 →
                (∀ n25 : Int, n25 = (shI .shr .u64 (IntKind.wrap .u64 ((IntKind.wrap .u64 ((IntKind.wrap .u64 (n16 * 4294967296)) + n10)) - (IntKind.wrap .u64 (n22 * n4)))) n3) → 0 ≤ n25 → n25 ≤ 18446744073709551615 →
                Post_div64 [[n], [n1], [n2]] [[n24], [n25]]))) ∧
               (¬ (4294967296 ≤ n23) →
                (Inv_dv2 [n16, n5, n6, n10] [n22, n23] ∧ Mea_dv2 [n16, n5, n6, n10] [n22, n23] < Mea_dv2 [n16, n5, n6, n10] [n20, n21])))))) ∧
             (¬ (4294967296 ≤ n20) →
              ((((IntKind.wrap .u64 ((IntKind.wrap .u64 (4294967296 * n21)) + n10)) < (IntKind.wrap .u64 (n20 * n6))) →
                (∀ n22 : Int, n22 = (IntKind.wrap .u64 (n20 - 1)) → 0 ≤ n22 → n22 ≤ 18446744073709551615 →
                (∀ n23 : Int, n23 = (IntKind.wrap .u64 (n21 + n5)) → 0 ≤ n23 → n23 ≤ 18446744073709551615 →
                (((4294967296 ≤ n23) →
                  (∀ n24 : Int, n24 = (IntKind.wrap .u64 ((IntKind.wrap .u64 (n14 * 4294967296)) + n22)) → 0 ≤ n24 → n24 ≤ 18446744073709551615 →
                  (∀ n25 : Int, n25 = (shI .shr .u64 (IntKind.wrap .u64 ((IntKind.wrap .u64 ((IntKind.wrap .u64 (n16 * 4294967296)) + n10)) - (IntKind.wrap .u64 (n22 * n4)))) n3) → 0 ≤ n25 → n25 ≤ 18446744073709551615 →
                  Post_div64 [[n], [n1], [n2]] [[n24], [n25]]))) ∧
                 (¬ (4294967296 ≤ n23) →
                  (Inv_dv2 [n16, n5, n6, n10] [n22, n23] ∧ Mea_dv2 [n16, n5, n6, n10] [n22, n23] < Mea_dv2 [n16, n5, n6, n10] [n20, n21])))))) ∧
               (¬ ((IntKind.wrap .u64 ((IntKind.wrap .u64 (4294967296 * n21)) + n10)) < (IntKind.wrap .u64 (n20 * n6))) →
                (∀ n22 : Int, n22 = (IntKind.wrap .u64 ((IntKind.wrap .u64 (n14 * 4294967296)) + n20)) → 0 ≤ n22 → n22 ≤ 18446744073709551615 →
                (∀ n23 : Int, n23 = (shI .shr .u64 (IntKind.wrap .u64 ((IntKind.wrap .u64 ((IntKind.wrap .u64 (n16 * 4294967296)) + n10)) - (IntKind.wrap .u64 (n20 * n4)))) n3) → 0 ≤ n23 → n23 ≤ 18446744073709551615 →
                Post_div64 [[n], [n1], [n2]] [[n22], [n23]])))))))))))))))))))))))))))))))))))))))))))))))))
theorem c_div64 : canCall Tryd.prog 52 = true := by kernel_rfl
theorem s_div64 : P_div64 = sat E (symTop Tryd.prog tab7 2000 52 ash_div64 sh_div64) := by kernel_rfl
theorem pure_div64 (hV : Valid Tryd.prog tab7 E) (h : P_div64) (args : List Value) (ha : shaFits ash_div64 args) (hp : E.pre 52 (args.map vints)) : Pure Tryd.prog 52 args.toArray fun v => sh_div64.fits v ∧ E.post 52 (args.map vints) (vres v) := @top_sat Tryd.prog tab7 E hV 2000 52 ash_div64 sh_div64 (@Eq.mp _ _ s_div64 h) args ha hp
theorem step_div64 (hV : Valid Tryd.prog tab7 E) (h : P_div64) : Valid Tryd.prog tab8 E := hV.add c_div64 (pure_div64 hV h)

/-- (gouache/wides.words).turned -/
def P_turned : Prop :=
  (∀ n : Int, 0 ≤ n → n ≤ 18446744073709551615 →
  (∀ n1 : Int, 0 ≤ n1 → n1 ≤ 18446744073709551615 →
  (∀ n2 : Int, 0 ≤ n2 → n2 ≤ 18446744073709551615 →
  (Pre_turned [[n, n1, n2]] →
  (∀ b : Nat, (∀ b1 : Nat, (∀ n3 : Int, n3 = (((18446744073709551615 - n) + 1) % 18446744073709551616) → 0 ≤ n3 → n3 ≤ 18446744073709551615 →
  (∀ n4 : Int, n4 = (((18446744073709551615 - n) + 1) / 18446744073709551616) → 0 ≤ n4 → n4 ≤ 1 →
  (∀ n5 : Int, n5 = (((18446744073709551615 - n1) + n4) % 18446744073709551616) → 0 ≤ n5 → n5 ≤ 18446744073709551615 →
  (∀ n6 : Int, n6 = (((18446744073709551615 - n1) + n4) / 18446744073709551616) → 0 ≤ n6 → n6 ≤ 1 →
  Post_turned [[n, n1, n2]] [[n3, n5, 0]]))))))))))
theorem c_turned : canCall Tryd.prog 51 = true := by kernel_rfl
theorem s_turned : P_turned = sat E (symTop Tryd.prog tab8 2000 51 ash_turned sh_turned) := by kernel_rfl
theorem pure_turned (hV : Valid Tryd.prog tab8 E) (h : P_turned) (args : List Value) (ha : shaFits ash_turned args) (hp : E.pre 51 (args.map vints)) : Pure Tryd.prog 51 args.toArray fun v => sh_turned.fits v ∧ E.post 51 (args.map vints) (vres v) := @top_sat Tryd.prog tab8 E hV 2000 51 ash_turned sh_turned (@Eq.mp _ _ s_turned h) args ha hp
theorem step_turned (hV : Valid Tryd.prog tab8 E) (h : P_turned) : Valid Tryd.prog tab9 E := hV.add c_turned (pure_turned hV h)

/-- gouache/wides.part -/
def P_part : Prop :=
  (∀ n : Int, (-9223372036854775808) ≤ n → n ≤ 9223372036854775807 →
  (∀ n1 : Int, 0 ≤ n1 → n1 ≤ 18446744073709551615 →
  (Pre_part [[n, n1]] →
  (∀ b : Nat, (∀ b1 : Nat, (∀ b2 : Nat, (∀ n2 : Int, n2 = (IntKind.wrap .u64 n) → 0 ≤ n2 → n2 ≤ 18446744073709551615 →
  (((n < 0) →
    (Pre_turned [[n1, n2, 0]] ∧
    (∀ n3 : Int, 0 ≤ n3 → n3 ≤ 18446744073709551615 →
    (∀ n4 : Int, 0 ≤ n4 → n4 ≤ 18446744073709551615 →
    (∀ n5 : Int, 0 ≤ n5 → n5 ≤ 18446744073709551615 →
    (Post_turned [[n1, n2, 0]] [[n3, n4, n5]] →
    Post_part [[n, n1]] [[b2i (decide (n < 0)), n3, n4, n5]])))))) ∧
   (¬ (n < 0) →
    Post_part [[n, n1]] [[b2i (decide (n < 0)), n1, n2, 0]])))))))))
theorem c_part : canCall Tryd.prog 40 = true := by kernel_rfl
theorem s_part : P_part = sat E (symTop Tryd.prog tab9 2000 40 ash_part sh_part) := by kernel_rfl
theorem pure_part (hV : Valid Tryd.prog tab9 E) (h : P_part) (args : List Value) (ha : shaFits ash_part args) (hp : E.pre 40 (args.map vints)) : Pure Tryd.prog 40 args.toArray fun v => sh_part.fits v ∧ E.post 40 (args.map vints) (vres v) := @top_sat Tryd.prog tab9 E hV 2000 40 ash_part sh_part (@Eq.mp _ _ s_part h) args ha hp
theorem step_part (hV : Valid Tryd.prog tab9 E) (h : P_part) : Valid Tryd.prog tab10 E := hV.add c_part (pure_part hV h)

/-- (gouache/wides.parted).whole -/
def P_whole : Prop :=
  (∀ t : Bool, (∀ n : Int, 0 ≤ n → n ≤ 18446744073709551615 →
  (∀ n1 : Int, 0 ≤ n1 → n1 ≤ 18446744073709551615 →
  (∀ n2 : Int, 0 ≤ n2 → n2 ≤ 18446744073709551615 →
  (Pre_whole [[b2i t, n, n1, n2]] →
  (∀ b : Nat, (∀ b1 : Nat, (∀ b2 : Nat, (((¬ ((t = true) ∧ ((n = 0) ∧ ((n1 = 9223372036854775808) ∧ (n2 = 0))))) →
    (((0 < n2) →
      Post_whole [[b2i t, n, n1, n2]] [[0, 0], [11]]) ∧
     (¬ (0 < n2) →
      (((0 < (n1 / 9223372036854775808)) →
        Post_whole [[b2i t, n, n1, n2]] [[0, 0], [11]]) ∧
       (¬ (0 < (n1 / 9223372036854775808)) →
        (((t = true) →
          (Pre_turned [[n, n1, n2]] ∧
          (∀ n3 : Int, 0 ≤ n3 → n3 ≤ 18446744073709551615 →
          (∀ n4 : Int, 0 ≤ n4 → n4 ≤ 18446744073709551615 →
          (∀ n5 : Int, 0 ≤ n5 → n5 ≤ 18446744073709551615 →
          (Post_turned [[n, n1, n2]] [[n3, n4, n5]] →
          (∀ n6 : Int, n6 = (IntKind.wrap .i64 n4) → (-9223372036854775808) ≤ n6 → n6 ≤ 9223372036854775807 →
          Post_whole [[b2i t, n, n1, n2]] [[n6, n3], [0]]))))))) ∧
         (¬ (t = true) →
          (∀ n3 : Int, n3 = (IntKind.wrap .i64 n1) → (-9223372036854775808) ≤ n3 → n3 ≤ 9223372036854775807 →
          Post_whole [[b2i t, n, n1, n2]] [[n3, n], [0]])))))))) ∧
   (¬ (¬ ((t = true) ∧ ((n = 0) ∧ ((n1 = 9223372036854775808) ∧ (n2 = 0))))) →
    (((t = true) →
      (Pre_turned [[n, n1, n2]] ∧
      (∀ n3 : Int, 0 ≤ n3 → n3 ≤ 18446744073709551615 →
      (∀ n4 : Int, 0 ≤ n4 → n4 ≤ 18446744073709551615 →
      (∀ n5 : Int, 0 ≤ n5 → n5 ≤ 18446744073709551615 →
      (Post_turned [[n, n1, n2]] [[n3, n4, n5]] →
      (∀ n6 : Int, n6 = (IntKind.wrap .i64 n4) → (-9223372036854775808) ≤ n6 → n6 ≤ 9223372036854775807 →
      Post_whole [[b2i t, n, n1, n2]] [[n6, n3], [0]]))))))) ∧
     (¬ (t = true) →
      (∀ n3 : Int, n3 = (IntKind.wrap .i64 n1) → (-9223372036854775808) ≤ n3 → n3 ≤ 9223372036854775807 →
      Post_whole [[b2i t, n, n1, n2]] [[n3, n], [0]])))))))))))))
theorem c_whole : canCall Tryd.prog 42 = true := by kernel_rfl
theorem s_whole : P_whole = sat E (symTop Tryd.prog tab10 2000 42 ash_whole sh_whole) := by kernel_rfl
theorem pure_whole (hV : Valid Tryd.prog tab10 E) (h : P_whole) (args : List Value) (ha : shaFits ash_whole args) (hp : E.pre 42 (args.map vints)) : Pure Tryd.prog 42 args.toArray fun v => sh_whole.fits v ∧ E.post 42 (args.map vints) (vres v) := @top_sat Tryd.prog tab10 E hV 2000 42 ash_whole sh_whole (@Eq.mp _ _ s_whole h) args ha hp
theorem step_whole (hV : Valid Tryd.prog tab10 E) (h : P_whole) : Valid Tryd.prog tab11 E := hV.add c_whole (pure_whole hV h)

/-- (gouache/wides.words).times -/
def P_wtimes : Prop :=
  (∀ n : Int, 0 ≤ n → n ≤ 18446744073709551615 →
  (∀ n1 : Int, 0 ≤ n1 → n1 ≤ 18446744073709551615 →
  (∀ n2 : Int, 0 ≤ n2 → n2 ≤ 18446744073709551615 →
  (∀ n3 : Int, 0 ≤ n3 → n3 ≤ 18446744073709551615 →
  (Pre_wtimes [[n, n1, n2], [n3]] →
  (∀ b : Nat, (∀ b1 : Nat, (Pre_mul64 [[n], [n3]] ∧
  (∀ n4 : Int, 0 ≤ n4 → n4 ≤ 18446744073709551615 →
  (∀ n5 : Int, 0 ≤ n5 → n5 ≤ 18446744073709551615 →
  (Post_mul64 [[n], [n3]] [[n4], [n5]] →
  (Pre_mul64 [[n1], [n3]] ∧
  (∀ n6 : Int, 0 ≤ n6 → n6 ≤ 18446744073709551615 →
  (∀ n7 : Int, 0 ≤ n7 → n7 ≤ 18446744073709551615 →
  (Post_mul64 [[n1], [n3]] [[n6], [n7]] →
  (∀ n8 : Int, n8 = ((n7 + n4) % 18446744073709551616) → 0 ≤ n8 → n8 ≤ 18446744073709551615 →
  (∀ n9 : Int, n9 = ((n7 + n4) / 18446744073709551616) → 0 ≤ n9 → n9 ≤ 1 →
  (∀ n10 : Int, n10 = (IntKind.wrap .u64 (n6 + n9)) → 0 ≤ n10 → n10 ≤ 18446744073709551615 →
  (Pre_mul64 [[n2], [n3]] ∧
  (∀ n11 : Int, 0 ≤ n11 → n11 ≤ 18446744073709551615 →
  (∀ n12 : Int, 0 ≤ n12 → n12 ≤ 18446744073709551615 →
  (Post_mul64 [[n2], [n3]] [[n11], [n12]] →
  (∀ n13 : Int, n13 = ((n12 + n10) % 18446744073709551616) → 0 ≤ n13 → n13 ≤ 18446744073709551615 →
  (∀ n14 : Int, n14 = ((n12 + n10) / 18446744073709551616) → 0 ≤ n14 → n14 ≤ 1 →
  (∀ n15 : Int, n15 = (IntKind.wrap .u64 (n11 + n14)) → 0 ≤ n15 → n15 ≤ 18446744073709551615 →
  Post_wtimes [[n, n1, n2], [n3]] [[n5, n8, n13]])))))))))))))))))))))))))
theorem c_wtimes : canCall Tryd.prog 45 = true := by kernel_rfl
theorem s_wtimes : P_wtimes = sat E (symTop Tryd.prog tab11 2000 45 ash_wtimes sh_wtimes) := by kernel_rfl
theorem pure_wtimes (hV : Valid Tryd.prog tab11 E) (h : P_wtimes) (args : List Value) (ha : shaFits ash_wtimes args) (hp : E.pre 45 (args.map vints)) : Pure Tryd.prog 45 args.toArray fun v => sh_wtimes.fits v ∧ E.post 45 (args.map vints) (vres v) := @top_sat Tryd.prog tab11 E hV 2000 45 ash_wtimes sh_wtimes (@Eq.mp _ _ s_wtimes h) args ha hp
theorem step_wtimes (hV : Valid Tryd.prog tab11 E) (h : P_wtimes) : Valid Tryd.prog tab12 E := hV.add c_wtimes (pure_wtimes hV h)

/-- gouache/wides.size -/
def P_size : Prop :=
  (∀ n : Int, (-9223372036854775808) ≤ n → n ≤ 9223372036854775807 →
  (Pre_size [[n]] →
  (((n < 0) →
    (∀ n1 : Int, n1 = (IntKind.wrap .u64 (0 - (IntKind.wrap .u64 n))) → 0 ≤ n1 → n1 ≤ 18446744073709551615 →
    Post_size [[n]] [[n1]])) ∧
   (¬ (n < 0) →
    (∀ n1 : Int, n1 = (IntKind.wrap .u64 n) → 0 ≤ n1 → n1 ≤ 18446744073709551615 →
    Post_size [[n]] [[n1]])))))
theorem c_size : canCall Tryd.prog 46 = true := by kernel_rfl
theorem s_size : P_size = sat E (symTop Tryd.prog tab12 2000 46 ash_size sh_size) := by kernel_rfl
theorem pure_size (hV : Valid Tryd.prog tab12 E) (h : P_size) (args : List Value) (ha : shaFits ash_size args) (hp : E.pre 46 (args.map vints)) : Pure Tryd.prog 46 args.toArray fun v => sh_size.fits v ∧ E.post 46 (args.map vints) (vres v) := @top_sat Tryd.prog tab12 E hV 2000 46 ash_size sh_size (@Eq.mp _ _ s_size h) args ha hp
theorem step_size (hV : Valid Tryd.prog tab12 E) (h : P_size) : Valid Tryd.prog tab13 E := hV.add c_size (pure_size hV h)

/-- gouache/wides.Add -/
def P_wadd : Prop :=
  (∀ n : Int, (-9223372036854775808) ≤ n → n ≤ 9223372036854775807 →
  (∀ n1 : Int, 0 ≤ n1 → n1 ≤ 18446744073709551615 →
  (∀ n2 : Int, (-9223372036854775808) ≤ n2 → n2 ≤ 9223372036854775807 →
  (∀ n3 : Int, 0 ≤ n3 → n3 ≤ 18446744073709551615 →
  (Pre_wadd [[n, n1], [n2, n3]] →
  (∀ b : Nat, (∀ b1 : Nat, (∀ b2 : Nat, (∀ n4 : Int, n4 = ((n1 + n3) % 18446744073709551616) → 0 ≤ n4 → n4 ≤ 18446744073709551615 →
  (∀ n5 : Int, n5 = ((n1 + n3) / 18446744073709551616) → 0 ≤ n5 → n5 ≤ 1 →
  (∀ n6 : Int, n6 = (IntKind.wrap .i64 ((IntKind.wrap .i64 (n + n2)) + n5)) → (-9223372036854775808) ≤ n6 → n6 ≤ 9223372036854775807 →
  ((((n < 0) ↔ (n2 < 0)) →
    (((¬ ((n6 < 0) ↔ (n < 0))) →
      Post_wadd [[n, n1], [n2, n3]] [[0, 0], [11]]) ∧
     (¬ (¬ ((n6 < 0) ↔ (n < 0))) →
      Post_wadd [[n, n1], [n2, n3]] [[n6, n4], [0]]))) ∧
   (¬ ((n < 0) ↔ (n2 < 0)) →
    Post_wadd [[n, n1], [n2, n3]] [[n6, n4], [0]])))))))))))))
theorem c_wadd : canCall Tryd.prog 34 = true := by kernel_rfl
theorem s_wadd : P_wadd = sat E (symTop Tryd.prog tab13 2000 34 ash_wadd sh_wadd) := by kernel_rfl
theorem pure_wadd (hV : Valid Tryd.prog tab13 E) (h : P_wadd) (args : List Value) (ha : shaFits ash_wadd args) (hp : E.pre 34 (args.map vints)) : Pure Tryd.prog 34 args.toArray fun v => sh_wadd.fits v ∧ E.post 34 (args.map vints) (vres v) := @top_sat Tryd.prog tab13 E hV 2000 34 ash_wadd sh_wadd (@Eq.mp _ _ s_wadd h) args ha hp
theorem step_wadd (hV : Valid Tryd.prog tab13 E) (h : P_wadd) : Valid Tryd.prog tab14 E := hV.add c_wadd (pure_wadd hV h)

/-- gouache/wides.Sub -/
def P_wsub : Prop :=
  (∀ n : Int, (-9223372036854775808) ≤ n → n ≤ 9223372036854775807 →
  (∀ n1 : Int, 0 ≤ n1 → n1 ≤ 18446744073709551615 →
  (∀ n2 : Int, (-9223372036854775808) ≤ n2 → n2 ≤ 9223372036854775807 →
  (∀ n3 : Int, 0 ≤ n3 → n3 ≤ 18446744073709551615 →
  (Pre_wsub [[n, n1], [n2, n3]] →
  (∀ b : Nat, (∀ b1 : Nat, (∀ b2 : Nat, (∀ n4 : Int, n4 = ((n1 - n3) % 18446744073709551616) → 0 ≤ n4 → n4 ≤ 18446744073709551615 →
  (∀ n5 : Int, n5 = (0 - ((n1 - n3) / 18446744073709551616)) → 0 ≤ n5 → n5 ≤ 1 →
  (∀ n6 : Int, n6 = (IntKind.wrap .i64 ((IntKind.wrap .i64 (n - n2)) - n5)) → (-9223372036854775808) ≤ n6 → n6 ≤ 9223372036854775807 →
  (((¬ ((n < 0) ↔ (n2 < 0))) →
    (((¬ ((n6 < 0) ↔ (n < 0))) →
      Post_wsub [[n, n1], [n2, n3]] [[0, 0], [11]]) ∧
     (¬ (¬ ((n6 < 0) ↔ (n < 0))) →
      Post_wsub [[n, n1], [n2, n3]] [[n6, n4], [0]]))) ∧
   (¬ (¬ ((n < 0) ↔ (n2 < 0))) →
    Post_wsub [[n, n1], [n2, n3]] [[n6, n4], [0]])))))))))))))
theorem c_wsub : canCall Tryd.prog 43 = true := by kernel_rfl
theorem s_wsub : P_wsub = sat E (symTop Tryd.prog tab14 2000 43 ash_wsub sh_wsub) := by kernel_rfl
theorem pure_wsub (hV : Valid Tryd.prog tab14 E) (h : P_wsub) (args : List Value) (ha : shaFits ash_wsub args) (hp : E.pre 43 (args.map vints)) : Pure Tryd.prog 43 args.toArray fun v => sh_wsub.fits v ∧ E.post 43 (args.map vints) (vres v) := @top_sat Tryd.prog tab14 E hV 2000 43 ash_wsub sh_wsub (@Eq.mp _ _ s_wsub h) args ha hp
theorem step_wsub (hV : Valid Tryd.prog tab14 E) (h : P_wsub) : Valid Tryd.prog tab15 E := hV.add c_wsub (pure_wsub hV h)

/-- gouache/wides.Times -/
def P_wtms : Prop :=
  (∀ n : Int, (-9223372036854775808) ≤ n → n ≤ 9223372036854775807 →
  (∀ n1 : Int, 0 ≤ n1 → n1 ≤ 18446744073709551615 →
  (∀ n2 : Int, (-9223372036854775808) ≤ n2 → n2 ≤ 9223372036854775807 →
  (Pre_wtms [[n, n1], [n2]] →
  (∀ b : Nat, (∀ b1 : Nat, (Pre_part [[n, n1]] ∧
  (∀ t : Bool, (∀ n3 : Int, 0 ≤ n3 → n3 ≤ 18446744073709551615 →
  (∀ n4 : Int, 0 ≤ n4 → n4 ≤ 18446744073709551615 →
  (∀ n5 : Int, 0 ≤ n5 → n5 ≤ 18446744073709551615 →
  (Post_part [[n, n1]] [[b2i t, n3, n4, n5]] →
  (∀ b2 : Nat, (Pre_size [[n2]] ∧
  (∀ n6 : Int, 0 ≤ n6 → n6 ≤ 18446744073709551615 →
  (Post_size [[n2]] [[n6]] →
  (Pre_wtimes [[n3, n4, n5], [n6]] ∧
  (∀ n7 : Int, 0 ≤ n7 → n7 ≤ 18446744073709551615 →
  (∀ n8 : Int, 0 ≤ n8 → n8 ≤ 18446744073709551615 →
  (∀ n9 : Int, 0 ≤ n9 → n9 ≤ 18446744073709551615 →
  (Post_wtimes [[n3, n4, n5], [n6]] [[n7, n8, n9]] →
  (Pre_whole [[b2i (!(t == (decide (n2 < 0)))), n7, n8, n9]] ∧
  (∀ n10 : Int, (-9223372036854775808) ≤ n10 → n10 ≤ 9223372036854775807 →
  (∀ n11 : Int, 0 ≤ n11 → n11 ≤ 18446744073709551615 →
  (∀ n12 : Int, 0 ≤ n12 → n12 ≤ 11 →
  (Post_whole [[b2i (!(t == (decide (n2 < 0)))), n7, n8, n9]] [[n10, n11], [n12]] →
  Post_wtms [[n, n1], [n2]] [[n10, n11], [n12]]))))))))))))))))))))))))))
theorem c_wtms : canCall Tryd.prog 36 = true := by kernel_rfl
theorem s_wtms : P_wtms = sat E (symTop Tryd.prog tab15 2000 36 ash_wtms sh_wtms) := by kernel_rfl
theorem pure_wtms (hV : Valid Tryd.prog tab15 E) (h : P_wtms) (args : List Value) (ha : shaFits ash_wtms args) (hp : E.pre 36 (args.map vints)) : Pure Tryd.prog 36 args.toArray fun v => sh_wtms.fits v ∧ E.post 36 (args.map vints) (vres v) := @top_sat Tryd.prog tab15 E hV 2000 36 ash_wtms sh_wtms (@Eq.mp _ _ s_wtms h) args ha hp
theorem step_wtms (hV : Valid Tryd.prog tab15 E) (h : P_wtms) : Valid Tryd.prog tab16 E := hV.add c_wtms (pure_wtms hV h)

/-- gouache/wides.Mul -/
def P_wmul : Prop :=
  (∀ n : Int, (-9223372036854775808) ≤ n → n ≤ 9223372036854775807 →
  (∀ n1 : Int, (-9223372036854775808) ≤ n1 → n1 ≤ 9223372036854775807 →
  (Pre_wmul [[n], [n1]] →
  (∀ b : Nat, (Pre_wof [[n]] ∧
  (∀ n2 : Int, (-9223372036854775808) ≤ n2 → n2 ≤ 9223372036854775807 →
  (∀ n3 : Int, 0 ≤ n3 → n3 ≤ 18446744073709551615 →
  (Post_wof [[n]] [[n2, n3]] →
  (Pre_wtms [[n2, n3], [n1]] ∧
  (∀ n4 : Int, (-9223372036854775808) ≤ n4 → n4 ≤ 9223372036854775807 →
  (∀ n5 : Int, 0 ≤ n5 → n5 ≤ 18446744073709551615 →
  (∀ n6 : Int, 0 ≤ n6 → n6 ≤ 11 →
  (Post_wtms [[n2, n3], [n1]] [[n4, n5], [n6]] →
  (∀ b1 : Nat, Post_wmul [[n], [n1]] [[n4, n5]]))))))))))))))
theorem c_wmul : canCall Tryd.prog 28 = true := by kernel_rfl
theorem s_wmul : P_wmul = sat E (symTop Tryd.prog tab16 2000 28 ash_wmul sh_wmul) := by kernel_rfl
theorem pure_wmul (hV : Valid Tryd.prog tab16 E) (h : P_wmul) (args : List Value) (ha : shaFits ash_wmul args) (hp : E.pre 28 (args.map vints)) : Pure Tryd.prog 28 args.toArray fun v => sh_wmul.fits v ∧ E.post 28 (args.map vints) (vres v) := @top_sat Tryd.prog tab16 E hV 2000 28 ash_wmul sh_wmul (@Eq.mp _ _ s_wmul h) args ha hp
theorem step_wmul (hV : Valid Tryd.prog tab16 E) (h : P_wmul) : Valid Tryd.prog tab17 E := hV.add c_wmul (pure_wmul hV h)

/-- (gouache/wides.words).divided -/
def P_wdivided : Prop :=
  (∀ n : Int, 0 ≤ n → n ≤ 18446744073709551615 →
  (∀ n1 : Int, 0 ≤ n1 → n1 ≤ 18446744073709551615 →
  (∀ n2 : Int, 0 ≤ n2 → n2 ≤ 18446744073709551615 →
  (∀ n3 : Int, 0 ≤ n3 → n3 ≤ 18446744073709551615 →
  (Pre_wdivided [[n, n1, n2], [n3]] →
  (∀ b : Nat, (∀ b1 : Nat, (Pre_div64 [[0], [n1], [n3]] ∧
  (∀ n4 : Int, 0 ≤ n4 → n4 ≤ 18446744073709551615 →
  (∀ n5 : Int, 0 ≤ n5 → n5 ≤ 18446744073709551615 →
  (Post_div64 [[0], [n1], [n3]] [[n4], [n5]] →
  (Pre_div64 [[n5], [n], [n3]] ∧
  (∀ n6 : Int, 0 ≤ n6 → n6 ≤ 18446744073709551615 →
  (∀ n7 : Int, 0 ≤ n7 → n7 ≤ 18446744073709551615 →
  (Post_div64 [[n5], [n], [n3]] [[n6], [n7]] →
  Post_wdivided [[n, n1, n2], [n3]] [[n6, n4, 0], [n7]])))))))))))))))
theorem c_wdivided : canCall Tryd.prog 41 = true := by kernel_rfl
theorem s_wdivided : P_wdivided = sat E (symTop Tryd.prog tab17 2000 41 ash_wdivided sh_wdivided) := by kernel_rfl
theorem pure_wdivided (hV : Valid Tryd.prog tab17 E) (h : P_wdivided) (args : List Value) (ha : shaFits ash_wdivided args) (hp : E.pre 41 (args.map vints)) : Pure Tryd.prog 41 args.toArray fun v => sh_wdivided.fits v ∧ E.post 41 (args.map vints) (vres v) := @top_sat Tryd.prog tab17 E hV 2000 41 ash_wdivided sh_wdivided (@Eq.mp _ _ s_wdivided h) args ha hp
theorem step_wdivided (hV : Valid Tryd.prog tab17 E) (h : P_wdivided) : Valid Tryd.prog tab18 E := hV.add c_wdivided (pure_wdivided hV h)

/-- gouache/wides.Floor -/
def P_wfloor : Prop :=
  (∀ n : Int, (-9223372036854775808) ≤ n → n ≤ 9223372036854775807 →
  (∀ n1 : Int, 0 ≤ n1 → n1 ≤ 18446744073709551615 →
  (∀ n2 : Int, (-9223372036854775808) ≤ n2 → n2 ≤ 9223372036854775807 →
  (Pre_wfloor [[n, n1], [n2]] →
  (∀ b : Nat, (∀ b1 : Nat, (((n2 < 1) →
    Post_wfloor [[n, n1], [n2]] [[0, 0], [0], [1]]) ∧
   (¬ (n2 < 1) →
    (Pre_part [[n, n1]] ∧
    (∀ t : Bool, (∀ n3 : Int, 0 ≤ n3 → n3 ≤ 18446744073709551615 →
    (∀ n4 : Int, 0 ≤ n4 → n4 ≤ 18446744073709551615 →
    (∀ n5 : Int, 0 ≤ n5 → n5 ≤ 18446744073709551615 →
    (Post_part [[n, n1]] [[b2i t, n3, n4, n5]] →
    (∀ b2 : Nat, (∀ n6 : Int, n6 = (IntKind.wrap .u64 n2) → 0 ≤ n6 → n6 ≤ 18446744073709551615 →
    (Pre_wdivided [[n3, n4, n5], [n6]] ∧
    (∀ n7 : Int, 0 ≤ n7 → n7 ≤ 18446744073709551615 →
    (∀ n8 : Int, 0 ≤ n8 → n8 ≤ 18446744073709551615 →
    (∀ n9 : Int, 0 ≤ n9 → n9 ≤ 18446744073709551615 →
    (∀ n10 : Int, 0 ≤ n10 → n10 ≤ 18446744073709551615 →
    (Post_wdivided [[n3, n4, n5], [n6]] [[n7, n8, n9], [n10]] →
    (∀ b3 : Nat, (Pre_whole [[b2i t, n7, n8, n9]] ∧
    (∀ n11 : Int, (-9223372036854775808) ≤ n11 → n11 ≤ 9223372036854775807 →
    (∀ n12 : Int, 0 ≤ n12 → n12 ≤ 18446744073709551615 →
    (∀ n13 : Int, 0 ≤ n13 → n13 ≤ 11 →
    (Post_whole [[b2i t, n7, n8, n9]] [[n11, n12], [n13]] →
    (((t = true) →
      (((0 < n10) →
        (Pre_wof [[1]] ∧
        (∀ n14 : Int, (-9223372036854775808) ≤ n14 → n14 ≤ 9223372036854775807 →
        (∀ n15 : Int, 0 ≤ n15 → n15 ≤ 18446744073709551615 →
        (Post_wof [[1]] [[n14, n15]] →
        (Pre_wsub [[n11, n12], [n14, n15]] ∧
        (∀ n16 : Int, (-9223372036854775808) ≤ n16 → n16 ≤ 9223372036854775807 →
        (∀ n17 : Int, 0 ≤ n17 → n17 ≤ 18446744073709551615 →
        (∀ n18 : Int, 0 ≤ n18 → n18 ≤ 11 →
        (Post_wsub [[n11, n12], [n14, n15]] [[n16, n17], [n18]] →
        (∀ n19 : Int, n19 = (IntKind.wrap .u64 ((IntKind.wrap .u64 n2) - n10)) → 0 ≤ n19 → n19 ≤ 18446744073709551615 →
        (∀ n20 : Int, n20 = (IntKind.wrap .i64 n19) → (-9223372036854775808) ≤ n20 → n20 ≤ 9223372036854775807 →
        Post_wfloor [[n, n1], [n2]] [[n16, n17], [n20], [0]])))))))))))) ∧
       (¬ (0 < n10) →
        (∀ n14 : Int, n14 = (IntKind.wrap .i64 n10) → (-9223372036854775808) ≤ n14 → n14 ≤ 9223372036854775807 →
        Post_wfloor [[n, n1], [n2]] [[n11, n12], [n14], [0]])))) ∧
     (¬ (t = true) →
      (∀ n14 : Int, n14 = (IntKind.wrap .i64 n10) → (-9223372036854775808) ≤ n14 → n14 ≤ 9223372036854775807 →
      Post_wfloor [[n, n1], [n2]] [[n11, n12], [n14], [0]])))))))))))))))))))))))))))))))
theorem c_wfloor : canCall Tryd.prog 33 = true := by kernel_rfl
theorem s_wfloor : P_wfloor = sat E (symTop Tryd.prog tab18 2000 33 ash_wfloor sh_wfloor) := by kernel_rfl
theorem pure_wfloor (hV : Valid Tryd.prog tab18 E) (h : P_wfloor) (args : List Value) (ha : shaFits ash_wfloor args) (hp : E.pre 33 (args.map vints)) : Pure Tryd.prog 33 args.toArray fun v => sh_wfloor.fits v ∧ E.post 33 (args.map vints) (vres v) := @top_sat Tryd.prog tab18 E hV 2000 33 ash_wfloor sh_wfloor (@Eq.mp _ _ s_wfloor h) args ha hp
theorem step_wfloor (hV : Valid Tryd.prog tab18 E) (h : P_wfloor) : Valid Tryd.prog tab19 E := hV.add c_wfloor (pure_wfloor hV h)

/-- gouache/wides.Near -/
def P_wnear : Prop :=
  (∀ n : Int, (-9223372036854775808) ≤ n → n ≤ 9223372036854775807 →
  (∀ n1 : Int, 0 ≤ n1 → n1 ≤ 18446744073709551615 →
  (∀ n2 : Int, (-9223372036854775808) ≤ n2 → n2 ≤ 9223372036854775807 →
  (Pre_wnear [[n, n1], [n2]] →
  (∀ b : Nat, (∀ b1 : Nat, (Pre_wfloor [[n, n1], [n2]] ∧
  (∀ n3 : Int, (-9223372036854775808) ≤ n3 → n3 ≤ 9223372036854775807 →
  (∀ n4 : Int, 0 ≤ n4 → n4 ≤ 18446744073709551615 →
  (∀ n5 : Int, (-9223372036854775808) ≤ n5 → n5 ≤ 9223372036854775807 →
  (∀ n6 : Int, 0 ≤ n6 → n6 ≤ 11 →
  (Post_wfloor [[n, n1], [n2]] [[n3, n4], [n5], [n6]] →
  (∀ b2 : Nat, (((n6 = 0) →
    ((((IntKind.wrap .i64 (n2 - n5)) ≤ n5) →
      (Pre_wof [[1]] ∧
      (∀ n7 : Int, (-9223372036854775808) ≤ n7 → n7 ≤ 9223372036854775807 →
      (∀ n8 : Int, 0 ≤ n8 → n8 ≤ 18446744073709551615 →
      (Post_wof [[1]] [[n7, n8]] →
      (Pre_wadd [[n3, n4], [n7, n8]] ∧
      (∀ n9 : Int, (-9223372036854775808) ≤ n9 → n9 ≤ 9223372036854775807 →
      (∀ n10 : Int, 0 ≤ n10 → n10 ≤ 18446744073709551615 →
      (∀ n11 : Int, 0 ≤ n11 → n11 ≤ 11 →
      (Post_wadd [[n3, n4], [n7, n8]] [[n9, n10], [n11]] →
      Post_wnear [[n, n1], [n2]] [[n9, n10], [n11]])))))))))) ∧
     (¬ ((IntKind.wrap .i64 (n2 - n5)) ≤ n5) →
      Post_wnear [[n, n1], [n2]] [[n3, n4], [n6]]))) ∧
   (¬ (n6 = 0) →
    Post_wnear [[n, n1], [n2]] [[n3, n4], [n6]])))))))))))))))
theorem c_wnear : canCall Tryd.prog 27 = true := by kernel_rfl
theorem s_wnear : P_wnear = sat E (symTop Tryd.prog tab19 2000 27 ash_wnear sh_wnear) := by kernel_rfl
theorem pure_wnear (hV : Valid Tryd.prog tab19 E) (h : P_wnear) (args : List Value) (ha : shaFits ash_wnear args) (hp : E.pre 27 (args.map vints)) : Pure Tryd.prog 27 args.toArray fun v => sh_wnear.fits v ∧ E.post 27 (args.map vints) (vres v) := @top_sat Tryd.prog tab19 E hV 2000 27 ash_wnear sh_wnear (@Eq.mp _ _ s_wnear h) args ha hp
theorem step_wnear (hV : Valid Tryd.prog tab19 E) (h : P_wnear) : Valid Tryd.prog tab20 E := hV.add c_wnear (pure_wnear hV h)

/-- gouache/wides.Int -/
def P_wint : Prop :=
  (∀ n : Int, (-9223372036854775808) ≤ n → n ≤ 9223372036854775807 →
  (∀ n1 : Int, 0 ≤ n1 → n1 ≤ 18446744073709551615 →
  (Pre_wint [[n, n1]] →
  (∀ b : Nat, (∀ n2 : Int, n2 = (IntKind.wrap .i64 n1) → (-9223372036854775808) ≤ n2 → n2 ≤ 9223372036854775807 →
  (Pre_wof [[n2]] ∧
  (∀ n3 : Int, (-9223372036854775808) ≤ n3 → n3 ≤ 9223372036854775807 →
  (∀ n4 : Int, 0 ≤ n4 → n4 ≤ 18446744073709551615 →
  (Post_wof [[n2]] [[n3, n4]] →
  ((((n = n3) ∧ (n1 = n4)) →
    Post_wint [[n, n1]] [[n2], [b2i true]]) ∧
   (¬ ((n = n3) ∧ (n1 = n4)) →
    Post_wint [[n, n1]] [[0], [b2i false]])))))))))))
theorem c_wint : canCall Tryd.prog 30 = true := by kernel_rfl
theorem s_wint : P_wint = sat E (symTop Tryd.prog tab20 2000 30 ash_wint sh_wint) := by kernel_rfl
theorem pure_wint (hV : Valid Tryd.prog tab20 E) (h : P_wint) (args : List Value) (ha : shaFits ash_wint args) (hp : E.pre 30 (args.map vints)) : Pure Tryd.prog 30 args.toArray fun v => sh_wint.fits v ∧ E.post 30 (args.map vints) (vres v) := @top_sat Tryd.prog tab20 E hV 2000 30 ash_wint sh_wint (@Eq.mp _ _ s_wint h) args ha hp
theorem step_wint (hV : Valid Tryd.prog tab20 E) (h : P_wint) : Valid Tryd.prog tab21 E := hV.add c_wint (pure_wint hV h)

/-- gouache/roots.wide$1 -/
def P_wide1 : Prop :=
  (∀ n : Int, 0 ≤ n → n ≤ 18446744073709551615 →
  (Pre_wide1 [[n]] →
  (∀ b : Nat, (Pre_mul64 [[n], [n]] ∧
  (∀ n1 : Int, 0 ≤ n1 → n1 ≤ 18446744073709551615 →
  (∀ n2 : Int, 0 ≤ n2 → n2 ≤ 18446744073709551615 →
  (Post_mul64 [[n], [n]] [[n1], [n2]] →
  Post_wide1 [[n]] [[n1, n2]])))))))
theorem c_wide1 : canCall Tryd.prog 57 = true := by kernel_rfl
theorem s_wide1 : P_wide1 = sat E (symTop Tryd.prog tab21 2000 57 ash_wide1 sh_wide1) := by kernel_rfl
theorem pure_wide1 (hV : Valid Tryd.prog tab21 E) (h : P_wide1) (args : List Value) (ha : shaFits ash_wide1 args) (hp : E.pre 57 (args.map vints)) : Pure Tryd.prog 57 args.toArray fun v => sh_wide1.fits v ∧ E.post 57 (args.map vints) (vres v) := @top_sat Tryd.prog tab21 E hV 2000 57 ash_wide1 sh_wide1 (@Eq.mp _ _ s_wide1 h) args ha hp
theorem step_wide1 (hV : Valid Tryd.prog tab21 E) (h : P_wide1) : Valid Tryd.prog tab22 E := hV.add c_wide1 (pure_wide1 hV h)

/-- gouache/roots.wide$2 -/
def P_wide2 : Prop :=
  (∀ n : Int, 0 ≤ n → n ≤ 18446744073709551615 →
  (∀ n1 : Int, 0 ≤ n1 → n1 ≤ 18446744073709551615 →
  (∀ n2 : Int, 0 ≤ n2 → n2 ≤ 18446744073709551615 →
  (∀ n3 : Int, 0 ≤ n3 → n3 ≤ 18446744073709551615 →
  (Pre_wide2 [[n, n1], [n2, n3]] →
  (∀ b : Nat, (∀ b1 : Nat, (((n2 < n) →
    Post_wide2 [[n, n1], [n2, n3]] [[b2i true]]) ∧
   (¬ (n2 < n) →
    (((n = n2) →
      Post_wide2 [[n, n1], [n2, n3]] [[b2i (decide (n3 < n1))]]) ∧
     (¬ (n = n2) →
      Post_wide2 [[n, n1], [n2, n3]] [[b2i false]])))))))))))
theorem c_wide2 : canCall Tryd.prog 58 = true := by kernel_rfl
theorem s_wide2 : P_wide2 = sat E (symTop Tryd.prog tab22 2000 58 ash_wide2 sh_wide2) := by kernel_rfl
theorem pure_wide2 (hV : Valid Tryd.prog tab22 E) (h : P_wide2) (args : List Value) (ha : shaFits ash_wide2 args) (hp : E.pre 58 (args.map vints)) : Pure Tryd.prog 58 args.toArray fun v => sh_wide2.fits v ∧ E.post 58 (args.map vints) (vres v) := @top_sat Tryd.prog tab22 E hV 2000 58 ash_wide2 sh_wide2 (@Eq.mp _ _ s_wide2 h) args ha hp
theorem step_wide2 (hV : Valid Tryd.prog tab22 E) (h : P_wide2) : Valid Tryd.prog tab23 E := hV.add c_wide2 (pure_wide2 hV h)

/-- gouache/roots.root[gouache/roots.pair] -/
def P_rootwide : Prop :=
  (∀ n : Int, 0 ≤ n → n ≤ 18446744073709551615 →
  (∀ n1 : Int, 0 ≤ n1 → n1 ≤ 18446744073709551615 →
  (Pre_rootwide [[n, n1], [64], [0, 0]] →
  (∀ b : Nat, (∀ b1 : Nat, (Inv_rootwide [n, n1, 64] [0, 0] ∧
  (∀ n2 : Int, 0 ≤ n2 → n2 ≤ 18446744073709551615 →
  (∀ n3 : Int, 0 ≤ n3 → n3 ≤ 64 →
  (Inv_rootwide [n, n1, 64] [n2, n3] →
  (∀ vs : List Value, vs.length = 24 →
  (((n3 < 64) →
    ((0 ≤ (63 - n3)) ∧
    (∀ n4 : Int, n4 = (63 - n3) → 0 ≤ n4 → n4 ≤ 63 →
    (∀ n5 : Int, n5 = (bitsI .or .u64 n2 (shI .shl .u64 1 n4)) → 0 ≤ n5 → n5 ≤ 18446744073709551615 →
    (Pre_wide1 [[n5]] ∧
    (∀ n6 : Int, 0 ≤ n6 → n6 ≤ 18446744073709551615 →
    (∀ n7 : Int, 0 ≤ n7 → n7 ≤ 18446744073709551615 →
    (Post_wide1 [[n5]] [[n6, n7]] →
    (Pre_wide2 [[n6, n7], [n, n1]] ∧
    (∀ t : Bool, (Post_wide2 [[n6, n7], [n, n1]] [[b2i t]] →
    (((¬ (t = true)) →
      (((n3 + 1) ≤ 64) ∧
      (∀ n8 : Int, n8 = (n3 + 1) → 0 ≤ n8 → n8 ≤ 64 →
      (Inv_rootwide [n, n1, 64] [n5, n8] ∧ Mea_rootwide [n, n1, 64] [n5, n8] < Mea_rootwide [n, n1, 64] [n2, n3])))) ∧
     (¬ (¬ (t = true)) →
      (((n3 + 1) ≤ 64) ∧
      (∀ n8 : Int, n8 = (n3 + 1) → 0 ≤ n8 → n8 ≤ 64 →
      (Inv_rootwide [n, n1, 64] [n2, n8] ∧ Mea_rootwide [n, n1, 64] [n2, n8] < Mea_rootwide [n, n1, 64] [n2, n3])))))))))))))))) ∧
   (¬ (n3 < 64) →
    Post_rootwide [[n, n1], [64], [0, 0]] [[n2]]))))))))))))
theorem c_rootwide : canCall Tryd.prog 49 = true := by kernel_rfl
theorem s_rootwide : P_rootwide = sat E (symTop Tryd.prog tab23 2000 49 ash_rootwide sh_rootwide) := by kernel_rfl
theorem pure_rootwide (hV : Valid Tryd.prog tab23 E) (h : P_rootwide) (args : List Value) (ha : shaFits ash_rootwide args) (hp : E.pre 49 (args.map vints)) : Pure Tryd.prog 49 args.toArray fun v => sh_rootwide.fits v ∧ E.post 49 (args.map vints) (vres v) := @top_sat Tryd.prog tab23 E hV 2000 49 ash_rootwide sh_rootwide (@Eq.mp _ _ s_rootwide h) args ha hp
theorem step_rootwide (hV : Valid Tryd.prog tab23 E) (h : P_rootwide) : Valid Tryd.prog tab24 E := hV.add c_rootwide (pure_rootwide hV h)

/-- gouache/roots.wide -/
def P_mkwide : Prop :=
  (Pre_mkwide [] →
  (∀ b : Nat, Post_mkwide [] [[0, 0]]))
theorem c_mkwide : canCall Tryd.prog 50 = true := by kernel_rfl
theorem s_mkwide : P_mkwide = sat E (symTop Tryd.prog tab24 2000 50 ash_mkwide sh_mkwide) := by kernel_rfl
theorem pure_mkwide (hV : Valid Tryd.prog tab24 E) (h : P_mkwide) (args : List Value) (ha : shaFits ash_mkwide args) (hp : E.pre 50 (args.map vints)) : Pure Tryd.prog 50 args.toArray fun v => sh_mkwide.fits v ∧ E.post 50 (args.map vints) (vres v) := @top_sat Tryd.prog tab24 E hV 2000 50 ash_mkwide sh_mkwide (@Eq.mp _ _ s_mkwide h) args ha hp
theorem step_mkwide (hV : Valid Tryd.prog tab24 E) (h : P_mkwide) : Valid Tryd.prog tab25 E := hV.add c_mkwide (pure_mkwide hV h)

/-- gouache/roots.RootWide -/
def P_rootWide : Prop :=
  (∀ n : Int, (-9223372036854775808) ≤ n → n ≤ 9223372036854775807 →
  (∀ n1 : Int, 0 ≤ n1 → n1 ≤ 18446744073709551615 →
  (Pre_rootWide [[n, n1]] →
  (∀ b : Nat, (Pre_wof [[0]] ∧
  (∀ n2 : Int, (-9223372036854775808) ≤ n2 → n2 ≤ 9223372036854775807 →
  (∀ n3 : Int, 0 ≤ n3 → n3 ≤ 18446744073709551615 →
  (Post_wof [[0]] [[n2, n3]] →
  (Pre_wcmp [[n, n1], [n2, n3]] ∧
  (∀ n4 : Int, (-1) ≤ n4 → n4 ≤ 1 →
  (Post_wcmp [[n, n1], [n2, n3]] [[n4]] →
  (((n4 < 0) →
    Post_rootWide [[n, n1]] [[0], [1]]) ∧
   (¬ (n4 < 0) →
    (Pre_mkwide [] ∧
    (Post_mkwide [] [[0, 0]] →
    (∀ n5 : Int, n5 = (IntKind.wrap .u64 n) → 0 ≤ n5 → n5 ≤ 18446744073709551615 →
    (Pre_rootwide [[n5, n1], [64], [0, 0]] ∧
    (∀ n6 : Int, 0 ≤ n6 → n6 ≤ 18446744073709551615 →
    (Post_rootwide [[n5, n1], [64], [0, 0]] [[n6]] →
    Post_rootWide [[n, n1]] [[n6], [0]])))))))))))))))))))
theorem c_rootWide : canCall Tryd.prog 39 = true := by kernel_rfl
theorem s_rootWide : P_rootWide = sat E (symTop Tryd.prog tab25 2000 39 ash_rootWide sh_rootWide) := by kernel_rfl
theorem pure_rootWide (hV : Valid Tryd.prog tab25 E) (h : P_rootWide) (args : List Value) (ha : shaFits ash_rootWide args) (hp : E.pre 39 (args.map vints)) : Pure Tryd.prog 39 args.toArray fun v => sh_rootWide.fits v ∧ E.post 39 (args.map vints) (vres v) := @top_sat Tryd.prog tab25 E hV 2000 39 ash_rootWide sh_rootWide (@Eq.mp _ _ s_rootWide h) args ha hp
theorem step_rootWide (hV : Valid Tryd.prog tab25 E) (h : P_rootWide) : Valid Tryd.prog tab26 E := hV.add c_rootWide (pure_rootWide hV h)

/-- gouache/roots.Log -/
def P_log : Prop :=
  (∀ n : Int, 0 ≤ n → n ≤ 18446744073709551615 →
  (Pre_log [[n]] →
  (Pre_len64 [[n]] ∧
  (∀ n1 : Int, 0 ≤ n1 → n1 ≤ 64 →
  (Post_len64 [[n]] [[n1]] →
  (∀ n2 : Int, n2 = (n1 - 1) → (-1) ≤ n2 → n2 ≤ 63 →
  Post_log [[n]] [[n2]]))))))
theorem c_log : canCall Tryd.prog 37 = true := by kernel_rfl
theorem s_log : P_log = sat E (symTop Tryd.prog tab26 2000 37 ash_log sh_log) := by kernel_rfl
theorem pure_log (hV : Valid Tryd.prog tab26 E) (h : P_log) (args : List Value) (ha : shaFits ash_log args) (hp : E.pre 37 (args.map vints)) : Pure Tryd.prog 37 args.toArray fun v => sh_log.fits v ∧ E.post 37 (args.map vints) (vres v) := @top_sat Tryd.prog tab26 E hV 2000 37 ash_log sh_log (@Eq.mp _ _ s_log h) args ha hp
theorem step_log (hV : Valid Tryd.prog tab26 E) (h : P_log) : Valid Tryd.prog tab27 E := hV.add c_log (pure_log hV h)

/-- gouache/fixeds.Sat -/
def P_sat : Prop :=
  (∀ n : Int, (-9223372036854775808) ≤ n → n ≤ 9223372036854775807 →
  (Pre_sat [[n]] →
  (∀ n1 : Int, n1 = (max (-2147483648) (min 2147483647 n)) → (-2147483648) ≤ n1 → n1 ≤ 2147483647 →
  Post_sat [[n]] [[n1]])))
theorem c_sat : canCall Tryd.prog 19 = true := by kernel_rfl
theorem s_sat : P_sat = sat E (symTop Tryd.prog tab27 2000 19 ash_sat sh_sat) := by kernel_rfl
theorem pure_sat (hV : Valid Tryd.prog tab27 E) (h : P_sat) (args : List Value) (ha : shaFits ash_sat args) (hp : E.pre 19 (args.map vints)) : Pure Tryd.prog 19 args.toArray fun v => sh_sat.fits v ∧ E.post 19 (args.map vints) (vres v) := @top_sat Tryd.prog tab27 E hV 2000 19 ash_sat sh_sat (@Eq.mp _ _ s_sat h) args ha hp
theorem step_sat (hV : Valid Tryd.prog tab27 E) (h : P_sat) : Valid Tryd.prog tab28 E := hV.add c_sat (pure_sat hV h)

/-- gouache/powers.made -/
def P_pmade : Prop :=
  (Pre_pmade [] →
  (∀ b : Nat, (∀ b1 : Nat, (Pre_rootWide [[2305843009213693952, 0]] ∧
  (∀ n : Int, 0 ≤ n → n ≤ 18446744073709551615 →
  (∀ n1 : Int, (-9223372036854775808) ≤ n1 → n1 ≤ 9223372036854775807 →
  (Post_rootWide [[2305843009213693952, 0]] [[n], [n1]] →
  (∀ n2 : Int, n2 = (n / 4) → 0 ≤ n2 → n2 ≤ 4611686018427387903 →
  (∀ n3 : Int, n3 = (IntKind.wrap .u64 (n * 4611686018427387904)) → 0 ≤ n3 → n3 ≤ 18446744073709551615 →
  (Pre_rootWide [[n2, n3]] ∧
  (∀ n4 : Int, 0 ≤ n4 → n4 ≤ 18446744073709551615 →
  (∀ n5 : Int, (-9223372036854775808) ≤ n5 → n5 ≤ 9223372036854775807 →
  (Post_rootWide [[n2, n3]] [[n4], [n5]] →
  (∀ n6 : Int, n6 = (n4 / 4) → 0 ≤ n6 → n6 ≤ 4611686018427387903 →
  (∀ n7 : Int, n7 = (IntKind.wrap .u64 (n4 * 4611686018427387904)) → 0 ≤ n7 → n7 ≤ 18446744073709551615 →
  (Pre_rootWide [[n6, n7]] ∧
  (∀ n8 : Int, 0 ≤ n8 → n8 ≤ 18446744073709551615 →
  (∀ n9 : Int, (-9223372036854775808) ≤ n9 → n9 ≤ 9223372036854775807 →
  (Post_rootWide [[n6, n7]] [[n8], [n9]] →
  (∀ n10 : Int, n10 = (n8 / 4) → 0 ≤ n10 → n10 ≤ 4611686018427387903 →
  (∀ n11 : Int, n11 = (IntKind.wrap .u64 (n8 * 4611686018427387904)) → 0 ≤ n11 → n11 ≤ 18446744073709551615 →
  (Pre_rootWide [[n10, n11]] ∧
  (∀ n12 : Int, 0 ≤ n12 → n12 ≤ 18446744073709551615 →
  (∀ n13 : Int, (-9223372036854775808) ≤ n13 → n13 ≤ 9223372036854775807 →
  (Post_rootWide [[n10, n11]] [[n12], [n13]] →
  (∀ n14 : Int, n14 = (n12 / 4) → 0 ≤ n14 → n14 ≤ 4611686018427387903 →
  (∀ n15 : Int, n15 = (IntKind.wrap .u64 (n12 * 4611686018427387904)) → 0 ≤ n15 → n15 ≤ 18446744073709551615 →
  (Pre_rootWide [[n14, n15]] ∧
  (∀ n16 : Int, 0 ≤ n16 → n16 ≤ 18446744073709551615 →
  (∀ n17 : Int, (-9223372036854775808) ≤ n17 → n17 ≤ 9223372036854775807 →
  (Post_rootWide [[n14, n15]] [[n16], [n17]] →
  (∀ n18 : Int, n18 = (n16 / 4) → 0 ≤ n18 → n18 ≤ 4611686018427387903 →
  (∀ n19 : Int, n19 = (IntKind.wrap .u64 (n16 * 4611686018427387904)) → 0 ≤ n19 → n19 ≤ 18446744073709551615 →
  (Pre_rootWide [[n18, n19]] ∧
  (∀ n20 : Int, 0 ≤ n20 → n20 ≤ 18446744073709551615 →
  (∀ n21 : Int, (-9223372036854775808) ≤ n21 → n21 ≤ 9223372036854775807 →
  (Post_rootWide [[n18, n19]] [[n20], [n21]] →
  (∀ n22 : Int, n22 = (n20 / 4) → 0 ≤ n22 → n22 ≤ 4611686018427387903 →
  (∀ n23 : Int, n23 = (IntKind.wrap .u64 (n20 * 4611686018427387904)) → 0 ≤ n23 → n23 ≤ 18446744073709551615 →
  (Pre_rootWide [[n22, n23]] ∧
  (∀ n24 : Int, 0 ≤ n24 → n24 ≤ 18446744073709551615 →
  (∀ n25 : Int, (-9223372036854775808) ≤ n25 → n25 ≤ 9223372036854775807 →
  (Post_rootWide [[n22, n23]] [[n24], [n25]] →
  (∀ n26 : Int, n26 = (n24 / 4) → 0 ≤ n26 → n26 ≤ 4611686018427387903 →
  (∀ n27 : Int, n27 = (IntKind.wrap .u64 (n24 * 4611686018427387904)) → 0 ≤ n27 → n27 ≤ 18446744073709551615 →
  (Pre_rootWide [[n26, n27]] ∧
  (∀ n28 : Int, 0 ≤ n28 → n28 ≤ 18446744073709551615 →
  (∀ n29 : Int, (-9223372036854775808) ≤ n29 → n29 ≤ 9223372036854775807 →
  (Post_rootWide [[n26, n27]] [[n28], [n29]] →
  (∀ n30 : Int, n30 = (n28 / 4) → 0 ≤ n30 → n30 ≤ 4611686018427387903 →
  (∀ n31 : Int, n31 = (IntKind.wrap .u64 (n28 * 4611686018427387904)) → 0 ≤ n31 → n31 ≤ 18446744073709551615 →
  (Pre_rootWide [[n30, n31]] ∧
  (∀ n32 : Int, 0 ≤ n32 → n32 ≤ 18446744073709551615 →
  (∀ n33 : Int, (-9223372036854775808) ≤ n33 → n33 ≤ 9223372036854775807 →
  (Post_rootWide [[n30, n31]] [[n32], [n33]] →
  (∀ n34 : Int, n34 = (n32 / 4) → 0 ≤ n34 → n34 ≤ 4611686018427387903 →
  (∀ n35 : Int, n35 = (IntKind.wrap .u64 (n32 * 4611686018427387904)) → 0 ≤ n35 → n35 ≤ 18446744073709551615 →
  (Pre_rootWide [[n34, n35]] ∧
  (∀ n36 : Int, 0 ≤ n36 → n36 ≤ 18446744073709551615 →
  (∀ n37 : Int, (-9223372036854775808) ≤ n37 → n37 ≤ 9223372036854775807 →
  (Post_rootWide [[n34, n35]] [[n36], [n37]] →
  (∀ n38 : Int, n38 = (n36 / 4) → 0 ≤ n38 → n38 ≤ 4611686018427387903 →
  (∀ n39 : Int, n39 = (IntKind.wrap .u64 (n36 * 4611686018427387904)) → 0 ≤ n39 → n39 ≤ 18446744073709551615 →
  (Pre_rootWide [[n38, n39]] ∧
  (∀ n40 : Int, 0 ≤ n40 → n40 ≤ 18446744073709551615 →
  (∀ n41 : Int, (-9223372036854775808) ≤ n41 → n41 ≤ 9223372036854775807 →
  (Post_rootWide [[n38, n39]] [[n40], [n41]] →
  (∀ n42 : Int, n42 = (n40 / 4) → 0 ≤ n42 → n42 ≤ 4611686018427387903 →
  (∀ n43 : Int, n43 = (IntKind.wrap .u64 (n40 * 4611686018427387904)) → 0 ≤ n43 → n43 ≤ 18446744073709551615 →
  (Pre_rootWide [[n42, n43]] ∧
  (∀ n44 : Int, 0 ≤ n44 → n44 ≤ 18446744073709551615 →
  (∀ n45 : Int, (-9223372036854775808) ≤ n45 → n45 ≤ 9223372036854775807 →
  (Post_rootWide [[n42, n43]] [[n44], [n45]] →
  (∀ n46 : Int, n46 = (n44 / 4) → 0 ≤ n46 → n46 ≤ 4611686018427387903 →
  (∀ n47 : Int, n47 = (IntKind.wrap .u64 (n44 * 4611686018427387904)) → 0 ≤ n47 → n47 ≤ 18446744073709551615 →
  (Pre_rootWide [[n46, n47]] ∧
  (∀ n48 : Int, 0 ≤ n48 → n48 ≤ 18446744073709551615 →
  (∀ n49 : Int, (-9223372036854775808) ≤ n49 → n49 ≤ 9223372036854775807 →
  (Post_rootWide [[n46, n47]] [[n48], [n49]] →
  (∀ n50 : Int, n50 = (n48 / 4) → 0 ≤ n50 → n50 ≤ 4611686018427387903 →
  (∀ n51 : Int, n51 = (IntKind.wrap .u64 (n48 * 4611686018427387904)) → 0 ≤ n51 → n51 ≤ 18446744073709551615 →
  (Pre_rootWide [[n50, n51]] ∧
  (∀ n52 : Int, 0 ≤ n52 → n52 ≤ 18446744073709551615 →
  (∀ n53 : Int, (-9223372036854775808) ≤ n53 → n53 ≤ 9223372036854775807 →
  (Post_rootWide [[n50, n51]] [[n52], [n53]] →
  (∀ n54 : Int, n54 = (n52 / 4) → 0 ≤ n54 → n54 ≤ 4611686018427387903 →
  (∀ n55 : Int, n55 = (IntKind.wrap .u64 (n52 * 4611686018427387904)) → 0 ≤ n55 → n55 ≤ 18446744073709551615 →
  (Pre_rootWide [[n54, n55]] ∧
  (∀ n56 : Int, 0 ≤ n56 → n56 ≤ 18446744073709551615 →
  (∀ n57 : Int, (-9223372036854775808) ≤ n57 → n57 ≤ 9223372036854775807 →
  (Post_rootWide [[n54, n55]] [[n56], [n57]] →
  (∀ n58 : Int, n58 = (n56 / 4) → 0 ≤ n58 → n58 ≤ 4611686018427387903 →
  (∀ n59 : Int, n59 = (IntKind.wrap .u64 (n56 * 4611686018427387904)) → 0 ≤ n59 → n59 ≤ 18446744073709551615 →
  (Pre_rootWide [[n58, n59]] ∧
  (∀ n60 : Int, 0 ≤ n60 → n60 ≤ 18446744073709551615 →
  (∀ n61 : Int, (-9223372036854775808) ≤ n61 → n61 ≤ 9223372036854775807 →
  (Post_rootWide [[n58, n59]] [[n60], [n61]] →
  (∀ n62 : Int, n62 = (n60 / 4) → 0 ≤ n62 → n62 ≤ 4611686018427387903 →
  (∀ n63 : Int, n63 = (IntKind.wrap .u64 (n60 * 4611686018427387904)) → 0 ≤ n63 → n63 ≤ 18446744073709551615 →
  (Pre_rootWide [[n62, n63]] ∧
  (∀ n64 : Int, 0 ≤ n64 → n64 ≤ 18446744073709551615 →
  (∀ n65 : Int, (-9223372036854775808) ≤ n65 → n65 ≤ 9223372036854775807 →
  (Post_rootWide [[n62, n63]] [[n64], [n65]] →
  (∀ n66 : Int, n66 = (n64 / 4) → 0 ≤ n66 → n66 ≤ 4611686018427387903 →
  (∀ n67 : Int, n67 = (IntKind.wrap .u64 (n64 * 4611686018427387904)) → 0 ≤ n67 → n67 ≤ 18446744073709551615 →
  (Pre_rootWide [[n66, n67]] ∧
  (∀ n68 : Int, 0 ≤ n68 → n68 ≤ 18446744073709551615 →
  (∀ n69 : Int, (-9223372036854775808) ≤ n69 → n69 ≤ 9223372036854775807 →
  (Post_rootWide [[n66, n67]] [[n68], [n69]] →
  (∀ n70 : Int, n70 = (n68 / 4) → 0 ≤ n70 → n70 ≤ 4611686018427387903 →
  (∀ n71 : Int, n71 = (IntKind.wrap .u64 (n68 * 4611686018427387904)) → 0 ≤ n71 → n71 ≤ 18446744073709551615 →
  (Pre_rootWide [[n70, n71]] ∧
  (∀ n72 : Int, 0 ≤ n72 → n72 ≤ 18446744073709551615 →
  (∀ n73 : Int, (-9223372036854775808) ≤ n73 → n73 ≤ 9223372036854775807 →
  (Post_rootWide [[n70, n71]] [[n72], [n73]] →
  (∀ n74 : Int, n74 = (n72 / 4) → 0 ≤ n74 → n74 ≤ 4611686018427387903 →
  (∀ n75 : Int, n75 = (IntKind.wrap .u64 (n72 * 4611686018427387904)) → 0 ≤ n75 → n75 ≤ 18446744073709551615 →
  (Pre_rootWide [[n74, n75]] ∧
  (∀ n76 : Int, 0 ≤ n76 → n76 ≤ 18446744073709551615 →
  (∀ n77 : Int, (-9223372036854775808) ≤ n77 → n77 ≤ 9223372036854775807 →
  (Post_rootWide [[n74, n75]] [[n76], [n77]] →
  (∀ n78 : Int, n78 = (n76 / 4) → 0 ≤ n78 → n78 ≤ 4611686018427387903 →
  (∀ n79 : Int, n79 = (IntKind.wrap .u64 (n76 * 4611686018427387904)) → 0 ≤ n79 → n79 ≤ 18446744073709551615 →
  (Pre_rootWide [[n78, n79]] ∧
  (∀ n80 : Int, 0 ≤ n80 → n80 ≤ 18446744073709551615 →
  (∀ n81 : Int, (-9223372036854775808) ≤ n81 → n81 ≤ 9223372036854775807 →
  (Post_rootWide [[n78, n79]] [[n80], [n81]] →
  (∀ n82 : Int, n82 = (n80 / 4) → 0 ≤ n82 → n82 ≤ 4611686018427387903 →
  (∀ n83 : Int, n83 = (IntKind.wrap .u64 (n80 * 4611686018427387904)) → 0 ≤ n83 → n83 ≤ 18446744073709551615 →
  (Pre_rootWide [[n82, n83]] ∧
  (∀ n84 : Int, 0 ≤ n84 → n84 ≤ 18446744073709551615 →
  (∀ n85 : Int, (-9223372036854775808) ≤ n85 → n85 ≤ 9223372036854775807 →
  (Post_rootWide [[n82, n83]] [[n84], [n85]] →
  (∀ n86 : Int, n86 = (n84 / 4) → 0 ≤ n86 → n86 ≤ 4611686018427387903 →
  (∀ n87 : Int, n87 = (IntKind.wrap .u64 (n84 * 4611686018427387904)) → 0 ≤ n87 → n87 ≤ 18446744073709551615 →
  (Pre_rootWide [[n86, n87]] ∧
  (∀ n88 : Int, 0 ≤ n88 → n88 ≤ 18446744073709551615 →
  (∀ n89 : Int, (-9223372036854775808) ≤ n89 → n89 ≤ 9223372036854775807 →
  (Post_rootWide [[n86, n87]] [[n88], [n89]] →
  (∀ n90 : Int, n90 = (n88 / 4) → 0 ≤ n90 → n90 ≤ 4611686018427387903 →
  (∀ n91 : Int, n91 = (IntKind.wrap .u64 (n88 * 4611686018427387904)) → 0 ≤ n91 → n91 ≤ 18446744073709551615 →
  (Pre_rootWide [[n90, n91]] ∧
  (∀ n92 : Int, 0 ≤ n92 → n92 ≤ 18446744073709551615 →
  (∀ n93 : Int, (-9223372036854775808) ≤ n93 → n93 ≤ 9223372036854775807 →
  (Post_rootWide [[n90, n91]] [[n92], [n93]] →
  (∀ n94 : Int, n94 = (n92 / 4) → 0 ≤ n94 → n94 ≤ 4611686018427387903 →
  (∀ n95 : Int, n95 = (IntKind.wrap .u64 (n92 * 4611686018427387904)) → 0 ≤ n95 → n95 ≤ 18446744073709551615 →
  (Pre_rootWide [[n94, n95]] ∧
  (∀ n96 : Int, 0 ≤ n96 → n96 ≤ 18446744073709551615 →
  (∀ n97 : Int, (-9223372036854775808) ≤ n97 → n97 ≤ 9223372036854775807 →
  (Post_rootWide [[n94, n95]] [[n96], [n97]] →
  (∀ n98 : Int, n98 = (n96 / 4) → 0 ≤ n98 → n98 ≤ 4611686018427387903 →
  (∀ n99 : Int, n99 = (IntKind.wrap .u64 (n96 * 4611686018427387904)) → 0 ≤ n99 → n99 ≤ 18446744073709551615 →
  (Pre_rootWide [[n98, n99]] ∧
  (∀ n100 : Int, 0 ≤ n100 → n100 ≤ 18446744073709551615 →
  (∀ n101 : Int, (-9223372036854775808) ≤ n101 → n101 ≤ 9223372036854775807 →
  (Post_rootWide [[n98, n99]] [[n100], [n101]] →
  (∀ n102 : Int, n102 = (n100 / 4) → 0 ≤ n102 → n102 ≤ 4611686018427387903 →
  (∀ n103 : Int, n103 = (IntKind.wrap .u64 (n100 * 4611686018427387904)) → 0 ≤ n103 → n103 ≤ 18446744073709551615 →
  (Pre_rootWide [[n102, n103]] ∧
  (∀ n104 : Int, 0 ≤ n104 → n104 ≤ 18446744073709551615 →
  (∀ n105 : Int, (-9223372036854775808) ≤ n105 → n105 ≤ 9223372036854775807 →
  (Post_rootWide [[n102, n103]] [[n104], [n105]] →
  (∀ n106 : Int, n106 = (n104 / 4) → 0 ≤ n106 → n106 ≤ 4611686018427387903 →
  (∀ n107 : Int, n107 = (IntKind.wrap .u64 (n104 * 4611686018427387904)) → 0 ≤ n107 → n107 ≤ 18446744073709551615 →
  (Pre_rootWide [[n106, n107]] ∧
  (∀ n108 : Int, 0 ≤ n108 → n108 ≤ 18446744073709551615 →
  (∀ n109 : Int, (-9223372036854775808) ≤ n109 → n109 ≤ 9223372036854775807 →
  (Post_rootWide [[n106, n107]] [[n108], [n109]] →
  (∀ n110 : Int, n110 = (n108 / 4) → 0 ≤ n110 → n110 ≤ 4611686018427387903 →
  (∀ n111 : Int, n111 = (IntKind.wrap .u64 (n108 * 4611686018427387904)) → 0 ≤ n111 → n111 ≤ 18446744073709551615 →
  (Pre_rootWide [[n110, n111]] ∧
  (∀ n112 : Int, 0 ≤ n112 → n112 ≤ 18446744073709551615 →
  (∀ n113 : Int, (-9223372036854775808) ≤ n113 → n113 ≤ 9223372036854775807 →
  (Post_rootWide [[n110, n111]] [[n112], [n113]] →
  (∀ n114 : Int, n114 = (n112 / 4) → 0 ≤ n114 → n114 ≤ 4611686018427387903 →
  (∀ n115 : Int, n115 = (IntKind.wrap .u64 (n112 * 4611686018427387904)) → 0 ≤ n115 → n115 ≤ 18446744073709551615 →
  (Pre_rootWide [[n114, n115]] ∧
  (∀ n116 : Int, 0 ≤ n116 → n116 ≤ 18446744073709551615 →
  (∀ n117 : Int, (-9223372036854775808) ≤ n117 → n117 ≤ 9223372036854775807 →
  (Post_rootWide [[n114, n115]] [[n116], [n117]] →
  (∀ n118 : Int, n118 = (n116 / 4) → 0 ≤ n118 → n118 ≤ 4611686018427387903 →
  (∀ n119 : Int, n119 = (IntKind.wrap .u64 (n116 * 4611686018427387904)) → 0 ≤ n119 → n119 ≤ 18446744073709551615 →
  (Pre_rootWide [[n118, n119]] ∧
  (∀ n120 : Int, 0 ≤ n120 → n120 ≤ 18446744073709551615 →
  (∀ n121 : Int, (-9223372036854775808) ≤ n121 → n121 ≤ 9223372036854775807 →
  (Post_rootWide [[n118, n119]] [[n120], [n121]] →
  (∀ n122 : Int, n122 = (n120 / 4) → 0 ≤ n122 → n122 ≤ 4611686018427387903 →
  (∀ n123 : Int, n123 = (IntKind.wrap .u64 (n120 * 4611686018427387904)) → 0 ≤ n123 → n123 ≤ 18446744073709551615 →
  (Pre_rootWide [[n122, n123]] ∧
  (∀ n124 : Int, 0 ≤ n124 → n124 ≤ 18446744073709551615 →
  (∀ n125 : Int, (-9223372036854775808) ≤ n125 → n125 ≤ 9223372036854775807 →
  (Post_rootWide [[n122, n123]] [[n124], [n125]] →
  ((6521908912666391106 ≤ n) ∧
  ((n ≤ 6521908912666391106) ∧
  (∀ n126 : Int, n126 = n → 6521908912666391106 ≤ n126 → n126 ≤ 6521908912666391106 →
  ((5484249825272419511 ≤ n4) ∧
  ((n4 ≤ 5484249825272419511) ∧
  (∀ n127 : Int, n127 = n4 → 5484249825272419511 ≤ n127 → n127 ≤ 5484249825272419511 →
  ((5029079263719320435 ≤ n8) ∧
  ((n8 ≤ 5029079263719320435) ∧
  (∀ n128 : Int, n128 = n8 → 5029079263719320435 ≤ n128 → n128 ≤ 5029079263719320435 →
  ((4815862801830788490 ≤ n12) ∧
  ((n12 ≤ 4815862801830788490) ∧
  (∀ n129 : Int, n129 = n12 → 4815862801830788490 ≤ n129 → n129 ≤ 4815862801830788490 →
  ((4712668792719003883 ≤ n16) ∧
  ((n16 ≤ 4712668792719003883) ∧
  (∀ n130 : Int, n130 = n16 → 4712668792719003883 ≤ n130 → n130 ≤ 4712668792719003883 →
  ((4661903986662671289 ≤ n20) ∧
  ((n20 ≤ 4661903986662671289) ∧
  (∀ n131 : Int, n131 = n20 → 4661903986662671289 ≤ n131 → n131 ≤ 4661903986662671289 →
  ((4636727017470743989 ≤ n24) ∧
  ((n24 ≤ 4636727017470743989) ∧
  (∀ n132 : Int, n132 = n24 → 4636727017470743989 ≤ n132 → n132 ≤ 4636727017470743989 →
  ((4624189567668517719 ≤ n28) ∧
  ((n28 ≤ 4624189567668517719) ∧
  (∀ n133 : Int, n133 = n28 → 4624189567668517719 ≤ n133 → n133 ≤ 4624189567668517719 →
  ((4617933561212708775 ≤ n32) ∧
  ((n32 ≤ 4617933561212708775) ∧
  (∀ n134 : Int, n134 = n32 → 4617933561212708775 ≤ n134 → n134 ≤ 4617933561212708775 →
  ((4614808732577250067 ≤ n36) ∧
  ((n36 ≤ 4614808732577250067) ∧
  (∀ n135 : Int, n135 = n36 → 4614808732577250067 ≤ n135 → n135 ≤ 4614808732577250067 →
  ((4613247111281068007 ≤ n40) ∧
  ((n40 ≤ 4613247111281068007) ∧
  (∀ n136 : Int, n136 = n40 → 4613247111281068007 ≤ n136 → n136 ≤ 4613247111281068007 →
  ((4612466498810092973 ≤ n44) ∧
  ((n44 ≤ 4612466498810092973) ∧
  (∀ n137 : Int, n137 = n44 → 4612466498810092973 ≤ n137 → n137 ≤ 4612466498810092973 →
  ((4612076242109103706 ≤ n48) ∧
  ((n48 ≤ 4612076242109103706) ∧
  (∀ n138 : Int, n138 = n48 → 4612076242109103706 ≤ n138 → n138 ≤ 4612076242109103706 →
  ((4611881126141011235 ≤ n52) ∧
  ((n52 ≤ 4611881126141011235) ∧
  (∀ n139 : Int, n139 = n52 → 4611881126141011235 ≤ n139 → n139 ≤ 4611881126141011235 →
  ((4611783571252412753 ≤ n56) ∧
  ((n56 ≤ 4611783571252412753) ∧
  (∀ n140 : Int, n140 = n56 → 4611783571252412753 ≤ n140 → n140 ≤ 4611783571252412753 →
  ((4611734794581956352 ≤ n60) ∧
  ((n60 ≤ 4611734794581956352) ∧
  (∀ n141 : Int, n141 = n60 → 4611734794581956352 ≤ n141 → n141 ≤ 4611734794581956352 →
  ((4611710406440186475 ≤ n64) ∧
  ((n64 ≤ 4611710406440186475) ∧
  (∀ n142 : Int, n142 = n64 → 4611710406440186475 ≤ n142 → n142 ≤ 4611710406440186475 →
  ((4611698212417665818 ≤ n68) ∧
  ((n68 ≤ 4611698212417665818) ∧
  (∀ n143 : Int, n143 = n68 → 4611698212417665818 ≤ n143 → n143 ≤ 4611698212417665818 →
  ((4611692115418496523 ≤ n72) ∧
  ((n72 ≤ 4611692115418496523) ∧
  (∀ n144 : Int, n144 = n72 → 4611692115418496523 ≤ n144 → n144 ≤ 4611692115418496523 →
  ((4611689066921934629 ≤ n76) ∧
  ((n76 ≤ 4611689066921934629) ∧
  (∀ n145 : Int, n145 = n76 → 4611689066921934629 ≤ n145 → n145 ≤ 4611689066921934629 →
  ((4611687542674409370 ≤ n80) ∧
  ((n80 ≤ 4611687542674409370) ∧
  (∀ n146 : Int, n146 = n80 → 4611687542674409370 ≤ n146 → n146 ≤ 4611687542674409370 →
  ((4611686780550835663 ≤ n84) ∧
  ((n84 ≤ 4611686780550835663) ∧
  (∀ n147 : Int, n147 = n84 → 4611686780550835663 ≤ n147 → n147 ≤ 4611686780550835663 →
  ((4611686399489096040 ≤ n88) ∧
  ((n88 ≤ 4611686399489096040) ∧
  (∀ n148 : Int, n148 = n88 → 4611686399489096040 ≤ n148 → n148 ≤ 4611686399489096040 →
  ((4611686208958238036 ≤ n92) ∧
  ((n92 ≤ 4611686208958238036) ∧
  (∀ n149 : Int, n149 = n92 → 4611686208958238036 ≤ n149 → n149 ≤ 4611686208958238036 →
  ((4611686113692811986 ≤ n96) ∧
  ((n96 ≤ 4611686113692811986) ∧
  (∀ n150 : Int, n150 = n96 → 4611686113692811986 ≤ n150 → n150 ≤ 4611686113692811986 →
  ((4611686066060099699 ≤ n100) ∧
  ((n100 ≤ 4611686066060099699) ∧
  (∀ n151 : Int, n151 = n100 → 4611686066060099699 ≤ n151 → n151 ≤ 4611686066060099699 →
  ((4611686042243743740 ≤ n104) ∧
  ((n104 ≤ 4611686042243743740) ∧
  (∀ n152 : Int, n152 = n104 → 4611686042243743740 ≤ n152 → n152 ≤ 4611686042243743740 →
  ((4611686030335565806 ≤ n108) ∧
  ((n108 ≤ 4611686030335565806) ∧
  (∀ n153 : Int, n153 = n108 → 4611686030335565806 ≤ n153 → n153 ≤ 4611686030335565806 →
  ((4611686024381476851 ≤ n112) ∧
  ((n112 ≤ 4611686024381476851) ∧
  (∀ n154 : Int, n154 = n112 → 4611686024381476851 ≤ n154 → n154 ≤ 4611686024381476851 →
  ((4611686021404432376 ≤ n116) ∧
  ((n116 ≤ 4611686021404432376) ∧
  (∀ n155 : Int, n155 = n116 → 4611686021404432376 ≤ n155 → n155 ≤ 4611686021404432376 →
  ((4611686019915910139 ≤ n120) ∧
  ((n120 ≤ 4611686019915910139) ∧
  (∀ n156 : Int, n156 = n120 → 4611686019915910139 ≤ n156 → n156 ≤ 4611686019915910139 →
  ((4611686019171649021 ≤ n124) ∧
  ((n124 ≤ 4611686019171649021) ∧
  (∀ n157 : Int, n157 = n124 → 4611686019171649021 ≤ n157 → n157 ≤ 4611686019171649021 →
  Post_pmade [] [[0, n126, n127, n128, n129, n130, n131, n132, n133, n134, n135, n136, n137, n138, n139, n140, n141, n142, n143, n144, n145, n146, n147, n148, n149, n150, n151, n152, n153, n154, n155, n156, n157]])))))))))))))))))))))))))))))))))))))))))))))))))))))))))))))))))))))))))))))))))))))))))))))))))))))))))))))))))))))))))))))))))))))))))))))))))))))))))))))))))))))))))))))))))))))))))))))))))))))))))))))))))))))))))))))))))))))))))))))))))))))))))))))))))))))))))))))))))))))))))))))))))
theorem c_pmade : canCall Tryd.prog 25 = true := by kernel_rfl
theorem s_pmade : P_pmade = sat E (symTop Tryd.prog tab28 2000 25 ash_pmade sh_pmade) := by kernel_rfl
theorem pure_pmade (hV : Valid Tryd.prog tab28 E) (h : P_pmade) (args : List Value) (ha : shaFits ash_pmade args) (hp : E.pre 25 (args.map vints)) : Pure Tryd.prog 25 args.toArray fun v => sh_pmade.fits v ∧ E.post 25 (args.map vints) (vres v) := @top_sat Tryd.prog tab28 E hV 2000 25 ash_pmade sh_pmade (@Eq.mp _ _ s_pmade h) args ha hp
theorem step_pmade (hV : Valid Tryd.prog tab28 E) (h : P_pmade) : Valid Tryd.prog tab29 E := hV.add c_pmade (pure_pmade hV h)

/-- gouache/powers.times -/
def P_ptimes : Prop :=
  (∀ n : Int, 0 ≤ n → n ≤ 18446744073709551615 →
  (∀ n1 : Int, 0 ≤ n1 → n1 ≤ 18446744073709551615 →
  (Pre_ptimes [[n], [n1]] →
  (Pre_mul64 [[n], [n1]] ∧
  (∀ n2 : Int, 0 ≤ n2 → n2 ≤ 18446744073709551615 →
  (∀ n3 : Int, 0 ≤ n3 → n3 ≤ 18446744073709551615 →
  (Post_mul64 [[n], [n1]] [[n2], [n3]] →
  (∀ n4 : Int, n4 = (bitsI .or .u64 (IntKind.wrap .u64 (n2 * 4)) (n3 / 4611686018427387904)) → 0 ≤ n4 → n4 ≤ 18446744073709551615 →
  Post_ptimes [[n], [n1]] [[n4]]))))))))
theorem c_ptimes : canCall Tryd.prog 26 = true := by kernel_rfl
theorem s_ptimes : P_ptimes = sat E (symTop Tryd.prog tab29 2000 26 ash_ptimes sh_ptimes) := by kernel_rfl
theorem pure_ptimes (hV : Valid Tryd.prog tab29 E) (h : P_ptimes) (args : List Value) (ha : shaFits ash_ptimes args) (hp : E.pre 26 (args.map vints)) : Pure Tryd.prog 26 args.toArray fun v => sh_ptimes.fits v ∧ E.post 26 (args.map vints) (vres v) := @top_sat Tryd.prog tab29 E hV 2000 26 ash_ptimes sh_ptimes (@Eq.mp _ _ s_ptimes h) args ha hp
theorem step_ptimes (hV : Valid Tryd.prog tab29 E) (h : P_ptimes) : Valid Tryd.prog tab30 E := hV.add c_ptimes (pure_ptimes hV h)

/-- gouache/powers.power -/
def P_power : Prop :=
  (∀ n : Int, (-9223372036854775808) ≤ n → n ≤ 9223372036854775807 →
  (Pre_power [[n]] →
  (∀ n1 : Int, n1 = (n / 4294967296) → (-2147483648) ≤ n1 → n1 ≤ 2147483647 →
  (((15 ≤ n1) →
    Post_power [[n]] [[2147483648]]) ∧
   (¬ (15 ≤ n1) →
    (∀ n2 : Int, n2 = (46 - n1) → (-2147483601) ≤ n2 → n2 ≤ 2147483694 →
    (((63 < n2) →
      Post_power [[n]] [[0]]) ∧
     (¬ (63 < n2) →
      (Pre_pmade [] ∧
      (Post_pmade [] [[0, 6521908912666391106, 5484249825272419511, 5029079263719320435, 4815862801830788490, 4712668792719003883, 4661903986662671289, 4636727017470743989, 4624189567668517719, 4617933561212708775, 4614808732577250067, 4613247111281068007, 4612466498810092973, 4612076242109103706, 4611881126141011235, 4611783571252412753, 4611734794581956352, 4611710406440186475, 4611698212417665818, 4611692115418496523, 4611689066921934629, 4611687542674409370, 4611686780550835663, 4611686399489096040, 4611686208958238036, 4611686113692811986, 4611686066060099699, 4611686042243743740, 4611686030335565806, 4611686024381476851, 4611686021404432376, 4611686019915910139, 4611686019171649021]] →
      (∀ b : Nat, (Inv_pw [n] [0, 4611686018427387904] ∧
      (∀ n3 : Int, 0 ≤ n3 → n3 ≤ 33 →
      (∀ n4 : Int, 4611686018427387904 ≤ n4 → n4 ≤ 9223372036854775808 →
      (Inv_pw [n] [n3, n4] →
      (∀ vs : List Value, vs.length = 26 →
      (((n3 < 33) →
        (((n3 = 0) →
          (((n3 + 1) ≤ 33) ∧
          (∀ n5 : Int, n5 = (n3 + 1) → 0 ≤ n5 → n5 ≤ 33 →
          (Inv_pw [n] [n5, n4] ∧ Mea_pw [n] [n5, n4] < Mea_pw [n] [n3, n4])))) ∧
         (¬ (n3 = 0) →
          ((((IntKind.wrap .u64 ((IntKind.wrap .u64 n) * 4294967296)) = 0) →
            ((0 ≤ (n2 - 1)) ∧
            (∀ n5 : Int, n5 = (n2 - 1) → 0 ≤ n5 → n5 ≤ 2147483693 →
            (∀ n6 : Int, n6 = (min ((IntKind.wrap .u64 ((shI .shr .u64 n4 n5) + 1)) / 2) 2147483648) → 0 ≤ n6 → n6 ≤ 2147483648 →
            Post_power [[n]] [[n6]])))) ∧
           (¬ ((IntKind.wrap .u64 ((IntKind.wrap .u64 n) * 4294967296)) = 0) →
            ((0 ≤ (32 - n3)) ∧
            (∀ n5 : Int, n5 = (32 - n3) → 0 ≤ n5 → n5 ≤ 32 →
            ((((bitsI .and .i64 (shI .shr .i64 n n5) 1) = 1) →
              ((n3 < 33) ∧
              (∀ n6 : Int, n6 = (tP.getD (Int.toNat n3) 0) → 0 ≤ n6 → n6 ≤ 6521908912666391106 →
              (Pre_ptimes [[n4], [n6]] ∧
              (∀ n7 : Int, 0 ≤ n7 → n7 ≤ 18446744073709551615 →
              (Post_ptimes [[n4], [n6]] [[n7]] →
              (((n3 + 1) ≤ 33) ∧
              (∀ n8 : Int, n8 = (n3 + 1) → 0 ≤ n8 → n8 ≤ 33 →
              ((4611686018427387904 ≤ n7) ∧
              ((n7 ≤ 9223372036854775808) ∧
              (∀ n9 : Int, n9 = n7 → 4611686018427387904 ≤ n9 → n9 ≤ 9223372036854775808 →
              (Inv_pw [n] [n8, n9] ∧ Mea_pw [n] [n8, n9] < Mea_pw [n] [n3, n4])))))))))))) ∧
             (¬ ((bitsI .and .i64 (shI .shr .i64 n n5) 1) = 1) →
              (((n3 + 1) ≤ 33) ∧
              (∀ n6 : Int, n6 = (n3 + 1) → 0 ≤ n6 → n6 ≤ 33 →
              (Inv_pw [n] [n6, n4] ∧ Mea_pw [n] [n6, n4] < Mea_pw [n] [n3, n4])))))))))))) ∧
       (¬ (n3 < 33) →
        ((0 ≤ (n2 - 1)) ∧
        (∀ n5 : Int, n5 = (n2 - 1) → 0 ≤ n5 → n5 ≤ 2147483693 →
        (∀ n6 : Int, n6 = (min ((IntKind.wrap .u64 ((shI .shr .u64 n4 n5) + 1)) / 2) 2147483648) → 0 ≤ n6 → n6 ≤ 2147483648 →
        Post_power [[n]] [[n6]])))))))))))))))))))))
theorem c_power : canCall Tryd.prog 22 = true := by kernel_rfl
theorem s_power : P_power = sat E (symTop Tryd.prog tab30 2000 22 ash_power sh_power) := by kernel_rfl
theorem pure_power (hV : Valid Tryd.prog tab30 E) (h : P_power) (args : List Value) (ha : shaFits ash_power args) (hp : E.pre 22 (args.map vints)) : Pure Tryd.prog 22 args.toArray fun v => sh_power.fits v ∧ E.post 22 (args.map vints) (vres v) := @top_sat Tryd.prog tab30 E hV 2000 22 ash_power sh_power (@Eq.mp _ _ s_power h) args ha hp
theorem step_power (hV : Valid Tryd.prog tab30 E) (h : P_power) : Valid Tryd.prog tab31 E := hV.add c_power (pure_power hV h)

/-- gouache/powers.longLog -/
def P_plong : Prop :=
  (∀ n : Int, 1 ≤ n → n ≤ 2147483648 →
  (Pre_plong [[n]] →
  (Pre_log [[n]] ∧
  (∀ n1 : Int, (-9223372036854775808) ≤ n1 → n1 ≤ 9223372036854775807 →
  (Post_log [[n]] [[n1]] →
  ((0 ≤ (IntKind.wrap .i64 (62 - n1))) ∧
  (∀ n2 : Int, n2 = (IntKind.wrap .i64 (62 - n1)) → 0 ≤ n2 → n2 ≤ 9223372036854775807 →
  (∀ n3 : Int, n3 = (shI .shl .u64 n n2) → 0 ≤ n3 → n3 ≤ 18446744073709551615 →
  (∀ n4 : Int, n4 = (IntKind.wrap .i64 (n1 - 16)) → (-9223372036854775808) ≤ n4 → n4 ≤ 9223372036854775807 →
  ((4611686018427387904 ≤ n3) ∧
  ((n3 ≤ 9223372036854775807) ∧
  (∀ n5 : Int, n5 = n3 → 4611686018427387904 ≤ n5 → n5 ≤ 9223372036854775807 →
  (((-17592186044416) ≤ n4) ∧
  ((n4 ≤ 17592186044416) ∧
  (∀ n6 : Int, n6 = n4 → (-17592186044416) ≤ n6 → n6 ≤ 17592186044416 →
  (Inv_lng [n5, n6] [0, n5, n6] ∧
  (∀ n7 : Int, 0 ≤ n7 → n7 ≤ 40 →
  (∀ n8 : Int, 4611686018427387904 ≤ n8 → n8 ≤ 9223372036854775807 →
  (∀ n9 : Int, (-17592186044416) ≤ n9 → n9 ≤ 17592186044416 →
  (Inv_lng [n5, n6] [n7, n8, n9] →
  (∀ vs : List Value, vs.length = 22 →
  (((n7 = 40) →
    ((n9 ≤ 16492674416640) ∧
    (∀ n10 : Int, n10 = n9 → (-17592186044416) ≤ n10 → n10 ≤ 16492674416640 →
    Post_plong [[n]] [[n10]]))) ∧
   (¬ (n7 = 40) →
    (Pre_ptimes [[n8], [n8]] ∧
    (∀ n10 : Int, 0 ≤ n10 → n10 ≤ 18446744073709551615 →
    (Post_ptimes [[n8], [n8]] [[n10]] →
    (∀ n11 : Int, n11 = (n10 / 9223372036854775808) → 0 ≤ n11 → n11 ≤ 1 →
    (∀ n12 : Int, n12 = (shI .shr .u64 n10 n11) → 0 ≤ n12 → n12 ≤ 18446744073709551615 →
    (∀ n13 : Int, n13 = ((2 * n9) + n11) → (-35184372088832) ≤ n13 → n13 ≤ 35184372088833 →
    (∀ n14 : Int, n14 = (n7 + 1) → 1 ≤ n14 → n14 ≤ 41 →
    ((n14 ≤ 40) ∧
    (∀ n15 : Int, n15 = n14 → 0 ≤ n15 → n15 ≤ 40 →
    ((4611686018427387904 ≤ n12) ∧
    ((n12 ≤ 9223372036854775807) ∧
    (∀ n16 : Int, n16 = n12 → 4611686018427387904 ≤ n16 → n16 ≤ 9223372036854775807 →
    (((-17592186044416) ≤ n13) ∧
    ((n13 ≤ 17592186044416) ∧
    (∀ n17 : Int, n17 = n13 → (-17592186044416) ≤ n17 → n17 ≤ 17592186044416 →
    (Inv_lng [n5, n6] [n15, n16, n17] ∧ Mea_lng [n5, n6] [n15, n16, n17] < Mea_lng [n5, n6] [n7, n8, n9])))))))))))))))))))))))))))))))))))))))
theorem c_plong : canCall Tryd.prog 29 = true := by kernel_rfl
theorem s_plong : P_plong = sat E (symTop Tryd.prog tab31 2000 29 ash_plong sh_plong) := by kernel_rfl
theorem pure_plong (hV : Valid Tryd.prog tab31 E) (h : P_plong) (args : List Value) (ha : shaFits ash_plong args) (hp : E.pre 29 (args.map vints)) : Pure Tryd.prog 29 args.toArray fun v => sh_plong.fits v ∧ E.post 29 (args.map vints) (vres v) := @top_sat Tryd.prog tab31 E hV 2000 29 ash_plong sh_plong (@Eq.mp _ _ s_plong h) args ha hp
theorem step_plong (hV : Valid Tryd.prog tab31 E) (h : P_plong) : Valid Tryd.prog tab32 E := hV.add c_plong (pure_plong hV h)

/-- gouache/powers.exponent -/
def P_pexpo : Prop :=
  (∀ n : Int, 1 ≤ n → n ≤ 2147483648 →
  (∀ n1 : Int, (-2147483648) ≤ n1 → n1 ≤ 2147483647 →
  (Pre_pexpo [[n], [n1]] →
  (Pre_plong [[n]] ∧
  (∀ n2 : Int, (-17592186044416) ≤ n2 → n2 ≤ 16492674416640 →
  (Post_plong [[n]] [[n2]] →
  (Pre_wmul [[n2], [n1]] ∧
  (∀ n3 : Int, (-9223372036854775808) ≤ n3 → n3 ≤ 9223372036854775807 →
  (∀ n4 : Int, 0 ≤ n4 → n4 ≤ 18446744073709551615 →
  (Post_wmul [[n2], [n1]] [[n3, n4]] →
  (Pre_wnear [[n3, n4], [16777216]] ∧
  (∀ n5 : Int, (-9223372036854775808) ≤ n5 → n5 ≤ 9223372036854775807 →
  (∀ n6 : Int, 0 ≤ n6 → n6 ≤ 18446744073709551615 →
  (∀ n7 : Int, 0 ≤ n7 → n7 ≤ 11 →
  (Post_wnear [[n3, n4], [16777216]] [[n5, n6], [n7]] →
  (∀ b : Nat, (Pre_wint [[n5, n6]] ∧
  (∀ n8 : Int, (-9223372036854775808) ≤ n8 → n8 ≤ 9223372036854775807 →
  (∀ t : Bool, (Post_wint [[n5, n6]] [[n8], [b2i t]] →
  (∀ n9 : Int, n9 = (max (-1099511627776) (min 1099511627776 n8)) → (-1099511627776) ≤ n9 → n9 ≤ 1099511627776 →
  Post_pexpo [[n], [n1]] [[n9]])))))))))))))))))))))
theorem c_pexpo : canCall Tryd.prog 23 = true := by kernel_rfl
theorem s_pexpo : P_pexpo = sat E (symTop Tryd.prog tab32 2000 23 ash_pexpo sh_pexpo) := by kernel_rfl
theorem pure_pexpo (hV : Valid Tryd.prog tab32 E) (h : P_pexpo) (args : List Value) (ha : shaFits ash_pexpo args) (hp : E.pre 23 (args.map vints)) : Pure Tryd.prog 23 args.toArray fun v => sh_pexpo.fits v ∧ E.post 23 (args.map vints) (vres v) := @top_sat Tryd.prog tab32 E hV 2000 23 ash_pexpo sh_pexpo (@Eq.mp _ _ s_pexpo h) args ha hp
theorem step_pexpo (hV : Valid Tryd.prog tab32 E) (h : P_pexpo) : Valid Tryd.prog tab33 E := hV.add c_pexpo (pure_pexpo hV h)

/-- gouache/powers.Pow -/
def P_pow : Prop :=
  (∀ n : Int, (-2147483648) ≤ n → n ≤ 2147483647 →
  (∀ n1 : Int, (-2147483648) ≤ n1 → n1 ≤ 2147483647 →
  (Pre_pow [[n], [n1]] →
  (((n1 = 0) →
    Post_pow [[n], [n1]] [[65536], [0]]) ∧
   (¬ (n1 = 0) →
    (((n = 0) →
      (((n1 < 0) →
        Post_pow [[n], [n1]] [[0], [12]]) ∧
       (¬ (n1 < 0) →
        (((n = 0) →
          Post_pow [[n], [n1]] [[0], [0]]) ∧
         (¬ (n = 0) →
          (((n < 0) →
            (((¬ ((n1.tmod 65536) = 0)) →
              Post_pow [[n], [n1]] [[0], [1]]) ∧
             (¬ (¬ ((n1.tmod 65536) = 0)) →
              (∀ n2 : Int, n2 = (max n (0 - n)) → (-2147483647) ≤ n2 → n2 ≤ 2147483648 →
              (∀ n3 : Int, n3 = (IntKind.wrap .u64 n2) → 0 ≤ n3 → n3 ≤ 18446744073709551615 →
              ((1 ≤ n3) ∧
              ((n3 ≤ 2147483648) ∧
              (∀ n4 : Int, n4 = n3 → 1 ≤ n4 → n4 ≤ 2147483648 →
              (Pre_pexpo [[n4], [n1]] ∧
              (∀ n5 : Int, (-1099511627776) ≤ n5 → n5 ≤ 1099511627776 →
              (Post_pexpo [[n4], [n1]] [[n5]] →
              (Pre_power [[n5]] ∧
              (∀ n6 : Int, 0 ≤ n6 → n6 ≤ 2147483648 →
              (Post_power [[n5]] [[n6]] →
              (((n < 0) →
                (((¬ (((IntKind.wrap .i32 (n1.tdiv 65536)).tmod 2) = 0)) →
                  (∀ n7 : Int, n7 = (0 - n6) → (-2147483648) ≤ n7 → n7 ≤ 0 →
                  (Pre_sat [[n7]] ∧
                  (∀ n8 : Int, (-2147483648) ≤ n8 → n8 ≤ 2147483647 →
                  (Post_sat [[n7]] [[n8]] →
                  Post_pow [[n], [n1]] [[n8], [0]]))))) ∧
                 (¬ (¬ (((IntKind.wrap .i32 (n1.tdiv 65536)).tmod 2) = 0)) →
                  (Pre_sat [[n6]] ∧
                  (∀ n7 : Int, (-2147483648) ≤ n7 → n7 ≤ 2147483647 →
                  (Post_sat [[n6]] [[n7]] →
                  Post_pow [[n], [n1]] [[n7], [0]])))))) ∧
               (¬ (n < 0) →
                (Pre_sat [[n6]] ∧
                (∀ n7 : Int, (-2147483648) ≤ n7 → n7 ≤ 2147483647 →
                (Post_sat [[n6]] [[n7]] →
                Post_pow [[n], [n1]] [[n7], [0]]))))))))))))))))))) ∧
           (¬ (n < 0) →
            (∀ n2 : Int, n2 = (max n (0 - n)) → (-2147483647) ≤ n2 → n2 ≤ 2147483648 →
            (∀ n3 : Int, n3 = (IntKind.wrap .u64 n2) → 0 ≤ n3 → n3 ≤ 18446744073709551615 →
            ((1 ≤ n3) ∧
            ((n3 ≤ 2147483648) ∧
            (∀ n4 : Int, n4 = n3 → 1 ≤ n4 → n4 ≤ 2147483648 →
            (Pre_pexpo [[n4], [n1]] ∧
            (∀ n5 : Int, (-1099511627776) ≤ n5 → n5 ≤ 1099511627776 →
            (Post_pexpo [[n4], [n1]] [[n5]] →
            (Pre_power [[n5]] ∧
            (∀ n6 : Int, 0 ≤ n6 → n6 ≤ 2147483648 →
            (Post_power [[n5]] [[n6]] →
            (((n < 0) →
              (((¬ (((IntKind.wrap .i32 (n1.tdiv 65536)).tmod 2) = 0)) →
                (∀ n7 : Int, n7 = (0 - n6) → (-2147483648) ≤ n7 → n7 ≤ 0 →
                (Pre_sat [[n7]] ∧
                (∀ n8 : Int, (-2147483648) ≤ n8 → n8 ≤ 2147483647 →
                (Post_sat [[n7]] [[n8]] →
                Post_pow [[n], [n1]] [[n8], [0]]))))) ∧
               (¬ (¬ (((IntKind.wrap .i32 (n1.tdiv 65536)).tmod 2) = 0)) →
                (Pre_sat [[n6]] ∧
                (∀ n7 : Int, (-2147483648) ≤ n7 → n7 ≤ 2147483647 →
                (Post_sat [[n6]] [[n7]] →
                Post_pow [[n], [n1]] [[n7], [0]])))))) ∧
             (¬ (n < 0) →
              (Pre_sat [[n6]] ∧
              (∀ n7 : Int, (-2147483648) ≤ n7 → n7 ≤ 2147483647 →
              (Post_sat [[n6]] [[n7]] →
              Post_pow [[n], [n1]] [[n7], [0]]))))))))))))))))))))))) ∧
     (¬ (n = 0) →
      (((n = 0) →
        Post_pow [[n], [n1]] [[0], [0]]) ∧
       (¬ (n = 0) →
        (((n < 0) →
          (((¬ ((n1.tmod 65536) = 0)) →
            Post_pow [[n], [n1]] [[0], [1]]) ∧
           (¬ (¬ ((n1.tmod 65536) = 0)) →
            (∀ n2 : Int, n2 = (max n (0 - n)) → (-2147483647) ≤ n2 → n2 ≤ 2147483648 →
            (∀ n3 : Int, n3 = (IntKind.wrap .u64 n2) → 0 ≤ n3 → n3 ≤ 18446744073709551615 →
            ((1 ≤ n3) ∧
            ((n3 ≤ 2147483648) ∧
            (∀ n4 : Int, n4 = n3 → 1 ≤ n4 → n4 ≤ 2147483648 →
            (Pre_pexpo [[n4], [n1]] ∧
            (∀ n5 : Int, (-1099511627776) ≤ n5 → n5 ≤ 1099511627776 →
            (Post_pexpo [[n4], [n1]] [[n5]] →
            (Pre_power [[n5]] ∧
            (∀ n6 : Int, 0 ≤ n6 → n6 ≤ 2147483648 →
            (Post_power [[n5]] [[n6]] →
            (((n < 0) →
              (((¬ (((IntKind.wrap .i32 (n1.tdiv 65536)).tmod 2) = 0)) →
                (∀ n7 : Int, n7 = (0 - n6) → (-2147483648) ≤ n7 → n7 ≤ 0 →
                (Pre_sat [[n7]] ∧
                (∀ n8 : Int, (-2147483648) ≤ n8 → n8 ≤ 2147483647 →
                (Post_sat [[n7]] [[n8]] →
                Post_pow [[n], [n1]] [[n8], [0]]))))) ∧
               (¬ (¬ (((IntKind.wrap .i32 (n1.tdiv 65536)).tmod 2) = 0)) →
                (Pre_sat [[n6]] ∧
                (∀ n7 : Int, (-2147483648) ≤ n7 → n7 ≤ 2147483647 →
                (Post_sat [[n6]] [[n7]] →
                Post_pow [[n], [n1]] [[n7], [0]])))))) ∧
             (¬ (n < 0) →
              (Pre_sat [[n6]] ∧
              (∀ n7 : Int, (-2147483648) ≤ n7 → n7 ≤ 2147483647 →
              (Post_sat [[n6]] [[n7]] →
              Post_pow [[n], [n1]] [[n7], [0]]))))))))))))))))))) ∧
         (¬ (n < 0) →
          (∀ n2 : Int, n2 = (max n (0 - n)) → (-2147483647) ≤ n2 → n2 ≤ 2147483648 →
          (∀ n3 : Int, n3 = (IntKind.wrap .u64 n2) → 0 ≤ n3 → n3 ≤ 18446744073709551615 →
          ((1 ≤ n3) ∧
          ((n3 ≤ 2147483648) ∧
          (∀ n4 : Int, n4 = n3 → 1 ≤ n4 → n4 ≤ 2147483648 →
          (Pre_pexpo [[n4], [n1]] ∧
          (∀ n5 : Int, (-1099511627776) ≤ n5 → n5 ≤ 1099511627776 →
          (Post_pexpo [[n4], [n1]] [[n5]] →
          (Pre_power [[n5]] ∧
          (∀ n6 : Int, 0 ≤ n6 → n6 ≤ 2147483648 →
          (Post_power [[n5]] [[n6]] →
          (((n < 0) →
            (((¬ (((IntKind.wrap .i32 (n1.tdiv 65536)).tmod 2) = 0)) →
              (∀ n7 : Int, n7 = (0 - n6) → (-2147483648) ≤ n7 → n7 ≤ 0 →
              (Pre_sat [[n7]] ∧
              (∀ n8 : Int, (-2147483648) ≤ n8 → n8 ≤ 2147483647 →
              (Post_sat [[n7]] [[n8]] →
              Post_pow [[n], [n1]] [[n8], [0]]))))) ∧
             (¬ (¬ (((IntKind.wrap .i32 (n1.tdiv 65536)).tmod 2) = 0)) →
              (Pre_sat [[n6]] ∧
              (∀ n7 : Int, (-2147483648) ≤ n7 → n7 ≤ 2147483647 →
              (Post_sat [[n6]] [[n7]] →
              Post_pow [[n], [n1]] [[n7], [0]])))))) ∧
           (¬ (n < 0) →
            (Pre_sat [[n6]] ∧
            (∀ n7 : Int, (-2147483648) ≤ n7 → n7 ≤ 2147483647 →
            (Post_sat [[n6]] [[n7]] →
            Post_pow [[n], [n1]] [[n7], [0]])))))))))))))))))))))))))))
theorem c_pow : canCall Tryd.prog 16 = true := by kernel_rfl
theorem s_pow : P_pow = sat E (symTop Tryd.prog tab33 2000 16 ash_pow sh_pow) := by kernel_rfl
theorem pure_pow (hV : Valid Tryd.prog tab33 E) (h : P_pow) (args : List Value) (ha : shaFits ash_pow args) (hp : E.pre 16 (args.map vints)) : Pure Tryd.prog 16 args.toArray fun v => sh_pow.fits v ∧ E.post 16 (args.map vints) (vres v) := @top_sat Tryd.prog tab33 E hV 2000 16 ash_pow sh_pow (@Eq.mp _ _ s_pow h) args ha hp
theorem step_pow (hV : Valid Tryd.prog tab33 E) (h : P_pow) : Valid Tryd.prog tab34 E := hV.add c_pow (pure_pow hV h)


end Go.Proofs.YtlclmanhkhfilaaDoor.Sx
