/-
  What each function comes to, part 1. Printed by a program of our own.
-/
import Derived.Test.YtndfeckmfhiniaaGreatDoorRxh
set_option maxRecDepth 1000000
set_option linter.all false
namespace Go.Proofs.YtndfeckmfhiniaaGreatDoor.Sx
open Go Go.RowKit

/-- math/bits.Len64 -/
def P_len64 : Prop :=
  (∀ n : Int, 0 ≤ n → n ≤ 18446744073709551615 →
  (Pre_len64 [[n]] →
  (((4294967296 ≤ n) →
    (∀ n1 : Int, n1 = (n / 4294967296) → 0 ≤ n1 → n1 ≤ 4294967295 →
    (((65536 ≤ n1) →
      (∀ n2 : Int, n2 = (n1 / 65536) → 0 ≤ n2 → n2 ≤ 65535 →
      (((256 ≤ n2) →
        (∀ n3 : Int, n3 = (n2 / 256) → 0 ≤ n3 → n3 ≤ 255 →
        (∀ n4 : Int, n4 = (len8tab.getD (Int.toNat n3) 0) → 0 ≤ n4 → n4 ≤ 8 →
        (∀ n5 : Int, n5 = (56 + n4) → 56 ≤ n5 → n5 ≤ 64 →
        Post_len64 [[n]] [[n5]])))) ∧
       (¬ (256 ≤ n2) →
        (∀ n3 : Int, n3 = (len8tab.getD (Int.toNat (IntKind.wrap .u8 n2)) 0) → 0 ≤ n3 → n3 ≤ 8 →
        (∀ n4 : Int, n4 = (48 + n3) → 48 ≤ n4 → n4 ≤ 56 →
        Post_len64 [[n]] [[n4]])))))) ∧
     (¬ (65536 ≤ n1) →
      (((256 ≤ n1) →
        (∀ n2 : Int, n2 = (n1 / 256) → 0 ≤ n2 → n2 ≤ 16777215 →
        (∀ n3 : Int, n3 = (len8tab.getD (Int.toNat (IntKind.wrap .u8 n2)) 0) → 0 ≤ n3 → n3 ≤ 8 →
        (∀ n4 : Int, n4 = (40 + n3) → 40 ≤ n4 → n4 ≤ 48 →
        Post_len64 [[n]] [[n4]])))) ∧
       (¬ (256 ≤ n1) →
        (∀ n2 : Int, n2 = (len8tab.getD (Int.toNat (IntKind.wrap .u8 n1)) 0) → 0 ≤ n2 → n2 ≤ 8 →
        (∀ n3 : Int, n3 = (32 + n2) → 32 ≤ n3 → n3 ≤ 40 →
        Post_len64 [[n]] [[n3]])))))))) ∧
   (¬ (4294967296 ≤ n) →
    (((65536 ≤ n) →
      (∀ n1 : Int, n1 = (n / 65536) → 0 ≤ n1 → n1 ≤ 281474976710655 →
      (((256 ≤ n1) →
        (∀ n2 : Int, n2 = (n1 / 256) → 0 ≤ n2 → n2 ≤ 1099511627775 →
        (∀ n3 : Int, n3 = (len8tab.getD (Int.toNat (IntKind.wrap .u8 n2)) 0) → 0 ≤ n3 → n3 ≤ 8 →
        (∀ n4 : Int, n4 = (24 + n3) → 24 ≤ n4 → n4 ≤ 32 →
        Post_len64 [[n]] [[n4]])))) ∧
       (¬ (256 ≤ n1) →
        (∀ n2 : Int, n2 = (len8tab.getD (Int.toNat (IntKind.wrap .u8 n1)) 0) → 0 ≤ n2 → n2 ≤ 8 →
        (∀ n3 : Int, n3 = (16 + n2) → 16 ≤ n3 → n3 ≤ 24 →
        Post_len64 [[n]] [[n3]])))))) ∧
     (¬ (65536 ≤ n) →
      (((256 ≤ n) →
        (∀ n1 : Int, n1 = (n / 256) → 0 ≤ n1 → n1 ≤ 72057594037927935 →
        (∀ n2 : Int, n2 = (len8tab.getD (Int.toNat (IntKind.wrap .u8 n1)) 0) → 0 ≤ n2 → n2 ≤ 8 →
        (∀ n3 : Int, n3 = (8 + n2) → 8 ≤ n3 → n3 ≤ 16 →
        Post_len64 [[n]] [[n3]])))) ∧
       (¬ (256 ≤ n) →
        (∀ n1 : Int, n1 = (len8tab.getD (Int.toNat (IntKind.wrap .u8 n)) 0) → 0 ≤ n1 → n1 ≤ 8 →
        Post_len64 [[n]] [[n1]])))))))))
theorem c_len64 : canCall Tryz.prog 90 = true := by kernel_rfl
theorem s_len64 : P_len64 = sat E (symTop Tryz.prog tab0 2000 90 ash_len64 sh_len64) := by kernel_rfl
theorem pure_len64 (hV : Valid Tryz.prog tab0 E) (h : P_len64) (args : List Value) (ha : shaFits ash_len64 args) (hp : E.pre 90 (args.map vints)) : Pure Tryz.prog 90 args.toArray fun v => sh_len64.fits v ∧ E.post 90 (args.map vints) (vres v) := @top_sat Tryz.prog tab0 E hV 2000 90 ash_len64 sh_len64 (@Eq.mp _ _ s_len64 h) args ha hp
theorem step_len64 (hV : Valid Tryz.prog tab0 E) (h : P_len64) : Valid Tryz.prog tab1 E := hV.add c_len64 (pure_len64 hV h)

/-- math/bits.Mul64 -/
def P_mul64 : Prop :=
  (∀ n : Int, 0 ≤ n → n ≤ 18446744073709551615 →
  (∀ n1 : Int, 0 ≤ n1 → n1 ≤ 18446744073709551615 →
  (Pre_mul64 [[n], [n1]] →
  (∀ n2 : Int, n2 = (n % 4294967296) → 0 ≤ n2 → n2 ≤ 4294967295 →
  (∀ n3 : Int, n3 = (n / 4294967296) → 0 ≤ n3 → n3 ≤ 4294967295 →
  (∀ n4 : Int, n4 = (n1 % 4294967296) → 0 ≤ n4 → n4 ≤ 4294967295 →
  (∀ n5 : Int, n5 = (n1 / 4294967296) → 0 ≤ n5 → n5 ≤ 4294967295 →
  (∀ n6 : Int, n6 = (n2 * n4) → 0 ≤ n6 → n6 ≤ 18446744065119617025 →
  (∀ n7 : Int, n7 = ((n3 * n4) + (n6 / 4294967296)) → 0 ≤ n7 → n7 ≤ 18446744069414584319 →
  (∀ n8 : Int, n8 = (n7 % 4294967296) → 0 ≤ n8 → n8 ≤ 4294967295 →
  (∀ n9 : Int, n9 = (n7 / 4294967296) → 0 ≤ n9 → n9 ≤ 4294967294 →
  (∀ n10 : Int, n10 = (n8 + (n2 * n5)) → 0 ≤ n10 → n10 ≤ 18446744069414584320 →
  (∀ n11 : Int, n11 = (((n3 * n5) + n9) + (n10 / 4294967296)) → 0 ≤ n11 → n11 ≤ 18446744073709551614 →
  (∀ n12 : Int, n12 = (IntKind.wrap .u64 (n * n1)) → 0 ≤ n12 → n12 ≤ 18446744073709551615 →
  Post_mul64 [[n], [n1]] [[n11], [n12]]))))))))))))))
theorem c_mul64 : canCall Tryz.prog 81 = true := by kernel_rfl
theorem s_mul64 : P_mul64 = sat E (symTop Tryz.prog tab1 2000 81 ash_mul64 sh_mul64) := by kernel_rfl
theorem pure_mul64 (hV : Valid Tryz.prog tab1 E) (h : P_mul64) (args : List Value) (ha : shaFits ash_mul64 args) (hp : E.pre 81 (args.map vints)) : Pure Tryz.prog 81 args.toArray fun v => sh_mul64.fits v ∧ E.post 81 (args.map vints) (vres v) := @top_sat Tryz.prog tab1 E hV 2000 81 ash_mul64 sh_mul64 (@Eq.mp _ _ s_mul64 h) args ha hp
theorem step_mul64 (hV : Valid Tryz.prog tab1 E) (h : P_mul64) : Valid Tryz.prog tab2 E := hV.add c_mul64 (pure_mul64 hV h)

/-- gouache/gouacheref01.compare -/
def P_compare : Prop :=
  (∀ n : Int, 0 ≤ n → n ≤ 65535 →
  (∀ n1 : Int, 0 ≤ n1 → n1 ≤ 65535 →
  (∀ n2 : Int, 0 ≤ n2 → n2 ≤ 65535 →
  (∀ n3 : Int, 0 ≤ n3 → n3 ≤ 65535 →
  (∀ n4 : Int, 0 ≤ n4 → n4 ≤ 65535 →
  (∀ n5 : Int, 0 ≤ n5 → n5 ≤ 65535 →
  (∀ n6 : Int, 0 ≤ n6 → n6 ≤ 65535 →
  (∀ n7 : Int, 0 ≤ n7 → n7 ≤ 65535 →
  (∀ n8 : Int, 0 ≤ n8 → n8 ≤ 65535 →
  (∀ n9 : Int, 0 ≤ n9 → n9 ≤ 65535 →
  (∀ n10 : Int, 0 ≤ n10 → n10 ≤ 65535 →
  (∀ n11 : Int, 0 ≤ n11 → n11 ≤ 65535 →
  (∀ n12 : Int, 0 ≤ n12 → n12 ≤ 65535 →
  (∀ n13 : Int, 0 ≤ n13 → n13 ≤ 65535 →
  (∀ n14 : Int, 0 ≤ n14 → n14 ≤ 65535 →
  (∀ n15 : Int, 0 ≤ n15 → n15 ≤ 65535 →
  (∀ n16 : Int, 0 ≤ n16 → n16 ≤ 65535 →
  (∀ n17 : Int, 0 ≤ n17 → n17 ≤ 65535 →
  (∀ n18 : Int, 0 ≤ n18 → n18 ≤ 65535 →
  (∀ n19 : Int, 0 ≤ n19 → n19 ≤ 65535 →
  (∀ n20 : Int, 0 ≤ n20 → n20 ≤ 65535 →
  (∀ n21 : Int, 0 ≤ n21 → n21 ≤ 65535 →
  (∀ n22 : Int, 0 ≤ n22 → n22 ≤ 65535 →
  (∀ n23 : Int, 0 ≤ n23 → n23 ≤ 65535 →
  (Pre_compare [[n, n1, n2, n3, n4, n5, n6, n7, n8, n9, n10, n11], [n12, n13, n14, n15, n16, n17, n18, n19, n20, n21, n22, n23]] →
  (∀ b : Nat, (∀ b1 : Nat, (((n11 < n23) →
    Post_compare [[n, n1, n2, n3, n4, n5, n6, n7, n8, n9, n10, n11], [n12, n13, n14, n15, n16, n17, n18, n19, n20, n21, n22, n23]] [[(-1)]]) ∧
   (¬ (n11 < n23) →
    (((n23 < n11) →
      Post_compare [[n, n1, n2, n3, n4, n5, n6, n7, n8, n9, n10, n11], [n12, n13, n14, n15, n16, n17, n18, n19, n20, n21, n22, n23]] [[1]]) ∧
     (¬ (n23 < n11) →
      (((n10 < n22) →
        Post_compare [[n, n1, n2, n3, n4, n5, n6, n7, n8, n9, n10, n11], [n12, n13, n14, n15, n16, n17, n18, n19, n20, n21, n22, n23]] [[(-1)]]) ∧
       (¬ (n10 < n22) →
        (((n22 < n10) →
          Post_compare [[n, n1, n2, n3, n4, n5, n6, n7, n8, n9, n10, n11], [n12, n13, n14, n15, n16, n17, n18, n19, n20, n21, n22, n23]] [[1]]) ∧
         (¬ (n22 < n10) →
          (((n9 < n21) →
            Post_compare [[n, n1, n2, n3, n4, n5, n6, n7, n8, n9, n10, n11], [n12, n13, n14, n15, n16, n17, n18, n19, n20, n21, n22, n23]] [[(-1)]]) ∧
           (¬ (n9 < n21) →
            (((n21 < n9) →
              Post_compare [[n, n1, n2, n3, n4, n5, n6, n7, n8, n9, n10, n11], [n12, n13, n14, n15, n16, n17, n18, n19, n20, n21, n22, n23]] [[1]]) ∧
             (¬ (n21 < n9) →
              (((n8 < n20) →
                Post_compare [[n, n1, n2, n3, n4, n5, n6, n7, n8, n9, n10, n11], [n12, n13, n14, n15, n16, n17, n18, n19, n20, n21, n22, n23]] [[(-1)]]) ∧
               (¬ (n8 < n20) →
                (((n20 < n8) →
                  Post_compare [[n, n1, n2, n3, n4, n5, n6, n7, n8, n9, n10, n11], [n12, n13, n14, n15, n16, n17, n18, n19, n20, n21, n22, n23]] [[1]]) ∧
                 (¬ (n20 < n8) →
                  (((n7 < n19) →
                    Post_compare [[n, n1, n2, n3, n4, n5, n6, n7, n8, n9, n10, n11], [n12, n13, n14, n15, n16, n17, n18, n19, n20, n21, n22, n23]] [[(-1)]]) ∧
                   (¬ (n7 < n19) →
                    (((n19 < n7) →
                      Post_compare [[n, n1, n2, n3, n4, n5, n6, n7, n8, n9, n10, n11], [n12, n13, n14, n15, n16, n17, n18, n19, n20, n21, n22, n23]] [[1]]) ∧
                     (¬ (n19 < n7) →
                      (((n6 < n18) →
                        Post_compare [[n, n1, n2, n3, n4, n5, n6, n7, n8, n9, n10, n11], [n12, n13, n14, n15, n16, n17, n18, n19, n20, n21, n22, n23]] [[(-1)]]) ∧
                       (¬ (n6 < n18) →
                        (((n18 < n6) →
                          Post_compare [[n, n1, n2, n3, n4, n5, n6, n7, n8, n9, n10, n11], [n12, n13, n14, n15, n16, n17, n18, n19, n20, n21, n22, n23]] [[1]]) ∧
                         (¬ (n18 < n6) →
                          (((n5 < n17) →
                            Post_compare [[n, n1, n2, n3, n4, n5, n6, n7, n8, n9, n10, n11], [n12, n13, n14, n15, n16, n17, n18, n19, n20, n21, n22, n23]] [[(-1)]]) ∧
                           (¬ (n5 < n17) →
                            (((n17 < n5) →
                              Post_compare [[n, n1, n2, n3, n4, n5, n6, n7, n8, n9, n10, n11], [n12, n13, n14, n15, n16, n17, n18, n19, n20, n21, n22, n23]] [[1]]) ∧
                             (¬ (n17 < n5) →
                              (((n4 < n16) →
                                Post_compare [[n, n1, n2, n3, n4, n5, n6, n7, n8, n9, n10, n11], [n12, n13, n14, n15, n16, n17, n18, n19, n20, n21, n22, n23]] [[(-1)]]) ∧
                               (¬ (n4 < n16) →
                                (((n16 < n4) →
                                  Post_compare [[n, n1, n2, n3, n4, n5, n6, n7, n8, n9, n10, n11], [n12, n13, n14, n15, n16, n17, n18, n19, n20, n21, n22, n23]] [[1]]) ∧
                                 (¬ (n16 < n4) →
                                  (((n3 < n15) →
                                    Post_compare [[n, n1, n2, n3, n4, n5, n6, n7, n8, n9, n10, n11], [n12, n13, n14, n15, n16, n17, n18, n19, n20, n21, n22, n23]] [[(-1)]]) ∧
                                   (¬ (n3 < n15) →
                                    (((n15 < n3) →
                                      Post_compare [[n, n1, n2, n3, n4, n5, n6, n7, n8, n9, n10, n11], [n12, n13, n14, n15, n16, n17, n18, n19, n20, n21, n22, n23]] [[1]]) ∧
                                     (¬ (n15 < n3) →
                                      (((n2 < n14) →
                                        Post_compare [[n, n1, n2, n3, n4, n5, n6, n7, n8, n9, n10, n11], [n12, n13, n14, n15, n16, n17, n18, n19, n20, n21, n22, n23]] [[(-1)]]) ∧
                                       (¬ (n2 < n14) →
                                        (((n14 < n2) →
                                          Post_compare [[n, n1, n2, n3, n4, n5, n6, n7, n8, n9, n10, n11], [n12, n13, n14, n15, n16, n17, n18, n19, n20, n21, n22, n23]] [[1]]) ∧
                                         (¬ (n14 < n2) →
                                          (((n1 < n13) →
                                            Post_compare [[n, n1, n2, n3, n4, n5, n6, n7, n8, n9, n10, n11], [n12, n13, n14, n15, n16, n17, n18, n19, n20, n21, n22, n23]] [[(-1)]]) ∧
                                           (¬ (n1 < n13) →
                                            (((n13 < n1) →
                                              Post_compare [[n, n1, n2, n3, n4, n5, n6, n7, n8, n9, n10, n11], [n12, n13, n14, n15, n16, n17, n18, n19, n20, n21, n22, n23]] [[1]]) ∧
                                             (¬ (n13 < n1) →
                                              (((n < n12) →
                                                Post_compare [[n, n1, n2, n3, n4, n5, n6, n7, n8, n9, n10, n11], [n12, n13, n14, n15, n16, n17, n18, n19, n20, n21, n22, n23]] [[(-1)]]) ∧
                                               (¬ (n < n12) →
                                                (((n12 < n) →
                                                  Post_compare [[n, n1, n2, n3, n4, n5, n6, n7, n8, n9, n10, n11], [n12, n13, n14, n15, n16, n17, n18, n19, n20, n21, n22, n23]] [[1]]) ∧
                                                 (¬ (n12 < n) →
                                                  Post_compare [[n, n1, n2, n3, n4, n5, n6, n7, n8, n9, n10, n11], [n12, n13, n14, n15, n16, n17, n18, n19, n20, n21, n22, n23]] [[0]])))))))))))))))))))))))))))))))))))))))))))))))))))))))))))))))))))))))))))
theorem c_compare : canCall Tryz.prog 49 = true := by kernel_rfl
theorem s_compare : P_compare = sat E (symTop Tryz.prog tab2 2000 49 ash_compare sh_compare) := by kernel_rfl
theorem pure_compare (hV : Valid Tryz.prog tab2 E) (h : P_compare) (args : List Value) (ha : shaFits ash_compare args) (hp : E.pre 49 (args.map vints)) : Pure Tryz.prog 49 args.toArray fun v => sh_compare.fits v ∧ E.post 49 (args.map vints) (vres v) := @top_sat Tryz.prog tab2 E hV 2000 49 ash_compare sh_compare (@Eq.mp _ _ s_compare h) args ha hp
theorem step_compare (hV : Valid Tryz.prog tab2 E) (h : P_compare) : Valid Tryz.prog tab3 E := hV.add c_compare (pure_compare hV h)

/-- gouache/gouacheref01.plus -/
def P_plus : Prop :=
  (∀ n : Int, 0 ≤ n → n ≤ 65535 →
  (∀ n1 : Int, 0 ≤ n1 → n1 ≤ 65535 →
  (∀ n2 : Int, 0 ≤ n2 → n2 ≤ 65535 →
  (∀ n3 : Int, 0 ≤ n3 → n3 ≤ 65535 →
  (∀ n4 : Int, 0 ≤ n4 → n4 ≤ 65535 →
  (∀ n5 : Int, 0 ≤ n5 → n5 ≤ 65535 →
  (∀ n6 : Int, 0 ≤ n6 → n6 ≤ 65535 →
  (∀ n7 : Int, 0 ≤ n7 → n7 ≤ 65535 →
  (∀ n8 : Int, 0 ≤ n8 → n8 ≤ 65535 →
  (∀ n9 : Int, 0 ≤ n9 → n9 ≤ 65535 →
  (∀ n10 : Int, 0 ≤ n10 → n10 ≤ 65535 →
  (∀ n11 : Int, 0 ≤ n11 → n11 ≤ 65535 →
  (∀ n12 : Int, 0 ≤ n12 → n12 ≤ 65535 →
  (∀ n13 : Int, 0 ≤ n13 → n13 ≤ 65535 →
  (∀ n14 : Int, 0 ≤ n14 → n14 ≤ 65535 →
  (∀ n15 : Int, 0 ≤ n15 → n15 ≤ 65535 →
  (∀ n16 : Int, 0 ≤ n16 → n16 ≤ 65535 →
  (∀ n17 : Int, 0 ≤ n17 → n17 ≤ 65535 →
  (∀ n18 : Int, 0 ≤ n18 → n18 ≤ 65535 →
  (∀ n19 : Int, 0 ≤ n19 → n19 ≤ 65535 →
  (∀ n20 : Int, 0 ≤ n20 → n20 ≤ 65535 →
  (∀ n21 : Int, 0 ≤ n21 → n21 ≤ 65535 →
  (∀ n22 : Int, 0 ≤ n22 → n22 ≤ 65535 →
  (∀ n23 : Int, 0 ≤ n23 → n23 ≤ 65535 →
  (Pre_plus [[n, n1, n2, n3, n4, n5, n6, n7, n8, n9, n10, n11], [n12, n13, n14, n15, n16, n17, n18, n19, n20, n21, n22, n23]] →
  (∀ b : Nat, (∀ b1 : Nat, (∀ b2 : Nat, (∀ n24 : Int, n24 = (n + n12) → 0 ≤ n24 → n24 ≤ 131070 →
  (∀ n25 : Int, n25 = (n24 % 65536) → 0 ≤ n25 → n25 ≤ 65535 →
  (∀ n26 : Int, n26 = (n24 / 65536) → 0 ≤ n26 → n26 ≤ 1 →
  (∀ n27 : Int, n27 = ((n26 + n1) + n13) → 0 ≤ n27 → n27 ≤ 131071 →
  (∀ n28 : Int, n28 = (n27 % 65536) → 0 ≤ n28 → n28 ≤ 65535 →
  (∀ n29 : Int, n29 = (n27 / 65536) → 0 ≤ n29 → n29 ≤ 1 →
  (∀ n30 : Int, n30 = ((n29 + n2) + n14) → 0 ≤ n30 → n30 ≤ 131071 →
  (∀ n31 : Int, n31 = (n30 % 65536) → 0 ≤ n31 → n31 ≤ 65535 →
  (∀ n32 : Int, n32 = (n30 / 65536) → 0 ≤ n32 → n32 ≤ 1 →
  (∀ n33 : Int, n33 = ((n32 + n3) + n15) → 0 ≤ n33 → n33 ≤ 131071 →
  (∀ n34 : Int, n34 = (n33 % 65536) → 0 ≤ n34 → n34 ≤ 65535 →
  (∀ n35 : Int, n35 = (n33 / 65536) → 0 ≤ n35 → n35 ≤ 1 →
  (∀ n36 : Int, n36 = ((n35 + n4) + n16) → 0 ≤ n36 → n36 ≤ 131071 →
  (∀ n37 : Int, n37 = (n36 % 65536) → 0 ≤ n37 → n37 ≤ 65535 →
  (∀ n38 : Int, n38 = (n36 / 65536) → 0 ≤ n38 → n38 ≤ 1 →
  (∀ n39 : Int, n39 = ((n38 + n5) + n17) → 0 ≤ n39 → n39 ≤ 131071 →
  (∀ n40 : Int, n40 = (n39 % 65536) → 0 ≤ n40 → n40 ≤ 65535 →
  (∀ n41 : Int, n41 = (n39 / 65536) → 0 ≤ n41 → n41 ≤ 1 →
  (∀ n42 : Int, n42 = ((n41 + n6) + n18) → 0 ≤ n42 → n42 ≤ 131071 →
  (∀ n43 : Int, n43 = (n42 % 65536) → 0 ≤ n43 → n43 ≤ 65535 →
  (∀ n44 : Int, n44 = (n42 / 65536) → 0 ≤ n44 → n44 ≤ 1 →
  (∀ n45 : Int, n45 = ((n44 + n7) + n19) → 0 ≤ n45 → n45 ≤ 131071 →
  (∀ n46 : Int, n46 = (n45 % 65536) → 0 ≤ n46 → n46 ≤ 65535 →
  (∀ n47 : Int, n47 = (n45 / 65536) → 0 ≤ n47 → n47 ≤ 1 →
  (∀ n48 : Int, n48 = ((n47 + n8) + n20) → 0 ≤ n48 → n48 ≤ 131071 →
  (∀ n49 : Int, n49 = (n48 % 65536) → 0 ≤ n49 → n49 ≤ 65535 →
  (∀ n50 : Int, n50 = (n48 / 65536) → 0 ≤ n50 → n50 ≤ 1 →
  (∀ n51 : Int, n51 = ((n50 + n9) + n21) → 0 ≤ n51 → n51 ≤ 131071 →
  (∀ n52 : Int, n52 = (n51 % 65536) → 0 ≤ n52 → n52 ≤ 65535 →
  (∀ n53 : Int, n53 = (n51 / 65536) → 0 ≤ n53 → n53 ≤ 1 →
  (∀ n54 : Int, n54 = ((n53 + n10) + n22) → 0 ≤ n54 → n54 ≤ 131071 →
  (∀ n55 : Int, n55 = (n54 % 65536) → 0 ≤ n55 → n55 ≤ 65535 →
  (∀ n56 : Int, n56 = (n54 / 65536) → 0 ≤ n56 → n56 ≤ 1 →
  (∀ n57 : Int, n57 = ((n56 + n11) + n23) → 0 ≤ n57 → n57 ≤ 131071 →
  (∀ n58 : Int, n58 = (n57 % 65536) → 0 ≤ n58 → n58 ≤ 65535 →
  (∀ n59 : Int, n59 = (n57 / 65536) → 0 ≤ n59 → n59 ≤ 1 →
  Post_plus [[n, n1, n2, n3, n4, n5, n6, n7, n8, n9, n10, n11], [n12, n13, n14, n15, n16, n17, n18, n19, n20, n21, n22, n23]] [[n25, n28, n31, n34, n37, n40, n43, n46, n49, n52, n55, n58]]))))))))))))))))))))))))))))))))))))))))))))))))))))))))))))))))
theorem c_plus : canCall Tryz.prog 48 = true := by kernel_rfl
theorem s_plus : P_plus = sat E (symTop Tryz.prog tab3 2000 48 ash_plus sh_plus) := by kernel_rfl
theorem pure_plus (hV : Valid Tryz.prog tab3 E) (h : P_plus) (args : List Value) (ha : shaFits ash_plus args) (hp : E.pre 48 (args.map vints)) : Pure Tryz.prog 48 args.toArray fun v => sh_plus.fits v ∧ E.post 48 (args.map vints) (vres v) := @top_sat Tryz.prog tab3 E hV 2000 48 ash_plus sh_plus (@Eq.mp _ _ s_plus h) args ha hp
theorem step_plus (hV : Valid Tryz.prog tab3 E) (h : P_plus) : Valid Tryz.prog tab4 E := hV.add c_plus (pure_plus hV h)

/-- gouache/gouacheref01.less -/
def P_less : Prop :=
  (∀ n : Int, 0 ≤ n → n ≤ 65535 →
  (∀ n1 : Int, 0 ≤ n1 → n1 ≤ 65535 →
  (∀ n2 : Int, 0 ≤ n2 → n2 ≤ 65535 →
  (∀ n3 : Int, 0 ≤ n3 → n3 ≤ 65535 →
  (∀ n4 : Int, 0 ≤ n4 → n4 ≤ 65535 →
  (∀ n5 : Int, 0 ≤ n5 → n5 ≤ 65535 →
  (∀ n6 : Int, 0 ≤ n6 → n6 ≤ 65535 →
  (∀ n7 : Int, 0 ≤ n7 → n7 ≤ 65535 →
  (∀ n8 : Int, 0 ≤ n8 → n8 ≤ 65535 →
  (∀ n9 : Int, 0 ≤ n9 → n9 ≤ 65535 →
  (∀ n10 : Int, 0 ≤ n10 → n10 ≤ 65535 →
  (∀ n11 : Int, 0 ≤ n11 → n11 ≤ 65535 →
  (∀ n12 : Int, 0 ≤ n12 → n12 ≤ 65535 →
  (∀ n13 : Int, 0 ≤ n13 → n13 ≤ 65535 →
  (∀ n14 : Int, 0 ≤ n14 → n14 ≤ 65535 →
  (∀ n15 : Int, 0 ≤ n15 → n15 ≤ 65535 →
  (∀ n16 : Int, 0 ≤ n16 → n16 ≤ 65535 →
  (∀ n17 : Int, 0 ≤ n17 → n17 ≤ 65535 →
  (∀ n18 : Int, 0 ≤ n18 → n18 ≤ 65535 →
  (∀ n19 : Int, 0 ≤ n19 → n19 ≤ 65535 →
  (∀ n20 : Int, 0 ≤ n20 → n20 ≤ 65535 →
  (∀ n21 : Int, 0 ≤ n21 → n21 ≤ 65535 →
  (∀ n22 : Int, 0 ≤ n22 → n22 ≤ 65535 →
  (∀ n23 : Int, 0 ≤ n23 → n23 ≤ 65535 →
  (Pre_less [[n, n1, n2, n3, n4, n5, n6, n7, n8, n9, n10, n11], [n12, n13, n14, n15, n16, n17, n18, n19, n20, n21, n22, n23]] →
  (∀ b : Nat, (∀ b1 : Nat, (∀ b2 : Nat, (Inv_less [n, n1, n2, n3, n4, n5, n6, n7, n8, n9, n10, n11, n12, n13, n14, n15, n16, n17, n18, n19, n20, n21, n22, n23] [0, n, n1, n2, n3, n4, n5, n6, n7, n8, n9, n10, n11] ∧
  (∀ n24 : Int, 0 ≤ n24 → n24 ≤ 12 →
  (∀ n25 : Int, (-1) ≤ n25 → n25 ≤ 65535 →
  (∀ n26 : Int, (-1) ≤ n26 → n26 ≤ 65535 →
  (∀ n27 : Int, (-1) ≤ n27 → n27 ≤ 65535 →
  (∀ n28 : Int, (-1) ≤ n28 → n28 ≤ 65535 →
  (∀ n29 : Int, (-1) ≤ n29 → n29 ≤ 65535 →
  (∀ n30 : Int, (-1) ≤ n30 → n30 ≤ 65535 →
  (∀ n31 : Int, (-1) ≤ n31 → n31 ≤ 65535 →
  (∀ n32 : Int, (-1) ≤ n32 → n32 ≤ 65535 →
  (∀ n33 : Int, (-1) ≤ n33 → n33 ≤ 65535 →
  (∀ n34 : Int, (-1) ≤ n34 → n34 ≤ 65535 →
  (∀ n35 : Int, (-1) ≤ n35 → n35 ≤ 65535 →
  (∀ n36 : Int, (-1) ≤ n36 → n36 ≤ 65535 →
  (Inv_less [n, n1, n2, n3, n4, n5, n6, n7, n8, n9, n10, n11, n12, n13, n14, n15, n16, n17, n18, n19, n20, n21, n22, n23] [n24, n25, n26, n27, n28, n29, n30, n31, n32, n33, n34, n35, n36] →
  (∀ vs : List Value, vs.length = 30 →
  (((n24 < 12) →
    ((n24 < 12) ∧
    ((n24 < 12) ∧
    ((n24 < 12) ∧
    (∀ n37 : Int, n37 = ((if n24 = 0 then n25 else (if n24 = 1 then n26 else (if n24 = 2 then n27 else (if n24 = 3 then n28 else (if n24 = 4 then n29 else (if n24 = 5 then n30 else (if n24 = 6 then n31 else (if n24 = 7 then n32 else (if n24 = 8 then n33 else (if n24 = 9 then n34 else (if n24 = 10 then n35 else n36))))))))))) - (if n24 = 0 then n12 else (if n24 = 1 then n13 else (if n24 = 2 then n14 else (if n24 = 3 then n15 else (if n24 = 4 then n16 else (if n24 = 5 then n17 else (if n24 = 6 then n18 else (if n24 = 7 then n19 else (if n24 = 8 then n20 else (if n24 = 9 then n21 else (if n24 = 10 then n22 else n23)))))))))))) → (-65536) ≤ n37 → n37 ≤ 65535 →
    ((n24 < 12) ∧
    ((((if n24 = 0 then (if n24 = 0 then n37 else n25) else (if n24 = 1 then (if n24 = 1 then n37 else n26) else (if n24 = 2 then (if n24 = 2 then n37 else n27) else (if n24 = 3 then (if n24 = 3 then n37 else n28) else (if n24 = 4 then (if n24 = 4 then n37 else n29) else (if n24 = 5 then (if n24 = 5 then n37 else n30) else (if n24 = 6 then (if n24 = 6 then n37 else n31) else (if n24 = 7 then (if n24 = 7 then n37 else n32) else (if n24 = 8 then (if n24 = 8 then n37 else n33) else (if n24 = 9 then (if n24 = 9 then n37 else n34) else (if n24 = 10 then (if n24 = 10 then n37 else n35) else (if n24 = 11 then n37 else n36)))))))))))) < 0) →
      ((n24 < 12) ∧
      ((n24 < 12) ∧
      (∀ n38 : Int, n38 = ((if n24 = 0 then (if n24 = 0 then n37 else n25) else (if n24 = 1 then (if n24 = 1 then n37 else n26) else (if n24 = 2 then (if n24 = 2 then n37 else n27) else (if n24 = 3 then (if n24 = 3 then n37 else n28) else (if n24 = 4 then (if n24 = 4 then n37 else n29) else (if n24 = 5 then (if n24 = 5 then n37 else n30) else (if n24 = 6 then (if n24 = 6 then n37 else n31) else (if n24 = 7 then (if n24 = 7 then n37 else n32) else (if n24 = 8 then (if n24 = 8 then n37 else n33) else (if n24 = 9 then (if n24 = 9 then n37 else n34) else (if n24 = 10 then (if n24 = 10 then n37 else n35) else (if n24 = 11 then n37 else n36)))))))))))) + 65536) → 0 ≤ n38 → n38 ≤ 131071 →
      (((n24 + 1) < 12) ∧
      (((n24 + 1) < 12) ∧
      (∀ n39 : Int, n39 = ((if (n24 + 1) = 1 then (if n24 = 1 then n38 else (if n24 = 1 then n37 else n26)) else (if (n24 + 1) = 2 then (if n24 = 2 then n38 else (if n24 = 2 then n37 else n27)) else (if (n24 + 1) = 3 then (if n24 = 3 then n38 else (if n24 = 3 then n37 else n28)) else (if (n24 + 1) = 4 then (if n24 = 4 then n38 else (if n24 = 4 then n37 else n29)) else (if (n24 + 1) = 5 then (if n24 = 5 then n38 else (if n24 = 5 then n37 else n30)) else (if (n24 + 1) = 6 then (if n24 = 6 then n38 else (if n24 = 6 then n37 else n31)) else (if (n24 + 1) = 7 then (if n24 = 7 then n38 else (if n24 = 7 then n37 else n32)) else (if (n24 + 1) = 8 then (if n24 = 8 then n38 else (if n24 = 8 then n37 else n33)) else (if (n24 + 1) = 9 then (if n24 = 9 then n38 else (if n24 = 9 then n37 else n34)) else (if (n24 + 1) = 10 then (if n24 = 10 then n38 else (if n24 = 10 then n37 else n35)) else (if n24 = 11 then n38 else (if n24 = 11 then n37 else n36)))))))))))) - 1) → (-65537) ≤ n39 → n39 ≤ 131070 →
      (∀ n40 : Int, n40 = (n24 + 1) → 1 ≤ n40 → n40 ≤ 13 →
      ((n40 ≤ 12) ∧
      (∀ n41 : Int, n41 = n40 → 0 ≤ n41 → n41 ≤ 12 →
      (((-1) ≤ (if n24 = 0 then n38 else (if n24 = 0 then n37 else n25))) ∧
      (((if n24 = 0 then n38 else (if n24 = 0 then n37 else n25)) ≤ 65535) ∧
      (∀ n42 : Int, n42 = (if n24 = 0 then n38 else (if n24 = 0 then n37 else n25)) → (-1) ≤ n42 → n42 ≤ 65535 →
      (((-1) ≤ (if (n24 + 1) = 1 then n39 else (if n24 = 1 then n38 else (if n24 = 1 then n37 else n26)))) ∧
      (((if (n24 + 1) = 1 then n39 else (if n24 = 1 then n38 else (if n24 = 1 then n37 else n26))) ≤ 65535) ∧
      (∀ n43 : Int, n43 = (if (n24 + 1) = 1 then n39 else (if n24 = 1 then n38 else (if n24 = 1 then n37 else n26))) → (-1) ≤ n43 → n43 ≤ 65535 →
      (((-1) ≤ (if (n24 + 1) = 2 then n39 else (if n24 = 2 then n38 else (if n24 = 2 then n37 else n27)))) ∧
      (((if (n24 + 1) = 2 then n39 else (if n24 = 2 then n38 else (if n24 = 2 then n37 else n27))) ≤ 65535) ∧
      (∀ n44 : Int, n44 = (if (n24 + 1) = 2 then n39 else (if n24 = 2 then n38 else (if n24 = 2 then n37 else n27))) → (-1) ≤ n44 → n44 ≤ 65535 →
      (((-1) ≤ (if (n24 + 1) = 3 then n39 else (if n24 = 3 then n38 else (if n24 = 3 then n37 else n28)))) ∧
      (((if (n24 + 1) = 3 then n39 else (if n24 = 3 then n38 else (if n24 = 3 then n37 else n28))) ≤ 65535) ∧
      (∀ n45 : Int, n45 = (if (n24 + 1) = 3 then n39 else (if n24 = 3 then n38 else (if n24 = 3 then n37 else n28))) → (-1) ≤ n45 → n45 ≤ 65535 →
      (((-1) ≤ (if (n24 + 1) = 4 then n39 else (if n24 = 4 then n38 else (if n24 = 4 then n37 else n29)))) ∧
      (((if (n24 + 1) = 4 then n39 else (if n24 = 4 then n38 else (if n24 = 4 then n37 else n29))) ≤ 65535) ∧
      (∀ n46 : Int, n46 = (if (n24 + 1) = 4 then n39 else (if n24 = 4 then n38 else (if n24 = 4 then n37 else n29))) → (-1) ≤ n46 → n46 ≤ 65535 →
      (((-1) ≤ (if (n24 + 1) = 5 then n39 else (if n24 = 5 then n38 else (if n24 = 5 then n37 else n30)))) ∧
      (((if (n24 + 1) = 5 then n39 else (if n24 = 5 then n38 else (if n24 = 5 then n37 else n30))) ≤ 65535) ∧
      (∀ n47 : Int, n47 = (if (n24 + 1) = 5 then n39 else (if n24 = 5 then n38 else (if n24 = 5 then n37 else n30))) → (-1) ≤ n47 → n47 ≤ 65535 →
      (((-1) ≤ (if (n24 + 1) = 6 then n39 else (if n24 = 6 then n38 else (if n24 = 6 then n37 else n31)))) ∧
      (((if (n24 + 1) = 6 then n39 else (if n24 = 6 then n38 else (if n24 = 6 then n37 else n31))) ≤ 65535) ∧
      (∀ n48 : Int, n48 = (if (n24 + 1) = 6 then n39 else (if n24 = 6 then n38 else (if n24 = 6 then n37 else n31))) → (-1) ≤ n48 → n48 ≤ 65535 →
      (((-1) ≤ (if (n24 + 1) = 7 then n39 else (if n24 = 7 then n38 else (if n24 = 7 then n37 else n32)))) ∧
      (((if (n24 + 1) = 7 then n39 else (if n24 = 7 then n38 else (if n24 = 7 then n37 else n32))) ≤ 65535) ∧
      (∀ n49 : Int, n49 = (if (n24 + 1) = 7 then n39 else (if n24 = 7 then n38 else (if n24 = 7 then n37 else n32))) → (-1) ≤ n49 → n49 ≤ 65535 →
      (((-1) ≤ (if (n24 + 1) = 8 then n39 else (if n24 = 8 then n38 else (if n24 = 8 then n37 else n33)))) ∧
      (((if (n24 + 1) = 8 then n39 else (if n24 = 8 then n38 else (if n24 = 8 then n37 else n33))) ≤ 65535) ∧
      (∀ n50 : Int, n50 = (if (n24 + 1) = 8 then n39 else (if n24 = 8 then n38 else (if n24 = 8 then n37 else n33))) → (-1) ≤ n50 → n50 ≤ 65535 →
      (((-1) ≤ (if (n24 + 1) = 9 then n39 else (if n24 = 9 then n38 else (if n24 = 9 then n37 else n34)))) ∧
      (((if (n24 + 1) = 9 then n39 else (if n24 = 9 then n38 else (if n24 = 9 then n37 else n34))) ≤ 65535) ∧
      (∀ n51 : Int, n51 = (if (n24 + 1) = 9 then n39 else (if n24 = 9 then n38 else (if n24 = 9 then n37 else n34))) → (-1) ≤ n51 → n51 ≤ 65535 →
      (((-1) ≤ (if (n24 + 1) = 10 then n39 else (if n24 = 10 then n38 else (if n24 = 10 then n37 else n35)))) ∧
      (((if (n24 + 1) = 10 then n39 else (if n24 = 10 then n38 else (if n24 = 10 then n37 else n35))) ≤ 65535) ∧
      (∀ n52 : Int, n52 = (if (n24 + 1) = 10 then n39 else (if n24 = 10 then n38 else (if n24 = 10 then n37 else n35))) → (-1) ≤ n52 → n52 ≤ 65535 →
      (((-1) ≤ (if (n24 + 1) = 11 then n39 else (if n24 = 11 then n38 else (if n24 = 11 then n37 else n36)))) ∧
      (((if (n24 + 1) = 11 then n39 else (if n24 = 11 then n38 else (if n24 = 11 then n37 else n36))) ≤ 65535) ∧
      (∀ n53 : Int, n53 = (if (n24 + 1) = 11 then n39 else (if n24 = 11 then n38 else (if n24 = 11 then n37 else n36))) → (-1) ≤ n53 → n53 ≤ 65535 →
      (Inv_less [n, n1, n2, n3, n4, n5, n6, n7, n8, n9, n10, n11, n12, n13, n14, n15, n16, n17, n18, n19, n20, n21, n22, n23] [n41, n42, n43, n44, n45, n46, n47, n48, n49, n50, n51, n52, n53] ∧ Mea_less [n, n1, n2, n3, n4, n5, n6, n7, n8, n9, n10, n11, n12, n13, n14, n15, n16, n17, n18, n19, n20, n21, n22, n23] [n41, n42, n43, n44, n45, n46, n47, n48, n49, n50, n51, n52, n53] < Mea_less [n, n1, n2, n3, n4, n5, n6, n7, n8, n9, n10, n11, n12, n13, n14, n15, n16, n17, n18, n19, n20, n21, n22, n23] [n24, n25, n26, n27, n28, n29, n30, n31, n32, n33, n34, n35, n36]))))))))))))))))))))))))))))))))))))))))))))))) ∧
     (¬ ((if n24 = 0 then (if n24 = 0 then n37 else n25) else (if n24 = 1 then (if n24 = 1 then n37 else n26) else (if n24 = 2 then (if n24 = 2 then n37 else n27) else (if n24 = 3 then (if n24 = 3 then n37 else n28) else (if n24 = 4 then (if n24 = 4 then n37 else n29) else (if n24 = 5 then (if n24 = 5 then n37 else n30) else (if n24 = 6 then (if n24 = 6 then n37 else n31) else (if n24 = 7 then (if n24 = 7 then n37 else n32) else (if n24 = 8 then (if n24 = 8 then n37 else n33) else (if n24 = 9 then (if n24 = 9 then n37 else n34) else (if n24 = 10 then (if n24 = 10 then n37 else n35) else (if n24 = 11 then n37 else n36)))))))))))) < 0) →
      (∀ n38 : Int, n38 = (n24 + 1) → 1 ≤ n38 → n38 ≤ 13 →
      ((n38 ≤ 12) ∧
      (∀ n39 : Int, n39 = n38 → 0 ≤ n39 → n39 ≤ 12 →
      (((-1) ≤ (if n24 = 0 then n37 else n25)) ∧
      (∀ n40 : Int, n40 = (if n24 = 0 then n37 else n25) → (-1) ≤ n40 → n40 ≤ 65535 →
      (((-1) ≤ (if n24 = 1 then n37 else n26)) ∧
      (∀ n41 : Int, n41 = (if n24 = 1 then n37 else n26) → (-1) ≤ n41 → n41 ≤ 65535 →
      (((-1) ≤ (if n24 = 2 then n37 else n27)) ∧
      (∀ n42 : Int, n42 = (if n24 = 2 then n37 else n27) → (-1) ≤ n42 → n42 ≤ 65535 →
      (((-1) ≤ (if n24 = 3 then n37 else n28)) ∧
      (∀ n43 : Int, n43 = (if n24 = 3 then n37 else n28) → (-1) ≤ n43 → n43 ≤ 65535 →
      (((-1) ≤ (if n24 = 4 then n37 else n29)) ∧
      (∀ n44 : Int, n44 = (if n24 = 4 then n37 else n29) → (-1) ≤ n44 → n44 ≤ 65535 →
      (((-1) ≤ (if n24 = 5 then n37 else n30)) ∧
      (∀ n45 : Int, n45 = (if n24 = 5 then n37 else n30) → (-1) ≤ n45 → n45 ≤ 65535 →
      (((-1) ≤ (if n24 = 6 then n37 else n31)) ∧
      (∀ n46 : Int, n46 = (if n24 = 6 then n37 else n31) → (-1) ≤ n46 → n46 ≤ 65535 →
      (((-1) ≤ (if n24 = 7 then n37 else n32)) ∧
      (∀ n47 : Int, n47 = (if n24 = 7 then n37 else n32) → (-1) ≤ n47 → n47 ≤ 65535 →
      (((-1) ≤ (if n24 = 8 then n37 else n33)) ∧
      (∀ n48 : Int, n48 = (if n24 = 8 then n37 else n33) → (-1) ≤ n48 → n48 ≤ 65535 →
      (((-1) ≤ (if n24 = 9 then n37 else n34)) ∧
      (∀ n49 : Int, n49 = (if n24 = 9 then n37 else n34) → (-1) ≤ n49 → n49 ≤ 65535 →
      (((-1) ≤ (if n24 = 10 then n37 else n35)) ∧
      (∀ n50 : Int, n50 = (if n24 = 10 then n37 else n35) → (-1) ≤ n50 → n50 ≤ 65535 →
      (((-1) ≤ (if n24 = 11 then n37 else n36)) ∧
      (∀ n51 : Int, n51 = (if n24 = 11 then n37 else n36) → (-1) ≤ n51 → n51 ≤ 65535 →
      (Inv_less [n, n1, n2, n3, n4, n5, n6, n7, n8, n9, n10, n11, n12, n13, n14, n15, n16, n17, n18, n19, n20, n21, n22, n23] [n39, n40, n41, n42, n43, n44, n45, n46, n47, n48, n49, n50, n51] ∧ Mea_less [n, n1, n2, n3, n4, n5, n6, n7, n8, n9, n10, n11, n12, n13, n14, n15, n16, n17, n18, n19, n20, n21, n22, n23] [n39, n40, n41, n42, n43, n44, n45, n46, n47, n48, n49, n50, n51] < Mea_less [n, n1, n2, n3, n4, n5, n6, n7, n8, n9, n10, n11, n12, n13, n14, n15, n16, n17, n18, n19, n20, n21, n22, n23] [n24, n25, n26, n27, n28, n29, n30, n31, n32, n33, n34, n35, n36])))))))))))))))))))))))))))))))))))) ∧
   (¬ (n24 < 12) →
    ((0 ≤ n25) ∧
    (∀ n37 : Int, n37 = n25 → 0 ≤ n37 → n37 ≤ 65535 →
    ((0 ≤ n26) ∧
    (∀ n38 : Int, n38 = n26 → 0 ≤ n38 → n38 ≤ 65535 →
    ((0 ≤ n27) ∧
    (∀ n39 : Int, n39 = n27 → 0 ≤ n39 → n39 ≤ 65535 →
    ((0 ≤ n28) ∧
    (∀ n40 : Int, n40 = n28 → 0 ≤ n40 → n40 ≤ 65535 →
    ((0 ≤ n29) ∧
    (∀ n41 : Int, n41 = n29 → 0 ≤ n41 → n41 ≤ 65535 →
    ((0 ≤ n30) ∧
    (∀ n42 : Int, n42 = n30 → 0 ≤ n42 → n42 ≤ 65535 →
    ((0 ≤ n31) ∧
    (∀ n43 : Int, n43 = n31 → 0 ≤ n43 → n43 ≤ 65535 →
    ((0 ≤ n32) ∧
    (∀ n44 : Int, n44 = n32 → 0 ≤ n44 → n44 ≤ 65535 →
    ((0 ≤ n33) ∧
    (∀ n45 : Int, n45 = n33 → 0 ≤ n45 → n45 ≤ 65535 →
    ((0 ≤ n34) ∧
    (∀ n46 : Int, n46 = n34 → 0 ≤ n46 → n46 ≤ 65535 →
    ((0 ≤ n35) ∧
    (∀ n47 : Int, n47 = n35 → 0 ≤ n47 → n47 ≤ 65535 →
    ((0 ≤ n36) ∧
    (∀ n48 : Int, n48 = n36 → 0 ≤ n48 → n48 ≤ 65535 →
    Post_less [[n, n1, n2, n3, n4, n5, n6, n7, n8, n9, n10, n11], [n12, n13, n14, n15, n16, n17, n18, n19, n20, n21, n22, n23]] [[n37, n38, n39, n40, n41, n42, n43, n44, n45, n46, n47, n48]]))))))))))))))))))))))))))))))))))))))))))))))))))))))))))))))))))))))
theorem c_less : canCall Tryz.prog 50 = true := by kernel_rfl
theorem s_less : P_less = sat E (symTop Tryz.prog tab4 2000 50 ash_less sh_less) := by kernel_rfl
theorem pure_less (hV : Valid Tryz.prog tab4 E) (h : P_less) (args : List Value) (ha : shaFits ash_less args) (hp : E.pre 50 (args.map vints)) : Pure Tryz.prog 50 args.toArray fun v => sh_less.fits v ∧ E.post 50 (args.map vints) (vres v) := @top_sat Tryz.prog tab4 E hV 2000 50 ash_less sh_less (@Eq.mp _ _ s_less h) args ha hp
theorem step_less (hV : Valid Tryz.prog tab4 E) (h : P_less) : Valid Tryz.prog tab5 E := hV.add c_less (pure_less hV h)

/-- gouache/gouacheref01.Product -/
def P_product : Prop :=
  (∀ t : Bool, (∀ n : Int, 0 ≤ n → n ≤ 65535 →
  (∀ n1 : Int, 0 ≤ n1 → n1 ≤ 65535 →
  (∀ n2 : Int, 0 ≤ n2 → n2 ≤ 65535 →
  (∀ n3 : Int, 0 ≤ n3 → n3 ≤ 65535 →
  (∀ n4 : Int, 0 ≤ n4 → n4 ≤ 65535 →
  (∀ n5 : Int, 0 ≤ n5 → n5 ≤ 65535 →
  (∀ n6 : Int, 0 ≤ n6 → n6 ≤ 65535 →
  (∀ n7 : Int, 0 ≤ n7 → n7 ≤ 65535 →
  (∀ n8 : Int, 0 ≤ n8 → n8 ≤ 65535 →
  (∀ n9 : Int, 0 ≤ n9 → n9 ≤ 65535 →
  (∀ n10 : Int, 0 ≤ n10 → n10 ≤ 65535 →
  (∀ n11 : Int, 0 ≤ n11 → n11 ≤ 65535 →
  (∀ t1 : Bool, (∀ n12 : Int, 0 ≤ n12 → n12 ≤ 65535 →
  (∀ n13 : Int, 0 ≤ n13 → n13 ≤ 65535 →
  (∀ n14 : Int, 0 ≤ n14 → n14 ≤ 65535 →
  (∀ n15 : Int, 0 ≤ n15 → n15 ≤ 65535 →
  (∀ n16 : Int, 0 ≤ n16 → n16 ≤ 65535 →
  (∀ n17 : Int, 0 ≤ n17 → n17 ≤ 65535 →
  (∀ n18 : Int, 0 ≤ n18 → n18 ≤ 65535 →
  (∀ n19 : Int, 0 ≤ n19 → n19 ≤ 65535 →
  (∀ n20 : Int, 0 ≤ n20 → n20 ≤ 65535 →
  (∀ n21 : Int, 0 ≤ n21 → n21 ≤ 65535 →
  (∀ n22 : Int, 0 ≤ n22 → n22 ≤ 65535 →
  (∀ n23 : Int, 0 ≤ n23 → n23 ≤ 65535 →
  (Pre_product [[b2i t, n, n1, n2, n3, n4, n5, n6, n7, n8, n9, n10, n11], [b2i t1, n12, n13, n14, n15, n16, n17, n18, n19, n20, n21, n22, n23]] →
  (∀ b : Nat, (∀ b1 : Nat, (∀ b2 : Nat, (∀ b3 : Nat, (Inv_prodo [b2i t, n, n1, n2, n3, n4, n5, n6, n7, n8, n9, n10, n11, b2i t1, n12, n13, n14, n15, n16, n17, n18, n19, n20, n21, n22, n23] [0, 0, 0, 0, 0, 0, 0, 0, 0, 0, 0, 0, 0] ∧
  (∀ n24 : Int, 0 ≤ n24 → n24 ≤ 12 →
  (∀ n25 : Int, 0 ≤ n25 → n25 ≤ 65535 →
  (∀ n26 : Int, 0 ≤ n26 → n26 ≤ 65535 →
  (∀ n27 : Int, 0 ≤ n27 → n27 ≤ 65535 →
  (∀ n28 : Int, 0 ≤ n28 → n28 ≤ 65535 →
  (∀ n29 : Int, 0 ≤ n29 → n29 ≤ 65535 →
  (∀ n30 : Int, 0 ≤ n30 → n30 ≤ 65535 →
  (∀ n31 : Int, 0 ≤ n31 → n31 ≤ 65535 →
  (∀ n32 : Int, 0 ≤ n32 → n32 ≤ 65535 →
  (∀ n33 : Int, 0 ≤ n33 → n33 ≤ 65535 →
  (∀ n34 : Int, 0 ≤ n34 → n34 ≤ 65535 →
  (∀ n35 : Int, 0 ≤ n35 → n35 ≤ 65535 →
  (∀ n36 : Int, 0 ≤ n36 → n36 ≤ 65535 →
  (Inv_prodo [b2i t, n, n1, n2, n3, n4, n5, n6, n7, n8, n9, n10, n11, b2i t1, n12, n13, n14, n15, n16, n17, n18, n19, n20, n21, n22, n23] [n24, n25, n26, n27, n28, n29, n30, n31, n32, n33, n34, n35, n36] →
  (∀ vs : List Value, vs.length = 41 →
  (((n24 < 12) →
    (Inv_prodi [n24, b2i t, n, n1, n2, n3, n4, n5, n6, n7, n8, n9, n10, n11, b2i t1, n12, n13, n14, n15, n16, n17, n18, n19, n20, n21, n22, n23] [0, 0, n25, n26, n27, n28, n29, n30, n31, n32, n33, n34, n35, n36] ∧
    (∀ n37 : Int, 0 ≤ n37 → n37 ≤ 65535 →
    (∀ n38 : Int, 0 ≤ n38 → n38 ≤ 12 →
    (∀ n39 : Int, 0 ≤ n39 → n39 ≤ 65535 →
    (∀ n40 : Int, 0 ≤ n40 → n40 ≤ 65535 →
    (∀ n41 : Int, 0 ≤ n41 → n41 ≤ 65535 →
    (∀ n42 : Int, 0 ≤ n42 → n42 ≤ 65535 →
    (∀ n43 : Int, 0 ≤ n43 → n43 ≤ 65535 →
    (∀ n44 : Int, 0 ≤ n44 → n44 ≤ 65535 →
    (∀ n45 : Int, 0 ≤ n45 → n45 ≤ 65535 →
    (∀ n46 : Int, 0 ≤ n46 → n46 ≤ 65535 →
    (∀ n47 : Int, 0 ≤ n47 → n47 ≤ 65535 →
    (∀ n48 : Int, 0 ≤ n48 → n48 ≤ 65535 →
    (∀ n49 : Int, 0 ≤ n49 → n49 ≤ 65535 →
    (∀ n50 : Int, 0 ≤ n50 → n50 ≤ 65535 →
    (Inv_prodi [n24, b2i t, n, n1, n2, n3, n4, n5, n6, n7, n8, n9, n10, n11, b2i t1, n12, n13, n14, n15, n16, n17, n18, n19, n20, n21, n22, n23] [n37, n38, n39, n40, n41, n42, n43, n44, n45, n46, n47, n48, n49, n50] →
    (∀ vs1 : List Value, vs1.length = 34 →
    ((((n24 + n38) < 12) →
      (((n24 + n38) < 12) ∧
      ((n24 < 12) ∧
      ((n38 < 12) ∧
      (∀ n51 : Int, n51 = ((n37 + (if (n24 + n38) = 0 then n39 else (if (n24 + n38) = 1 then n40 else (if (n24 + n38) = 2 then n41 else (if (n24 + n38) = 3 then n42 else (if (n24 + n38) = 4 then n43 else (if (n24 + n38) = 5 then n44 else (if (n24 + n38) = 6 then n45 else (if (n24 + n38) = 7 then n46 else (if (n24 + n38) = 8 then n47 else (if (n24 + n38) = 9 then n48 else (if (n24 + n38) = 10 then n49 else n50)))))))))))) + ((if n24 = 0 then n else (if n24 = 1 then n1 else (if n24 = 2 then n2 else (if n24 = 3 then n3 else (if n24 = 4 then n4 else (if n24 = 5 then n5 else (if n24 = 6 then n6 else (if n24 = 7 then n7 else (if n24 = 8 then n8 else (if n24 = 9 then n9 else (if n24 = 10 then n10 else n11))))))))))) * (if n38 = 0 then n12 else (if n38 = 1 then n13 else (if n38 = 2 then n14 else (if n38 = 3 then n15 else (if n38 = 4 then n16 else (if n38 = 5 then n17 else (if n38 = 6 then n18 else (if n38 = 7 then n19 else (if n38 = 8 then n20 else (if n38 = 9 then n21 else (if n38 = 10 then n22 else n23))))))))))))) → 0 ≤ n51 → n51 ≤ 4294967295 →
      (((n24 + n38) < 12) ∧
      (∀ n52 : Int, n52 = (n51 % 65536) → 0 ≤ n52 → n52 ≤ 65535 →
      (∀ n53 : Int, n53 = (n51 / 65536) → 0 ≤ n53 → n53 ≤ 65535 →
      (∀ n54 : Int, n54 = (n38 + 1) → 1 ≤ n54 → n54 ≤ 13 →
      ((n54 ≤ 12) ∧
      (∀ n55 : Int, n55 = n54 → 0 ≤ n55 → n55 ≤ 12 →
      (Inv_prodi [n24, b2i t, n, n1, n2, n3, n4, n5, n6, n7, n8, n9, n10, n11, b2i t1, n12, n13, n14, n15, n16, n17, n18, n19, n20, n21, n22, n23] [n53, n55, (if (n24 + n38) = 0 then n52 else n39), (if (n24 + n38) = 1 then n52 else n40), (if (n24 + n38) = 2 then n52 else n41), (if (n24 + n38) = 3 then n52 else n42), (if (n24 + n38) = 4 then n52 else n43), (if (n24 + n38) = 5 then n52 else n44), (if (n24 + n38) = 6 then n52 else n45), (if (n24 + n38) = 7 then n52 else n46), (if (n24 + n38) = 8 then n52 else n47), (if (n24 + n38) = 9 then n52 else n48), (if (n24 + n38) = 10 then n52 else n49), (if (n24 + n38) = 11 then n52 else n50)] ∧ Mea_prodi [n24, b2i t, n, n1, n2, n3, n4, n5, n6, n7, n8, n9, n10, n11, b2i t1, n12, n13, n14, n15, n16, n17, n18, n19, n20, n21, n22, n23] [n53, n55, (if (n24 + n38) = 0 then n52 else n39), (if (n24 + n38) = 1 then n52 else n40), (if (n24 + n38) = 2 then n52 else n41), (if (n24 + n38) = 3 then n52 else n42), (if (n24 + n38) = 4 then n52 else n43), (if (n24 + n38) = 5 then n52 else n44), (if (n24 + n38) = 6 then n52 else n45), (if (n24 + n38) = 7 then n52 else n46), (if (n24 + n38) = 8 then n52 else n47), (if (n24 + n38) = 9 then n52 else n48), (if (n24 + n38) = 10 then n52 else n49), (if (n24 + n38) = 11 then n52 else n50)] < Mea_prodi [n24, b2i t, n, n1, n2, n3, n4, n5, n6, n7, n8, n9, n10, n11, b2i t1, n12, n13, n14, n15, n16, n17, n18, n19, n20, n21, n22, n23] [n37, n38, n39, n40, n41, n42, n43, n44, n45, n46, n47, n48, n49, n50])))))))))))) ∧
     (¬ ((n24 + n38) < 12) →
      (∀ n51 : Int, n51 = (n24 + 1) → 1 ≤ n51 → n51 ≤ 13 →
      ((n51 ≤ 12) ∧
      (∀ n52 : Int, n52 = n51 → 0 ≤ n52 → n52 ≤ 12 →
      (Inv_prodo [b2i t, n, n1, n2, n3, n4, n5, n6, n7, n8, n9, n10, n11, b2i t1, n12, n13, n14, n15, n16, n17, n18, n19, n20, n21, n22, n23] [n52, n39, n40, n41, n42, n43, n44, n45, n46, n47, n48, n49, n50] ∧ Mea_prodo [b2i t, n, n1, n2, n3, n4, n5, n6, n7, n8, n9, n10, n11, b2i t1, n12, n13, n14, n15, n16, n17, n18, n19, n20, n21, n22, n23] [n52, n39, n40, n41, n42, n43, n44, n45, n46, n47, n48, n49, n50] < Mea_prodo [b2i t, n, n1, n2, n3, n4, n5, n6, n7, n8, n9, n10, n11, b2i t1, n12, n13, n14, n15, n16, n17, n18, n19, n20, n21, n22, n23] [n24, n25, n26, n27, n28, n29, n30, n31, n32, n33, n34, n35, n36])))))))))))))))))))))))) ∧
   (¬ (n24 < 12) →
    Post_product [[b2i t, n, n1, n2, n3, n4, n5, n6, n7, n8, n9, n10, n11], [b2i t1, n12, n13, n14, n15, n16, n17, n18, n19, n20, n21, n22, n23]] [[b2i (!(t == t1)), n25, n26, n27, n28, n29, n30, n31, n32, n33, n34, n35, n36]])))))))))))))))))))))))))))))))))))))))))))))))))
theorem c_product : canCall Tryz.prog 51 = true := by kernel_rfl
theorem s_product : P_product = sat E (symTop Tryz.prog tab5 2000 51 ash_product sh_product) := by kernel_rfl
theorem pure_product (hV : Valid Tryz.prog tab5 E) (h : P_product) (args : List Value) (ha : shaFits ash_product args) (hp : E.pre 51 (args.map vints)) : Pure Tryz.prog 51 args.toArray fun v => sh_product.fits v ∧ E.post 51 (args.map vints) (vres v) := @top_sat Tryz.prog tab5 E hV 2000 51 ash_product sh_product (@Eq.mp _ _ s_product h) args ha hp
theorem step_product (hV : Valid Tryz.prog tab5 E) (h : P_product) : Valid Tryz.prog tab6 E := hV.add c_product (pure_product hV h)

/-- gouache/gouacheref01.Read -/
def P_read : Prop :=
  (∀ n : Int, (-9223372036854775808) ≤ n → n ≤ 9223372036854775807 →
  (∀ n1 : Int, 0 ≤ n1 → n1 ≤ 18446744073709551615 →
  (Pre_read [[n, n1]] →
  (∀ b : Nat, (∀ b1 : Nat, (∀ b2 : Nat, (∀ n2 : Int, n2 = (n1 % 65536) → 0 ≤ n2 → n2 ≤ 65535 →
  (∀ n3 : Int, n3 = ((IntKind.wrap .u64 n) % 65536) → 0 ≤ n3 → n3 ≤ 65535 →
  (∀ n4 : Int, n4 = ((n1 / 65536) % 65536) → 0 ≤ n4 → n4 ≤ 65535 →
  (∀ n5 : Int, n5 = (((IntKind.wrap .u64 n) / 65536) % 65536) → 0 ≤ n5 → n5 ≤ 65535 →
  (∀ n6 : Int, n6 = ((n1 / 4294967296) % 65536) → 0 ≤ n6 → n6 ≤ 65535 →
  (∀ n7 : Int, n7 = (((IntKind.wrap .u64 n) / 4294967296) % 65536) → 0 ≤ n7 → n7 ≤ 65535 →
  (∀ n8 : Int, n8 = (n1 / 281474976710656) → 0 ≤ n8 → n8 ≤ 65535 →
  (∀ n9 : Int, n9 = ((IntKind.wrap .u64 n) / 281474976710656) → 0 ≤ n9 → n9 ≤ 65535 →
  (((n < 0) →
    (Pre_less [[0, 0, 0, 0, 0, 0, 0, 0, 1, 0, 0, 0], [n2, n4, n6, n8, n3, n5, n7, n9, 0, 0, 0, 0]] ∧
    (∀ n10 : Int, 0 ≤ n10 → n10 ≤ 65535 →
    (∀ n11 : Int, 0 ≤ n11 → n11 ≤ 65535 →
    (∀ n12 : Int, 0 ≤ n12 → n12 ≤ 65535 →
    (∀ n13 : Int, 0 ≤ n13 → n13 ≤ 65535 →
    (∀ n14 : Int, 0 ≤ n14 → n14 ≤ 65535 →
    (∀ n15 : Int, 0 ≤ n15 → n15 ≤ 65535 →
    (∀ n16 : Int, 0 ≤ n16 → n16 ≤ 65535 →
    (∀ n17 : Int, 0 ≤ n17 → n17 ≤ 65535 →
    (∀ n18 : Int, 0 ≤ n18 → n18 ≤ 65535 →
    (∀ n19 : Int, 0 ≤ n19 → n19 ≤ 65535 →
    (∀ n20 : Int, 0 ≤ n20 → n20 ≤ 65535 →
    (∀ n21 : Int, 0 ≤ n21 → n21 ≤ 65535 →
    (Post_less [[0, 0, 0, 0, 0, 0, 0, 0, 1, 0, 0, 0], [n2, n4, n6, n8, n3, n5, n7, n9, 0, 0, 0, 0]] [[n10, n11, n12, n13, n14, n15, n16, n17, n18, n19, n20, n21]] →
    Post_read [[n, n1]] [[b2i true, n10, n11, n12, n13, n14, n15, n16, n17, n18, n19, n20, n21]]))))))))))))))) ∧
   (¬ (n < 0) →
    Post_read [[n, n1]] [[b2i false, n2, n4, n6, n8, n3, n5, n7, n9, 0, 0, 0, 0]]))))))))))))))))
theorem c_read : canCall Tryz.prog 65 = true := by kernel_rfl
theorem s_read : P_read = sat E (symTop Tryz.prog tab6 2000 65 ash_read sh_read) := by kernel_rfl
theorem pure_read (hV : Valid Tryz.prog tab6 E) (h : P_read) (args : List Value) (ha : shaFits ash_read args) (hp : E.pre 65 (args.map vints)) : Pure Tryz.prog 65 args.toArray fun v => sh_read.fits v ∧ E.post 65 (args.map vints) (vres v) := @top_sat Tryz.prog tab6 E hV 2000 65 ash_read sh_read (@Eq.mp _ _ s_read h) args ha hp
theorem step_read (hV : Valid Tryz.prog tab6 E) (h : P_read) : Valid Tryz.prog tab7 E := hV.add c_read (pure_read hV h)

/-- gouache/gouacheref01.Minus -/
def P_minus : Prop :=
  (∀ t : Bool, (∀ n : Int, 0 ≤ n → n ≤ 65535 →
  (∀ n1 : Int, 0 ≤ n1 → n1 ≤ 65535 →
  (∀ n2 : Int, 0 ≤ n2 → n2 ≤ 65535 →
  (∀ n3 : Int, 0 ≤ n3 → n3 ≤ 65535 →
  (∀ n4 : Int, 0 ≤ n4 → n4 ≤ 65535 →
  (∀ n5 : Int, 0 ≤ n5 → n5 ≤ 65535 →
  (∀ n6 : Int, 0 ≤ n6 → n6 ≤ 65535 →
  (∀ n7 : Int, 0 ≤ n7 → n7 ≤ 65535 →
  (∀ n8 : Int, 0 ≤ n8 → n8 ≤ 65535 →
  (∀ n9 : Int, 0 ≤ n9 → n9 ≤ 65535 →
  (∀ n10 : Int, 0 ≤ n10 → n10 ≤ 65535 →
  (∀ n11 : Int, 0 ≤ n11 → n11 ≤ 65535 →
  (Pre_minus [[b2i t, n, n1, n2, n3, n4, n5, n6, n7, n8, n9, n10, n11]] →
  (∀ b : Nat, (∀ b1 : Nat, Post_minus [[b2i t, n, n1, n2, n3, n4, n5, n6, n7, n8, n9, n10, n11]] [[b2i (!t), n, n1, n2, n3, n4, n5, n6, n7, n8, n9, n10, n11]]))))))))))))))))
theorem c_minus : canCall Tryz.prog 78 = true := by kernel_rfl
theorem s_minus : P_minus = sat E (symTop Tryz.prog tab7 2000 78 ash_minus sh_minus) := by kernel_rfl
theorem pure_minus (hV : Valid Tryz.prog tab7 E) (h : P_minus) (args : List Value) (ha : shaFits ash_minus args) (hp : E.pre 78 (args.map vints)) : Pure Tryz.prog 78 args.toArray fun v => sh_minus.fits v ∧ E.post 78 (args.map vints) (vres v) := @top_sat Tryz.prog tab7 E hV 2000 78 ash_minus sh_minus (@Eq.mp _ _ s_minus h) args ha hp
theorem step_minus (hV : Valid Tryz.prog tab7 E) (h : P_minus) : Valid Tryz.prog tab8 E := hV.add c_minus (pure_minus hV h)

/-- gouache/gouacheref01.Sum -/
def P_sum : Prop :=
  (∀ t : Bool, (∀ n : Int, 0 ≤ n → n ≤ 65535 →
  (∀ n1 : Int, 0 ≤ n1 → n1 ≤ 65535 →
  (∀ n2 : Int, 0 ≤ n2 → n2 ≤ 65535 →
  (∀ n3 : Int, 0 ≤ n3 → n3 ≤ 65535 →
  (∀ n4 : Int, 0 ≤ n4 → n4 ≤ 65535 →
  (∀ n5 : Int, 0 ≤ n5 → n5 ≤ 65535 →
  (∀ n6 : Int, 0 ≤ n6 → n6 ≤ 65535 →
  (∀ n7 : Int, 0 ≤ n7 → n7 ≤ 65535 →
  (∀ n8 : Int, 0 ≤ n8 → n8 ≤ 65535 →
  (∀ n9 : Int, 0 ≤ n9 → n9 ≤ 65535 →
  (∀ n10 : Int, 0 ≤ n10 → n10 ≤ 65535 →
  (∀ n11 : Int, 0 ≤ n11 → n11 ≤ 65535 →
  (∀ t1 : Bool, (∀ n12 : Int, 0 ≤ n12 → n12 ≤ 65535 →
  (∀ n13 : Int, 0 ≤ n13 → n13 ≤ 65535 →
  (∀ n14 : Int, 0 ≤ n14 → n14 ≤ 65535 →
  (∀ n15 : Int, 0 ≤ n15 → n15 ≤ 65535 →
  (∀ n16 : Int, 0 ≤ n16 → n16 ≤ 65535 →
  (∀ n17 : Int, 0 ≤ n17 → n17 ≤ 65535 →
  (∀ n18 : Int, 0 ≤ n18 → n18 ≤ 65535 →
  (∀ n19 : Int, 0 ≤ n19 → n19 ≤ 65535 →
  (∀ n20 : Int, 0 ≤ n20 → n20 ≤ 65535 →
  (∀ n21 : Int, 0 ≤ n21 → n21 ≤ 65535 →
  (∀ n22 : Int, 0 ≤ n22 → n22 ≤ 65535 →
  (∀ n23 : Int, 0 ≤ n23 → n23 ≤ 65535 →
  (Pre_sum [[b2i t, n, n1, n2, n3, n4, n5, n6, n7, n8, n9, n10, n11], [b2i t1, n12, n13, n14, n15, n16, n17, n18, n19, n20, n21, n22, n23]] →
  (∀ b : Nat, (∀ b1 : Nat, (∀ b2 : Nat, ((((t = true) ↔ (t1 = true)) →
    (Pre_plus [[n, n1, n2, n3, n4, n5, n6, n7, n8, n9, n10, n11], [n12, n13, n14, n15, n16, n17, n18, n19, n20, n21, n22, n23]] ∧
    (∀ n24 : Int, 0 ≤ n24 → n24 ≤ 65535 →
    (∀ n25 : Int, 0 ≤ n25 → n25 ≤ 65535 →
    (∀ n26 : Int, 0 ≤ n26 → n26 ≤ 65535 →
    (∀ n27 : Int, 0 ≤ n27 → n27 ≤ 65535 →
    (∀ n28 : Int, 0 ≤ n28 → n28 ≤ 65535 →
    (∀ n29 : Int, 0 ≤ n29 → n29 ≤ 65535 →
    (∀ n30 : Int, 0 ≤ n30 → n30 ≤ 65535 →
    (∀ n31 : Int, 0 ≤ n31 → n31 ≤ 65535 →
    (∀ n32 : Int, 0 ≤ n32 → n32 ≤ 65535 →
    (∀ n33 : Int, 0 ≤ n33 → n33 ≤ 65535 →
    (∀ n34 : Int, 0 ≤ n34 → n34 ≤ 65535 →
    (∀ n35 : Int, 0 ≤ n35 → n35 ≤ 65535 →
    (Post_plus [[n, n1, n2, n3, n4, n5, n6, n7, n8, n9, n10, n11], [n12, n13, n14, n15, n16, n17, n18, n19, n20, n21, n22, n23]] [[n24, n25, n26, n27, n28, n29, n30, n31, n32, n33, n34, n35]] →
    Post_sum [[b2i t, n, n1, n2, n3, n4, n5, n6, n7, n8, n9, n10, n11], [b2i t1, n12, n13, n14, n15, n16, n17, n18, n19, n20, n21, n22, n23]] [[b2i t, n24, n25, n26, n27, n28, n29, n30, n31, n32, n33, n34, n35]]))))))))))))))) ∧
   (¬ ((t = true) ↔ (t1 = true)) →
    (Pre_compare [[n, n1, n2, n3, n4, n5, n6, n7, n8, n9, n10, n11], [n12, n13, n14, n15, n16, n17, n18, n19, n20, n21, n22, n23]] ∧
    (∀ n24 : Int, (-1) ≤ n24 → n24 ≤ 1 →
    (Post_compare [[n, n1, n2, n3, n4, n5, n6, n7, n8, n9, n10, n11], [n12, n13, n14, n15, n16, n17, n18, n19, n20, n21, n22, n23]] [[n24]] →
    (((n24 < 0) →
      (Pre_less [[n12, n13, n14, n15, n16, n17, n18, n19, n20, n21, n22, n23], [n, n1, n2, n3, n4, n5, n6, n7, n8, n9, n10, n11]] ∧
      (∀ n25 : Int, 0 ≤ n25 → n25 ≤ 65535 →
      (∀ n26 : Int, 0 ≤ n26 → n26 ≤ 65535 →
      (∀ n27 : Int, 0 ≤ n27 → n27 ≤ 65535 →
      (∀ n28 : Int, 0 ≤ n28 → n28 ≤ 65535 →
      (∀ n29 : Int, 0 ≤ n29 → n29 ≤ 65535 →
      (∀ n30 : Int, 0 ≤ n30 → n30 ≤ 65535 →
      (∀ n31 : Int, 0 ≤ n31 → n31 ≤ 65535 →
      (∀ n32 : Int, 0 ≤ n32 → n32 ≤ 65535 →
      (∀ n33 : Int, 0 ≤ n33 → n33 ≤ 65535 →
      (∀ n34 : Int, 0 ≤ n34 → n34 ≤ 65535 →
      (∀ n35 : Int, 0 ≤ n35 → n35 ≤ 65535 →
      (∀ n36 : Int, 0 ≤ n36 → n36 ≤ 65535 →
      (Post_less [[n12, n13, n14, n15, n16, n17, n18, n19, n20, n21, n22, n23], [n, n1, n2, n3, n4, n5, n6, n7, n8, n9, n10, n11]] [[n25, n26, n27, n28, n29, n30, n31, n32, n33, n34, n35, n36]] →
      Post_sum [[b2i t, n, n1, n2, n3, n4, n5, n6, n7, n8, n9, n10, n11], [b2i t1, n12, n13, n14, n15, n16, n17, n18, n19, n20, n21, n22, n23]] [[b2i t1, n25, n26, n27, n28, n29, n30, n31, n32, n33, n34, n35, n36]]))))))))))))))) ∧
     (¬ (n24 < 0) →
      (Pre_less [[n, n1, n2, n3, n4, n5, n6, n7, n8, n9, n10, n11], [n12, n13, n14, n15, n16, n17, n18, n19, n20, n21, n22, n23]] ∧
      (∀ n25 : Int, 0 ≤ n25 → n25 ≤ 65535 →
      (∀ n26 : Int, 0 ≤ n26 → n26 ≤ 65535 →
      (∀ n27 : Int, 0 ≤ n27 → n27 ≤ 65535 →
      (∀ n28 : Int, 0 ≤ n28 → n28 ≤ 65535 →
      (∀ n29 : Int, 0 ≤ n29 → n29 ≤ 65535 →
      (∀ n30 : Int, 0 ≤ n30 → n30 ≤ 65535 →
      (∀ n31 : Int, 0 ≤ n31 → n31 ≤ 65535 →
      (∀ n32 : Int, 0 ≤ n32 → n32 ≤ 65535 →
      (∀ n33 : Int, 0 ≤ n33 → n33 ≤ 65535 →
      (∀ n34 : Int, 0 ≤ n34 → n34 ≤ 65535 →
      (∀ n35 : Int, 0 ≤ n35 → n35 ≤ 65535 →
      (∀ n36 : Int, 0 ≤ n36 → n36 ≤ 65535 →
      (Post_less [[n, n1, n2, n3, n4, n5, n6, n7, n8, n9, n10, n11], [n12, n13, n14, n15, n16, n17, n18, n19, n20, n21, n22, n23]] [[n25, n26, n27, n28, n29, n30, n31, n32, n33, n34, n35, n36]] →
      Post_sum [[b2i t, n, n1, n2, n3, n4, n5, n6, n7, n8, n9, n10, n11], [b2i t1, n12, n13, n14, n15, n16, n17, n18, n19, n20, n21, n22, n23]] [[b2i t, n25, n26, n27, n28, n29, n30, n31, n32, n33, n34, n35, n36]])))))))))))))))))))))))))))))))))))))))))))))))))))
theorem c_sum : canCall Tryz.prog 31 = true := by kernel_rfl
theorem s_sum : P_sum = sat E (symTop Tryz.prog tab8 2000 31 ash_sum sh_sum) := by kernel_rfl
theorem pure_sum (hV : Valid Tryz.prog tab8 E) (h : P_sum) (args : List Value) (ha : shaFits ash_sum args) (hp : E.pre 31 (args.map vints)) : Pure Tryz.prog 31 args.toArray fun v => sh_sum.fits v ∧ E.post 31 (args.map vints) (vres v) := @top_sat Tryz.prog tab8 E hV 2000 31 ash_sum sh_sum (@Eq.mp _ _ s_sum h) args ha hp
theorem step_sum (hV : Valid Tryz.prog tab8 E) (h : P_sum) : Valid Tryz.prog tab9 E := hV.add c_sum (pure_sum hV h)

/-- cmp.Compare[int64] -/
def P_cmpi64 : Prop :=
  (∀ n : Int, (-9223372036854775808) ≤ n → n ≤ 9223372036854775807 →
  (∀ n1 : Int, (-9223372036854775808) ≤ n1 → n1 ≤ 9223372036854775807 →
  (Pre_cmpi64 [[n], [n1]] →
  (((¬ (n = n)) →
    (((¬ (n1 = n1)) →
      Post_cmpi64 [[n], [n1]] [[0]]) ∧
     (¬ (¬ (n1 = n1)) →
      Post_cmpi64 [[n], [n1]] [[(-1)]]))) ∧
   (¬ (¬ (n = n)) →
    (((¬ (n1 = n1)) →
      Post_cmpi64 [[n], [n1]] [[1]]) ∧
     (¬ (¬ (n1 = n1)) →
      (((n < n1) →
        Post_cmpi64 [[n], [n1]] [[(-1)]]) ∧
       (¬ (n < n1) →
        (((n1 < n) →
          Post_cmpi64 [[n], [n1]] [[1]]) ∧
         (¬ (n1 < n) →
          Post_cmpi64 [[n], [n1]] [[0]])))))))))))
theorem c_cmpi64 : canCall Tryz.prog 84 = true := by kernel_rfl
theorem s_cmpi64 : P_cmpi64 = sat E (symTop Tryz.prog tab9 2000 84 ash_cmpi64 sh_cmpi64) := by kernel_rfl
theorem pure_cmpi64 (hV : Valid Tryz.prog tab9 E) (h : P_cmpi64) (args : List Value) (ha : shaFits ash_cmpi64 args) (hp : E.pre 84 (args.map vints)) : Pure Tryz.prog 84 args.toArray fun v => sh_cmpi64.fits v ∧ E.post 84 (args.map vints) (vres v) := @top_sat Tryz.prog tab9 E hV 2000 84 ash_cmpi64 sh_cmpi64 (@Eq.mp _ _ s_cmpi64 h) args ha hp
theorem step_cmpi64 (hV : Valid Tryz.prog tab9 E) (h : P_cmpi64) : Valid Tryz.prog tab10 E := hV.add c_cmpi64 (pure_cmpi64 hV h)

/-- cmp.Compare[uint64] -/
def P_cmpu64 : Prop :=
  (∀ n : Int, 0 ≤ n → n ≤ 18446744073709551615 →
  (∀ n1 : Int, 0 ≤ n1 → n1 ≤ 18446744073709551615 →
  (Pre_cmpu64 [[n], [n1]] →
  (((¬ (n = n)) →
    (((¬ (n1 = n1)) →
      Post_cmpu64 [[n], [n1]] [[0]]) ∧
     (¬ (¬ (n1 = n1)) →
      Post_cmpu64 [[n], [n1]] [[(-1)]]))) ∧
   (¬ (¬ (n = n)) →
    (((¬ (n1 = n1)) →
      Post_cmpu64 [[n], [n1]] [[1]]) ∧
     (¬ (¬ (n1 = n1)) →
      (((n < n1) →
        Post_cmpu64 [[n], [n1]] [[(-1)]]) ∧
       (¬ (n < n1) →
        (((n1 < n) →
          Post_cmpu64 [[n], [n1]] [[1]]) ∧
         (¬ (n1 < n) →
          Post_cmpu64 [[n], [n1]] [[0]])))))))))))
theorem c_cmpu64 : canCall Tryz.prog 85 = true := by kernel_rfl
theorem s_cmpu64 : P_cmpu64 = sat E (symTop Tryz.prog tab10 2000 85 ash_cmpu64 sh_cmpu64) := by kernel_rfl
theorem pure_cmpu64 (hV : Valid Tryz.prog tab10 E) (h : P_cmpu64) (args : List Value) (ha : shaFits ash_cmpu64 args) (hp : E.pre 85 (args.map vints)) : Pure Tryz.prog 85 args.toArray fun v => sh_cmpu64.fits v ∧ E.post 85 (args.map vints) (vres v) := @top_sat Tryz.prog tab10 E hV 2000 85 ash_cmpu64 sh_cmpu64 (@Eq.mp _ _ s_cmpu64 h) args ha hp
theorem step_cmpu64 (hV : Valid Tryz.prog tab10 E) (h : P_cmpu64) : Valid Tryz.prog tab11 E := hV.add c_cmpu64 (pure_cmpu64 hV h)

/-- gouache/wides.Cmp -/
def P_wcmp : Prop :=
  (∀ n : Int, (-9223372036854775808) ≤ n → n ≤ 9223372036854775807 →
  (∀ n1 : Int, 0 ≤ n1 → n1 ≤ 18446744073709551615 →
  (∀ n2 : Int, (-9223372036854775808) ≤ n2 → n2 ≤ 9223372036854775807 →
  (∀ n3 : Int, 0 ≤ n3 → n3 ≤ 18446744073709551615 →
  (Pre_wcmp [[n, n1], [n2, n3]] →
  (∀ b : Nat, (∀ b1 : Nat, (Pre_cmpi64 [[n], [n2]] ∧
  (∀ n4 : Int, (-1) ≤ n4 → n4 ≤ 1 →
  (Post_cmpi64 [[n], [n2]] [[n4]] →
  (Pre_cmpu64 [[n1], [n3]] ∧
  (∀ n5 : Int, (-1) ≤ n5 → n5 ≤ 1 →
  (Post_cmpu64 [[n1], [n3]] [[n5]] →
  (∀ b2 : Nat, (((¬ (n4 = 0)) →
    Post_wcmp [[n, n1], [n2, n3]] [[n4]]) ∧
   (¬ (¬ (n4 = 0)) →
    (((¬ (n5 = 0)) →
      Post_wcmp [[n, n1], [n2, n3]] [[n5]]) ∧
     (¬ (¬ (n5 = 0)) →
      Post_wcmp [[n, n1], [n2, n3]] [[0]]))))))))))))))))))
theorem c_wcmp : canCall Tryz.prog 76 = true := by kernel_rfl
theorem s_wcmp : P_wcmp = sat E (symTop Tryz.prog tab11 2000 76 ash_wcmp sh_wcmp) := by kernel_rfl
theorem pure_wcmp (hV : Valid Tryz.prog tab11 E) (h : P_wcmp) (args : List Value) (ha : shaFits ash_wcmp args) (hp : E.pre 76 (args.map vints)) : Pure Tryz.prog 76 args.toArray fun v => sh_wcmp.fits v ∧ E.post 76 (args.map vints) (vres v) := @top_sat Tryz.prog tab11 E hV 2000 76 ash_wcmp sh_wcmp (@Eq.mp _ _ s_wcmp h) args ha hp
theorem step_wcmp (hV : Valid Tryz.prog tab11 E) (h : P_wcmp) : Valid Tryz.prog tab12 E := hV.add c_wcmp (pure_wcmp hV h)

/-- gouache/wides.Of -/
def P_wof : Prop :=
  (∀ n : Int, (-9223372036854775808) ≤ n → n ≤ 9223372036854775807 →
  (Pre_wof [[n]] →
  (∀ b : Nat, (∀ n1 : Int, n1 = (n / 9223372036854775808) → (-1) ≤ n1 → n1 ≤ 0 →
  (∀ n2 : Int, n2 = (IntKind.wrap .u64 n) → 0 ≤ n2 → n2 ≤ 18446744073709551615 →
  Post_wof [[n]] [[n1, n2]])))))
theorem c_wof : canCall Tryz.prog 44 = true := by kernel_rfl
theorem s_wof : P_wof = sat E (symTop Tryz.prog tab12 2000 44 ash_wof sh_wof) := by kernel_rfl
theorem pure_wof (hV : Valid Tryz.prog tab12 E) (h : P_wof) (args : List Value) (ha : shaFits ash_wof args) (hp : E.pre 44 (args.map vints)) : Pure Tryz.prog 44 args.toArray fun v => sh_wof.fits v ∧ E.post 44 (args.map vints) (vres v) := @top_sat Tryz.prog tab12 E hV 2000 44 ash_wof sh_wof (@Eq.mp _ _ s_wof h) args ha hp
theorem step_wof (hV : Valid Tryz.prog tab12 E) (h : P_wof) : Valid Tryz.prog tab13 E := hV.add c_wof (pure_wof hV h)

/-- math/bits.LeadingZeros64 -/
def P_lz64 : Prop :=
  (∀ n : Int, 0 ≤ n → n ≤ 18446744073709551615 →
  (Pre_lz64 [[n]] →
  (Pre_len64 [[n]] ∧
  (∀ n1 : Int, 0 ≤ n1 → n1 ≤ 64 →
  (Post_len64 [[n]] [[n1]] →
  (∀ n2 : Int, n2 = (64 - n1) → 0 ≤ n2 → n2 ≤ 64 →
  Post_lz64 [[n]] [[n2]]))))))
theorem c_lz64 : canCall Tryz.prog 89 = true := by kernel_rfl
theorem s_lz64 : P_lz64 = sat E (symTop Tryz.prog tab13 2000 89 ash_lz64 sh_lz64) := by kernel_rfl
theorem pure_lz64 (hV : Valid Tryz.prog tab13 E) (h : P_lz64) (args : List Value) (ha : shaFits ash_lz64 args) (hp : E.pre 89 (args.map vints)) : Pure Tryz.prog 89 args.toArray fun v => sh_lz64.fits v ∧ E.post 89 (args.map vints) (vres v) := @top_sat Tryz.prog tab13 E hV 2000 89 ash_lz64 sh_lz64 (@Eq.mp _ _ s_lz64 h) args ha hp
theorem step_lz64 (hV : Valid Tryz.prog tab13 E) (h : P_lz64) : Valid Tryz.prog tab14 E := hV.add c_lz64 (pure_lz64 hV h)

/-- math/bits.Div64 -/
def P_div64 : Prop :=
  (∀ n : Int, 0 ≤ n → n ≤ 18446744073709551615 →
  (∀ n1 : Int, 0 ≤ n1 → n1 ≤ 18446744073709551615 →
  (∀ n2 : Int, 0 ≤ n2 → n2 ≤ 18446744073709551615 →
  (Pre_div64 [[n], [n1], [n2]] →
  (((n2 = 0) →
    False /- op -/) ∧
   (¬ (n2 = 0) →
    (((n2 ≤ n) →
      False /- op -/) ∧
     (¬ (n2 ≤ n) →
      (((n = 0) →
        ((1 ≤ n2) ∧
        (∀ n3 : Int, n3 = n2 → 1 ≤ n3 → n3 ≤ 18446744073709551615 →
        ((1 ≤ n2) ∧
        (∀ n4 : Int, n4 = n2 → 1 ≤ n4 → n4 ≤ 18446744073709551615 →
        (∀ n5 : Int, n5 = (IntKind.wrap .u64 (n1.tdiv n3)) → 0 ≤ n5 → n5 ≤ 18446744073709551615 →
        (∀ n6 : Int, n6 = (n1.tmod n4) → 0 ≤ n6 → n6 ≤ 18446744073709551615 →
        Post_div64 [[n], [n1], [n2]] [[n5], [n6]]))))))) ∧
       (¬ (n = 0) →
        (Pre_lz64 [[n2]] ∧
        (∀ n3 : Int, 0 ≤ n3 → n3 ≤ 64 →
        (Post_lz64 [[n2]] [[n3]] →
        (∀ n4 : Int, n4 = (shI .shl .u64 n2 n3) → 0 ≤ n4 → n4 ≤ 18446744073709551615 →
        (∀ n5 : Int, n5 = (n4 / 4294967296) → 0 ≤ n5 → n5 ≤ 4294967295 →
        (∀ n6 : Int, n6 = (n4 % 4294967296) → 0 ≤ n6 → n6 ≤ 4294967295 →
        (∀ n7 : Int, n7 = (bitsI .or .u64 (shI .shl .u64 n n3) (shI .shr .u64 n1 (64 - n3))) → 0 ≤ n7 → n7 ≤ 18446744073709551615 →
        (∀ n8 : Int, n8 = (shI .shl .u64 n1 n3) → 0 ≤ n8 → n8 ≤ 18446744073709551615 →
        (∀ n9 : Int, n9 = (n8 / 4294967296) → 0 ≤ n9 → n9 ≤ 4294967295 →
        (∀ n10 : Int, n10 = (n8 % 4294967296) → 0 ≤ n10 → n10 ≤ 4294967295 →
        ((1 ≤ n5) ∧
        (∀ n11 : Int, n11 = n5 → 1 ≤ n11 → n11 ≤ 4294967295 →
        (∀ n12 : Int, n12 = (IntKind.wrap .u64 (n7.tdiv n11)) → 0 ≤ n12 → n12 ≤ 18446744073709551615 →
        (∀ n13 : Int, n13 = (IntKind.wrap .u64 (n7 - (IntKind.wrap .u64 (n12 * n5)))) → 0 ≤ n13 → n13 ≤ 18446744073709551615 →
        (Inv_dv1 [n7, n5, n6, n9] [n12, n13] ∧
        (∀ n14 : Int, 0 ≤ n14 → n14 ≤ 18446744073709551615 →
        (∀ n15 : Int, 0 ≤ n15 → n15 ≤ 18446744073709551615 →
        (Inv_dv1 [n7, n5, n6, n9] [n14, n15] →
        (∀ vs : List Value, vs.length = 21 →
        (((4294967296 ≤ n14) →
          (∀ n16 : Int, n16 = (IntKind.wrap .u64 (n14 - 1)) → 0 ≤ n16 → n16 ≤ 18446744073709551615 →
          (∀ n17 : Int, n17 = (IntKind.wrap .u64 (n15 + n5)) → 0 ≤ n17 → n17 ≤ 18446744073709551615 →
          (((4294967296 ≤ n17) →
            (∀ n18 : Int, n18 = (IntKind.wrap .u64 ((IntKind.wrap .u64 ((IntKind.wrap .u64 (n7 * 4294967296)) + n9)) - (IntKind.wrap .u64 (n16 * n4)))) → 0 ≤ n18 → n18 ≤ 18446744073709551615 →
            ((1 ≤ n5) ∧
            (∀ n19 : Int, n19 = n5 → 1 ≤ n19 → n19 ≤ 4294967295 →
            (∀ n20 : Int, n20 = (IntKind.wrap .u64 (n18.tdiv n19)) → 0 ≤ n20 → n20 ≤ 18446744073709551615 →
            (∀ n21 : Int, n21 = (IntKind.wrap .u64 (n18 - (IntKind.wrap .u64 (n20 * n5)))) → 0 ≤ n21 → n21 ≤ 18446744073709551615 →
            (Inv_dv2 [n18, n5, n6, n10] [n20, n21] ∧
            (∀ n22 : Int, 0 ≤ n22 → n22 ≤ 18446744073709551615 →
            (∀ n23 : Int, 0 ≤ n23 → n23 ≤ 18446744073709551615 →
            (Inv_dv2 [n18, n5, n6, n10] [n22, n23] →
            (∀ vs1 : List Value, vs1.length = 21 →
            (((4294967296 ≤ n22) →
              (∀ n24 : Int, n24 = (IntKind.wrap .u64 (n22 - 1)) → 0 ≤ n24 → n24 ≤ 18446744073709551615 →
              (∀ n25 : Int, n25 = (IntKind.wrap .u64 (n23 + n5)) → 0 ≤ n25 → n25 ≤ 18446744073709551615 →
              (((4294967296 ≤ n25) →
                (∀ n26 : Int, n26 = (IntKind.wrap .u64 ((IntKind.wrap .u64 (n16 * 4294967296)) + n24)) → 0 ≤ n26 → n26 ≤ 18446744073709551615 →
                (∀ n27 : Int, n27 = (shI .shr .u64 (IntKind.wrap .u64 ((IntKind.wrap .u64 ((IntKind.wrap .u64 (n18 * 4294967296)) + n10)) - (IntKind.wrap .u64 (n24 * n4)))) n3) → 0 ≤ n27 → n27 ≤ 18446744073709551615 →
                Post_div64 [[n], [n1], [n2]] [[n26], [n27]]))) ∧
               (¬ (4294967296 ≤ n25) →
                (Inv_dv2 [n18, n5, n6, n10] [n24, n25] ∧ Mea_dv2 [n18, n5, n6, n10] [n24, n25] < Mea_dv2 [n18, n5, n6, n10] [n22, n23])))))) ∧
             (¬ (4294967296 ≤ n22) →
              ((((IntKind.wrap .u64 ((IntKind.wrap .u64 (4294967296 * n23)) + n10)) < (IntKind.wrap .u64 (n22 * n6))) →
                (∀ n24 : Int, n24 = (IntKind.wrap .u64 (n22 - 1)) → 0 ≤ n24 → n24 ≤ 18446744073709551615 →
                (∀ n25 : Int, n25 = (IntKind.wrap .u64 (n23 + n5)) → 0 ≤ n25 → n25 ≤ 18446744073709551615 →
                (((4294967296 ≤ n25) →
                  (∀ n26 : Int, n26 = (IntKind.wrap .u64 ((IntKind.wrap .u64 (n16 * 4294967296)) + n24)) → 0 ≤ n26 → n26 ≤ 18446744073709551615 →
                  (∀ n27 : Int, n27 = (shI .shr .u64 (IntKind.wrap .u64 ((IntKind.wrap .u64 ((IntKind.wrap .u64 (n18 * 4294967296)) + n10)) - (IntKind.wrap .u64 (n24 * n4)))) n3) → 0 ≤ n27 → n27 ≤ 18446744073709551615 →
                  Post_div64 [[n], [n1], [n2]] [[n26], [n27]]))) ∧
                 (¬ (4294967296 ≤ n25) →
                  (Inv_dv2 [n18, n5, n6, n10] [n24, n25] ∧ Mea_dv2 [n18, n5, n6, n10] [n24, n25] < Mea_dv2 [n18, n5, n6, n10] [n22, n23])))))) ∧
               (¬ ((IntKind.wrap .u64 ((IntKind.wrap .u64 (4294967296 * n23)) + n10)) < (IntKind.wrap .u64 (n22 * n6))) →
                (∀ n24 : Int, n24 = (IntKind.wrap .u64 ((IntKind.wrap .u64 (n16 * 4294967296)) + n22)) → 0 ≤ n24 → n24 ≤ 18446744073709551615 →
                (∀ n25 : Int, n25 = (shI .shr .u64 (IntKind.wrap .u64 ((IntKind.wrap .u64 ((IntKind.wrap .u64 (n18 * 4294967296)) + n10)) - (IntKind.wrap .u64 (n22 * n4)))) n3) → 0 ≤ n25 → n25 ≤ 18446744073709551615 →
                Post_div64 [[n], [n1], [n2]] [[n24], [n25]]))))))))))))))))) ∧
           (¬ (4294967296 ≤ n17) →
            (Inv_dv1 [n7, n5, n6, n9] [n16, n17] ∧ Mea_dv1 [n7, n5, n6, n9] [n16, n17] < Mea_dv1 [n7, n5, n6, n9] [n14, n15])))))) ∧
         (¬ (4294967296 ≤ n14) →
          ((((IntKind.wrap .u64 ((IntKind.wrap .u64 (4294967296 * n15)) + n9)) < (IntKind.wrap .u64 (n14 * n6))) →
            (∀ n16 : Int, n16 = (IntKind.wrap .u64 (n14 - 1)) → 0 ≤ n16 → n16 ≤ 18446744073709551615 →
            (∀ n17 : Int, n17 = (IntKind.wrap .u64 (n15 + n5)) → 0 ≤ n17 → n17 ≤ 18446744073709551615 →
            (((4294967296 ≤ n17) →
              (∀ n18 : Int, n18 = (IntKind.wrap .u64 ((IntKind.wrap .u64 ((IntKind.wrap .u64 (n7 * 4294967296)) + n9)) - (IntKind.wrap .u64 (n16 * n4)))) → 0 ≤ n18 → n18 ≤ 18446744073709551615 →
              ((1 ≤ n5) ∧
              (∀ n19 : Int, n19 = n5 → 1 ≤ n19 → n19 ≤ 4294967295 →
              (∀ n20 : Int, n20 = (IntKind.wrap .u64 (n18.tdiv n19)) → 0 ≤ n20 → n20 ≤ 18446744073709551615 →
              (∀ n21 : Int, n21 = (IntKind.wrap .u64 (n18 - (IntKind.wrap .u64 (n20 * n5)))) → 0 ≤ n21 → n21 ≤ 18446744073709551615 →
              (Inv_dv2 [n18, n5, n6, n10] [n20, n21] ∧
              (∀ n22 : Int, 0 ≤ n22 → n22 ≤ 18446744073709551615 →
              (∀ n23 : Int, 0 ≤ n23 → n23 ≤ 18446744073709551615 →
              (Inv_dv2 [n18, n5, n6, n10] [n22, n23] →
              (∀ vs1 : List Value, vs1.length = 21 →
              (((4294967296 ≤ n22) →
                (∀ n24 : Int, n24 = (IntKind.wrap .u64 (n22 - 1)) → 0 ≤ n24 → n24 ≤ 18446744073709551615 →
                (∀ n25 : Int, n25 = (IntKind.wrap .u64 (n23 + n5)) → 0 ≤ n25 → n25 ≤ 18446744073709551615 →
                (((4294967296 ≤ n25) →
                  (∀ n26 : Int, n26 = (IntKind.wrap .u64 ((IntKind.wrap .u64 (n16 * 4294967296)) + n24)) → 0 ≤ n26 → n26 ≤ 18446744073709551615 →
                  (∀ n27 : Int, n27 = (shI .shr .u64 (IntKind.wrap .u64 ((IntKind.wrap .u64 ((IntKind.wrap .u64 (n18 * 4294967296)) + n10)) - (IntKind.wrap .u64 (n24 * n4)))) n3) → 0 ≤ n27 → n27 ≤ 18446744073709551615 →
                  Post_div64 [[n], [n1], [n2]] [[n26], [n27]]))) ∧
                 (¬ (4294967296 ≤ n25) →
                  (Inv_dv2 [n18, n5, n6, n10] [n24, n25] ∧ Mea_dv2 [n18, n5, n6, n10] [n24, n25] < Mea_dv2 [n18, n5, n6, n10] [n22, n23])))))) ∧
               (¬ (4294967296 ≤ n22) →
                ((((IntKind.wrap .u64 ((IntKind.wrap .u64 (4294967296 * n23)) + n10)) < (IntKind.wrap .u64 (n22 * n6))) →
                  (∀ n24 : Int, n24 = (IntKind.wrap .u64 (n22 - 1)) → 0 ≤ n24 → n24 ≤ 18446744073709551615 →
                  (∀ n25 : Int, n25 = (IntKind.wrap .u64 (n23 + n5)) → 0 ≤ n25 → n25 ≤ 18446744073709551615 →
                  (((4294967296 ≤ n25) →
                    (∀ n26 : Int, n26 = (IntKind.wrap .u64 ((IntKind.wrap .u64 (n16 * 4294967296)) + n24)) → 0 ≤ n26 → n26 ≤ 18446744073709551615 →
                    (∀ n27 : Int, n27 = (shI .shr .u64 (IntKind.wrap .u64 ((IntKind.wrap .u64 ((IntKind.wrap .u64 (n18 * 4294967296)) + n10)) - (IntKind.wrap .u64 (n24 * n4)))) n3) → 0 ≤ n27 → n27 ≤ 18446744073709551615 →
                    Post_div64 [[n], [n1], [n2]] [[n26], [n27]]))) ∧
                   (¬ (4294967296 ≤ n25) →
                    (Inv_dv2 [n18, n5, n6, n10] [n24, n25] ∧ Mea_dv2 [n18, n5, n6, n10] [n24, n25] < Mea_dv2 [n18, n5, n6, n10] [n22, n23])))))) ∧
                 (¬ ((IntKind.wrap .u64 ((IntKind.wrap .u64 (4294967296 * n23)) + n10)) < (IntKind.wrap .u64 (n22 * n6))) →
                  (∀ n24 : Int, n24 = (IntKind.wrap .u64 ((IntKind.wrap .u64 (n16 * 4294967296)) + n22)) → 0 ≤ n24 → n24 ≤ 18446744073709551615 →
                  (∀ n25 : Int, n25 = (shI .shr .u64 (IntKind.wrap .u64 ((IntKind.wrap .u64 ((IntKind.wrap .u64 (n18 * 4294967296)) + n10)) - (IntKind.wrap .u64 (n22 * n4)))) n3) → 0 ≤ n25 → n25 ≤ 18446744073709551615 →
                  Post_div64 [[n], [n1], [n2]] [[n24], [n25]]))))))))))))))))) ∧
             (¬ (4294967296 ≤ n17) →
              (Inv_dv1 [n7, n5, n6, n9] [n16, n17] ∧ Mea_dv1 [n7, n5, n6, n9] [n16, n17] < Mea_dv1 [n7, n5, n6, n9] [n14, n15])))))) ∧
           (¬ ((IntKind.wrap .u64 ((IntKind.wrap .u64 (4294967296 * n15)) + n9)) < (IntKind.wrap .u64 (n14 * n6))) →
            (∀ n16 : Int, n16 = (IntKind.wrap .u64 ((IntKind.wrap .u64 ((IntKind.wrap .u64 (n7 * 4294967296)) + n9)) - (IntKind.wrap .u64 (n14 * n4)))) → 0 ≤ n16 → n16 ≤ 18446744073709551615 →
            ((1 ≤ n5) ∧
            (∀ n17 : Int, n17 = n5 → 1 ≤ n17 → n17 ≤ 4294967295 →
            (∀ n18 : Int, n18 = (IntKind.wrap .u64 (n16.tdiv n17)) → 0 ≤ n18 → n18 ≤ 18446744073709551615 →
            (∀ n19 : Int, n19 = (IntKind.wrap .u64 (n16 - (IntKind.wrap .u64 (n18 * n5)))) → 0 ≤ n19 → n19 ≤ 18446744073709551615 →
            (Inv_dv2 [n16, n5, n6, n10] [n18, n19] ∧
            (∀ n20 : Int, 0 ≤ n20 → n20 ≤ 18446744073709551615 →
            (∀ n21 : Int, 0 ≤ n21 → n21 ≤ 18446744073709551615 →
            (Inv_dv2 [n16, n5, n6, n10] [n20, n21] →
            (∀ vs1 : List Value, vs1.length = 21 →
            (((4294967296 ≤ n20) →
              (∀ n22 : Int, n22 = (IntKind.wrap .u64 (n20 - 1)) → 0 ≤ n22 → n22 ≤ 18446744073709551615 →
              (∀ n23 : Int, n23 = (IntKind.wrap .u64 (n21 + n5)) → 0 ≤ n23 → n23 ≤ 18446744073709551615 →
              (((4294967296 ≤ n23) →
                (∀ n24 : Int, n24 = (IntKind.wrap .u64 ((IntKind.wrap .u64 (n14 * 4294967296)) + n22)) → 0 ≤ n24 → n24 ≤ 18446744073709551615 →
                (∀ n25 : Int, n25 = (shI .shr .u64 (IntKind.wrap .u64 ((IntKind.wrap .u64 ((IntKind.wrap .u64 (n16 * 4294967296)) + n10)) - (IntKind.wrap .u64 (n22 * n4)))) n3) → 0 ≤ n25 → n25 ≤ 18446744073709551615 →
                Post_div64 [[n], [n1], [n2]] [[n24], [n25]]))) ∧
               (¬ (4294967296 ≤ n23) →
                (Inv_dv2 [n16, n5, n6, n10] [n22, n23] ∧ Mea_dv2 [n16, n5, n6, n10] [n22, n23] < Mea_dv2 [n16, n5, n6, n10] [n20, n21])))))) ∧
             (¬ (4294967296 ≤ n20) →
              ((((IntKind.wrap .u64 ((IntKind.wrap .u64 (4294967296 * n21)) + n10)) < (IntKind.wrap .u64 (n20 * n6))) →
                (∀ n22 : Int, n22 = (IntKind.wrap .u64 (n20 - 1)) → 0 ≤ n22 → n22 ≤ 18446744073709551615 →
                (∀ n23 : Int, n23 = (IntKind.wrap .u64 (n21 + n5)) → 0 ≤ n23 → n23 ≤ 18446744073709551615 →
                (((4294967296 ≤ n23) →
                  (∀ n24 : Int, n24 = (IntKind.wrap .u64 ((IntKind.wrap .u64 (n14 * 4294967296)) + n22)) → 0 ≤ n24 → n24 ≤ 18446744073709551615 →
                  (∀ n25 : Int, n25 = (shI .shr .u64 (IntKind.wrap .u64 ((IntKind.wrap .u64 ((IntKind.wrap .u64 (n16 * 4294967296)) + n10)) - (IntKind.wrap .u64 (n22 * n4)))) n3) → 0 ≤ n25 → n25 ≤ 18446744073709551615 →
                  Post_div64 [[n], [n1], [n2]] [[n24], [n25]]))) ∧
                 (¬ (4294967296 ≤ n23) →
                  (Inv_dv2 [n16, n5, n6, n10] [n22, n23] ∧ Mea_dv2 [n16, n5, n6, n10] [n22, n23] < Mea_dv2 [n16, n5, n6, n10] [n20, n21])))))) ∧
               (¬ ((IntKind.wrap .u64 ((IntKind.wrap .u64 (4294967296 * n21)) + n10)) < (IntKind.wrap .u64 (n20 * n6))) →
                (∀ n22 : Int, n22 = (IntKind.wrap .u64 ((IntKind.wrap .u64 (n14 * 4294967296)) + n20)) → 0 ≤ n22 → n22 ≤ 18446744073709551615 →
                (∀ n23 : Int, n23 = (shI .shr .u64 (IntKind.wrap .u64 ((IntKind.wrap .u64 ((IntKind.wrap .u64 (n16 * 4294967296)) + n10)) - (IntKind.wrap .u64 (n20 * n4)))) n3) → 0 ≤ n23 → n23 ≤ 18446744073709551615 →
                Post_div64 [[n], [n1], [n2]] [[n22], [n23]])))))))))))))))))))))))))))))))))))))))))))))))))
theorem c_div64 : canCall Tryz.prog 86 = true := by kernel_rfl
theorem s_div64 : P_div64 = sat E (symTop Tryz.prog tab14 2000 86 ash_div64 sh_div64) := by kernel_rfl
theorem pure_div64 (hV : Valid Tryz.prog tab14 E) (h : P_div64) (args : List Value) (ha : shaFits ash_div64 args) (hp : E.pre 86 (args.map vints)) : Pure Tryz.prog 86 args.toArray fun v => sh_div64.fits v ∧ E.post 86 (args.map vints) (vres v) := @top_sat Tryz.prog tab14 E hV 2000 86 ash_div64 sh_div64 (@Eq.mp _ _ s_div64 h) args ha hp
theorem step_div64 (hV : Valid Tryz.prog tab14 E) (h : P_div64) : Valid Tryz.prog tab15 E := hV.add c_div64 (pure_div64 hV h)

/-- (gouache/wides.words).turned -/
def P_turned : Prop :=
  (∀ n : Int, 0 ≤ n → n ≤ 18446744073709551615 →
  (∀ n1 : Int, 0 ≤ n1 → n1 ≤ 18446744073709551615 →
  (∀ n2 : Int, 0 ≤ n2 → n2 ≤ 18446744073709551615 →
  (Pre_turned [[n, n1, n2]] →
  (∀ b : Nat, (∀ b1 : Nat, (∀ n3 : Int, n3 = (((18446744073709551615 - n) + 1) % 18446744073709551616) → 0 ≤ n3 → n3 ≤ 18446744073709551615 →
  (∀ n4 : Int, n4 = (((18446744073709551615 - n) + 1) / 18446744073709551616) → 0 ≤ n4 → n4 ≤ 1 →
  (∀ n5 : Int, n5 = (((18446744073709551615 - n1) + n4) % 18446744073709551616) → 0 ≤ n5 → n5 ≤ 18446744073709551615 →
  (∀ n6 : Int, n6 = (((18446744073709551615 - n1) + n4) / 18446744073709551616) → 0 ≤ n6 → n6 ≤ 1 →
  Post_turned [[n, n1, n2]] [[n3, n5, 0]]))))))))))
theorem c_turned : canCall Tryz.prog 80 = true := by kernel_rfl
theorem s_turned : P_turned = sat E (symTop Tryz.prog tab15 2000 80 ash_turned sh_turned) := by kernel_rfl
theorem pure_turned (hV : Valid Tryz.prog tab15 E) (h : P_turned) (args : List Value) (ha : shaFits ash_turned args) (hp : E.pre 80 (args.map vints)) : Pure Tryz.prog 80 args.toArray fun v => sh_turned.fits v ∧ E.post 80 (args.map vints) (vres v) := @top_sat Tryz.prog tab15 E hV 2000 80 ash_turned sh_turned (@Eq.mp _ _ s_turned h) args ha hp
theorem step_turned (hV : Valid Tryz.prog tab15 E) (h : P_turned) : Valid Tryz.prog tab16 E := hV.add c_turned (pure_turned hV h)

/-- gouache/wides.part -/
def P_part : Prop :=
  (∀ n : Int, (-9223372036854775808) ≤ n → n ≤ 9223372036854775807 →
  (∀ n1 : Int, 0 ≤ n1 → n1 ≤ 18446744073709551615 →
  (Pre_part [[n, n1]] →
  (∀ b : Nat, (∀ b1 : Nat, (∀ b2 : Nat, (∀ n2 : Int, n2 = (IntKind.wrap .u64 n) → 0 ≤ n2 → n2 ≤ 18446744073709551615 →
  (((n < 0) →
    (Pre_turned [[n1, n2, 0]] ∧
    (∀ n3 : Int, 0 ≤ n3 → n3 ≤ 18446744073709551615 →
    (∀ n4 : Int, 0 ≤ n4 → n4 ≤ 18446744073709551615 →
    (∀ n5 : Int, 0 ≤ n5 → n5 ≤ 18446744073709551615 →
    (Post_turned [[n1, n2, 0]] [[n3, n4, n5]] →
    Post_part [[n, n1]] [[b2i (decide (n < 0)), n3, n4, n5]])))))) ∧
   (¬ (n < 0) →
    Post_part [[n, n1]] [[b2i (decide (n < 0)), n1, n2, 0]])))))))))
theorem c_part : canCall Tryz.prog 71 = true := by kernel_rfl
theorem s_part : P_part = sat E (symTop Tryz.prog tab16 2000 71 ash_part sh_part) := by kernel_rfl
theorem pure_part (hV : Valid Tryz.prog tab16 E) (h : P_part) (args : List Value) (ha : shaFits ash_part args) (hp : E.pre 71 (args.map vints)) : Pure Tryz.prog 71 args.toArray fun v => sh_part.fits v ∧ E.post 71 (args.map vints) (vres v) := @top_sat Tryz.prog tab16 E hV 2000 71 ash_part sh_part (@Eq.mp _ _ s_part h) args ha hp
theorem step_part (hV : Valid Tryz.prog tab16 E) (h : P_part) : Valid Tryz.prog tab17 E := hV.add c_part (pure_part hV h)

/-- (gouache/wides.parted).whole -/
def P_whole : Prop :=
  (∀ t : Bool, (∀ n : Int, 0 ≤ n → n ≤ 18446744073709551615 →
  (∀ n1 : Int, 0 ≤ n1 → n1 ≤ 18446744073709551615 →
  (∀ n2 : Int, 0 ≤ n2 → n2 ≤ 18446744073709551615 →
  (Pre_whole [[b2i t, n, n1, n2]] →
  (∀ b : Nat, (∀ b1 : Nat, (∀ b2 : Nat, (((¬ ((t = true) ∧ ((n = 0) ∧ ((n1 = 9223372036854775808) ∧ (n2 = 0))))) →
    (((0 < n2) →
      Post_whole [[b2i t, n, n1, n2]] [[0, 0], [11]]) ∧
     (¬ (0 < n2) →
      (((0 < (n1 / 9223372036854775808)) →
        Post_whole [[b2i t, n, n1, n2]] [[0, 0], [11]]) ∧
       (¬ (0 < (n1 / 9223372036854775808)) →
        (((t = true) →
          (Pre_turned [[n, n1, n2]] ∧
          (∀ n3 : Int, 0 ≤ n3 → n3 ≤ 18446744073709551615 →
          (∀ n4 : Int, 0 ≤ n4 → n4 ≤ 18446744073709551615 →
          (∀ n5 : Int, 0 ≤ n5 → n5 ≤ 18446744073709551615 →
          (Post_turned [[n, n1, n2]] [[n3, n4, n5]] →
          (∀ n6 : Int, n6 = (IntKind.wrap .i64 n4) → (-9223372036854775808) ≤ n6 → n6 ≤ 9223372036854775807 →
          Post_whole [[b2i t, n, n1, n2]] [[n6, n3], [0]]))))))) ∧
         (¬ (t = true) →
          (∀ n3 : Int, n3 = (IntKind.wrap .i64 n1) → (-9223372036854775808) ≤ n3 → n3 ≤ 9223372036854775807 →
          Post_whole [[b2i t, n, n1, n2]] [[n3, n], [0]])))))))) ∧
   (¬ (¬ ((t = true) ∧ ((n = 0) ∧ ((n1 = 9223372036854775808) ∧ (n2 = 0))))) →
    (((t = true) →
      (Pre_turned [[n, n1, n2]] ∧
      (∀ n3 : Int, 0 ≤ n3 → n3 ≤ 18446744073709551615 →
      (∀ n4 : Int, 0 ≤ n4 → n4 ≤ 18446744073709551615 →
      (∀ n5 : Int, 0 ≤ n5 → n5 ≤ 18446744073709551615 →
      (Post_turned [[n, n1, n2]] [[n3, n4, n5]] →
      (∀ n6 : Int, n6 = (IntKind.wrap .i64 n4) → (-9223372036854775808) ≤ n6 → n6 ≤ 9223372036854775807 →
      Post_whole [[b2i t, n, n1, n2]] [[n6, n3], [0]]))))))) ∧
     (¬ (t = true) →
      (∀ n3 : Int, n3 = (IntKind.wrap .i64 n1) → (-9223372036854775808) ≤ n3 → n3 ≤ 9223372036854775807 →
      Post_whole [[b2i t, n, n1, n2]] [[n3, n], [0]])))))))))))))
theorem c_whole : canCall Tryz.prog 74 = true := by kernel_rfl
theorem s_whole : P_whole = sat E (symTop Tryz.prog tab17 2000 74 ash_whole sh_whole) := by kernel_rfl
theorem pure_whole (hV : Valid Tryz.prog tab17 E) (h : P_whole) (args : List Value) (ha : shaFits ash_whole args) (hp : E.pre 74 (args.map vints)) : Pure Tryz.prog 74 args.toArray fun v => sh_whole.fits v ∧ E.post 74 (args.map vints) (vres v) := @top_sat Tryz.prog tab17 E hV 2000 74 ash_whole sh_whole (@Eq.mp _ _ s_whole h) args ha hp
theorem step_whole (hV : Valid Tryz.prog tab17 E) (h : P_whole) : Valid Tryz.prog tab18 E := hV.add c_whole (pure_whole hV h)

/-- (gouache/wides.words).times -/
def P_wtimes : Prop :=
  (∀ n : Int, 0 ≤ n → n ≤ 18446744073709551615 →
  (∀ n1 : Int, 0 ≤ n1 → n1 ≤ 18446744073709551615 →
  (∀ n2 : Int, 0 ≤ n2 → n2 ≤ 18446744073709551615 →
  (∀ n3 : Int, 0 ≤ n3 → n3 ≤ 18446744073709551615 →
  (Pre_wtimes [[n, n1, n2], [n3]] →
  (∀ b : Nat, (∀ b1 : Nat, (Pre_mul64 [[n], [n3]] ∧
  (∀ n4 : Int, 0 ≤ n4 → n4 ≤ 18446744073709551615 →
  (∀ n5 : Int, 0 ≤ n5 → n5 ≤ 18446744073709551615 →
  (Post_mul64 [[n], [n3]] [[n4], [n5]] →
  (Pre_mul64 [[n1], [n3]] ∧
  (∀ n6 : Int, 0 ≤ n6 → n6 ≤ 18446744073709551615 →
  (∀ n7 : Int, 0 ≤ n7 → n7 ≤ 18446744073709551615 →
  (Post_mul64 [[n1], [n3]] [[n6], [n7]] →
  (∀ n8 : Int, n8 = ((n7 + n4) % 18446744073709551616) → 0 ≤ n8 → n8 ≤ 18446744073709551615 →
  (∀ n9 : Int, n9 = ((n7 + n4) / 18446744073709551616) → 0 ≤ n9 → n9 ≤ 1 →
  (∀ n10 : Int, n10 = (IntKind.wrap .u64 (n6 + n9)) → 0 ≤ n10 → n10 ≤ 18446744073709551615 →
  (Pre_mul64 [[n2], [n3]] ∧
  (∀ n11 : Int, 0 ≤ n11 → n11 ≤ 18446744073709551615 →
  (∀ n12 : Int, 0 ≤ n12 → n12 ≤ 18446744073709551615 →
  (Post_mul64 [[n2], [n3]] [[n11], [n12]] →
  (∀ n13 : Int, n13 = ((n12 + n10) % 18446744073709551616) → 0 ≤ n13 → n13 ≤ 18446744073709551615 →
  (∀ n14 : Int, n14 = ((n12 + n10) / 18446744073709551616) → 0 ≤ n14 → n14 ≤ 1 →
  (∀ n15 : Int, n15 = (IntKind.wrap .u64 (n11 + n14)) → 0 ≤ n15 → n15 ≤ 18446744073709551615 →
  Post_wtimes [[n, n1, n2], [n3]] [[n5, n8, n13]])))))))))))))))))))))))))
theorem c_wtimes : canCall Tryz.prog 72 = true := by kernel_rfl
theorem s_wtimes : P_wtimes = sat E (symTop Tryz.prog tab18 2000 72 ash_wtimes sh_wtimes) := by kernel_rfl
theorem pure_wtimes (hV : Valid Tryz.prog tab18 E) (h : P_wtimes) (args : List Value) (ha : shaFits ash_wtimes args) (hp : E.pre 72 (args.map vints)) : Pure Tryz.prog 72 args.toArray fun v => sh_wtimes.fits v ∧ E.post 72 (args.map vints) (vres v) := @top_sat Tryz.prog tab18 E hV 2000 72 ash_wtimes sh_wtimes (@Eq.mp _ _ s_wtimes h) args ha hp
theorem step_wtimes (hV : Valid Tryz.prog tab18 E) (h : P_wtimes) : Valid Tryz.prog tab19 E := hV.add c_wtimes (pure_wtimes hV h)

/-- gouache/wides.size -/
def P_size : Prop :=
  (∀ n : Int, (-9223372036854775808) ≤ n → n ≤ 9223372036854775807 →
  (Pre_size [[n]] →
  (((n < 0) →
    (∀ n1 : Int, n1 = (IntKind.wrap .u64 (0 - (IntKind.wrap .u64 n))) → 0 ≤ n1 → n1 ≤ 18446744073709551615 →
    Post_size [[n]] [[n1]])) ∧
   (¬ (n < 0) →
    (∀ n1 : Int, n1 = (IntKind.wrap .u64 n) → 0 ≤ n1 → n1 ≤ 18446744073709551615 →
    Post_size [[n]] [[n1]])))))
theorem c_size : canCall Tryz.prog 73 = true := by kernel_rfl
theorem s_size : P_size = sat E (symTop Tryz.prog tab19 2000 73 ash_size sh_size) := by kernel_rfl
theorem pure_size (hV : Valid Tryz.prog tab19 E) (h : P_size) (args : List Value) (ha : shaFits ash_size args) (hp : E.pre 73 (args.map vints)) : Pure Tryz.prog 73 args.toArray fun v => sh_size.fits v ∧ E.post 73 (args.map vints) (vres v) := @top_sat Tryz.prog tab19 E hV 2000 73 ash_size sh_size (@Eq.mp _ _ s_size h) args ha hp
theorem step_size (hV : Valid Tryz.prog tab19 E) (h : P_size) : Valid Tryz.prog tab20 E := hV.add c_size (pure_size hV h)

/-- gouache/wides.Add -/
def P_wadd : Prop :=
  (∀ n : Int, (-9223372036854775808) ≤ n → n ≤ 9223372036854775807 →
  (∀ n1 : Int, 0 ≤ n1 → n1 ≤ 18446744073709551615 →
  (∀ n2 : Int, (-9223372036854775808) ≤ n2 → n2 ≤ 9223372036854775807 →
  (∀ n3 : Int, 0 ≤ n3 → n3 ≤ 18446744073709551615 →
  (Pre_wadd [[n, n1], [n2, n3]] →
  (∀ b : Nat, (∀ b1 : Nat, (∀ b2 : Nat, (∀ n4 : Int, n4 = ((n1 + n3) % 18446744073709551616) → 0 ≤ n4 → n4 ≤ 18446744073709551615 →
  (∀ n5 : Int, n5 = ((n1 + n3) / 18446744073709551616) → 0 ≤ n5 → n5 ≤ 1 →
  (∀ n6 : Int, n6 = (IntKind.wrap .i64 ((IntKind.wrap .i64 (n + n2)) + n5)) → (-9223372036854775808) ≤ n6 → n6 ≤ 9223372036854775807 →
  ((((n < 0) ↔ (n2 < 0)) →
    (((¬ ((n6 < 0) ↔ (n < 0))) →
      Post_wadd [[n, n1], [n2, n3]] [[0, 0], [11]]) ∧
     (¬ (¬ ((n6 < 0) ↔ (n < 0))) →
      Post_wadd [[n, n1], [n2, n3]] [[n6, n4], [0]]))) ∧
   (¬ ((n < 0) ↔ (n2 < 0)) →
    Post_wadd [[n, n1], [n2, n3]] [[n6, n4], [0]])))))))))))))
theorem c_wadd : canCall Tryz.prog 39 = true := by kernel_rfl
theorem s_wadd : P_wadd = sat E (symTop Tryz.prog tab20 2000 39 ash_wadd sh_wadd) := by kernel_rfl
theorem pure_wadd (hV : Valid Tryz.prog tab20 E) (h : P_wadd) (args : List Value) (ha : shaFits ash_wadd args) (hp : E.pre 39 (args.map vints)) : Pure Tryz.prog 39 args.toArray fun v => sh_wadd.fits v ∧ E.post 39 (args.map vints) (vres v) := @top_sat Tryz.prog tab20 E hV 2000 39 ash_wadd sh_wadd (@Eq.mp _ _ s_wadd h) args ha hp
theorem step_wadd (hV : Valid Tryz.prog tab20 E) (h : P_wadd) : Valid Tryz.prog tab21 E := hV.add c_wadd (pure_wadd hV h)

/-- gouache/wides.Sub -/
def P_wsub : Prop :=
  (∀ n : Int, (-9223372036854775808) ≤ n → n ≤ 9223372036854775807 →
  (∀ n1 : Int, 0 ≤ n1 → n1 ≤ 18446744073709551615 →
  (∀ n2 : Int, (-9223372036854775808) ≤ n2 → n2 ≤ 9223372036854775807 →
  (∀ n3 : Int, 0 ≤ n3 → n3 ≤ 18446744073709551615 →
  (Pre_wsub [[n, n1], [n2, n3]] →
  (∀ b : Nat, (∀ b1 : Nat, (∀ b2 : Nat, (∀ n4 : Int, n4 = ((n1 - n3) % 18446744073709551616) → 0 ≤ n4 → n4 ≤ 18446744073709551615 →
  (∀ n5 : Int, n5 = (0 - ((n1 - n3) / 18446744073709551616)) → 0 ≤ n5 → n5 ≤ 1 →
  (∀ n6 : Int, n6 = (IntKind.wrap .i64 ((IntKind.wrap .i64 (n - n2)) - n5)) → (-9223372036854775808) ≤ n6 → n6 ≤ 9223372036854775807 →
  (((¬ ((n < 0) ↔ (n2 < 0))) →
    (((¬ ((n6 < 0) ↔ (n < 0))) →
      Post_wsub [[n, n1], [n2, n3]] [[0, 0], [11]]) ∧
     (¬ (¬ ((n6 < 0) ↔ (n < 0))) →
      Post_wsub [[n, n1], [n2, n3]] [[n6, n4], [0]]))) ∧
   (¬ (¬ ((n < 0) ↔ (n2 < 0))) →
    Post_wsub [[n, n1], [n2, n3]] [[n6, n4], [0]])))))))))))))
theorem c_wsub : canCall Tryz.prog 75 = true := by kernel_rfl
theorem s_wsub : P_wsub = sat E (symTop Tryz.prog tab21 2000 75 ash_wsub sh_wsub) := by kernel_rfl
theorem pure_wsub (hV : Valid Tryz.prog tab21 E) (h : P_wsub) (args : List Value) (ha : shaFits ash_wsub args) (hp : E.pre 75 (args.map vints)) : Pure Tryz.prog 75 args.toArray fun v => sh_wsub.fits v ∧ E.post 75 (args.map vints) (vres v) := @top_sat Tryz.prog tab21 E hV 2000 75 ash_wsub sh_wsub (@Eq.mp _ _ s_wsub h) args ha hp
theorem step_wsub (hV : Valid Tryz.prog tab21 E) (h : P_wsub) : Valid Tryz.prog tab22 E := hV.add c_wsub (pure_wsub hV h)

/-- gouache/wides.Times -/
def P_wtms : Prop :=
  (∀ n : Int, (-9223372036854775808) ≤ n → n ≤ 9223372036854775807 →
  (∀ n1 : Int, 0 ≤ n1 → n1 ≤ 18446744073709551615 →
  (∀ n2 : Int, (-9223372036854775808) ≤ n2 → n2 ≤ 9223372036854775807 →
  (Pre_wtms [[n, n1], [n2]] →
  (∀ b : Nat, (∀ b1 : Nat, (Pre_part [[n, n1]] ∧
  (∀ t : Bool, (∀ n3 : Int, 0 ≤ n3 → n3 ≤ 18446744073709551615 →
  (∀ n4 : Int, 0 ≤ n4 → n4 ≤ 18446744073709551615 →
  (∀ n5 : Int, 0 ≤ n5 → n5 ≤ 18446744073709551615 →
  (Post_part [[n, n1]] [[b2i t, n3, n4, n5]] →
  (∀ b2 : Nat, (Pre_size [[n2]] ∧
  (∀ n6 : Int, 0 ≤ n6 → n6 ≤ 18446744073709551615 →
  (Post_size [[n2]] [[n6]] →
  (Pre_wtimes [[n3, n4, n5], [n6]] ∧
  (∀ n7 : Int, 0 ≤ n7 → n7 ≤ 18446744073709551615 →
  (∀ n8 : Int, 0 ≤ n8 → n8 ≤ 18446744073709551615 →
  (∀ n9 : Int, 0 ≤ n9 → n9 ≤ 18446744073709551615 →
  (Post_wtimes [[n3, n4, n5], [n6]] [[n7, n8, n9]] →
  (Pre_whole [[b2i (!(t == (decide (n2 < 0)))), n7, n8, n9]] ∧
  (∀ n10 : Int, (-9223372036854775808) ≤ n10 → n10 ≤ 9223372036854775807 →
  (∀ n11 : Int, 0 ≤ n11 → n11 ≤ 18446744073709551615 →
  (∀ n12 : Int, 0 ≤ n12 → n12 ≤ 11 →
  (Post_whole [[b2i (!(t == (decide (n2 < 0)))), n7, n8, n9]] [[n10, n11], [n12]] →
  Post_wtms [[n, n1], [n2]] [[n10, n11], [n12]]))))))))))))))))))))))))))
theorem c_wtms : canCall Tryz.prog 60 = true := by kernel_rfl
theorem s_wtms : P_wtms = sat E (symTop Tryz.prog tab22 2000 60 ash_wtms sh_wtms) := by kernel_rfl
theorem pure_wtms (hV : Valid Tryz.prog tab22 E) (h : P_wtms) (args : List Value) (ha : shaFits ash_wtms args) (hp : E.pre 60 (args.map vints)) : Pure Tryz.prog 60 args.toArray fun v => sh_wtms.fits v ∧ E.post 60 (args.map vints) (vres v) := @top_sat Tryz.prog tab22 E hV 2000 60 ash_wtms sh_wtms (@Eq.mp _ _ s_wtms h) args ha hp
theorem step_wtms (hV : Valid Tryz.prog tab22 E) (h : P_wtms) : Valid Tryz.prog tab23 E := hV.add c_wtms (pure_wtms hV h)

/-- gouache/wides.Mul -/
def P_wmul : Prop :=
  (∀ n : Int, (-9223372036854775808) ≤ n → n ≤ 9223372036854775807 →
  (∀ n1 : Int, (-9223372036854775808) ≤ n1 → n1 ≤ 9223372036854775807 →
  (Pre_wmul [[n], [n1]] →
  (∀ b : Nat, (Pre_wof [[n]] ∧
  (∀ n2 : Int, (-9223372036854775808) ≤ n2 → n2 ≤ 9223372036854775807 →
  (∀ n3 : Int, 0 ≤ n3 → n3 ≤ 18446744073709551615 →
  (Post_wof [[n]] [[n2, n3]] →
  (Pre_wtms [[n2, n3], [n1]] ∧
  (∀ n4 : Int, (-9223372036854775808) ≤ n4 → n4 ≤ 9223372036854775807 →
  (∀ n5 : Int, 0 ≤ n5 → n5 ≤ 18446744073709551615 →
  (∀ n6 : Int, 0 ≤ n6 → n6 ≤ 11 →
  (Post_wtms [[n2, n3], [n1]] [[n4, n5], [n6]] →
  (∀ b1 : Nat, Post_wmul [[n], [n1]] [[n4, n5]]))))))))))))))
theorem c_wmul : canCall Tryz.prog 40 = true := by kernel_rfl
theorem s_wmul : P_wmul = sat E (symTop Tryz.prog tab23 2000 40 ash_wmul sh_wmul) := by kernel_rfl
theorem pure_wmul (hV : Valid Tryz.prog tab23 E) (h : P_wmul) (args : List Value) (ha : shaFits ash_wmul args) (hp : E.pre 40 (args.map vints)) : Pure Tryz.prog 40 args.toArray fun v => sh_wmul.fits v ∧ E.post 40 (args.map vints) (vres v) := @top_sat Tryz.prog tab23 E hV 2000 40 ash_wmul sh_wmul (@Eq.mp _ _ s_wmul h) args ha hp
theorem step_wmul (hV : Valid Tryz.prog tab23 E) (h : P_wmul) : Valid Tryz.prog tab24 E := hV.add c_wmul (pure_wmul hV h)

/-- (gouache/wides.words).divided -/
def P_wdivided : Prop :=
  (∀ n : Int, 0 ≤ n → n ≤ 18446744073709551615 →
  (∀ n1 : Int, 0 ≤ n1 → n1 ≤ 18446744073709551615 →
  (∀ n2 : Int, 0 ≤ n2 → n2 ≤ 18446744073709551615 →
  (∀ n3 : Int, 0 ≤ n3 → n3 ≤ 18446744073709551615 →
  (Pre_wdivided [[n, n1, n2], [n3]] →
  (∀ b : Nat, (∀ b1 : Nat, (Pre_div64 [[0], [n1], [n3]] ∧
  (∀ n4 : Int, 0 ≤ n4 → n4 ≤ 18446744073709551615 →
  (∀ n5 : Int, 0 ≤ n5 → n5 ≤ 18446744073709551615 →
  (Post_div64 [[0], [n1], [n3]] [[n4], [n5]] →
  (Pre_div64 [[n5], [n], [n3]] ∧
  (∀ n6 : Int, 0 ≤ n6 → n6 ≤ 18446744073709551615 →
  (∀ n7 : Int, 0 ≤ n7 → n7 ≤ 18446744073709551615 →
  (Post_div64 [[n5], [n], [n3]] [[n6], [n7]] →
  Post_wdivided [[n, n1, n2], [n3]] [[n6, n4, 0], [n7]])))))))))))))))
theorem c_wdivided : canCall Tryz.prog 77 = true := by kernel_rfl
theorem s_wdivided : P_wdivided = sat E (symTop Tryz.prog tab24 2000 77 ash_wdivided sh_wdivided) := by kernel_rfl
theorem pure_wdivided (hV : Valid Tryz.prog tab24 E) (h : P_wdivided) (args : List Value) (ha : shaFits ash_wdivided args) (hp : E.pre 77 (args.map vints)) : Pure Tryz.prog 77 args.toArray fun v => sh_wdivided.fits v ∧ E.post 77 (args.map vints) (vres v) := @top_sat Tryz.prog tab24 E hV 2000 77 ash_wdivided sh_wdivided (@Eq.mp _ _ s_wdivided h) args ha hp
theorem step_wdivided (hV : Valid Tryz.prog tab24 E) (h : P_wdivided) : Valid Tryz.prog tab25 E := hV.add c_wdivided (pure_wdivided hV h)

/-- gouache/wides.Floor -/
def P_wfloor : Prop :=
  (∀ n : Int, (-9223372036854775808) ≤ n → n ≤ 9223372036854775807 →
  (∀ n1 : Int, 0 ≤ n1 → n1 ≤ 18446744073709551615 →
  (∀ n2 : Int, (-9223372036854775808) ≤ n2 → n2 ≤ 9223372036854775807 →
  (Pre_wfloor [[n, n1], [n2]] →
  (∀ b : Nat, (∀ b1 : Nat, (((n2 < 1) →
    Post_wfloor [[n, n1], [n2]] [[0, 0], [0], [1]]) ∧
   (¬ (n2 < 1) →
    (Pre_part [[n, n1]] ∧
    (∀ t : Bool, (∀ n3 : Int, 0 ≤ n3 → n3 ≤ 18446744073709551615 →
    (∀ n4 : Int, 0 ≤ n4 → n4 ≤ 18446744073709551615 →
    (∀ n5 : Int, 0 ≤ n5 → n5 ≤ 18446744073709551615 →
    (Post_part [[n, n1]] [[b2i t, n3, n4, n5]] →
    (∀ b2 : Nat, (∀ n6 : Int, n6 = (IntKind.wrap .u64 n2) → 0 ≤ n6 → n6 ≤ 18446744073709551615 →
    (Pre_wdivided [[n3, n4, n5], [n6]] ∧
    (∀ n7 : Int, 0 ≤ n7 → n7 ≤ 18446744073709551615 →
    (∀ n8 : Int, 0 ≤ n8 → n8 ≤ 18446744073709551615 →
    (∀ n9 : Int, 0 ≤ n9 → n9 ≤ 18446744073709551615 →
    (∀ n10 : Int, 0 ≤ n10 → n10 ≤ 18446744073709551615 →
    (Post_wdivided [[n3, n4, n5], [n6]] [[n7, n8, n9], [n10]] →
    (∀ b3 : Nat, (Pre_whole [[b2i t, n7, n8, n9]] ∧
    (∀ n11 : Int, (-9223372036854775808) ≤ n11 → n11 ≤ 9223372036854775807 →
    (∀ n12 : Int, 0 ≤ n12 → n12 ≤ 18446744073709551615 →
    (∀ n13 : Int, 0 ≤ n13 → n13 ≤ 11 →
    (Post_whole [[b2i t, n7, n8, n9]] [[n11, n12], [n13]] →
    (((t = true) →
      (((0 < n10) →
        (Pre_wof [[1]] ∧
        (∀ n14 : Int, (-9223372036854775808) ≤ n14 → n14 ≤ 9223372036854775807 →
        (∀ n15 : Int, 0 ≤ n15 → n15 ≤ 18446744073709551615 →
        (Post_wof [[1]] [[n14, n15]] →
        (Pre_wsub [[n11, n12], [n14, n15]] ∧
        (∀ n16 : Int, (-9223372036854775808) ≤ n16 → n16 ≤ 9223372036854775807 →
        (∀ n17 : Int, 0 ≤ n17 → n17 ≤ 18446744073709551615 →
        (∀ n18 : Int, 0 ≤ n18 → n18 ≤ 11 →
        (Post_wsub [[n11, n12], [n14, n15]] [[n16, n17], [n18]] →
        (∀ n19 : Int, n19 = (IntKind.wrap .u64 ((IntKind.wrap .u64 n2) - n10)) → 0 ≤ n19 → n19 ≤ 18446744073709551615 →
        (∀ n20 : Int, n20 = (IntKind.wrap .i64 n19) → (-9223372036854775808) ≤ n20 → n20 ≤ 9223372036854775807 →
        Post_wfloor [[n, n1], [n2]] [[n16, n17], [n20], [0]])))))))))))) ∧
       (¬ (0 < n10) →
        (∀ n14 : Int, n14 = (IntKind.wrap .i64 n10) → (-9223372036854775808) ≤ n14 → n14 ≤ 9223372036854775807 →
        Post_wfloor [[n, n1], [n2]] [[n11, n12], [n14], [0]])))) ∧
     (¬ (t = true) →
      (∀ n14 : Int, n14 = (IntKind.wrap .i64 n10) → (-9223372036854775808) ≤ n14 → n14 ≤ 9223372036854775807 →
      Post_wfloor [[n, n1], [n2]] [[n11, n12], [n14], [0]])))))))))))))))))))))))))))))))
theorem c_wfloor : canCall Tryz.prog 64 = true := by kernel_rfl
theorem s_wfloor : P_wfloor = sat E (symTop Tryz.prog tab25 2000 64 ash_wfloor sh_wfloor) := by kernel_rfl
theorem pure_wfloor (hV : Valid Tryz.prog tab25 E) (h : P_wfloor) (args : List Value) (ha : shaFits ash_wfloor args) (hp : E.pre 64 (args.map vints)) : Pure Tryz.prog 64 args.toArray fun v => sh_wfloor.fits v ∧ E.post 64 (args.map vints) (vres v) := @top_sat Tryz.prog tab25 E hV 2000 64 ash_wfloor sh_wfloor (@Eq.mp _ _ s_wfloor h) args ha hp
theorem step_wfloor (hV : Valid Tryz.prog tab25 E) (h : P_wfloor) : Valid Tryz.prog tab26 E := hV.add c_wfloor (pure_wfloor hV h)

/-- gouache/wides.Near -/
def P_wnear : Prop :=
  (∀ n : Int, (-9223372036854775808) ≤ n → n ≤ 9223372036854775807 →
  (∀ n1 : Int, 0 ≤ n1 → n1 ≤ 18446744073709551615 →
  (∀ n2 : Int, (-9223372036854775808) ≤ n2 → n2 ≤ 9223372036854775807 →
  (Pre_wnear [[n, n1], [n2]] →
  (∀ b : Nat, (∀ b1 : Nat, (Pre_wfloor [[n, n1], [n2]] ∧
  (∀ n3 : Int, (-9223372036854775808) ≤ n3 → n3 ≤ 9223372036854775807 →
  (∀ n4 : Int, 0 ≤ n4 → n4 ≤ 18446744073709551615 →
  (∀ n5 : Int, (-9223372036854775808) ≤ n5 → n5 ≤ 9223372036854775807 →
  (∀ n6 : Int, 0 ≤ n6 → n6 ≤ 11 →
  (Post_wfloor [[n, n1], [n2]] [[n3, n4], [n5], [n6]] →
  (∀ b2 : Nat, (((n6 = 0) →
    ((((IntKind.wrap .i64 (n2 - n5)) ≤ n5) →
      (Pre_wof [[1]] ∧
      (∀ n7 : Int, (-9223372036854775808) ≤ n7 → n7 ≤ 9223372036854775807 →
      (∀ n8 : Int, 0 ≤ n8 → n8 ≤ 18446744073709551615 →
      (Post_wof [[1]] [[n7, n8]] →
      (Pre_wadd [[n3, n4], [n7, n8]] ∧
      (∀ n9 : Int, (-9223372036854775808) ≤ n9 → n9 ≤ 9223372036854775807 →
      (∀ n10 : Int, 0 ≤ n10 → n10 ≤ 18446744073709551615 →
      (∀ n11 : Int, 0 ≤ n11 → n11 ≤ 11 →
      (Post_wadd [[n3, n4], [n7, n8]] [[n9, n10], [n11]] →
      Post_wnear [[n, n1], [n2]] [[n9, n10], [n11]])))))))))) ∧
     (¬ ((IntKind.wrap .i64 (n2 - n5)) ≤ n5) →
      Post_wnear [[n, n1], [n2]] [[n3, n4], [n6]]))) ∧
   (¬ (n6 = 0) →
    Post_wnear [[n, n1], [n2]] [[n3, n4], [n6]])))))))))))))))
theorem c_wnear : canCall Tryz.prog 46 = true := by kernel_rfl
theorem s_wnear : P_wnear = sat E (symTop Tryz.prog tab26 2000 46 ash_wnear sh_wnear) := by kernel_rfl
theorem pure_wnear (hV : Valid Tryz.prog tab26 E) (h : P_wnear) (args : List Value) (ha : shaFits ash_wnear args) (hp : E.pre 46 (args.map vints)) : Pure Tryz.prog 46 args.toArray fun v => sh_wnear.fits v ∧ E.post 46 (args.map vints) (vres v) := @top_sat Tryz.prog tab26 E hV 2000 46 ash_wnear sh_wnear (@Eq.mp _ _ s_wnear h) args ha hp
theorem step_wnear (hV : Valid Tryz.prog tab26 E) (h : P_wnear) : Valid Tryz.prog tab27 E := hV.add c_wnear (pure_wnear hV h)

/-- gouache/wides.Int -/
def P_wint : Prop :=
  (∀ n : Int, (-9223372036854775808) ≤ n → n ≤ 9223372036854775807 →
  (∀ n1 : Int, 0 ≤ n1 → n1 ≤ 18446744073709551615 →
  (Pre_wint [[n, n1]] →
  (∀ b : Nat, (∀ n2 : Int, n2 = (IntKind.wrap .i64 n1) → (-9223372036854775808) ≤ n2 → n2 ≤ 9223372036854775807 →
  (Pre_wof [[n2]] ∧
  (∀ n3 : Int, (-9223372036854775808) ≤ n3 → n3 ≤ 9223372036854775807 →
  (∀ n4 : Int, 0 ≤ n4 → n4 ≤ 18446744073709551615 →
  (Post_wof [[n2]] [[n3, n4]] →
  ((((n = n3) ∧ (n1 = n4)) →
    Post_wint [[n, n1]] [[n2], [b2i true]]) ∧
   (¬ ((n = n3) ∧ (n1 = n4)) →
    Post_wint [[n, n1]] [[0], [b2i false]])))))))))))
theorem c_wint : canCall Tryz.prog 47 = true := by kernel_rfl
theorem s_wint : P_wint = sat E (symTop Tryz.prog tab27 2000 47 ash_wint sh_wint) := by kernel_rfl
theorem pure_wint (hV : Valid Tryz.prog tab27 E) (h : P_wint) (args : List Value) (ha : shaFits ash_wint args) (hp : E.pre 47 (args.map vints)) : Pure Tryz.prog 47 args.toArray fun v => sh_wint.fits v ∧ E.post 47 (args.map vints) (vres v) := @top_sat Tryz.prog tab27 E hV 2000 47 ash_wint sh_wint (@Eq.mp _ _ s_wint h) args ha hp
theorem step_wint (hV : Valid Tryz.prog tab27 E) (h : P_wint) : Valid Tryz.prog tab28 E := hV.add c_wint (pure_wint hV h)

/-- (gouache/gouacheref01.Num).zero -/
def P_zero : Prop :=
  (∀ t : Bool, (∀ n : Int, 0 ≤ n → n ≤ 65535 →
  (∀ n1 : Int, 0 ≤ n1 → n1 ≤ 65535 →
  (∀ n2 : Int, 0 ≤ n2 → n2 ≤ 65535 →
  (∀ n3 : Int, 0 ≤ n3 → n3 ≤ 65535 →
  (∀ n4 : Int, 0 ≤ n4 → n4 ≤ 65535 →
  (∀ n5 : Int, 0 ≤ n5 → n5 ≤ 65535 →
  (∀ n6 : Int, 0 ≤ n6 → n6 ≤ 65535 →
  (∀ n7 : Int, 0 ≤ n7 → n7 ≤ 65535 →
  (∀ n8 : Int, 0 ≤ n8 → n8 ≤ 65535 →
  (∀ n9 : Int, 0 ≤ n9 → n9 ≤ 65535 →
  (∀ n10 : Int, 0 ≤ n10 → n10 ≤ 65535 →
  (∀ n11 : Int, 0 ≤ n11 → n11 ≤ 65535 →
  (Pre_zero [[b2i t, n, n1, n2, n3, n4, n5, n6, n7, n8, n9, n10, n11]] →
  (∀ b : Nat, Post_zero [[b2i t, n, n1, n2, n3, n4, n5, n6, n7, n8, n9, n10, n11]] [[b2i ((n == 0) && ((n1 == 0) && ((n2 == 0) && ((n3 == 0) && ((n4 == 0) && ((n5 == 0) && ((n6 == 0) && ((n7 == 0) && ((n8 == 0) && ((n9 == 0) && ((n10 == 0) && (n11 == 0))))))))))))]])))))))))))))))
theorem c_zero : canCall Tryz.prog 53 = true := by kernel_rfl
theorem s_zero : P_zero = sat E (symTop Tryz.prog tab28 2000 53 ash_zero sh_zero) := by kernel_rfl
theorem pure_zero (hV : Valid Tryz.prog tab28 E) (h : P_zero) (args : List Value) (ha : shaFits ash_zero args) (hp : E.pre 53 (args.map vints)) : Pure Tryz.prog 53 args.toArray fun v => sh_zero.fits v ∧ E.post 53 (args.map vints) (vres v) := @top_sat Tryz.prog tab28 E hV 2000 53 ash_zero sh_zero (@Eq.mp _ _ s_zero h) args ha hp
theorem step_zero (hV : Valid Tryz.prog tab28 E) (h : P_zero) : Valid Tryz.prog tab29 E := hV.add c_zero (pure_zero hV h)

/-- gouache/gouacheref01.Of -/
def P_rof : Prop :=
  (∀ n : Int, (-9223372036854775808) ≤ n → n ≤ 9223372036854775807 →
  (Pre_rof [[n]] →
  (∀ b : Nat, (((n < 0) →
    (∀ n1 : Int, n1 = (IntKind.wrap .u64 n) → 0 ≤ n1 → n1 ≤ 18446744073709551615 →
    Post_rof [[n]] [[(-1), n1]])) ∧
   (¬ (n < 0) →
    (∀ n1 : Int, n1 = (IntKind.wrap .u64 n) → 0 ≤ n1 → n1 ≤ 18446744073709551615 →
    Post_rof [[n]] [[0, n1]]))))))
theorem c_rof : canCall Tryz.prog 57 = true := by kernel_rfl
theorem s_rof : P_rof = sat E (symTop Tryz.prog tab29 2000 57 ash_rof sh_rof) := by kernel_rfl
theorem pure_rof (hV : Valid Tryz.prog tab29 E) (h : P_rof) (args : List Value) (ha : shaFits ash_rof args) (hp : E.pre 57 (args.map vints)) : Pure Tryz.prog 57 args.toArray fun v => sh_rof.fits v ∧ E.post 57 (args.map vints) (vres v) := @top_sat Tryz.prog tab29 E hV 2000 57 ash_rof sh_rof (@Eq.mp _ _ s_rof h) args ha hp
theorem step_rof (hV : Valid Tryz.prog tab29 E) (h : P_rof) : Valid Tryz.prog tab30 E := hV.add c_rof (pure_rof hV h)

/-- gouache/gouacheref01.Small -/
def P_small : Prop :=
  (∀ n : Int, (-9223372036854775808) ≤ n → n ≤ 9223372036854775807 →
  (Pre_small [[n]] →
  (∀ b : Nat, (Pre_rof [[n]] ∧
  (∀ n1 : Int, (-9223372036854775808) ≤ n1 → n1 ≤ 9223372036854775807 →
  (∀ n2 : Int, 0 ≤ n2 → n2 ≤ 18446744073709551615 →
  (Post_rof [[n]] [[n1, n2]] →
  (Pre_read [[n1, n2]] ∧
  (∀ t : Bool, (∀ n3 : Int, 0 ≤ n3 → n3 ≤ 65535 →
  (∀ n4 : Int, 0 ≤ n4 → n4 ≤ 65535 →
  (∀ n5 : Int, 0 ≤ n5 → n5 ≤ 65535 →
  (∀ n6 : Int, 0 ≤ n6 → n6 ≤ 65535 →
  (∀ n7 : Int, 0 ≤ n7 → n7 ≤ 65535 →
  (∀ n8 : Int, 0 ≤ n8 → n8 ≤ 65535 →
  (∀ n9 : Int, 0 ≤ n9 → n9 ≤ 65535 →
  (∀ n10 : Int, 0 ≤ n10 → n10 ≤ 65535 →
  (∀ n11 : Int, 0 ≤ n11 → n11 ≤ 65535 →
  (∀ n12 : Int, 0 ≤ n12 → n12 ≤ 65535 →
  (∀ n13 : Int, 0 ≤ n13 → n13 ≤ 65535 →
  (∀ n14 : Int, 0 ≤ n14 → n14 ≤ 65535 →
  (Post_read [[n1, n2]] [[b2i t, n3, n4, n5, n6, n7, n8, n9, n10, n11, n12, n13, n14]] →
  Post_small [[n]] [[b2i t, n3, n4, n5, n6, n7, n8, n9, n10, n11, n12, n13, n14]]))))))))))))))))))))))
theorem c_small : canCall Tryz.prog 52 = true := by kernel_rfl
theorem s_small : P_small = sat E (symTop Tryz.prog tab30 2000 52 ash_small sh_small) := by kernel_rfl
theorem pure_small (hV : Valid Tryz.prog tab30 E) (h : P_small) (args : List Value) (ha : shaFits ash_small args) (hp : E.pre 52 (args.map vints)) : Pure Tryz.prog 52 args.toArray fun v => sh_small.fits v ∧ E.post 52 (args.map vints) (vres v) := @top_sat Tryz.prog tab30 E hV 2000 52 ash_small sh_small (@Eq.mp _ _ s_small h) args ha hp
theorem step_small (hV : Valid Tryz.prog tab30 E) (h : P_small) : Valid Tryz.prog tab31 E := hV.add c_small (pure_small hV h)

/-- gouache/gouacheref01.Tell -/
def P_tell : Prop :=
  (∀ t : Bool, (∀ n : Int, 0 ≤ n → n ≤ 65535 →
  (∀ n1 : Int, 0 ≤ n1 → n1 ≤ 65535 →
  (∀ n2 : Int, 0 ≤ n2 → n2 ≤ 65535 →
  (∀ n3 : Int, 0 ≤ n3 → n3 ≤ 65535 →
  (∀ n4 : Int, 0 ≤ n4 → n4 ≤ 65535 →
  (∀ n5 : Int, 0 ≤ n5 → n5 ≤ 65535 →
  (∀ n6 : Int, 0 ≤ n6 → n6 ≤ 65535 →
  (∀ n7 : Int, 0 ≤ n7 → n7 ≤ 65535 →
  (∀ n8 : Int, 0 ≤ n8 → n8 ≤ 65535 →
  (∀ n9 : Int, 0 ≤ n9 → n9 ≤ 65535 →
  (∀ n10 : Int, 0 ≤ n10 → n10 ≤ 65535 →
  (∀ n11 : Int, 0 ≤ n11 → n11 ≤ 65535 →
  (Pre_tell [[b2i t, n, n1, n2, n3, n4, n5, n6, n7, n8, n9, n10, n11]] →
  (∀ b : Nat, (∀ b1 : Nat, (∀ b2 : Nat, (Pre_compare [[n, n1, n2, n3, n4, n5, n6, n7, n8, n9, n10, n11], [0, 0, 0, 0, 0, 0, 0, 32768, 0, 0, 0, 0]] ∧
  (∀ n12 : Int, (-1) ≤ n12 → n12 ≤ 1 →
  (Post_compare [[n, n1, n2, n3, n4, n5, n6, n7, n8, n9, n10, n11], [0, 0, 0, 0, 0, 0, 0, 32768, 0, 0, 0, 0]] [[n12]] →
  (((0 < n12) →
    Post_tell [[b2i t, n, n1, n2, n3, n4, n5, n6, n7, n8, n9, n10, n11]] [[0, 0], [11]]) ∧
   (¬ (0 < n12) →
    (((n12 = 0) →
      (((¬ (t = true)) →
        Post_tell [[b2i t, n, n1, n2, n3, n4, n5, n6, n7, n8, n9, n10, n11]] [[0, 0], [11]]) ∧
       (¬ (¬ (t = true)) →
        (((t = true) →
          (Pre_zero [[b2i t, n, n1, n2, n3, n4, n5, n6, n7, n8, n9, n10, n11]] ∧
          (∀ t1 : Bool, (Post_zero [[b2i t, n, n1, n2, n3, n4, n5, n6, n7, n8, n9, n10, n11]] [[b2i t1]] →
          (((¬ (t1 = true)) →
            (Pre_less [[0, 0, 0, 0, 0, 0, 0, 0, 1, 0, 0, 0], [n, n1, n2, n3, n4, n5, n6, n7, n8, n9, n10, n11]] ∧
            (∀ n13 : Int, 0 ≤ n13 → n13 ≤ 65535 →
            (∀ n14 : Int, 0 ≤ n14 → n14 ≤ 65535 →
            (∀ n15 : Int, 0 ≤ n15 → n15 ≤ 65535 →
            (∀ n16 : Int, 0 ≤ n16 → n16 ≤ 65535 →
            (∀ n17 : Int, 0 ≤ n17 → n17 ≤ 65535 →
            (∀ n18 : Int, 0 ≤ n18 → n18 ≤ 65535 →
            (∀ n19 : Int, 0 ≤ n19 → n19 ≤ 65535 →
            (∀ n20 : Int, 0 ≤ n20 → n20 ≤ 65535 →
            (∀ n21 : Int, 0 ≤ n21 → n21 ≤ 65535 →
            (∀ n22 : Int, 0 ≤ n22 → n22 ≤ 65535 →
            (∀ n23 : Int, 0 ≤ n23 → n23 ≤ 65535 →
            (∀ n24 : Int, 0 ≤ n24 → n24 ≤ 65535 →
            (Post_less [[0, 0, 0, 0, 0, 0, 0, 0, 1, 0, 0, 0], [n, n1, n2, n3, n4, n5, n6, n7, n8, n9, n10, n11]] [[n13, n14, n15, n16, n17, n18, n19, n20, n21, n22, n23, n24]] →
            (∀ n25 : Int, n25 = ((n16 * 65536) + n15) → 0 ≤ n25 → n25 ≤ 4294967295 →
            (∀ n26 : Int, n26 = ((n20 * 65536) + n19) → 0 ≤ n26 → n26 ≤ 4294967295 →
            (∀ n27 : Int, n27 = ((n25 * 65536) + n14) → 0 ≤ n27 → n27 ≤ 281474976710655 →
            (∀ n28 : Int, n28 = ((n26 * 65536) + n18) → 0 ≤ n28 → n28 ≤ 281474976710655 →
            (∀ n29 : Int, n29 = ((n27 * 65536) + n13) → 0 ≤ n29 → n29 ≤ 18446744073709551615 →
            (∀ n30 : Int, n30 = ((n28 * 65536) + n17) → 0 ≤ n30 → n30 ≤ 18446744073709551615 →
            (∀ n31 : Int, n31 = (IntKind.wrap .i64 n30) → (-9223372036854775808) ≤ n31 → n31 ≤ 9223372036854775807 →
            Post_tell [[b2i t, n, n1, n2, n3, n4, n5, n6, n7, n8, n9, n10, n11]] [[n31, n29], [0]])))))))))))))))))))))) ∧
           (¬ (¬ (t1 = true)) →
            (∀ n13 : Int, n13 = ((n3 * 65536) + n2) → 0 ≤ n13 → n13 ≤ 4294967295 →
            (∀ n14 : Int, n14 = ((n7 * 65536) + n6) → 0 ≤ n14 → n14 ≤ 4294967295 →
            (∀ n15 : Int, n15 = ((n13 * 65536) + n1) → 0 ≤ n15 → n15 ≤ 281474976710655 →
            (∀ n16 : Int, n16 = ((n14 * 65536) + n5) → 0 ≤ n16 → n16 ≤ 281474976710655 →
            (∀ n17 : Int, n17 = ((n15 * 65536) + n) → 0 ≤ n17 → n17 ≤ 18446744073709551615 →
            (∀ n18 : Int, n18 = ((n16 * 65536) + n4) → 0 ≤ n18 → n18 ≤ 18446744073709551615 →
            (∀ n19 : Int, n19 = (IntKind.wrap .i64 n18) → (-9223372036854775808) ≤ n19 → n19 ≤ 9223372036854775807 →
            Post_tell [[b2i t, n, n1, n2, n3, n4, n5, n6, n7, n8, n9, n10, n11]] [[n19, n17], [0]]))))))))))))) ∧
         (¬ (t = true) →
          (∀ n13 : Int, n13 = ((n3 * 65536) + n2) → 0 ≤ n13 → n13 ≤ 4294967295 →
          (∀ n14 : Int, n14 = ((n7 * 65536) + n6) → 0 ≤ n14 → n14 ≤ 4294967295 →
          (∀ n15 : Int, n15 = ((n13 * 65536) + n1) → 0 ≤ n15 → n15 ≤ 281474976710655 →
          (∀ n16 : Int, n16 = ((n14 * 65536) + n5) → 0 ≤ n16 → n16 ≤ 281474976710655 →
          (∀ n17 : Int, n17 = ((n15 * 65536) + n) → 0 ≤ n17 → n17 ≤ 18446744073709551615 →
          (∀ n18 : Int, n18 = ((n16 * 65536) + n4) → 0 ≤ n18 → n18 ≤ 18446744073709551615 →
          (∀ n19 : Int, n19 = (IntKind.wrap .i64 n18) → (-9223372036854775808) ≤ n19 → n19 ≤ 9223372036854775807 →
          Post_tell [[b2i t, n, n1, n2, n3, n4, n5, n6, n7, n8, n9, n10, n11]] [[n19, n17], [0]])))))))))))) ∧
     (¬ (n12 = 0) →
      (((t = true) →
        (Pre_zero [[b2i t, n, n1, n2, n3, n4, n5, n6, n7, n8, n9, n10, n11]] ∧
        (∀ t1 : Bool, (Post_zero [[b2i t, n, n1, n2, n3, n4, n5, n6, n7, n8, n9, n10, n11]] [[b2i t1]] →
        (((¬ (t1 = true)) →
          (Pre_less [[0, 0, 0, 0, 0, 0, 0, 0, 1, 0, 0, 0], [n, n1, n2, n3, n4, n5, n6, n7, n8, n9, n10, n11]] ∧
          (∀ n13 : Int, 0 ≤ n13 → n13 ≤ 65535 →
          (∀ n14 : Int, 0 ≤ n14 → n14 ≤ 65535 →
          (∀ n15 : Int, 0 ≤ n15 → n15 ≤ 65535 →
          (∀ n16 : Int, 0 ≤ n16 → n16 ≤ 65535 →
          (∀ n17 : Int, 0 ≤ n17 → n17 ≤ 65535 →
          (∀ n18 : Int, 0 ≤ n18 → n18 ≤ 65535 →
          (∀ n19 : Int, 0 ≤ n19 → n19 ≤ 65535 →
          (∀ n20 : Int, 0 ≤ n20 → n20 ≤ 65535 →
          (∀ n21 : Int, 0 ≤ n21 → n21 ≤ 65535 →
          (∀ n22 : Int, 0 ≤ n22 → n22 ≤ 65535 →
          (∀ n23 : Int, 0 ≤ n23 → n23 ≤ 65535 →
          (∀ n24 : Int, 0 ≤ n24 → n24 ≤ 65535 →
          (Post_less [[0, 0, 0, 0, 0, 0, 0, 0, 1, 0, 0, 0], [n, n1, n2, n3, n4, n5, n6, n7, n8, n9, n10, n11]] [[n13, n14, n15, n16, n17, n18, n19, n20, n21, n22, n23, n24]] →
          (∀ n25 : Int, n25 = ((n16 * 65536) + n15) → 0 ≤ n25 → n25 ≤ 4294967295 →
          (∀ n26 : Int, n26 = ((n20 * 65536) + n19) → 0 ≤ n26 → n26 ≤ 4294967295 →
          (∀ n27 : Int, n27 = ((n25 * 65536) + n14) → 0 ≤ n27 → n27 ≤ 281474976710655 →
          (∀ n28 : Int, n28 = ((n26 * 65536) + n18) → 0 ≤ n28 → n28 ≤ 281474976710655 →
          (∀ n29 : Int, n29 = ((n27 * 65536) + n13) → 0 ≤ n29 → n29 ≤ 18446744073709551615 →
          (∀ n30 : Int, n30 = ((n28 * 65536) + n17) → 0 ≤ n30 → n30 ≤ 18446744073709551615 →
          (∀ n31 : Int, n31 = (IntKind.wrap .i64 n30) → (-9223372036854775808) ≤ n31 → n31 ≤ 9223372036854775807 →
          Post_tell [[b2i t, n, n1, n2, n3, n4, n5, n6, n7, n8, n9, n10, n11]] [[n31, n29], [0]])))))))))))))))))))))) ∧
         (¬ (¬ (t1 = true)) →
          (∀ n13 : Int, n13 = ((n3 * 65536) + n2) → 0 ≤ n13 → n13 ≤ 4294967295 →
          (∀ n14 : Int, n14 = ((n7 * 65536) + n6) → 0 ≤ n14 → n14 ≤ 4294967295 →
          (∀ n15 : Int, n15 = ((n13 * 65536) + n1) → 0 ≤ n15 → n15 ≤ 281474976710655 →
          (∀ n16 : Int, n16 = ((n14 * 65536) + n5) → 0 ≤ n16 → n16 ≤ 281474976710655 →
          (∀ n17 : Int, n17 = ((n15 * 65536) + n) → 0 ≤ n17 → n17 ≤ 18446744073709551615 →
          (∀ n18 : Int, n18 = ((n16 * 65536) + n4) → 0 ≤ n18 → n18 ≤ 18446744073709551615 →
          (∀ n19 : Int, n19 = (IntKind.wrap .i64 n18) → (-9223372036854775808) ≤ n19 → n19 ≤ 9223372036854775807 →
          Post_tell [[b2i t, n, n1, n2, n3, n4, n5, n6, n7, n8, n9, n10, n11]] [[n19, n17], [0]]))))))))))))) ∧
       (¬ (t = true) →
        (∀ n13 : Int, n13 = ((n3 * 65536) + n2) → 0 ≤ n13 → n13 ≤ 4294967295 →
        (∀ n14 : Int, n14 = ((n7 * 65536) + n6) → 0 ≤ n14 → n14 ≤ 4294967295 →
        (∀ n15 : Int, n15 = ((n13 * 65536) + n1) → 0 ≤ n15 → n15 ≤ 281474976710655 →
        (∀ n16 : Int, n16 = ((n14 * 65536) + n5) → 0 ≤ n16 → n16 ≤ 281474976710655 →
        (∀ n17 : Int, n17 = ((n15 * 65536) + n) → 0 ≤ n17 → n17 ≤ 18446744073709551615 →
        (∀ n18 : Int, n18 = ((n16 * 65536) + n4) → 0 ≤ n18 → n18 ≤ 18446744073709551615 →
        (∀ n19 : Int, n19 = (IntKind.wrap .i64 n18) → (-9223372036854775808) ≤ n19 → n19 ≤ 9223372036854775807 →
        Post_tell [[b2i t, n, n1, n2, n3, n4, n5, n6, n7, n8, n9, n10, n11]] [[n19, n17], [0]])))))))))))))))))))))))))))))))))
theorem c_tell : canCall Tryz.prog 33 = true := by kernel_rfl
theorem s_tell : P_tell = sat E (symTop Tryz.prog tab31 2000 33 ash_tell sh_tell) := by kernel_rfl
theorem pure_tell (hV : Valid Tryz.prog tab31 E) (h : P_tell) (args : List Value) (ha : shaFits ash_tell args) (hp : E.pre 33 (args.map vints)) : Pure Tryz.prog 33 args.toArray fun v => sh_tell.fits v ∧ E.post 33 (args.map vints) (vres v) := @top_sat Tryz.prog tab31 E hV 2000 33 ash_tell sh_tell (@Eq.mp _ _ s_tell h) args ha hp
theorem step_tell (hV : Valid Tryz.prog tab31 E) (h : P_tell) : Valid Tryz.prog tab32 E := hV.add c_tell (pure_tell hV h)

/-- gouache/gouacheref01.divided -/
def P_divided : Prop :=
  (∀ n : Int, 0 ≤ n → n ≤ 65535 →
  (∀ n1 : Int, 0 ≤ n1 → n1 ≤ 65535 →
  (∀ n2 : Int, 0 ≤ n2 → n2 ≤ 65535 →
  (∀ n3 : Int, 0 ≤ n3 → n3 ≤ 65535 →
  (∀ n4 : Int, 0 ≤ n4 → n4 ≤ 65535 →
  (∀ n5 : Int, 0 ≤ n5 → n5 ≤ 65535 →
  (∀ n6 : Int, 0 ≤ n6 → n6 ≤ 65535 →
  (∀ n7 : Int, 0 ≤ n7 → n7 ≤ 65535 →
  (∀ n8 : Int, 0 ≤ n8 → n8 ≤ 65535 →
  (∀ n9 : Int, 0 ≤ n9 → n9 ≤ 65535 →
  (∀ n10 : Int, 0 ≤ n10 → n10 ≤ 65535 →
  (∀ n11 : Int, 0 ≤ n11 → n11 ≤ 65535 →
  (∀ n12 : Int, 0 ≤ n12 → n12 ≤ 65535 →
  (∀ n13 : Int, 0 ≤ n13 → n13 ≤ 65535 →
  (∀ n14 : Int, 0 ≤ n14 → n14 ≤ 65535 →
  (∀ n15 : Int, 0 ≤ n15 → n15 ≤ 65535 →
  (∀ n16 : Int, 0 ≤ n16 → n16 ≤ 65535 →
  (∀ n17 : Int, 0 ≤ n17 → n17 ≤ 65535 →
  (∀ n18 : Int, 0 ≤ n18 → n18 ≤ 65535 →
  (∀ n19 : Int, 0 ≤ n19 → n19 ≤ 65535 →
  (∀ n20 : Int, 0 ≤ n20 → n20 ≤ 65535 →
  (∀ n21 : Int, 0 ≤ n21 → n21 ≤ 65535 →
  (∀ n22 : Int, 0 ≤ n22 → n22 ≤ 65535 →
  (∀ n23 : Int, 0 ≤ n23 → n23 ≤ 65535 →
  (Pre_divided [[n, n1, n2, n3, n4, n5, n6, n7, n8, n9, n10, n11], [n12, n13, n14, n15, n16, n17, n18, n19, n20, n21, n22, n23]] →
  (∀ b : Nat, (∀ b1 : Nat, (∀ b2 : Nat, (∀ b3 : Nat, (∀ b4 : Nat, (∀ b5 : Nat, (Inv_divided [n, n1, n2, n3, n4, n5, n6, n7, n8, n9, n10, n11, n12, n13, n14, n15, n16, n17, n18, n19, n20, n21, n22, n23] [191, 0, 0, 0, 0, 0, 0, 0, 0, 0, 0, 0, 0, 0, 0, 0, 0, 0, 0, 0, 0, 0, 0, 0, 0] ∧
  (∀ n24 : Int, (-1) ≤ n24 → n24 ≤ 191 →
  (∀ n25 : Int, 0 ≤ n25 → n25 ≤ 65535 →
  (∀ n26 : Int, 0 ≤ n26 → n26 ≤ 65535 →
  (∀ n27 : Int, 0 ≤ n27 → n27 ≤ 65535 →
  (∀ n28 : Int, 0 ≤ n28 → n28 ≤ 65535 →
  (∀ n29 : Int, 0 ≤ n29 → n29 ≤ 65535 →
  (∀ n30 : Int, 0 ≤ n30 → n30 ≤ 65535 →
  (∀ n31 : Int, 0 ≤ n31 → n31 ≤ 65535 →
  (∀ n32 : Int, 0 ≤ n32 → n32 ≤ 65535 →
  (∀ n33 : Int, 0 ≤ n33 → n33 ≤ 65535 →
  (∀ n34 : Int, 0 ≤ n34 → n34 ≤ 65535 →
  (∀ n35 : Int, 0 ≤ n35 → n35 ≤ 65535 →
  (∀ n36 : Int, 0 ≤ n36 → n36 ≤ 65535 →
  (∀ n37 : Int, 0 ≤ n37 → n37 ≤ 65535 →
  (∀ n38 : Int, 0 ≤ n38 → n38 ≤ 65535 →
  (∀ n39 : Int, 0 ≤ n39 → n39 ≤ 65535 →
  (∀ n40 : Int, 0 ≤ n40 → n40 ≤ 65535 →
  (∀ n41 : Int, 0 ≤ n41 → n41 ≤ 65535 →
  (∀ n42 : Int, 0 ≤ n42 → n42 ≤ 65535 →
  (∀ n43 : Int, 0 ≤ n43 → n43 ≤ 65535 →
  (∀ n44 : Int, 0 ≤ n44 → n44 ≤ 65535 →
  (∀ n45 : Int, 0 ≤ n45 → n45 ≤ 65535 →
  (∀ n46 : Int, 0 ≤ n46 → n46 ≤ 65535 →
  (∀ n47 : Int, 0 ≤ n47 → n47 ≤ 65535 →
  (∀ n48 : Int, 0 ≤ n48 → n48 ≤ 65535 →
  (Inv_divided [n, n1, n2, n3, n4, n5, n6, n7, n8, n9, n10, n11, n12, n13, n14, n15, n16, n17, n18, n19, n20, n21, n22, n23] [n24, n25, n26, n27, n28, n29, n30, n31, n32, n33, n34, n35, n36, n37, n38, n39, n40, n41, n42, n43, n44, n45, n46, n47, n48] →
  (∀ vs : List Value, vs.length = 34 →
  (((0 ≤ n24) →
    (Pre_plus [[n37, n38, n39, n40, n41, n42, n43, n44, n45, n46, n47, n48], [n37, n38, n39, n40, n41, n42, n43, n44, n45, n46, n47, n48]] ∧
    (∀ n49 : Int, 0 ≤ n49 → n49 ≤ 65535 →
    (∀ n50 : Int, 0 ≤ n50 → n50 ≤ 65535 →
    (∀ n51 : Int, 0 ≤ n51 → n51 ≤ 65535 →
    (∀ n52 : Int, 0 ≤ n52 → n52 ≤ 65535 →
    (∀ n53 : Int, 0 ≤ n53 → n53 ≤ 65535 →
    (∀ n54 : Int, 0 ≤ n54 → n54 ≤ 65535 →
    (∀ n55 : Int, 0 ≤ n55 → n55 ≤ 65535 →
    (∀ n56 : Int, 0 ≤ n56 → n56 ≤ 65535 →
    (∀ n57 : Int, 0 ≤ n57 → n57 ≤ 65535 →
    (∀ n58 : Int, 0 ≤ n58 → n58 ≤ 65535 →
    (∀ n59 : Int, 0 ≤ n59 → n59 ≤ 65535 →
    (∀ n60 : Int, 0 ≤ n60 → n60 ≤ 65535 →
    (Post_plus [[n37, n38, n39, n40, n41, n42, n43, n44, n45, n46, n47, n48], [n37, n38, n39, n40, n41, n42, n43, n44, n45, n46, n47, n48]] [[n49, n50, n51, n52, n53, n54, n55, n56, n57, n58, n59, n60]] →
    ((0 ≤ (n24.tdiv 16)) ∧
    (((n24.tdiv 16) < 12) ∧
    ((0 ≤ (n24.tmod 16)) ∧
    (∀ n61 : Int, n61 = (n24.tmod 16) → 0 ≤ n61 → n61 ≤ 191 →
    (∀ n62 : Int, n62 = (IntKind.wrap .i64 (n49 + ((shI .shr .i64 (if (n24.tdiv 16) = 0 then n else (if (n24.tdiv 16) = 1 then n1 else (if (n24.tdiv 16) = 2 then n2 else (if (n24.tdiv 16) = 3 then n3 else (if (n24.tdiv 16) = 4 then n4 else (if (n24.tdiv 16) = 5 then n5 else (if (n24.tdiv 16) = 6 then n6 else (if (n24.tdiv 16) = 7 then n7 else (if (n24.tdiv 16) = 8 then n8 else (if (n24.tdiv 16) = 9 then n9 else (if (n24.tdiv 16) = 10 then n10 else n11))))))))))) n61).tmod 2))) → (-9223372036854775808) ≤ n62 → n62 ≤ 9223372036854775807 →
    (Pre_plus [[n25, n26, n27, n28, n29, n30, n31, n32, n33, n34, n35, n36], [n25, n26, n27, n28, n29, n30, n31, n32, n33, n34, n35, n36]] ∧
    (∀ n63 : Int, 0 ≤ n63 → n63 ≤ 65535 →
    (∀ n64 : Int, 0 ≤ n64 → n64 ≤ 65535 →
    (∀ n65 : Int, 0 ≤ n65 → n65 ≤ 65535 →
    (∀ n66 : Int, 0 ≤ n66 → n66 ≤ 65535 →
    (∀ n67 : Int, 0 ≤ n67 → n67 ≤ 65535 →
    (∀ n68 : Int, 0 ≤ n68 → n68 ≤ 65535 →
    (∀ n69 : Int, 0 ≤ n69 → n69 ≤ 65535 →
    (∀ n70 : Int, 0 ≤ n70 → n70 ≤ 65535 →
    (∀ n71 : Int, 0 ≤ n71 → n71 ≤ 65535 →
    (∀ n72 : Int, 0 ≤ n72 → n72 ≤ 65535 →
    (∀ n73 : Int, 0 ≤ n73 → n73 ≤ 65535 →
    (∀ n74 : Int, 0 ≤ n74 → n74 ≤ 65535 →
    (Post_plus [[n25, n26, n27, n28, n29, n30, n31, n32, n33, n34, n35, n36], [n25, n26, n27, n28, n29, n30, n31, n32, n33, n34, n35, n36]] [[n63, n64, n65, n66, n67, n68, n69, n70, n71, n72, n73, n74]] →
    ((0 ≤ n62) ∧
    ((n62 ≤ 65535) ∧
    (∀ n75 : Int, n75 = n62 → 0 ≤ n75 → n75 ≤ 65535 →
    (Pre_compare [[n75, n50, n51, n52, n53, n54, n55, n56, n57, n58, n59, n60], [n12, n13, n14, n15, n16, n17, n18, n19, n20, n21, n22, n23]] ∧
    (∀ n76 : Int, (-1) ≤ n76 → n76 ≤ 1 →
    (Post_compare [[n75, n50, n51, n52, n53, n54, n55, n56, n57, n58, n59, n60], [n12, n13, n14, n15, n16, n17, n18, n19, n20, n21, n22, n23]] [[n76]] →
    (((0 ≤ n76) →
      ((0 ≤ n62) ∧
      ((n62 ≤ 65535) ∧
      (∀ n77 : Int, n77 = n62 → 0 ≤ n77 → n77 ≤ 65535 →
      (Pre_less [[n77, n50, n51, n52, n53, n54, n55, n56, n57, n58, n59, n60], [n12, n13, n14, n15, n16, n17, n18, n19, n20, n21, n22, n23]] ∧
      (∀ n78 : Int, 0 ≤ n78 → n78 ≤ 65535 →
      (∀ n79 : Int, 0 ≤ n79 → n79 ≤ 65535 →
      (∀ n80 : Int, 0 ≤ n80 → n80 ≤ 65535 →
      (∀ n81 : Int, 0 ≤ n81 → n81 ≤ 65535 →
      (∀ n82 : Int, 0 ≤ n82 → n82 ≤ 65535 →
      (∀ n83 : Int, 0 ≤ n83 → n83 ≤ 65535 →
      (∀ n84 : Int, 0 ≤ n84 → n84 ≤ 65535 →
      (∀ n85 : Int, 0 ≤ n85 → n85 ≤ 65535 →
      (∀ n86 : Int, 0 ≤ n86 → n86 ≤ 65535 →
      (∀ n87 : Int, 0 ≤ n87 → n87 ≤ 65535 →
      (∀ n88 : Int, 0 ≤ n88 → n88 ≤ 65535 →
      (∀ n89 : Int, 0 ≤ n89 → n89 ≤ 65535 →
      (Post_less [[n77, n50, n51, n52, n53, n54, n55, n56, n57, n58, n59, n60], [n12, n13, n14, n15, n16, n17, n18, n19, n20, n21, n22, n23]] [[n78, n79, n80, n81, n82, n83, n84, n85, n86, n87, n88, n89]] →
      (∀ n90 : Int, n90 = (n63 + 1) → 1 ≤ n90 → n90 ≤ 65536 →
      (∀ n91 : Int, n91 = (n24 - 1) → (-2) ≤ n91 → n91 ≤ 190 →
      (((-1) ≤ n91) ∧
      (∀ n92 : Int, n92 = n91 → (-1) ≤ n92 → n92 ≤ 191 →
      ((n90 ≤ 65535) ∧
      (∀ n93 : Int, n93 = n90 → 0 ≤ n93 → n93 ≤ 65535 →
      (Inv_divided [n, n1, n2, n3, n4, n5, n6, n7, n8, n9, n10, n11, n12, n13, n14, n15, n16, n17, n18, n19, n20, n21, n22, n23] [n92, n93, n64, n65, n66, n67, n68, n69, n70, n71, n72, n73, n74, n78, n79, n80, n81, n82, n83, n84, n85, n86, n87, n88, n89] ∧ Mea_divided [n, n1, n2, n3, n4, n5, n6, n7, n8, n9, n10, n11, n12, n13, n14, n15, n16, n17, n18, n19, n20, n21, n22, n23] [n92, n93, n64, n65, n66, n67, n68, n69, n70, n71, n72, n73, n74, n78, n79, n80, n81, n82, n83, n84, n85, n86, n87, n88, n89] < Mea_divided [n, n1, n2, n3, n4, n5, n6, n7, n8, n9, n10, n11, n12, n13, n14, n15, n16, n17, n18, n19, n20, n21, n22, n23] [n24, n25, n26, n27, n28, n29, n30, n31, n32, n33, n34, n35, n36, n37, n38, n39, n40, n41, n42, n43, n44, n45, n46, n47, n48]))))))))))))))))))))))))) ∧
     (¬ (0 ≤ n76) →
      (∀ n77 : Int, n77 = (n24 - 1) → (-2) ≤ n77 → n77 ≤ 190 →
      (((-1) ≤ n77) ∧
      (∀ n78 : Int, n78 = n77 → (-1) ≤ n78 → n78 ≤ 191 →
      ((0 ≤ n62) ∧
      ((n62 ≤ 65535) ∧
      (∀ n79 : Int, n79 = n62 → 0 ≤ n79 → n79 ≤ 65535 →
      (Inv_divided [n, n1, n2, n3, n4, n5, n6, n7, n8, n9, n10, n11, n12, n13, n14, n15, n16, n17, n18, n19, n20, n21, n22, n23] [n78, n63, n64, n65, n66, n67, n68, n69, n70, n71, n72, n73, n74, n79, n50, n51, n52, n53, n54, n55, n56, n57, n58, n59, n60] ∧ Mea_divided [n, n1, n2, n3, n4, n5, n6, n7, n8, n9, n10, n11, n12, n13, n14, n15, n16, n17, n18, n19, n20, n21, n22, n23] [n78, n63, n64, n65, n66, n67, n68, n69, n70, n71, n72, n73, n74, n79, n50, n51, n52, n53, n54, n55, n56, n57, n58, n59, n60] < Mea_divided [n, n1, n2, n3, n4, n5, n6, n7, n8, n9, n10, n11, n12, n13, n14, n15, n16, n17, n18, n19, n20, n21, n22, n23] [n24, n25, n26, n27, n28, n29, n30, n31, n32, n33, n34, n35, n36, n37, n38, n39, n40, n41, n42, n43, n44, n45, n46, n47, n48]))))))))))))))))))))))))))))))))))))))))))))))))) ∧
   (¬ (0 ≤ n24) →
    Post_divided [[n, n1, n2, n3, n4, n5, n6, n7, n8, n9, n10, n11], [n12, n13, n14, n15, n16, n17, n18, n19, n20, n21, n22, n23]] [[n25, n26, n27, n28, n29, n30, n31, n32, n33, n34, n35, n36], [n37, n38, n39, n40, n41, n42, n43, n44, n45, n46, n47, n48]])))))))))))))))))))))))))))))))))))))))))))))))))))))))))))))
theorem c_divided : canCall Tryz.prog 79 = true := by kernel_rfl
theorem s_divided : P_divided = sat E (symTop Tryz.prog tab32 2000 79 ash_divided sh_divided) := by kernel_rfl
theorem pure_divided (hV : Valid Tryz.prog tab32 E) (h : P_divided) (args : List Value) (ha : shaFits ash_divided args) (hp : E.pre 79 (args.map vints)) : Pure Tryz.prog 79 args.toArray fun v => sh_divided.fits v ∧ E.post 79 (args.map vints) (vres v) := @top_sat Tryz.prog tab32 E hV 2000 79 ash_divided sh_divided (@Eq.mp _ _ s_divided h) args ha hp
theorem step_divided (hV : Valid Tryz.prog tab32 E) (h : P_divided) : Valid Tryz.prog tab33 E := hV.add c_divided (pure_divided hV h)

/-- gouache/gouacheref01.Nearest -/
def P_nearest : Prop :=
  (∀ t : Bool, (∀ n : Int, 0 ≤ n → n ≤ 65535 →
  (∀ n1 : Int, 0 ≤ n1 → n1 ≤ 65535 →
  (∀ n2 : Int, 0 ≤ n2 → n2 ≤ 65535 →
  (∀ n3 : Int, 0 ≤ n3 → n3 ≤ 65535 →
  (∀ n4 : Int, 0 ≤ n4 → n4 ≤ 65535 →
  (∀ n5 : Int, 0 ≤ n5 → n5 ≤ 65535 →
  (∀ n6 : Int, 0 ≤ n6 → n6 ≤ 65535 →
  (∀ n7 : Int, 0 ≤ n7 → n7 ≤ 65535 →
  (∀ n8 : Int, 0 ≤ n8 → n8 ≤ 65535 →
  (∀ n9 : Int, 0 ≤ n9 → n9 ≤ 65535 →
  (∀ n10 : Int, 0 ≤ n10 → n10 ≤ 65535 →
  (∀ n11 : Int, 0 ≤ n11 → n11 ≤ 65535 →
  (∀ t1 : Bool, (∀ n12 : Int, 0 ≤ n12 → n12 ≤ 65535 →
  (∀ n13 : Int, 0 ≤ n13 → n13 ≤ 65535 →
  (∀ n14 : Int, 0 ≤ n14 → n14 ≤ 65535 →
  (∀ n15 : Int, 0 ≤ n15 → n15 ≤ 65535 →
  (∀ n16 : Int, 0 ≤ n16 → n16 ≤ 65535 →
  (∀ n17 : Int, 0 ≤ n17 → n17 ≤ 65535 →
  (∀ n18 : Int, 0 ≤ n18 → n18 ≤ 65535 →
  (∀ n19 : Int, 0 ≤ n19 → n19 ≤ 65535 →
  (∀ n20 : Int, 0 ≤ n20 → n20 ≤ 65535 →
  (∀ n21 : Int, 0 ≤ n21 → n21 ≤ 65535 →
  (∀ n22 : Int, 0 ≤ n22 → n22 ≤ 65535 →
  (∀ n23 : Int, 0 ≤ n23 → n23 ≤ 65535 →
  (Pre_nearest [[b2i t, n, n1, n2, n3, n4, n5, n6, n7, n8, n9, n10, n11], [b2i t1, n12, n13, n14, n15, n16, n17, n18, n19, n20, n21, n22, n23]] →
  (∀ b : Nat, (∀ b1 : Nat, (∀ b2 : Nat, (((t1 = true) →
    (Pre_minus [[b2i t, n, n1, n2, n3, n4, n5, n6, n7, n8, n9, n10, n11]] ∧
    (∀ t2 : Bool, (∀ n24 : Int, 0 ≤ n24 → n24 ≤ 65535 →
    (∀ n25 : Int, 0 ≤ n25 → n25 ≤ 65535 →
    (∀ n26 : Int, 0 ≤ n26 → n26 ≤ 65535 →
    (∀ n27 : Int, 0 ≤ n27 → n27 ≤ 65535 →
    (∀ n28 : Int, 0 ≤ n28 → n28 ≤ 65535 →
    (∀ n29 : Int, 0 ≤ n29 → n29 ≤ 65535 →
    (∀ n30 : Int, 0 ≤ n30 → n30 ≤ 65535 →
    (∀ n31 : Int, 0 ≤ n31 → n31 ≤ 65535 →
    (∀ n32 : Int, 0 ≤ n32 → n32 ≤ 65535 →
    (∀ n33 : Int, 0 ≤ n33 → n33 ≤ 65535 →
    (∀ n34 : Int, 0 ≤ n34 → n34 ≤ 65535 →
    (∀ n35 : Int, 0 ≤ n35 → n35 ≤ 65535 →
    (Post_minus [[b2i t, n, n1, n2, n3, n4, n5, n6, n7, n8, n9, n10, n11]] [[b2i t2, n24, n25, n26, n27, n28, n29, n30, n31, n32, n33, n34, n35]] →
    (Pre_minus [[b2i t1, n12, n13, n14, n15, n16, n17, n18, n19, n20, n21, n22, n23]] ∧
    (∀ t3 : Bool, (∀ n36 : Int, 0 ≤ n36 → n36 ≤ 65535 →
    (∀ n37 : Int, 0 ≤ n37 → n37 ≤ 65535 →
    (∀ n38 : Int, 0 ≤ n38 → n38 ≤ 65535 →
    (∀ n39 : Int, 0 ≤ n39 → n39 ≤ 65535 →
    (∀ n40 : Int, 0 ≤ n40 → n40 ≤ 65535 →
    (∀ n41 : Int, 0 ≤ n41 → n41 ≤ 65535 →
    (∀ n42 : Int, 0 ≤ n42 → n42 ≤ 65535 →
    (∀ n43 : Int, 0 ≤ n43 → n43 ≤ 65535 →
    (∀ n44 : Int, 0 ≤ n44 → n44 ≤ 65535 →
    (∀ n45 : Int, 0 ≤ n45 → n45 ≤ 65535 →
    (∀ n46 : Int, 0 ≤ n46 → n46 ≤ 65535 →
    (∀ n47 : Int, 0 ≤ n47 → n47 ≤ 65535 →
    (Post_minus [[b2i t1, n12, n13, n14, n15, n16, n17, n18, n19, n20, n21, n22, n23]] [[b2i t3, n36, n37, n38, n39, n40, n41, n42, n43, n44, n45, n46, n47]] →
    (Pre_sum [[b2i t2, n24, n25, n26, n27, n28, n29, n30, n31, n32, n33, n34, n35], [b2i t2, n24, n25, n26, n27, n28, n29, n30, n31, n32, n33, n34, n35]] ∧
    (∀ t4 : Bool, (∀ n48 : Int, 0 ≤ n48 → n48 ≤ 65535 →
    (∀ n49 : Int, 0 ≤ n49 → n49 ≤ 65535 →
    (∀ n50 : Int, 0 ≤ n50 → n50 ≤ 65535 →
    (∀ n51 : Int, 0 ≤ n51 → n51 ≤ 65535 →
    (∀ n52 : Int, 0 ≤ n52 → n52 ≤ 65535 →
    (∀ n53 : Int, 0 ≤ n53 → n53 ≤ 65535 →
    (∀ n54 : Int, 0 ≤ n54 → n54 ≤ 65535 →
    (∀ n55 : Int, 0 ≤ n55 → n55 ≤ 65535 →
    (∀ n56 : Int, 0 ≤ n56 → n56 ≤ 65535 →
    (∀ n57 : Int, 0 ≤ n57 → n57 ≤ 65535 →
    (∀ n58 : Int, 0 ≤ n58 → n58 ≤ 65535 →
    (∀ n59 : Int, 0 ≤ n59 → n59 ≤ 65535 →
    (Post_sum [[b2i t2, n24, n25, n26, n27, n28, n29, n30, n31, n32, n33, n34, n35], [b2i t2, n24, n25, n26, n27, n28, n29, n30, n31, n32, n33, n34, n35]] [[b2i t4, n48, n49, n50, n51, n52, n53, n54, n55, n56, n57, n58, n59]] →
    (Pre_sum [[b2i t4, n48, n49, n50, n51, n52, n53, n54, n55, n56, n57, n58, n59], [b2i t3, n36, n37, n38, n39, n40, n41, n42, n43, n44, n45, n46, n47]] ∧
    (∀ t5 : Bool, (∀ n60 : Int, 0 ≤ n60 → n60 ≤ 65535 →
    (∀ n61 : Int, 0 ≤ n61 → n61 ≤ 65535 →
    (∀ n62 : Int, 0 ≤ n62 → n62 ≤ 65535 →
    (∀ n63 : Int, 0 ≤ n63 → n63 ≤ 65535 →
    (∀ n64 : Int, 0 ≤ n64 → n64 ≤ 65535 →
    (∀ n65 : Int, 0 ≤ n65 → n65 ≤ 65535 →
    (∀ n66 : Int, 0 ≤ n66 → n66 ≤ 65535 →
    (∀ n67 : Int, 0 ≤ n67 → n67 ≤ 65535 →
    (∀ n68 : Int, 0 ≤ n68 → n68 ≤ 65535 →
    (∀ n69 : Int, 0 ≤ n69 → n69 ≤ 65535 →
    (∀ n70 : Int, 0 ≤ n70 → n70 ≤ 65535 →
    (∀ n71 : Int, 0 ≤ n71 → n71 ≤ 65535 →
    (Post_sum [[b2i t4, n48, n49, n50, n51, n52, n53, n54, n55, n56, n57, n58, n59], [b2i t3, n36, n37, n38, n39, n40, n41, n42, n43, n44, n45, n46, n47]] [[b2i t5, n60, n61, n62, n63, n64, n65, n66, n67, n68, n69, n70, n71]] →
    (∀ b3 : Nat, (Pre_plus [[n36, n37, n38, n39, n40, n41, n42, n43, n44, n45, n46, n47], [n36, n37, n38, n39, n40, n41, n42, n43, n44, n45, n46, n47]] ∧
    (∀ n72 : Int, 0 ≤ n72 → n72 ≤ 65535 →
    (∀ n73 : Int, 0 ≤ n73 → n73 ≤ 65535 →
    (∀ n74 : Int, 0 ≤ n74 → n74 ≤ 65535 →
    (∀ n75 : Int, 0 ≤ n75 → n75 ≤ 65535 →
    (∀ n76 : Int, 0 ≤ n76 → n76 ≤ 65535 →
    (∀ n77 : Int, 0 ≤ n77 → n77 ≤ 65535 →
    (∀ n78 : Int, 0 ≤ n78 → n78 ≤ 65535 →
    (∀ n79 : Int, 0 ≤ n79 → n79 ≤ 65535 →
    (∀ n80 : Int, 0 ≤ n80 → n80 ≤ 65535 →
    (∀ n81 : Int, 0 ≤ n81 → n81 ≤ 65535 →
    (∀ n82 : Int, 0 ≤ n82 → n82 ≤ 65535 →
    (∀ n83 : Int, 0 ≤ n83 → n83 ≤ 65535 →
    (Post_plus [[n36, n37, n38, n39, n40, n41, n42, n43, n44, n45, n46, n47], [n36, n37, n38, n39, n40, n41, n42, n43, n44, n45, n46, n47]] [[n72, n73, n74, n75, n76, n77, n78, n79, n80, n81, n82, n83]] →
    (Pre_divided [[n60, n61, n62, n63, n64, n65, n66, n67, n68, n69, n70, n71], [n72, n73, n74, n75, n76, n77, n78, n79, n80, n81, n82, n83]] ∧
    (∀ n84 : Int, 0 ≤ n84 → n84 ≤ 65535 →
    (∀ n85 : Int, 0 ≤ n85 → n85 ≤ 65535 →
    (∀ n86 : Int, 0 ≤ n86 → n86 ≤ 65535 →
    (∀ n87 : Int, 0 ≤ n87 → n87 ≤ 65535 →
    (∀ n88 : Int, 0 ≤ n88 → n88 ≤ 65535 →
    (∀ n89 : Int, 0 ≤ n89 → n89 ≤ 65535 →
    (∀ n90 : Int, 0 ≤ n90 → n90 ≤ 65535 →
    (∀ n91 : Int, 0 ≤ n91 → n91 ≤ 65535 →
    (∀ n92 : Int, 0 ≤ n92 → n92 ≤ 65535 →
    (∀ n93 : Int, 0 ≤ n93 → n93 ≤ 65535 →
    (∀ n94 : Int, 0 ≤ n94 → n94 ≤ 65535 →
    (∀ n95 : Int, 0 ≤ n95 → n95 ≤ 65535 →
    (∀ n96 : Int, 0 ≤ n96 → n96 ≤ 65535 →
    (∀ n97 : Int, 0 ≤ n97 → n97 ≤ 65535 →
    (∀ n98 : Int, 0 ≤ n98 → n98 ≤ 65535 →
    (∀ n99 : Int, 0 ≤ n99 → n99 ≤ 65535 →
    (∀ n100 : Int, 0 ≤ n100 → n100 ≤ 65535 →
    (∀ n101 : Int, 0 ≤ n101 → n101 ≤ 65535 →
    (∀ n102 : Int, 0 ≤ n102 → n102 ≤ 65535 →
    (∀ n103 : Int, 0 ≤ n103 → n103 ≤ 65535 →
    (∀ n104 : Int, 0 ≤ n104 → n104 ≤ 65535 →
    (∀ n105 : Int, 0 ≤ n105 → n105 ≤ 65535 →
    (∀ n106 : Int, 0 ≤ n106 → n106 ≤ 65535 →
    (∀ n107 : Int, 0 ≤ n107 → n107 ≤ 65535 →
    (Post_divided [[n60, n61, n62, n63, n64, n65, n66, n67, n68, n69, n70, n71], [n72, n73, n74, n75, n76, n77, n78, n79, n80, n81, n82, n83]] [[n84, n85, n86, n87, n88, n89, n90, n91, n92, n93, n94, n95], [n96, n97, n98, n99, n100, n101, n102, n103, n104, n105, n106, n107]] →
    (∀ b4 : Nat, (∀ b5 : Nat, (((t5 = true) →
      (((¬ ((n96 = 0) ∧ ((n97 = 0) ∧ ((n98 = 0) ∧ ((n99 = 0) ∧ ((n100 = 0) ∧ ((n101 = 0) ∧ ((n102 = 0) ∧ ((n103 = 0) ∧ ((n104 = 0) ∧ ((n105 = 0) ∧ ((n106 = 0) ∧ (n107 = 0))))))))))))) →
        (Pre_plus [[n84, n85, n86, n87, n88, n89, n90, n91, n92, n93, n94, n95], [1, 0, 0, 0, 0, 0, 0, 0, 0, 0, 0, 0]] ∧
        (∀ n108 : Int, 0 ≤ n108 → n108 ≤ 65535 →
        (∀ n109 : Int, 0 ≤ n109 → n109 ≤ 65535 →
        (∀ n110 : Int, 0 ≤ n110 → n110 ≤ 65535 →
        (∀ n111 : Int, 0 ≤ n111 → n111 ≤ 65535 →
        (∀ n112 : Int, 0 ≤ n112 → n112 ≤ 65535 →
        (∀ n113 : Int, 0 ≤ n113 → n113 ≤ 65535 →
        (∀ n114 : Int, 0 ≤ n114 → n114 ≤ 65535 →
        (∀ n115 : Int, 0 ≤ n115 → n115 ≤ 65535 →
        (∀ n116 : Int, 0 ≤ n116 → n116 ≤ 65535 →
        (∀ n117 : Int, 0 ≤ n117 → n117 ≤ 65535 →
        (∀ n118 : Int, 0 ≤ n118 → n118 ≤ 65535 →
        (∀ n119 : Int, 0 ≤ n119 → n119 ≤ 65535 →
        (Post_plus [[n84, n85, n86, n87, n88, n89, n90, n91, n92, n93, n94, n95], [1, 0, 0, 0, 0, 0, 0, 0, 0, 0, 0, 0]] [[n108, n109, n110, n111, n112, n113, n114, n115, n116, n117, n118, n119]] →
        Post_nearest [[b2i t, n, n1, n2, n3, n4, n5, n6, n7, n8, n9, n10, n11], [b2i t1, n12, n13, n14, n15, n16, n17, n18, n19, n20, n21, n22, n23]] [[b2i t5, n108, n109, n110, n111, n112, n113, n114, n115, n116, n117, n118, n119]]))))))))))))))) ∧
       (¬ (¬ ((n96 = 0) ∧ ((n97 = 0) ∧ ((n98 = 0) ∧ ((n99 = 0) ∧ ((n100 = 0) ∧ ((n101 = 0) ∧ ((n102 = 0) ∧ ((n103 = 0) ∧ ((n104 = 0) ∧ ((n105 = 0) ∧ ((n106 = 0) ∧ (n107 = 0))))))))))))) →
        Post_nearest [[b2i t, n, n1, n2, n3, n4, n5, n6, n7, n8, n9, n10, n11], [b2i t1, n12, n13, n14, n15, n16, n17, n18, n19, n20, n21, n22, n23]] [[b2i t5, n84, n85, n86, n87, n88, n89, n90, n91, n92, n93, n94, n95]]))) ∧
     (¬ (t5 = true) →
      Post_nearest [[b2i t, n, n1, n2, n3, n4, n5, n6, n7, n8, n9, n10, n11], [b2i t1, n12, n13, n14, n15, n16, n17, n18, n19, n20, n21, n22, n23]] [[b2i t5, n84, n85, n86, n87, n88, n89, n90, n91, n92, n93, n94, n95]])))))))))))))))))))))))))))))))))))))))))))))))))))))))))))))))))))))))))))))))))))))))))))))))))))))))))) ∧
   (¬ (t1 = true) →
    (Pre_sum [[b2i t, n, n1, n2, n3, n4, n5, n6, n7, n8, n9, n10, n11], [b2i t, n, n1, n2, n3, n4, n5, n6, n7, n8, n9, n10, n11]] ∧
    (∀ t2 : Bool, (∀ n24 : Int, 0 ≤ n24 → n24 ≤ 65535 →
    (∀ n25 : Int, 0 ≤ n25 → n25 ≤ 65535 →
    (∀ n26 : Int, 0 ≤ n26 → n26 ≤ 65535 →
    (∀ n27 : Int, 0 ≤ n27 → n27 ≤ 65535 →
    (∀ n28 : Int, 0 ≤ n28 → n28 ≤ 65535 →
    (∀ n29 : Int, 0 ≤ n29 → n29 ≤ 65535 →
    (∀ n30 : Int, 0 ≤ n30 → n30 ≤ 65535 →
    (∀ n31 : Int, 0 ≤ n31 → n31 ≤ 65535 →
    (∀ n32 : Int, 0 ≤ n32 → n32 ≤ 65535 →
    (∀ n33 : Int, 0 ≤ n33 → n33 ≤ 65535 →
    (∀ n34 : Int, 0 ≤ n34 → n34 ≤ 65535 →
    (∀ n35 : Int, 0 ≤ n35 → n35 ≤ 65535 →
    (Post_sum [[b2i t, n, n1, n2, n3, n4, n5, n6, n7, n8, n9, n10, n11], [b2i t, n, n1, n2, n3, n4, n5, n6, n7, n8, n9, n10, n11]] [[b2i t2, n24, n25, n26, n27, n28, n29, n30, n31, n32, n33, n34, n35]] →
    (Pre_sum [[b2i t2, n24, n25, n26, n27, n28, n29, n30, n31, n32, n33, n34, n35], [b2i t1, n12, n13, n14, n15, n16, n17, n18, n19, n20, n21, n22, n23]] ∧
    (∀ t3 : Bool, (∀ n36 : Int, 0 ≤ n36 → n36 ≤ 65535 →
    (∀ n37 : Int, 0 ≤ n37 → n37 ≤ 65535 →
    (∀ n38 : Int, 0 ≤ n38 → n38 ≤ 65535 →
    (∀ n39 : Int, 0 ≤ n39 → n39 ≤ 65535 →
    (∀ n40 : Int, 0 ≤ n40 → n40 ≤ 65535 →
    (∀ n41 : Int, 0 ≤ n41 → n41 ≤ 65535 →
    (∀ n42 : Int, 0 ≤ n42 → n42 ≤ 65535 →
    (∀ n43 : Int, 0 ≤ n43 → n43 ≤ 65535 →
    (∀ n44 : Int, 0 ≤ n44 → n44 ≤ 65535 →
    (∀ n45 : Int, 0 ≤ n45 → n45 ≤ 65535 →
    (∀ n46 : Int, 0 ≤ n46 → n46 ≤ 65535 →
    (∀ n47 : Int, 0 ≤ n47 → n47 ≤ 65535 →
    (Post_sum [[b2i t2, n24, n25, n26, n27, n28, n29, n30, n31, n32, n33, n34, n35], [b2i t1, n12, n13, n14, n15, n16, n17, n18, n19, n20, n21, n22, n23]] [[b2i t3, n36, n37, n38, n39, n40, n41, n42, n43, n44, n45, n46, n47]] →
    (∀ b3 : Nat, (Pre_plus [[n12, n13, n14, n15, n16, n17, n18, n19, n20, n21, n22, n23], [n12, n13, n14, n15, n16, n17, n18, n19, n20, n21, n22, n23]] ∧
    (∀ n48 : Int, 0 ≤ n48 → n48 ≤ 65535 →
    (∀ n49 : Int, 0 ≤ n49 → n49 ≤ 65535 →
    (∀ n50 : Int, 0 ≤ n50 → n50 ≤ 65535 →
    (∀ n51 : Int, 0 ≤ n51 → n51 ≤ 65535 →
    (∀ n52 : Int, 0 ≤ n52 → n52 ≤ 65535 →
    (∀ n53 : Int, 0 ≤ n53 → n53 ≤ 65535 →
    (∀ n54 : Int, 0 ≤ n54 → n54 ≤ 65535 →
    (∀ n55 : Int, 0 ≤ n55 → n55 ≤ 65535 →
    (∀ n56 : Int, 0 ≤ n56 → n56 ≤ 65535 →
    (∀ n57 : Int, 0 ≤ n57 → n57 ≤ 65535 →
    (∀ n58 : Int, 0 ≤ n58 → n58 ≤ 65535 →
    (∀ n59 : Int, 0 ≤ n59 → n59 ≤ 65535 →
    (Post_plus [[n12, n13, n14, n15, n16, n17, n18, n19, n20, n21, n22, n23], [n12, n13, n14, n15, n16, n17, n18, n19, n20, n21, n22, n23]] [[n48, n49, n50, n51, n52, n53, n54, n55, n56, n57, n58, n59]] →
    (Pre_divided [[n36, n37, n38, n39, n40, n41, n42, n43, n44, n45, n46, n47], [n48, n49, n50, n51, n52, n53, n54, n55, n56, n57, n58, n59]] ∧
    (∀ n60 : Int, 0 ≤ n60 → n60 ≤ 65535 →
    (∀ n61 : Int, 0 ≤ n61 → n61 ≤ 65535 →
    (∀ n62 : Int, 0 ≤ n62 → n62 ≤ 65535 →
    (∀ n63 : Int, 0 ≤ n63 → n63 ≤ 65535 →
    (∀ n64 : Int, 0 ≤ n64 → n64 ≤ 65535 →
    (∀ n65 : Int, 0 ≤ n65 → n65 ≤ 65535 →
    (∀ n66 : Int, 0 ≤ n66 → n66 ≤ 65535 →
    (∀ n67 : Int, 0 ≤ n67 → n67 ≤ 65535 →
    (∀ n68 : Int, 0 ≤ n68 → n68 ≤ 65535 →
    (∀ n69 : Int, 0 ≤ n69 → n69 ≤ 65535 →
    (∀ n70 : Int, 0 ≤ n70 → n70 ≤ 65535 →
    (∀ n71 : Int, 0 ≤ n71 → n71 ≤ 65535 →
    (∀ n72 : Int, 0 ≤ n72 → n72 ≤ 65535 →
    (∀ n73 : Int, 0 ≤ n73 → n73 ≤ 65535 →
    (∀ n74 : Int, 0 ≤ n74 → n74 ≤ 65535 →
    (∀ n75 : Int, 0 ≤ n75 → n75 ≤ 65535 →
    (∀ n76 : Int, 0 ≤ n76 → n76 ≤ 65535 →
    (∀ n77 : Int, 0 ≤ n77 → n77 ≤ 65535 →
    (∀ n78 : Int, 0 ≤ n78 → n78 ≤ 65535 →
    (∀ n79 : Int, 0 ≤ n79 → n79 ≤ 65535 →
    (∀ n80 : Int, 0 ≤ n80 → n80 ≤ 65535 →
    (∀ n81 : Int, 0 ≤ n81 → n81 ≤ 65535 →
    (∀ n82 : Int, 0 ≤ n82 → n82 ≤ 65535 →
    (∀ n83 : Int, 0 ≤ n83 → n83 ≤ 65535 →
    (Post_divided [[n36, n37, n38, n39, n40, n41, n42, n43, n44, n45, n46, n47], [n48, n49, n50, n51, n52, n53, n54, n55, n56, n57, n58, n59]] [[n60, n61, n62, n63, n64, n65, n66, n67, n68, n69, n70, n71], [n72, n73, n74, n75, n76, n77, n78, n79, n80, n81, n82, n83]] →
    (∀ b4 : Nat, (∀ b5 : Nat, (((t3 = true) →
      (((¬ ((n72 = 0) ∧ ((n73 = 0) ∧ ((n74 = 0) ∧ ((n75 = 0) ∧ ((n76 = 0) ∧ ((n77 = 0) ∧ ((n78 = 0) ∧ ((n79 = 0) ∧ ((n80 = 0) ∧ ((n81 = 0) ∧ ((n82 = 0) ∧ (n83 = 0))))))))))))) →
        (Pre_plus [[n60, n61, n62, n63, n64, n65, n66, n67, n68, n69, n70, n71], [1, 0, 0, 0, 0, 0, 0, 0, 0, 0, 0, 0]] ∧
        (∀ n84 : Int, 0 ≤ n84 → n84 ≤ 65535 →
        (∀ n85 : Int, 0 ≤ n85 → n85 ≤ 65535 →
        (∀ n86 : Int, 0 ≤ n86 → n86 ≤ 65535 →
        (∀ n87 : Int, 0 ≤ n87 → n87 ≤ 65535 →
        (∀ n88 : Int, 0 ≤ n88 → n88 ≤ 65535 →
        (∀ n89 : Int, 0 ≤ n89 → n89 ≤ 65535 →
        (∀ n90 : Int, 0 ≤ n90 → n90 ≤ 65535 →
        (∀ n91 : Int, 0 ≤ n91 → n91 ≤ 65535 →
        (∀ n92 : Int, 0 ≤ n92 → n92 ≤ 65535 →
        (∀ n93 : Int, 0 ≤ n93 → n93 ≤ 65535 →
        (∀ n94 : Int, 0 ≤ n94 → n94 ≤ 65535 →
        (∀ n95 : Int, 0 ≤ n95 → n95 ≤ 65535 →
        (Post_plus [[n60, n61, n62, n63, n64, n65, n66, n67, n68, n69, n70, n71], [1, 0, 0, 0, 0, 0, 0, 0, 0, 0, 0, 0]] [[n84, n85, n86, n87, n88, n89, n90, n91, n92, n93, n94, n95]] →
        Post_nearest [[b2i t, n, n1, n2, n3, n4, n5, n6, n7, n8, n9, n10, n11], [b2i t1, n12, n13, n14, n15, n16, n17, n18, n19, n20, n21, n22, n23]] [[b2i t3, n84, n85, n86, n87, n88, n89, n90, n91, n92, n93, n94, n95]]))))))))))))))) ∧
       (¬ (¬ ((n72 = 0) ∧ ((n73 = 0) ∧ ((n74 = 0) ∧ ((n75 = 0) ∧ ((n76 = 0) ∧ ((n77 = 0) ∧ ((n78 = 0) ∧ ((n79 = 0) ∧ ((n80 = 0) ∧ ((n81 = 0) ∧ ((n82 = 0) ∧ (n83 = 0))))))))))))) →
        Post_nearest [[b2i t, n, n1, n2, n3, n4, n5, n6, n7, n8, n9, n10, n11], [b2i t1, n12, n13, n14, n15, n16, n17, n18, n19, n20, n21, n22, n23]] [[b2i t3, n60, n61, n62, n63, n64, n65, n66, n67, n68, n69, n70, n71]]))) ∧
     (¬ (t3 = true) →
      Post_nearest [[b2i t, n, n1, n2, n3, n4, n5, n6, n7, n8, n9, n10, n11], [b2i t1, n12, n13, n14, n15, n16, n17, n18, n19, n20, n21, n22, n23]] [[b2i t3, n60, n61, n62, n63, n64, n65, n66, n67, n68, n69, n70, n71]])))))))))))))))))))))))))))))))))))))))))))))))))))))))))))))))))))))))))))))))))))))))))))))))))))))))))))
theorem c_nearest : canCall Tryz.prog 70 = true := by kernel_rfl
theorem s_nearest : P_nearest = sat E (symTop Tryz.prog tab33 2000 70 ash_nearest sh_nearest) := by kernel_rfl
theorem pure_nearest (hV : Valid Tryz.prog tab33 E) (h : P_nearest) (args : List Value) (ha : shaFits ash_nearest args) (hp : E.pre 70 (args.map vints)) : Pure Tryz.prog 70 args.toArray fun v => sh_nearest.fits v ∧ E.post 70 (args.map vints) (vres v) := @top_sat Tryz.prog tab33 E hV 2000 70 ash_nearest sh_nearest (@Eq.mp _ _ s_nearest h) args ha hp
theorem step_nearest (hV : Valid Tryz.prog tab33 E) (h : P_nearest) : Valid Tryz.prog tab34 E := hV.add c_nearest (pure_nearest hV h)

/-- gouache/gouacheref01.Cmp -/
def P_rcmp : Prop :=
  (∀ n : Int, (-9223372036854775808) ≤ n → n ≤ 9223372036854775807 →
  (∀ n1 : Int, 0 ≤ n1 → n1 ≤ 18446744073709551615 →
  (∀ n2 : Int, (-9223372036854775808) ≤ n2 → n2 ≤ 9223372036854775807 →
  (∀ n3 : Int, 0 ≤ n3 → n3 ≤ 18446744073709551615 →
  (Pre_rcmp [[n, n1], [n2, n3]] →
  (∀ b : Nat, (∀ b1 : Nat, (Pre_read [[n, n1]] ∧
  (∀ t : Bool, (∀ n4 : Int, 0 ≤ n4 → n4 ≤ 65535 →
  (∀ n5 : Int, 0 ≤ n5 → n5 ≤ 65535 →
  (∀ n6 : Int, 0 ≤ n6 → n6 ≤ 65535 →
  (∀ n7 : Int, 0 ≤ n7 → n7 ≤ 65535 →
  (∀ n8 : Int, 0 ≤ n8 → n8 ≤ 65535 →
  (∀ n9 : Int, 0 ≤ n9 → n9 ≤ 65535 →
  (∀ n10 : Int, 0 ≤ n10 → n10 ≤ 65535 →
  (∀ n11 : Int, 0 ≤ n11 → n11 ≤ 65535 →
  (∀ n12 : Int, 0 ≤ n12 → n12 ≤ 65535 →
  (∀ n13 : Int, 0 ≤ n13 → n13 ≤ 65535 →
  (∀ n14 : Int, 0 ≤ n14 → n14 ≤ 65535 →
  (∀ n15 : Int, 0 ≤ n15 → n15 ≤ 65535 →
  (Post_read [[n, n1]] [[b2i t, n4, n5, n6, n7, n8, n9, n10, n11, n12, n13, n14, n15]] →
  (Pre_read [[n2, n3]] ∧
  (∀ t1 : Bool, (∀ n16 : Int, 0 ≤ n16 → n16 ≤ 65535 →
  (∀ n17 : Int, 0 ≤ n17 → n17 ≤ 65535 →
  (∀ n18 : Int, 0 ≤ n18 → n18 ≤ 65535 →
  (∀ n19 : Int, 0 ≤ n19 → n19 ≤ 65535 →
  (∀ n20 : Int, 0 ≤ n20 → n20 ≤ 65535 →
  (∀ n21 : Int, 0 ≤ n21 → n21 ≤ 65535 →
  (∀ n22 : Int, 0 ≤ n22 → n22 ≤ 65535 →
  (∀ n23 : Int, 0 ≤ n23 → n23 ≤ 65535 →
  (∀ n24 : Int, 0 ≤ n24 → n24 ≤ 65535 →
  (∀ n25 : Int, 0 ≤ n25 → n25 ≤ 65535 →
  (∀ n26 : Int, 0 ≤ n26 → n26 ≤ 65535 →
  (∀ n27 : Int, 0 ≤ n27 → n27 ≤ 65535 →
  (Post_read [[n2, n3]] [[b2i t1, n16, n17, n18, n19, n20, n21, n22, n23, n24, n25, n26, n27]] →
  (Pre_minus [[b2i t1, n16, n17, n18, n19, n20, n21, n22, n23, n24, n25, n26, n27]] ∧
  (∀ t2 : Bool, (∀ n28 : Int, 0 ≤ n28 → n28 ≤ 65535 →
  (∀ n29 : Int, 0 ≤ n29 → n29 ≤ 65535 →
  (∀ n30 : Int, 0 ≤ n30 → n30 ≤ 65535 →
  (∀ n31 : Int, 0 ≤ n31 → n31 ≤ 65535 →
  (∀ n32 : Int, 0 ≤ n32 → n32 ≤ 65535 →
  (∀ n33 : Int, 0 ≤ n33 → n33 ≤ 65535 →
  (∀ n34 : Int, 0 ≤ n34 → n34 ≤ 65535 →
  (∀ n35 : Int, 0 ≤ n35 → n35 ≤ 65535 →
  (∀ n36 : Int, 0 ≤ n36 → n36 ≤ 65535 →
  (∀ n37 : Int, 0 ≤ n37 → n37 ≤ 65535 →
  (∀ n38 : Int, 0 ≤ n38 → n38 ≤ 65535 →
  (∀ n39 : Int, 0 ≤ n39 → n39 ≤ 65535 →
  (Post_minus [[b2i t1, n16, n17, n18, n19, n20, n21, n22, n23, n24, n25, n26, n27]] [[b2i t2, n28, n29, n30, n31, n32, n33, n34, n35, n36, n37, n38, n39]] →
  (Pre_sum [[b2i t, n4, n5, n6, n7, n8, n9, n10, n11, n12, n13, n14, n15], [b2i t2, n28, n29, n30, n31, n32, n33, n34, n35, n36, n37, n38, n39]] ∧
  (∀ t3 : Bool, (∀ n40 : Int, 0 ≤ n40 → n40 ≤ 65535 →
  (∀ n41 : Int, 0 ≤ n41 → n41 ≤ 65535 →
  (∀ n42 : Int, 0 ≤ n42 → n42 ≤ 65535 →
  (∀ n43 : Int, 0 ≤ n43 → n43 ≤ 65535 →
  (∀ n44 : Int, 0 ≤ n44 → n44 ≤ 65535 →
  (∀ n45 : Int, 0 ≤ n45 → n45 ≤ 65535 →
  (∀ n46 : Int, 0 ≤ n46 → n46 ≤ 65535 →
  (∀ n47 : Int, 0 ≤ n47 → n47 ≤ 65535 →
  (∀ n48 : Int, 0 ≤ n48 → n48 ≤ 65535 →
  (∀ n49 : Int, 0 ≤ n49 → n49 ≤ 65535 →
  (∀ n50 : Int, 0 ≤ n50 → n50 ≤ 65535 →
  (∀ n51 : Int, 0 ≤ n51 → n51 ≤ 65535 →
  (Post_sum [[b2i t, n4, n5, n6, n7, n8, n9, n10, n11, n12, n13, n14, n15], [b2i t2, n28, n29, n30, n31, n32, n33, n34, n35, n36, n37, n38, n39]] [[b2i t3, n40, n41, n42, n43, n44, n45, n46, n47, n48, n49, n50, n51]] →
  (∀ b2 : Nat, (Pre_zero [[b2i t3, n40, n41, n42, n43, n44, n45, n46, n47, n48, n49, n50, n51]] ∧
  (∀ t4 : Bool, (Post_zero [[b2i t3, n40, n41, n42, n43, n44, n45, n46, n47, n48, n49, n50, n51]] [[b2i t4]] →
  (((t4 = true) →
    Post_rcmp [[n, n1], [n2, n3]] [[0]]) ∧
   (¬ (t4 = true) →
    (((t3 = true) →
      Post_rcmp [[n, n1], [n2, n3]] [[(-1)]]) ∧
     (¬ (t3 = true) →
      Post_rcmp [[n, n1], [n2, n3]] [[1]])))))))))))))))))))))))))))))))))))))))))))))))))))))))))))))))))))))))))))
theorem c_rcmp : canCall Tryz.prog 67 = true := by kernel_rfl
theorem s_rcmp : P_rcmp = sat E (symTop Tryz.prog tab34 2000 67 ash_rcmp sh_rcmp) := by kernel_rfl
theorem pure_rcmp (hV : Valid Tryz.prog tab34 E) (h : P_rcmp) (args : List Value) (ha : shaFits ash_rcmp args) (hp : E.pre 67 (args.map vints)) : Pure Tryz.prog 67 args.toArray fun v => sh_rcmp.fits v ∧ E.post 67 (args.map vints) (vres v) := @top_sat Tryz.prog tab34 E hV 2000 67 ash_rcmp sh_rcmp (@Eq.mp _ _ s_rcmp h) args ha hp
theorem step_rcmp (hV : Valid Tryz.prog tab34 E) (h : P_rcmp) : Valid Tryz.prog tab35 E := hV.add c_rcmp (pure_rcmp hV h)

/-- gouache/gouacheref01.Int -/
def P_rint : Prop :=
  (∀ n : Int, (-9223372036854775808) ≤ n → n ≤ 9223372036854775807 →
  (∀ n1 : Int, 0 ≤ n1 → n1 ≤ 18446744073709551615 →
  (Pre_rint [[n, n1]] →
  (∀ b : Nat, (Pre_rof [[(-9223372036854775808)]] ∧
  (∀ n2 : Int, (-9223372036854775808) ≤ n2 → n2 ≤ 9223372036854775807 →
  (∀ n3 : Int, 0 ≤ n3 → n3 ≤ 18446744073709551615 →
  (Post_rof [[(-9223372036854775808)]] [[n2, n3]] →
  (Pre_rcmp [[n, n1], [n2, n3]] ∧
  (∀ n4 : Int, (-1) ≤ n4 → n4 ≤ 1 →
  (Post_rcmp [[n, n1], [n2, n3]] [[n4]] →
  (((n4 < 0) →
    Post_rint [[n, n1]] [[0], [b2i false]]) ∧
   (¬ (n4 < 0) →
    (Pre_rof [[9223372036854775807]] ∧
    (∀ n5 : Int, (-9223372036854775808) ≤ n5 → n5 ≤ 9223372036854775807 →
    (∀ n6 : Int, 0 ≤ n6 → n6 ≤ 18446744073709551615 →
    (Post_rof [[9223372036854775807]] [[n5, n6]] →
    (Pre_rcmp [[n, n1], [n5, n6]] ∧
    (∀ n7 : Int, (-1) ≤ n7 → n7 ≤ 1 →
    (Post_rcmp [[n, n1], [n5, n6]] [[n7]] →
    (((0 < n7) →
      Post_rint [[n, n1]] [[0], [b2i false]]) ∧
     (¬ (0 < n7) →
      (∀ n8 : Int, n8 = (IntKind.wrap .i64 n1) → (-9223372036854775808) ≤ n8 → n8 ≤ 9223372036854775807 →
      Post_rint [[n, n1]] [[n8], [b2i true]])))))))))))))))))))))))
theorem c_rint : canCall Tryz.prog 58 = true := by kernel_rfl
theorem s_rint : P_rint = sat E (symTop Tryz.prog tab35 2000 58 ash_rint sh_rint) := by kernel_rfl
theorem pure_rint (hV : Valid Tryz.prog tab35 E) (h : P_rint) (args : List Value) (ha : shaFits ash_rint args) (hp : E.pre 58 (args.map vints)) : Pure Tryz.prog 58 args.toArray fun v => sh_rint.fits v ∧ E.post 58 (args.map vints) (vres v) := @top_sat Tryz.prog tab35 E hV 2000 58 ash_rint sh_rint (@Eq.mp _ _ s_rint h) args ha hp
theorem step_rint (hV : Valid Tryz.prog tab35 E) (h : P_rint) : Valid Tryz.prog tab36 E := hV.add c_rint (pure_rint hV h)

/-- gouache/gouacheref01.Add -/
def P_radd : Prop :=
  (∀ n : Int, (-9223372036854775808) ≤ n → n ≤ 9223372036854775807 →
  (∀ n1 : Int, 0 ≤ n1 → n1 ≤ 18446744073709551615 →
  (∀ n2 : Int, (-9223372036854775808) ≤ n2 → n2 ≤ 9223372036854775807 →
  (∀ n3 : Int, 0 ≤ n3 → n3 ≤ 18446744073709551615 →
  (Pre_radd [[n, n1], [n2, n3]] →
  (∀ b : Nat, (∀ b1 : Nat, (∀ b2 : Nat, (Pre_read [[n, n1]] ∧
  (∀ t : Bool, (∀ n4 : Int, 0 ≤ n4 → n4 ≤ 65535 →
  (∀ n5 : Int, 0 ≤ n5 → n5 ≤ 65535 →
  (∀ n6 : Int, 0 ≤ n6 → n6 ≤ 65535 →
  (∀ n7 : Int, 0 ≤ n7 → n7 ≤ 65535 →
  (∀ n8 : Int, 0 ≤ n8 → n8 ≤ 65535 →
  (∀ n9 : Int, 0 ≤ n9 → n9 ≤ 65535 →
  (∀ n10 : Int, 0 ≤ n10 → n10 ≤ 65535 →
  (∀ n11 : Int, 0 ≤ n11 → n11 ≤ 65535 →
  (∀ n12 : Int, 0 ≤ n12 → n12 ≤ 65535 →
  (∀ n13 : Int, 0 ≤ n13 → n13 ≤ 65535 →
  (∀ n14 : Int, 0 ≤ n14 → n14 ≤ 65535 →
  (∀ n15 : Int, 0 ≤ n15 → n15 ≤ 65535 →
  (Post_read [[n, n1]] [[b2i t, n4, n5, n6, n7, n8, n9, n10, n11, n12, n13, n14, n15]] →
  (Pre_read [[n2, n3]] ∧
  (∀ t1 : Bool, (∀ n16 : Int, 0 ≤ n16 → n16 ≤ 65535 →
  (∀ n17 : Int, 0 ≤ n17 → n17 ≤ 65535 →
  (∀ n18 : Int, 0 ≤ n18 → n18 ≤ 65535 →
  (∀ n19 : Int, 0 ≤ n19 → n19 ≤ 65535 →
  (∀ n20 : Int, 0 ≤ n20 → n20 ≤ 65535 →
  (∀ n21 : Int, 0 ≤ n21 → n21 ≤ 65535 →
  (∀ n22 : Int, 0 ≤ n22 → n22 ≤ 65535 →
  (∀ n23 : Int, 0 ≤ n23 → n23 ≤ 65535 →
  (∀ n24 : Int, 0 ≤ n24 → n24 ≤ 65535 →
  (∀ n25 : Int, 0 ≤ n25 → n25 ≤ 65535 →
  (∀ n26 : Int, 0 ≤ n26 → n26 ≤ 65535 →
  (∀ n27 : Int, 0 ≤ n27 → n27 ≤ 65535 →
  (Post_read [[n2, n3]] [[b2i t1, n16, n17, n18, n19, n20, n21, n22, n23, n24, n25, n26, n27]] →
  (Pre_sum [[b2i t, n4, n5, n6, n7, n8, n9, n10, n11, n12, n13, n14, n15], [b2i t1, n16, n17, n18, n19, n20, n21, n22, n23, n24, n25, n26, n27]] ∧
  (∀ t2 : Bool, (∀ n28 : Int, 0 ≤ n28 → n28 ≤ 65535 →
  (∀ n29 : Int, 0 ≤ n29 → n29 ≤ 65535 →
  (∀ n30 : Int, 0 ≤ n30 → n30 ≤ 65535 →
  (∀ n31 : Int, 0 ≤ n31 → n31 ≤ 65535 →
  (∀ n32 : Int, 0 ≤ n32 → n32 ≤ 65535 →
  (∀ n33 : Int, 0 ≤ n33 → n33 ≤ 65535 →
  (∀ n34 : Int, 0 ≤ n34 → n34 ≤ 65535 →
  (∀ n35 : Int, 0 ≤ n35 → n35 ≤ 65535 →
  (∀ n36 : Int, 0 ≤ n36 → n36 ≤ 65535 →
  (∀ n37 : Int, 0 ≤ n37 → n37 ≤ 65535 →
  (∀ n38 : Int, 0 ≤ n38 → n38 ≤ 65535 →
  (∀ n39 : Int, 0 ≤ n39 → n39 ≤ 65535 →
  (Post_sum [[b2i t, n4, n5, n6, n7, n8, n9, n10, n11, n12, n13, n14, n15], [b2i t1, n16, n17, n18, n19, n20, n21, n22, n23, n24, n25, n26, n27]] [[b2i t2, n28, n29, n30, n31, n32, n33, n34, n35, n36, n37, n38, n39]] →
  (Pre_tell [[b2i t2, n28, n29, n30, n31, n32, n33, n34, n35, n36, n37, n38, n39]] ∧
  (∀ n40 : Int, (-9223372036854775808) ≤ n40 → n40 ≤ 9223372036854775807 →
  (∀ n41 : Int, 0 ≤ n41 → n41 ≤ 18446744073709551615 →
  (∀ n42 : Int, 0 ≤ n42 → n42 ≤ 11 →
  (Post_tell [[b2i t2, n28, n29, n30, n31, n32, n33, n34, n35, n36, n37, n38, n39]] [[n40, n41], [n42]] →
  Post_radd [[n, n1], [n2, n3]] [[n40, n41], [n42]]))))))))))))))))))))))))))))))))))))))))))))))))))))))))))
theorem c_radd : canCall Tryz.prog 69 = true := by kernel_rfl
theorem s_radd : P_radd = sat E (symTop Tryz.prog tab36 2000 69 ash_radd sh_radd) := by kernel_rfl
theorem pure_radd (hV : Valid Tryz.prog tab36 E) (h : P_radd) (args : List Value) (ha : shaFits ash_radd args) (hp : E.pre 69 (args.map vints)) : Pure Tryz.prog 69 args.toArray fun v => sh_radd.fits v ∧ E.post 69 (args.map vints) (vres v) := @top_sat Tryz.prog tab36 E hV 2000 69 ash_radd sh_radd (@Eq.mp _ _ s_radd h) args ha hp
theorem step_radd (hV : Valid Tryz.prog tab36 E) (h : P_radd) : Valid Tryz.prog tab37 E := hV.add c_radd (pure_radd hV h)

/-- gouache/gouacheref01.Times -/
def P_rtms : Prop :=
  (∀ n : Int, (-9223372036854775808) ≤ n → n ≤ 9223372036854775807 →
  (∀ n1 : Int, 0 ≤ n1 → n1 ≤ 18446744073709551615 →
  (∀ n2 : Int, (-9223372036854775808) ≤ n2 → n2 ≤ 9223372036854775807 →
  (Pre_rtms [[n, n1], [n2]] →
  (∀ b : Nat, (∀ b1 : Nat, (Pre_read [[n, n1]] ∧
  (∀ t : Bool, (∀ n3 : Int, 0 ≤ n3 → n3 ≤ 65535 →
  (∀ n4 : Int, 0 ≤ n4 → n4 ≤ 65535 →
  (∀ n5 : Int, 0 ≤ n5 → n5 ≤ 65535 →
  (∀ n6 : Int, 0 ≤ n6 → n6 ≤ 65535 →
  (∀ n7 : Int, 0 ≤ n7 → n7 ≤ 65535 →
  (∀ n8 : Int, 0 ≤ n8 → n8 ≤ 65535 →
  (∀ n9 : Int, 0 ≤ n9 → n9 ≤ 65535 →
  (∀ n10 : Int, 0 ≤ n10 → n10 ≤ 65535 →
  (∀ n11 : Int, 0 ≤ n11 → n11 ≤ 65535 →
  (∀ n12 : Int, 0 ≤ n12 → n12 ≤ 65535 →
  (∀ n13 : Int, 0 ≤ n13 → n13 ≤ 65535 →
  (∀ n14 : Int, 0 ≤ n14 → n14 ≤ 65535 →
  (Post_read [[n, n1]] [[b2i t, n3, n4, n5, n6, n7, n8, n9, n10, n11, n12, n13, n14]] →
  (Pre_small [[n2]] ∧
  (∀ t1 : Bool, (∀ n15 : Int, 0 ≤ n15 → n15 ≤ 65535 →
  (∀ n16 : Int, 0 ≤ n16 → n16 ≤ 65535 →
  (∀ n17 : Int, 0 ≤ n17 → n17 ≤ 65535 →
  (∀ n18 : Int, 0 ≤ n18 → n18 ≤ 65535 →
  (∀ n19 : Int, 0 ≤ n19 → n19 ≤ 65535 →
  (∀ n20 : Int, 0 ≤ n20 → n20 ≤ 65535 →
  (∀ n21 : Int, 0 ≤ n21 → n21 ≤ 65535 →
  (∀ n22 : Int, 0 ≤ n22 → n22 ≤ 65535 →
  (∀ n23 : Int, 0 ≤ n23 → n23 ≤ 65535 →
  (∀ n24 : Int, 0 ≤ n24 → n24 ≤ 65535 →
  (∀ n25 : Int, 0 ≤ n25 → n25 ≤ 65535 →
  (∀ n26 : Int, 0 ≤ n26 → n26 ≤ 65535 →
  (Post_small [[n2]] [[b2i t1, n15, n16, n17, n18, n19, n20, n21, n22, n23, n24, n25, n26]] →
  (Pre_product [[b2i t, n3, n4, n5, n6, n7, n8, n9, n10, n11, n12, n13, n14], [b2i t1, n15, n16, n17, n18, n19, n20, n21, n22, n23, n24, n25, n26]] ∧
  (∀ t2 : Bool, (∀ n27 : Int, 0 ≤ n27 → n27 ≤ 65535 →
  (∀ n28 : Int, 0 ≤ n28 → n28 ≤ 65535 →
  (∀ n29 : Int, 0 ≤ n29 → n29 ≤ 65535 →
  (∀ n30 : Int, 0 ≤ n30 → n30 ≤ 65535 →
  (∀ n31 : Int, 0 ≤ n31 → n31 ≤ 65535 →
  (∀ n32 : Int, 0 ≤ n32 → n32 ≤ 65535 →
  (∀ n33 : Int, 0 ≤ n33 → n33 ≤ 65535 →
  (∀ n34 : Int, 0 ≤ n34 → n34 ≤ 65535 →
  (∀ n35 : Int, 0 ≤ n35 → n35 ≤ 65535 →
  (∀ n36 : Int, 0 ≤ n36 → n36 ≤ 65535 →
  (∀ n37 : Int, 0 ≤ n37 → n37 ≤ 65535 →
  (∀ n38 : Int, 0 ≤ n38 → n38 ≤ 65535 →
  (Post_product [[b2i t, n3, n4, n5, n6, n7, n8, n9, n10, n11, n12, n13, n14], [b2i t1, n15, n16, n17, n18, n19, n20, n21, n22, n23, n24, n25, n26]] [[b2i t2, n27, n28, n29, n30, n31, n32, n33, n34, n35, n36, n37, n38]] →
  (Pre_tell [[b2i t2, n27, n28, n29, n30, n31, n32, n33, n34, n35, n36, n37, n38]] ∧
  (∀ n39 : Int, (-9223372036854775808) ≤ n39 → n39 ≤ 9223372036854775807 →
  (∀ n40 : Int, 0 ≤ n40 → n40 ≤ 18446744073709551615 →
  (∀ n41 : Int, 0 ≤ n41 → n41 ≤ 11 →
  (Post_tell [[b2i t2, n27, n28, n29, n30, n31, n32, n33, n34, n35, n36, n37, n38]] [[n39, n40], [n41]] →
  Post_rtms [[n, n1], [n2]] [[n39, n40], [n41]]))))))))))))))))))))))))))))))))))))))))))))))))))))))))
theorem c_rtms : canCall Tryz.prog 68 = true := by kernel_rfl
theorem s_rtms : P_rtms = sat E (symTop Tryz.prog tab37 2000 68 ash_rtms sh_rtms) := by kernel_rfl
theorem pure_rtms (hV : Valid Tryz.prog tab37 E) (h : P_rtms) (args : List Value) (ha : shaFits ash_rtms args) (hp : E.pre 68 (args.map vints)) : Pure Tryz.prog 68 args.toArray fun v => sh_rtms.fits v ∧ E.post 68 (args.map vints) (vres v) := @top_sat Tryz.prog tab37 E hV 2000 68 ash_rtms sh_rtms (@Eq.mp _ _ s_rtms h) args ha hp
theorem step_rtms (hV : Valid Tryz.prog tab37 E) (h : P_rtms) : Valid Tryz.prog tab38 E := hV.add c_rtms (pure_rtms hV h)

/-- gouache/gouacheref01.Mul -/
def P_rmul : Prop :=
  (∀ n : Int, (-9223372036854775808) ≤ n → n ≤ 9223372036854775807 →
  (∀ n1 : Int, (-9223372036854775808) ≤ n1 → n1 ≤ 9223372036854775807 →
  (Pre_rmul [[n], [n1]] →
  (∀ b : Nat, (Pre_rof [[n]] ∧
  (∀ n2 : Int, (-9223372036854775808) ≤ n2 → n2 ≤ 9223372036854775807 →
  (∀ n3 : Int, 0 ≤ n3 → n3 ≤ 18446744073709551615 →
  (Post_rof [[n]] [[n2, n3]] →
  (Pre_rtms [[n2, n3], [n1]] ∧
  (∀ n4 : Int, (-9223372036854775808) ≤ n4 → n4 ≤ 9223372036854775807 →
  (∀ n5 : Int, 0 ≤ n5 → n5 ≤ 18446744073709551615 →
  (∀ n6 : Int, 0 ≤ n6 → n6 ≤ 11 →
  (Post_rtms [[n2, n3], [n1]] [[n4, n5], [n6]] →
  (∀ b1 : Nat, Post_rmul [[n], [n1]] [[n4, n5]]))))))))))))))
theorem c_rmul : canCall Tryz.prog 66 = true := by kernel_rfl
theorem s_rmul : P_rmul = sat E (symTop Tryz.prog tab38 2000 66 ash_rmul sh_rmul) := by kernel_rfl
theorem pure_rmul (hV : Valid Tryz.prog tab38 E) (h : P_rmul) (args : List Value) (ha : shaFits ash_rmul args) (hp : E.pre 66 (args.map vints)) : Pure Tryz.prog 66 args.toArray fun v => sh_rmul.fits v ∧ E.post 66 (args.map vints) (vres v) := @top_sat Tryz.prog tab38 E hV 2000 66 ash_rmul sh_rmul (@Eq.mp _ _ s_rmul h) args ha hp
theorem step_rmul (hV : Valid Tryz.prog tab38 E) (h : P_rmul) : Valid Tryz.prog tab39 E := hV.add c_rmul (pure_rmul hV h)

/-- gouache/gouacheref01.Near -/
def P_rnear : Prop :=
  (∀ n : Int, (-9223372036854775808) ≤ n → n ≤ 9223372036854775807 →
  (∀ n1 : Int, 0 ≤ n1 → n1 ≤ 18446744073709551615 →
  (∀ n2 : Int, (-9223372036854775808) ≤ n2 → n2 ≤ 9223372036854775807 →
  (Pre_rnear [[n, n1], [n2]] →
  (∀ b : Nat, (∀ b1 : Nat, (((n2 < 1) →
    Post_rnear [[n, n1], [n2]] [[0, 0], [1]]) ∧
   (¬ (n2 < 1) →
    (Pre_read [[n, n1]] ∧
    (∀ t : Bool, (∀ n3 : Int, 0 ≤ n3 → n3 ≤ 65535 →
    (∀ n4 : Int, 0 ≤ n4 → n4 ≤ 65535 →
    (∀ n5 : Int, 0 ≤ n5 → n5 ≤ 65535 →
    (∀ n6 : Int, 0 ≤ n6 → n6 ≤ 65535 →
    (∀ n7 : Int, 0 ≤ n7 → n7 ≤ 65535 →
    (∀ n8 : Int, 0 ≤ n8 → n8 ≤ 65535 →
    (∀ n9 : Int, 0 ≤ n9 → n9 ≤ 65535 →
    (∀ n10 : Int, 0 ≤ n10 → n10 ≤ 65535 →
    (∀ n11 : Int, 0 ≤ n11 → n11 ≤ 65535 →
    (∀ n12 : Int, 0 ≤ n12 → n12 ≤ 65535 →
    (∀ n13 : Int, 0 ≤ n13 → n13 ≤ 65535 →
    (∀ n14 : Int, 0 ≤ n14 → n14 ≤ 65535 →
    (Post_read [[n, n1]] [[b2i t, n3, n4, n5, n6, n7, n8, n9, n10, n11, n12, n13, n14]] →
    (Pre_small [[n2]] ∧
    (∀ t1 : Bool, (∀ n15 : Int, 0 ≤ n15 → n15 ≤ 65535 →
    (∀ n16 : Int, 0 ≤ n16 → n16 ≤ 65535 →
    (∀ n17 : Int, 0 ≤ n17 → n17 ≤ 65535 →
    (∀ n18 : Int, 0 ≤ n18 → n18 ≤ 65535 →
    (∀ n19 : Int, 0 ≤ n19 → n19 ≤ 65535 →
    (∀ n20 : Int, 0 ≤ n20 → n20 ≤ 65535 →
    (∀ n21 : Int, 0 ≤ n21 → n21 ≤ 65535 →
    (∀ n22 : Int, 0 ≤ n22 → n22 ≤ 65535 →
    (∀ n23 : Int, 0 ≤ n23 → n23 ≤ 65535 →
    (∀ n24 : Int, 0 ≤ n24 → n24 ≤ 65535 →
    (∀ n25 : Int, 0 ≤ n25 → n25 ≤ 65535 →
    (∀ n26 : Int, 0 ≤ n26 → n26 ≤ 65535 →
    (Post_small [[n2]] [[b2i t1, n15, n16, n17, n18, n19, n20, n21, n22, n23, n24, n25, n26]] →
    (Pre_nearest [[b2i t, n3, n4, n5, n6, n7, n8, n9, n10, n11, n12, n13, n14], [b2i t1, n15, n16, n17, n18, n19, n20, n21, n22, n23, n24, n25, n26]] ∧
    (∀ t2 : Bool, (∀ n27 : Int, 0 ≤ n27 → n27 ≤ 65535 →
    (∀ n28 : Int, 0 ≤ n28 → n28 ≤ 65535 →
    (∀ n29 : Int, 0 ≤ n29 → n29 ≤ 65535 →
    (∀ n30 : Int, 0 ≤ n30 → n30 ≤ 65535 →
    (∀ n31 : Int, 0 ≤ n31 → n31 ≤ 65535 →
    (∀ n32 : Int, 0 ≤ n32 → n32 ≤ 65535 →
    (∀ n33 : Int, 0 ≤ n33 → n33 ≤ 65535 →
    (∀ n34 : Int, 0 ≤ n34 → n34 ≤ 65535 →
    (∀ n35 : Int, 0 ≤ n35 → n35 ≤ 65535 →
    (∀ n36 : Int, 0 ≤ n36 → n36 ≤ 65535 →
    (∀ n37 : Int, 0 ≤ n37 → n37 ≤ 65535 →
    (∀ n38 : Int, 0 ≤ n38 → n38 ≤ 65535 →
    (Post_nearest [[b2i t, n3, n4, n5, n6, n7, n8, n9, n10, n11, n12, n13, n14], [b2i t1, n15, n16, n17, n18, n19, n20, n21, n22, n23, n24, n25, n26]] [[b2i t2, n27, n28, n29, n30, n31, n32, n33, n34, n35, n36, n37, n38]] →
    (Pre_tell [[b2i t2, n27, n28, n29, n30, n31, n32, n33, n34, n35, n36, n37, n38]] ∧
    (∀ n39 : Int, (-9223372036854775808) ≤ n39 → n39 ≤ 9223372036854775807 →
    (∀ n40 : Int, 0 ≤ n40 → n40 ≤ 18446744073709551615 →
    (∀ n41 : Int, 0 ≤ n41 → n41 ≤ 11 →
    (Post_tell [[b2i t2, n27, n28, n29, n30, n31, n32, n33, n34, n35, n36, n37, n38]] [[n39, n40], [n41]] →
    Post_rnear [[n, n1], [n2]] [[n39, n40], [n41]]))))))))))))))))))))))))))))))))))))))))))))))))))))))))))
theorem c_rnear : canCall Tryz.prog 56 = true := by kernel_rfl
theorem s_rnear : P_rnear = sat E (symTop Tryz.prog tab39 2000 56 ash_rnear sh_rnear) := by kernel_rfl
theorem pure_rnear (hV : Valid Tryz.prog tab39 E) (h : P_rnear) (args : List Value) (ha : shaFits ash_rnear args) (hp : E.pre 56 (args.map vints)) : Pure Tryz.prog 56 args.toArray fun v => sh_rnear.fits v ∧ E.post 56 (args.map vints) (vres v) := @top_sat Tryz.prog tab39 E hV 2000 56 ash_rnear sh_rnear (@Eq.mp _ _ s_rnear h) args ha hp
theorem step_rnear (hV : Valid Tryz.prog tab39 E) (h : P_rnear) : Valid Tryz.prog tab40 E := hV.add c_rnear (pure_rnear hV h)

/-- gouache/decodes.greatest -/
def P_greatest : Prop :=
  (∀ n : Int, (-9223372036854775808) ≤ n → n ≤ 9223372036854775807 →
  (Pre_greatest [[n]] →
  (((n < 1) →
    Post_greatest [[n]] [[0]]) ∧
   (¬ (n < 1) →
    (((32 < n) →
      Post_greatest [[n]] [[0]]) ∧
     (¬ (32 < n) →
      ((0 ≤ n) ∧
      (∀ n1 : Int, n1 = n → 0 ≤ n1 → n1 ≤ 9223372036854775807 →
      (∀ n2 : Int, n2 = (IntKind.wrap .i64 ((shI .shl .i64 1 n1) - 1)) → (-9223372036854775808) ≤ n2 → n2 ≤ 9223372036854775807 →
      ((0 ≤ n2) ∧
      ((n2 ≤ 4294967295) ∧
      (∀ n3 : Int, n3 = n2 → 0 ≤ n3 → n3 ≤ 4294967295 →
      Post_greatest [[n]] [[n3]]))))))))))))
theorem c_greatest : canCall Tryz.prog 37 = true := by kernel_rfl
theorem s_greatest : P_greatest = sat E (symTop Tryz.prog tab40 2000 37 ash_greatest sh_greatest) := by kernel_rfl
theorem pure_greatest (hV : Valid Tryz.prog tab40 E) (h : P_greatest) (args : List Value) (ha : shaFits ash_greatest args) (hp : E.pre 37 (args.map vints)) : Pure Tryz.prog 37 args.toArray fun v => sh_greatest.fits v ∧ E.post 37 (args.map vints) (vres v) := @top_sat Tryz.prog tab40 E hV 2000 37 ash_greatest sh_greatest (@Eq.mp _ _ s_greatest h) args ha hp
theorem step_greatest (hV : Valid Tryz.prog tab40 E) (h : P_greatest) : Valid Tryz.prog tab41 E := hV.add c_greatest (pure_greatest hV h)

/-- gouache/decodes.width -/
def P_width : Prop :=
  (∀ n : Int, (-2147483648) ≤ n → n ≤ 2147483647 →
  (∀ n1 : Int, (-2147483648) ≤ n1 → n1 ≤ 2147483647 →
  (Pre_width [[n, n1]] →
  (∀ b : Nat, (∀ n2 : Int, n2 = (n1 - n) → (-4294967295) ≤ n2 → n2 ≤ 4294967295 →
  Post_width [[n, n1]] [[n2]])))))
theorem c_width : canCall Tryz.prog 41 = true := by kernel_rfl
theorem s_width : P_width = sat E (symTop Tryz.prog tab41 2000 41 ash_width sh_width) := by kernel_rfl
theorem pure_width (hV : Valid Tryz.prog tab41 E) (h : P_width) (args : List Value) (ha : shaFits ash_width args) (hp : E.pre 41 (args.map vints)) : Pure Tryz.prog 41 args.toArray fun v => sh_width.fits v ∧ E.post 41 (args.map vints) (vres v) := @top_sat Tryz.prog tab41 E hV 2000 41 ash_width sh_width (@Eq.mp _ _ s_width h) args ha hp
theorem step_width (hV : Valid Tryz.prog tab41 E) (h : P_width) : Valid Tryz.prog tab42 E := hV.add c_width (pure_width hV h)

/-- gouache/decodes.led -/
def P_led : Prop :=
  (∀ n : Int, 0 ≤ n → n ≤ 4294967295 →
  (∀ n1 : Int, (-9223372036854775808) ≤ n1 → n1 ≤ 9223372036854775807 →
  (∀ n2 : Int, (-2147483648) ≤ n2 → n2 ≤ 2147483647 →
  (∀ n3 : Int, (-2147483648) ≤ n3 → n3 ≤ 2147483647 →
  (Pre_led [[n], [n1], [n2, n3]] →
  (∀ b : Nat, (∀ b1 : Nat, (Pre_greatest [[n1]] ∧
  (∀ n4 : Int, 0 ≤ n4 → n4 ≤ 4294967295 →
  (Post_greatest [[n1]] [[n4]] →
  (((0 < n4) →
    (((¬ (n ≤ n4)) →
      (Pre_wmul [[n2], [n4]] ∧
      (∀ n5 : Int, (-9223372036854775808) ≤ n5 → n5 ≤ 9223372036854775807 →
      (∀ n6 : Int, 0 ≤ n6 → n6 ≤ 18446744073709551615 →
      (Post_wmul [[n2], [n4]] [[n5, n6]] →
      (Pre_width [[n2, n3]] ∧
      (∀ n7 : Int, (-4294967295) ≤ n7 → n7 ≤ 4294967295 →
      (Post_width [[n2, n3]] [[n7]] →
      (Pre_wmul [[n], [n7]] ∧
      (∀ n8 : Int, (-9223372036854775808) ≤ n8 → n8 ≤ 9223372036854775807 →
      (∀ n9 : Int, 0 ≤ n9 → n9 ≤ 18446744073709551615 →
      (Post_wmul [[n], [n7]] [[n8, n9]] →
      (Pre_wadd [[n5, n6], [n8, n9]] ∧
      (∀ n10 : Int, (-9223372036854775808) ≤ n10 → n10 ≤ 9223372036854775807 →
      (∀ n11 : Int, 0 ≤ n11 → n11 ≤ 18446744073709551615 →
      (∀ n12 : Int, 0 ≤ n12 → n12 ≤ 11 →
      (Post_wadd [[n5, n6], [n8, n9]] [[n10, n11], [n12]] →
      (∀ b2 : Nat, Post_led [[n], [n1], [n2, n3]] [[0, 0, 0, 1]])))))))))))))))))) ∧
     (¬ (¬ (n ≤ n4)) →
      (Pre_wmul [[n2], [n4]] ∧
      (∀ n5 : Int, (-9223372036854775808) ≤ n5 → n5 ≤ 9223372036854775807 →
      (∀ n6 : Int, 0 ≤ n6 → n6 ≤ 18446744073709551615 →
      (Post_wmul [[n2], [n4]] [[n5, n6]] →
      (Pre_width [[n2, n3]] ∧
      (∀ n7 : Int, (-4294967295) ≤ n7 → n7 ≤ 4294967295 →
      (Post_width [[n2, n3]] [[n7]] →
      (Pre_wmul [[n], [n7]] ∧
      (∀ n8 : Int, (-9223372036854775808) ≤ n8 → n8 ≤ 9223372036854775807 →
      (∀ n9 : Int, 0 ≤ n9 → n9 ≤ 18446744073709551615 →
      (Post_wmul [[n], [n7]] [[n8, n9]] →
      (Pre_wadd [[n5, n6], [n8, n9]] ∧
      (∀ n10 : Int, (-9223372036854775808) ≤ n10 → n10 ≤ 9223372036854775807 →
      (∀ n11 : Int, 0 ≤ n11 → n11 ≤ 18446744073709551615 →
      (∀ n12 : Int, 0 ≤ n12 → n12 ≤ 11 →
      (Post_wadd [[n5, n6], [n8, n9]] [[n10, n11], [n12]] →
      (∀ b2 : Nat, Post_led [[n], [n1], [n2, n3]] [[n10, n11, n4, 0]])))))))))))))))))))) ∧
   (¬ (0 < n4) →
    (Pre_wmul [[n2], [n4]] ∧
    (∀ n5 : Int, (-9223372036854775808) ≤ n5 → n5 ≤ 9223372036854775807 →
    (∀ n6 : Int, 0 ≤ n6 → n6 ≤ 18446744073709551615 →
    (Post_wmul [[n2], [n4]] [[n5, n6]] →
    (Pre_width [[n2, n3]] ∧
    (∀ n7 : Int, (-4294967295) ≤ n7 → n7 ≤ 4294967295 →
    (Post_width [[n2, n3]] [[n7]] →
    (Pre_wmul [[n], [n7]] ∧
    (∀ n8 : Int, (-9223372036854775808) ≤ n8 → n8 ≤ 9223372036854775807 →
    (∀ n9 : Int, 0 ≤ n9 → n9 ≤ 18446744073709551615 →
    (Post_wmul [[n], [n7]] [[n8, n9]] →
    (Pre_wadd [[n5, n6], [n8, n9]] ∧
    (∀ n10 : Int, (-9223372036854775808) ≤ n10 → n10 ≤ 9223372036854775807 →
    (∀ n11 : Int, 0 ≤ n11 → n11 ≤ 18446744073709551615 →
    (∀ n12 : Int, 0 ≤ n12 → n12 ≤ 11 →
    (Post_wadd [[n5, n6], [n8, n9]] [[n10, n11], [n12]] →
    (∀ b2 : Nat, Post_led [[n], [n1], [n2, n3]] [[0, 0, 0, 1]])))))))))))))))))))))))))))))
theorem c_led : canCall Tryz.prog 20 = true := by kernel_rfl
theorem s_led : P_led = sat E (symTop Tryz.prog tab42 2000 20 ash_led sh_led) := by kernel_rfl
theorem pure_led (hV : Valid Tryz.prog tab42 E) (h : P_led) (args : List Value) (ha : shaFits ash_led args) (hp : E.pre 20 (args.map vints)) : Pure Tryz.prog 20 args.toArray fun v => sh_led.fits v ∧ E.post 20 (args.map vints) (vres v) := @top_sat Tryz.prog tab42 E hV 2000 20 ash_led sh_led (@Eq.mp _ _ s_led h) args ha hp
theorem step_led (hV : Valid Tryz.prog tab42 E) (h : P_led) : Valid Tryz.prog tab43 E := hV.add c_led (pure_led hV h)

/-- gouache/decodes.Value -/
def P_value : Prop :=
  (∀ n : Int, 0 ≤ n → n ≤ 4294967295 →
  (∀ n1 : Int, (-9223372036854775808) ≤ n1 → n1 ≤ 9223372036854775807 →
  (∀ n2 : Int, (-2147483648) ≤ n2 → n2 ≤ 2147483647 →
  (∀ n3 : Int, (-2147483648) ≤ n3 → n3 ≤ 2147483647 →
  (Pre_value [[n], [n1], [n2, n3]] →
  (∀ b : Nat, (∀ b1 : Nat, (Pre_led [[n], [n1], [n2, n3]] ∧
  (∀ n4 : Int, (-9223372036854775808) ≤ n4 → n4 ≤ 9223372036854775807 →
  (∀ n5 : Int, 0 ≤ n5 → n5 ≤ 18446744073709551615 →
  (∀ n6 : Int, (-9223372036854775808) ≤ n6 → n6 ≤ 9223372036854775807 →
  (∀ n7 : Int, 0 ≤ n7 → n7 ≤ 15 →
  (Post_led [[n], [n1], [n2, n3]] [[n4, n5, n6, n7]] →
  (∀ b2 : Nat, Post_value [[n], [n1], [n2, n3]] [[n4, n5, n6], [n7]]))))))))))))))
theorem c_value : canCall Tryz.prog 9 = true := by kernel_rfl
theorem s_value : P_value = sat E (symTop Tryz.prog tab43 2000 9 ash_value sh_value) := by kernel_rfl
theorem pure_value (hV : Valid Tryz.prog tab43 E) (h : P_value) (args : List Value) (ha : shaFits ash_value args) (hp : E.pre 9 (args.map vints)) : Pure Tryz.prog 9 args.toArray fun v => sh_value.fits v ∧ E.post 9 (args.map vints) (vres v) := @top_sat Tryz.prog tab43 E hV 2000 9 ash_value sh_value (@Eq.mp _ _ s_value h) args ha hp
theorem step_value (hV : Valid Tryz.prog tab43 E) (h : P_value) : Valid Tryz.prog tab44 E := hV.add c_value (pure_value hV h)

/-- gouache/gouacheref07.Greatest -/
def P_rgreatest : Prop :=
  (∀ n : Int, (-9223372036854775808) ≤ n → n ≤ 9223372036854775807 →
  (Pre_rgreatest [[n]] →
  (((n < 1) →
    Post_rgreatest [[n]] [[0]]) ∧
   (¬ (n < 1) →
    (((32 < n) →
      Post_rgreatest [[n]] [[0]]) ∧
     (¬ (32 < n) →
      (Inv_rgr [n] [0, 0] ∧
      (∀ n1 : Int, 0 ≤ n1 → n1 ≤ 4294967295 →
      (∀ n2 : Int, 0 ≤ n2 → n2 ≤ 32 →
      (Inv_rgr [n] [n1, n2] →
      (∀ vs : List Value, vs.length = 10 →
      (((n2 < n) →
        (∀ n3 : Int, n3 = ((2 * n1) + 1) → 1 ≤ n3 → n3 ≤ 8589934591 →
        (∀ n4 : Int, n4 = (n2 + 1) → 1 ≤ n4 → n4 ≤ 33 →
        ((n3 ≤ 4294967295) ∧
        (∀ n5 : Int, n5 = n3 → 0 ≤ n5 → n5 ≤ 4294967295 →
        ((n4 ≤ 32) ∧
        (∀ n6 : Int, n6 = n4 → 0 ≤ n6 → n6 ≤ 32 →
        (Inv_rgr [n] [n5, n6] ∧ Mea_rgr [n] [n5, n6] < Mea_rgr [n] [n1, n2])))))))) ∧
       (¬ (n2 < n) →
        Post_rgreatest [[n]] [[n1]])))))))))))))
theorem c_rgreatest : canCall Tryz.prog 30 = true := by kernel_rfl
theorem s_rgreatest : P_rgreatest = sat E (symTop Tryz.prog tab44 2000 30 ash_rgreatest sh_rgreatest) := by kernel_rfl
theorem pure_rgreatest (hV : Valid Tryz.prog tab44 E) (h : P_rgreatest) (args : List Value) (ha : shaFits ash_rgreatest args) (hp : E.pre 30 (args.map vints)) : Pure Tryz.prog 30 args.toArray fun v => sh_rgreatest.fits v ∧ E.post 30 (args.map vints) (vres v) := @top_sat Tryz.prog tab44 E hV 2000 30 ash_rgreatest sh_rgreatest (@Eq.mp _ _ s_rgreatest h) args ha hp
theorem step_rgreatest (hV : Valid Tryz.prog tab44 E) (h : P_rgreatest) : Valid Tryz.prog tab45 E := hV.add c_rgreatest (pure_rgreatest hV h)

/-- gouache/gouacheref07.times -/
def P_rtimes7 : Prop :=
  (∀ n : Int, (-9223372036854775808) ≤ n → n ≤ 9223372036854775807 →
  (∀ n1 : Int, (-9223372036854775808) ≤ n1 → n1 ≤ 9223372036854775807 →
  (Pre_rtimes7 [[n], [n1]] →
  (∀ b : Nat, (Pre_small [[n]] ∧
  (∀ t : Bool, (∀ n2 : Int, 0 ≤ n2 → n2 ≤ 65535 →
  (∀ n3 : Int, 0 ≤ n3 → n3 ≤ 65535 →
  (∀ n4 : Int, 0 ≤ n4 → n4 ≤ 65535 →
  (∀ n5 : Int, 0 ≤ n5 → n5 ≤ 65535 →
  (∀ n6 : Int, 0 ≤ n6 → n6 ≤ 65535 →
  (∀ n7 : Int, 0 ≤ n7 → n7 ≤ 65535 →
  (∀ n8 : Int, 0 ≤ n8 → n8 ≤ 65535 →
  (∀ n9 : Int, 0 ≤ n9 → n9 ≤ 65535 →
  (∀ n10 : Int, 0 ≤ n10 → n10 ≤ 65535 →
  (∀ n11 : Int, 0 ≤ n11 → n11 ≤ 65535 →
  (∀ n12 : Int, 0 ≤ n12 → n12 ≤ 65535 →
  (∀ n13 : Int, 0 ≤ n13 → n13 ≤ 65535 →
  (Post_small [[n]] [[b2i t, n2, n3, n4, n5, n6, n7, n8, n9, n10, n11, n12, n13]] →
  (Pre_small [[n1]] ∧
  (∀ t1 : Bool, (∀ n14 : Int, 0 ≤ n14 → n14 ≤ 65535 →
  (∀ n15 : Int, 0 ≤ n15 → n15 ≤ 65535 →
  (∀ n16 : Int, 0 ≤ n16 → n16 ≤ 65535 →
  (∀ n17 : Int, 0 ≤ n17 → n17 ≤ 65535 →
  (∀ n18 : Int, 0 ≤ n18 → n18 ≤ 65535 →
  (∀ n19 : Int, 0 ≤ n19 → n19 ≤ 65535 →
  (∀ n20 : Int, 0 ≤ n20 → n20 ≤ 65535 →
  (∀ n21 : Int, 0 ≤ n21 → n21 ≤ 65535 →
  (∀ n22 : Int, 0 ≤ n22 → n22 ≤ 65535 →
  (∀ n23 : Int, 0 ≤ n23 → n23 ≤ 65535 →
  (∀ n24 : Int, 0 ≤ n24 → n24 ≤ 65535 →
  (∀ n25 : Int, 0 ≤ n25 → n25 ≤ 65535 →
  (Post_small [[n1]] [[b2i t1, n14, n15, n16, n17, n18, n19, n20, n21, n22, n23, n24, n25]] →
  (Pre_product [[b2i t, n2, n3, n4, n5, n6, n7, n8, n9, n10, n11, n12, n13], [b2i t1, n14, n15, n16, n17, n18, n19, n20, n21, n22, n23, n24, n25]] ∧
  (∀ t2 : Bool, (∀ n26 : Int, 0 ≤ n26 → n26 ≤ 65535 →
  (∀ n27 : Int, 0 ≤ n27 → n27 ≤ 65535 →
  (∀ n28 : Int, 0 ≤ n28 → n28 ≤ 65535 →
  (∀ n29 : Int, 0 ≤ n29 → n29 ≤ 65535 →
  (∀ n30 : Int, 0 ≤ n30 → n30 ≤ 65535 →
  (∀ n31 : Int, 0 ≤ n31 → n31 ≤ 65535 →
  (∀ n32 : Int, 0 ≤ n32 → n32 ≤ 65535 →
  (∀ n33 : Int, 0 ≤ n33 → n33 ≤ 65535 →
  (∀ n34 : Int, 0 ≤ n34 → n34 ≤ 65535 →
  (∀ n35 : Int, 0 ≤ n35 → n35 ≤ 65535 →
  (∀ n36 : Int, 0 ≤ n36 → n36 ≤ 65535 →
  (∀ n37 : Int, 0 ≤ n37 → n37 ≤ 65535 →
  (Post_product [[b2i t, n2, n3, n4, n5, n6, n7, n8, n9, n10, n11, n12, n13], [b2i t1, n14, n15, n16, n17, n18, n19, n20, n21, n22, n23, n24, n25]] [[b2i t2, n26, n27, n28, n29, n30, n31, n32, n33, n34, n35, n36, n37]] →
  Post_rtimes7 [[n], [n1]] [[b2i t2, n26, n27, n28, n29, n30, n31, n32, n33, n34, n35, n36, n37]])))))))))))))))))))))))))))))))))))))))))))))))))
theorem c_rtimes7 : canCall Tryz.prog 32 = true := by kernel_rfl
theorem s_rtimes7 : P_rtimes7 = sat E (symTop Tryz.prog tab45 2000 32 ash_rtimes7 sh_rtimes7) := by kernel_rfl
theorem pure_rtimes7 (hV : Valid Tryz.prog tab45 E) (h : P_rtimes7) (args : List Value) (ha : shaFits ash_rtimes7 args) (hp : E.pre 32 (args.map vints)) : Pure Tryz.prog 32 args.toArray fun v => sh_rtimes7.fits v ∧ E.post 32 (args.map vints) (vres v) := @top_sat Tryz.prog tab45 E hV 2000 32 ash_rtimes7 sh_rtimes7 (@Eq.mp _ _ s_rtimes7 h) args ha hp
theorem step_rtimes7 (hV : Valid Tryz.prog tab45 E) (h : P_rtimes7) : Valid Tryz.prog tab46 E := hV.add c_rtimes7 (pure_rtimes7 hV h)

/-- gouache/gouacheref07.Value -/
def P_rvalue : Prop :=
  (∀ n : Int, 0 ≤ n → n ≤ 4294967295 →
  (∀ n1 : Int, (-9223372036854775808) ≤ n1 → n1 ≤ 9223372036854775807 →
  (∀ n2 : Int, (-2147483648) ≤ n2 → n2 ≤ 2147483647 →
  (∀ n3 : Int, (-2147483648) ≤ n3 → n3 ≤ 2147483647 →
  (Pre_rvalue [[n], [n1], [n2, n3]] →
  (∀ b : Nat, (∀ b1 : Nat, (Pre_rgreatest [[n1]] ∧
  (∀ n4 : Int, 0 ≤ n4 → n4 ≤ 4294967295 →
  (Post_rgreatest [[n1]] [[n4]] →
  (((n4 = 0) →
    Post_rvalue [[n], [n1], [n2, n3]] [[0, 0, 0], [1]]) ∧
   (¬ (n4 = 0) →
    (((n4 < n) →
      Post_rvalue [[n], [n1], [n2, n3]] [[0, 0, 0], [1]]) ∧
     (¬ (n4 < n) →
      (∀ n5 : Int, n5 = (n4 - n) → (-4294967295) ≤ n5 → n5 ≤ 4294967295 →
      (Pre_rtimes7 [[n2], [n5]] ∧
      (∀ t : Bool, (∀ n6 : Int, 0 ≤ n6 → n6 ≤ 65535 →
      (∀ n7 : Int, 0 ≤ n7 → n7 ≤ 65535 →
      (∀ n8 : Int, 0 ≤ n8 → n8 ≤ 65535 →
      (∀ n9 : Int, 0 ≤ n9 → n9 ≤ 65535 →
      (∀ n10 : Int, 0 ≤ n10 → n10 ≤ 65535 →
      (∀ n11 : Int, 0 ≤ n11 → n11 ≤ 65535 →
      (∀ n12 : Int, 0 ≤ n12 → n12 ≤ 65535 →
      (∀ n13 : Int, 0 ≤ n13 → n13 ≤ 65535 →
      (∀ n14 : Int, 0 ≤ n14 → n14 ≤ 65535 →
      (∀ n15 : Int, 0 ≤ n15 → n15 ≤ 65535 →
      (∀ n16 : Int, 0 ≤ n16 → n16 ≤ 65535 →
      (∀ n17 : Int, 0 ≤ n17 → n17 ≤ 65535 →
      (Post_rtimes7 [[n2], [n5]] [[b2i t, n6, n7, n8, n9, n10, n11, n12, n13, n14, n15, n16, n17]] →
      (Pre_rtimes7 [[n3], [n]] ∧
      (∀ t1 : Bool, (∀ n18 : Int, 0 ≤ n18 → n18 ≤ 65535 →
      (∀ n19 : Int, 0 ≤ n19 → n19 ≤ 65535 →
      (∀ n20 : Int, 0 ≤ n20 → n20 ≤ 65535 →
      (∀ n21 : Int, 0 ≤ n21 → n21 ≤ 65535 →
      (∀ n22 : Int, 0 ≤ n22 → n22 ≤ 65535 →
      (∀ n23 : Int, 0 ≤ n23 → n23 ≤ 65535 →
      (∀ n24 : Int, 0 ≤ n24 → n24 ≤ 65535 →
      (∀ n25 : Int, 0 ≤ n25 → n25 ≤ 65535 →
      (∀ n26 : Int, 0 ≤ n26 → n26 ≤ 65535 →
      (∀ n27 : Int, 0 ≤ n27 → n27 ≤ 65535 →
      (∀ n28 : Int, 0 ≤ n28 → n28 ≤ 65535 →
      (∀ n29 : Int, 0 ≤ n29 → n29 ≤ 65535 →
      (Post_rtimes7 [[n3], [n]] [[b2i t1, n18, n19, n20, n21, n22, n23, n24, n25, n26, n27, n28, n29]] →
      (Pre_sum [[b2i t, n6, n7, n8, n9, n10, n11, n12, n13, n14, n15, n16, n17], [b2i t1, n18, n19, n20, n21, n22, n23, n24, n25, n26, n27, n28, n29]] ∧
      (∀ t2 : Bool, (∀ n30 : Int, 0 ≤ n30 → n30 ≤ 65535 →
      (∀ n31 : Int, 0 ≤ n31 → n31 ≤ 65535 →
      (∀ n32 : Int, 0 ≤ n32 → n32 ≤ 65535 →
      (∀ n33 : Int, 0 ≤ n33 → n33 ≤ 65535 →
      (∀ n34 : Int, 0 ≤ n34 → n34 ≤ 65535 →
      (∀ n35 : Int, 0 ≤ n35 → n35 ≤ 65535 →
      (∀ n36 : Int, 0 ≤ n36 → n36 ≤ 65535 →
      (∀ n37 : Int, 0 ≤ n37 → n37 ≤ 65535 →
      (∀ n38 : Int, 0 ≤ n38 → n38 ≤ 65535 →
      (∀ n39 : Int, 0 ≤ n39 → n39 ≤ 65535 →
      (∀ n40 : Int, 0 ≤ n40 → n40 ≤ 65535 →
      (∀ n41 : Int, 0 ≤ n41 → n41 ≤ 65535 →
      (Post_sum [[b2i t, n6, n7, n8, n9, n10, n11, n12, n13, n14, n15, n16, n17], [b2i t1, n18, n19, n20, n21, n22, n23, n24, n25, n26, n27, n28, n29]] [[b2i t2, n30, n31, n32, n33, n34, n35, n36, n37, n38, n39, n40, n41]] →
      (∀ b2 : Nat, (Pre_tell [[b2i t2, n30, n31, n32, n33, n34, n35, n36, n37, n38, n39, n40, n41]] ∧
      (∀ n42 : Int, (-9223372036854775808) ≤ n42 → n42 ≤ 9223372036854775807 →
      (∀ n43 : Int, 0 ≤ n43 → n43 ≤ 18446744073709551615 →
      (∀ n44 : Int, 0 ≤ n44 → n44 ≤ 11 →
      (Post_tell [[b2i t2, n30, n31, n32, n33, n34, n35, n36, n37, n38, n39, n40, n41]] [[n42, n43], [n44]] →
      (∀ b3 : Nat, Post_rvalue [[n], [n1], [n2, n3]] [[n42, n43, n4], [0]])))))))))))))))))))))))))))))))))))))))))))))))))))))))))))))))))))
theorem c_rvalue : canCall Tryz.prog 14 = true := by kernel_rfl
theorem s_rvalue : P_rvalue = sat E (symTop Tryz.prog tab46 2000 14 ash_rvalue sh_rvalue) := by kernel_rfl
theorem pure_rvalue (hV : Valid Tryz.prog tab46 E) (h : P_rvalue) (args : List Value) (ha : shaFits ash_rvalue args) (hp : E.pre 14 (args.map vints)) : Pure Tryz.prog 14 args.toArray fun v => sh_rvalue.fits v ∧ E.post 14 (args.map vints) (vres v) := @top_sat Tryz.prog tab46 E hV 2000 14 ash_rvalue sh_rvalue (@Eq.mp _ _ s_rvalue h) args ha hp
theorem step_rvalue (hV : Valid Tryz.prog tab46 E) (h : P_rvalue) : Valid Tryz.prog tab47 E := hV.add c_rvalue (pure_rvalue hV h)

/-- gouache/places.small -/
def P_psmall : Prop :=
  (∀ n : Int, (-9223372036854775808) ≤ n → n ≤ 9223372036854775807 →
  (∀ n1 : Int, 0 ≤ n1 → n1 ≤ 18446744073709551615 →
  (Pre_psmall [[n, n1]] →
  (∀ b : Nat, (∀ b1 : Nat, (Pre_wof [[0]] ∧
  (∀ n2 : Int, (-9223372036854775808) ≤ n2 → n2 ≤ 9223372036854775807 →
  (∀ n3 : Int, 0 ≤ n3 → n3 ≤ 18446744073709551615 →
  (Post_wof [[0]] [[n2, n3]] →
  (Pre_wsub [[n2, n3], [4, 0]] ∧
  (∀ n4 : Int, (-9223372036854775808) ≤ n4 → n4 ≤ 9223372036854775807 →
  (∀ n5 : Int, 0 ≤ n5 → n5 ≤ 18446744073709551615 →
  (∀ n6 : Int, 0 ≤ n6 → n6 ≤ 11 →
  (Post_wsub [[n2, n3], [4, 0]] [[n4, n5], [n6]] →
  (∀ b2 : Nat, (Pre_wcmp [[n, n1], [4, 0]] ∧
  (∀ n7 : Int, (-1) ≤ n7 → n7 ≤ 1 →
  (Post_wcmp [[n, n1], [4, 0]] [[n7]] →
  (((n7 ≤ 0) →
    (Pre_wcmp [[n, n1], [n4, n5]] ∧
    (∀ n8 : Int, (-1) ≤ n8 → n8 ≤ 1 →
    (Post_wcmp [[n, n1], [n4, n5]] [[n8]] →
    Post_psmall [[n, n1]] [[b2i (decide (0 ≤ n8))]])))) ∧
   (¬ (n7 ≤ 0) →
    Post_psmall [[n, n1]] [[b2i false]]))))))))))))))))))))
theorem c_psmall : canCall Tryz.prog 63 = true := by kernel_rfl
theorem s_psmall : P_psmall = sat E (symTop Tryz.prog tab47 2000 63 ash_psmall sh_psmall) := by kernel_rfl
theorem pure_psmall (hV : Valid Tryz.prog tab47 E) (h : P_psmall) (args : List Value) (ha : shaFits ash_psmall args) (hp : E.pre 63 (args.map vints)) : Pure Tryz.prog 63 args.toArray fun v => sh_psmall.fits v ∧ E.post 63 (args.map vints) (vres v) := @top_sat Tryz.prog tab47 E hV 2000 63 ash_psmall sh_psmall (@Eq.mp _ _ s_psmall h) args ha hp
theorem step_psmall (hV : Valid Tryz.prog tab47 E) (h : P_psmall) : Valid Tryz.prog tab48 E := hV.add c_psmall (pure_psmall hV h)

/-- gouache/places.Place -/
def P_pplace : Prop :=
  (∀ n : Int, (-2147483648) ≤ n → n ≤ 2147483647 →
  (∀ n1 : Int, (-2147483648) ≤ n1 → n1 ≤ 2147483647 →
  (∀ n2 : Int, (-2147483648) ≤ n2 → n2 ≤ 2147483647 →
  (∀ n3 : Int, (-2147483648) ≤ n3 → n3 ≤ 2147483647 →
  (∀ n4 : Int, (-2147483648) ≤ n4 → n4 ≤ 2147483647 →
  (∀ n5 : Int, (-2147483648) ≤ n5 → n5 ≤ 2147483647 →
  (∀ n6 : Int, (-9223372036854775808) ≤ n6 → n6 ≤ 9223372036854775807 →
  (∀ n7 : Int, 0 ≤ n7 → n7 ≤ 18446744073709551615 →
  (∀ n8 : Int, (-9223372036854775808) ≤ n8 → n8 ≤ 9223372036854775807 →
  (∀ n9 : Int, (-9223372036854775808) ≤ n9 → n9 ≤ 9223372036854775807 →
  (∀ n10 : Int, 0 ≤ n10 → n10 ≤ 18446744073709551615 →
  (∀ n11 : Int, (-9223372036854775808) ≤ n11 → n11 ≤ 9223372036854775807 →
  (Pre_pplace [[n, n1, n2, n3, n4, n5], [n6, n7, n8], [n9, n10, n11]] →
  (∀ b : Nat, (∀ b1 : Nat, (∀ b2 : Nat, (∀ b3 : Nat, (∀ b4 : Nat, (∀ b5 : Nat, (∀ b6 : Nat, (∀ b7 : Nat, (∀ b8 : Nat, (∀ b9 : Nat, (((¬ (n8 = n11)) →
    (∀ b10 : Nat, (∀ b11 : Nat, Post_pplace [[n, n1, n2, n3, n4, n5], [n6, n7, n8], [n9, n10, n11]] [[0, 0], [1]]))) ∧
   (¬ (¬ (n8 = n11)) →
    (((n8 < 1) →
      (∀ b10 : Nat, (∀ b11 : Nat, Post_pplace [[n, n1, n2, n3, n4, n5], [n6, n7, n8], [n9, n10, n11]] [[0, 0], [1]]))) ∧
     (¬ (n8 < 1) →
      (((4294967295 < n8) →
        (∀ b10 : Nat, (∀ b11 : Nat, Post_pplace [[n, n1, n2, n3, n4, n5], [n6, n7, n8], [n9, n10, n11]] [[0, 0], [1]]))) ∧
       (¬ (4294967295 < n8) →
        (Pre_psmall [[n6, n7]] ∧
        (∀ t : Bool, (Post_psmall [[n6, n7]] [[b2i t]] →
        (((¬ (t = true)) →
          (∀ b10 : Nat, (∀ b11 : Nat, Post_pplace [[n, n1, n2, n3, n4, n5], [n6, n7, n8], [n9, n10, n11]] [[0, 0], [1]]))) ∧
         (¬ (¬ (t = true)) →
          (Pre_psmall [[n9, n10]] ∧
          (∀ t1 : Bool, (Post_psmall [[n9, n10]] [[b2i t1]] →
          (((¬ (t1 = true)) →
            (∀ b10 : Nat, (∀ b11 : Nat, Post_pplace [[n, n1, n2, n3, n4, n5], [n6, n7, n8], [n9, n10, n11]] [[0, 0], [1]]))) ∧
           (¬ (¬ (t1 = true)) →
            (∀ n12 : Int, n12 = (IntKind.wrap .i64 (n8 * 65536)) → (-9223372036854775808) ≤ n12 → n12 ≤ 9223372036854775807 →
            (Pre_wof [[n12]] ∧
            (∀ n13 : Int, (-9223372036854775808) ≤ n13 → n13 ≤ 9223372036854775807 →
            (∀ n14 : Int, 0 ≤ n14 → n14 ≤ 18446744073709551615 →
            (Post_wof [[n12]] [[n13, n14]] →
            (∀ b10 : Nat, (∀ b11 : Nat, (∀ b12 : Nat, (∀ b13 : Nat, (∀ b14 : Nat, (Pre_wtms [[n6, n7], [n]] ∧
            (∀ n15 : Int, (-9223372036854775808) ≤ n15 → n15 ≤ 9223372036854775807 →
            (∀ n16 : Int, 0 ≤ n16 → n16 ≤ 18446744073709551615 →
            (∀ n17 : Int, 0 ≤ n17 → n17 ≤ 11 →
            (Post_wtms [[n6, n7], [n]] [[n15, n16], [n17]] →
            (∀ b15 : Nat, (Pre_wadd [[0, 0], [n15, n16]] ∧
            (∀ n18 : Int, (-9223372036854775808) ≤ n18 → n18 ≤ 9223372036854775807 →
            (∀ n19 : Int, 0 ≤ n19 → n19 ≤ 18446744073709551615 →
            (∀ n20 : Int, 0 ≤ n20 → n20 ≤ 11 →
            (Post_wadd [[0, 0], [n15, n16]] [[n18, n19], [n20]] →
            (∀ b16 : Nat, (Pre_wtms [[n9, n10], [n2]] ∧
            (∀ n21 : Int, (-9223372036854775808) ≤ n21 → n21 ≤ 9223372036854775807 →
            (∀ n22 : Int, 0 ≤ n22 → n22 ≤ 18446744073709551615 →
            (∀ n23 : Int, 0 ≤ n23 → n23 ≤ 11 →
            (Post_wtms [[n9, n10], [n2]] [[n21, n22], [n23]] →
            (∀ b17 : Nat, (Pre_wadd [[n18, n19], [n21, n22]] ∧
            (∀ n24 : Int, (-9223372036854775808) ≤ n24 → n24 ≤ 9223372036854775807 →
            (∀ n25 : Int, 0 ≤ n25 → n25 ≤ 18446744073709551615 →
            (∀ n26 : Int, 0 ≤ n26 → n26 ≤ 11 →
            (Post_wadd [[n18, n19], [n21, n22]] [[n24, n25], [n26]] →
            (∀ b18 : Nat, (Pre_wtms [[n13, n14], [n4]] ∧
            (∀ n27 : Int, (-9223372036854775808) ≤ n27 → n27 ≤ 9223372036854775807 →
            (∀ n28 : Int, 0 ≤ n28 → n28 ≤ 18446744073709551615 →
            (∀ n29 : Int, 0 ≤ n29 → n29 ≤ 11 →
            (Post_wtms [[n13, n14], [n4]] [[n27, n28], [n29]] →
            (∀ b19 : Nat, (Pre_wadd [[n24, n25], [n27, n28]] ∧
            (∀ n30 : Int, (-9223372036854775808) ≤ n30 → n30 ≤ 9223372036854775807 →
            (∀ n31 : Int, 0 ≤ n31 → n31 ≤ 18446744073709551615 →
            (∀ n32 : Int, 0 ≤ n32 → n32 ≤ 11 →
            (Post_wadd [[n24, n25], [n27, n28]] [[n30, n31], [n32]] →
            (∀ b20 : Nat, (∀ n33 : Int, n33 = (IntKind.wrap .i64 (n8 * 65536)) → (-9223372036854775808) ≤ n33 → n33 ≤ 9223372036854775807 →
            (Pre_wnear [[n30, n31], [n33]] ∧
            (∀ n34 : Int, (-9223372036854775808) ≤ n34 → n34 ≤ 9223372036854775807 →
            (∀ n35 : Int, 0 ≤ n35 → n35 ≤ 18446744073709551615 →
            (∀ n36 : Int, 0 ≤ n36 → n36 ≤ 11 →
            (Post_wnear [[n30, n31], [n33]] [[n34, n35], [n36]] →
            (∀ b21 : Nat, (Pre_wint [[n34, n35]] ∧
            (∀ n37 : Int, (-9223372036854775808) ≤ n37 → n37 ≤ 9223372036854775807 →
            (∀ t2 : Bool, (Post_wint [[n34, n35]] [[n37], [b2i t2]] →
            (((¬ (t2 = true)) →
              (∀ b22 : Nat, (∀ b23 : Nat, Post_pplace [[n, n1, n2, n3, n4, n5], [n6, n7, n8], [n9, n10, n11]] [[0, 0], [8]]))) ∧
             (¬ (¬ (t2 = true)) →
              (((68719476736 < n37) →
                (∀ b22 : Nat, (∀ b23 : Nat, Post_pplace [[n, n1, n2, n3, n4, n5], [n6, n7, n8], [n9, n10, n11]] [[0, 0], [8]]))) ∧
               (¬ (68719476736 < n37) →
                (((n37 < (-68719476736)) →
                  (∀ b22 : Nat, (∀ b23 : Nat, Post_pplace [[n, n1, n2, n3, n4, n5], [n6, n7, n8], [n9, n10, n11]] [[0, 0], [8]]))) ∧
                 (¬ (n37 < (-68719476736)) →
                  (∀ b22 : Nat, (∀ b23 : Nat, (∀ b24 : Nat, (Pre_wtms [[n6, n7], [n1]] ∧
                  (∀ n38 : Int, (-9223372036854775808) ≤ n38 → n38 ≤ 9223372036854775807 →
                  (∀ n39 : Int, 0 ≤ n39 → n39 ≤ 18446744073709551615 →
                  (∀ n40 : Int, 0 ≤ n40 → n40 ≤ 11 →
                  (Post_wtms [[n6, n7], [n1]] [[n38, n39], [n40]] →
                  (∀ b25 : Nat, (Pre_wadd [[0, 0], [n38, n39]] ∧
                  (∀ n41 : Int, (-9223372036854775808) ≤ n41 → n41 ≤ 9223372036854775807 →
                  (∀ n42 : Int, 0 ≤ n42 → n42 ≤ 18446744073709551615 →
                  (∀ n43 : Int, 0 ≤ n43 → n43 ≤ 11 →
                  (Post_wadd [[0, 0], [n38, n39]] [[n41, n42], [n43]] →
                  (∀ b26 : Nat, (Pre_wtms [[n9, n10], [n3]] ∧
                  (∀ n44 : Int, (-9223372036854775808) ≤ n44 → n44 ≤ 9223372036854775807 →
                  (∀ n45 : Int, 0 ≤ n45 → n45 ≤ 18446744073709551615 →
                  (∀ n46 : Int, 0 ≤ n46 → n46 ≤ 11 →
                  (Post_wtms [[n9, n10], [n3]] [[n44, n45], [n46]] →
                  (∀ b27 : Nat, (Pre_wadd [[n41, n42], [n44, n45]] ∧
                  (∀ n47 : Int, (-9223372036854775808) ≤ n47 → n47 ≤ 9223372036854775807 →
                  (∀ n48 : Int, 0 ≤ n48 → n48 ≤ 18446744073709551615 →
                  (∀ n49 : Int, 0 ≤ n49 → n49 ≤ 11 →
                  (Post_wadd [[n41, n42], [n44, n45]] [[n47, n48], [n49]] →
                  (∀ b28 : Nat, (Pre_wtms [[n13, n14], [n5]] ∧
                  (∀ n50 : Int, (-9223372036854775808) ≤ n50 → n50 ≤ 9223372036854775807 →
                  (∀ n51 : Int, 0 ≤ n51 → n51 ≤ 18446744073709551615 →
                  (∀ n52 : Int, 0 ≤ n52 → n52 ≤ 11 →
                  (Post_wtms [[n13, n14], [n5]] [[n50, n51], [n52]] →
                  (∀ b29 : Nat, (Pre_wadd [[n47, n48], [n50, n51]] ∧
                  (∀ n53 : Int, (-9223372036854775808) ≤ n53 → n53 ≤ 9223372036854775807 →
                  (∀ n54 : Int, 0 ≤ n54 → n54 ≤ 18446744073709551615 →
                  (∀ n55 : Int, 0 ≤ n55 → n55 ≤ 11 →
                  (Post_wadd [[n47, n48], [n50, n51]] [[n53, n54], [n55]] →
                  (∀ b30 : Nat, (∀ n56 : Int, n56 = (IntKind.wrap .i64 (n8 * 65536)) → (-9223372036854775808) ≤ n56 → n56 ≤ 9223372036854775807 →
                  (Pre_wnear [[n53, n54], [n56]] ∧
                  (∀ n57 : Int, (-9223372036854775808) ≤ n57 → n57 ≤ 9223372036854775807 →
                  (∀ n58 : Int, 0 ≤ n58 → n58 ≤ 18446744073709551615 →
                  (∀ n59 : Int, 0 ≤ n59 → n59 ≤ 11 →
                  (Post_wnear [[n53, n54], [n56]] [[n57, n58], [n59]] →
                  (∀ b31 : Nat, (Pre_wint [[n57, n58]] ∧
                  (∀ n60 : Int, (-9223372036854775808) ≤ n60 → n60 ≤ 9223372036854775807 →
                  (∀ t3 : Bool, (Post_wint [[n57, n58]] [[n60], [b2i t3]] →
                  (((¬ (t3 = true)) →
                    (∀ b32 : Nat, (∀ b33 : Nat, Post_pplace [[n, n1, n2, n3, n4, n5], [n6, n7, n8], [n9, n10, n11]] [[0, 0], [8]]))) ∧
                   (¬ (¬ (t3 = true)) →
                    (((68719476736 < n60) →
                      (∀ b32 : Nat, (∀ b33 : Nat, Post_pplace [[n, n1, n2, n3, n4, n5], [n6, n7, n8], [n9, n10, n11]] [[0, 0], [8]]))) ∧
                     (¬ (68719476736 < n60) →
                      (((n60 < (-68719476736)) →
                        (∀ b32 : Nat, (∀ b33 : Nat, Post_pplace [[n, n1, n2, n3, n4, n5], [n6, n7, n8], [n9, n10, n11]] [[0, 0], [8]]))) ∧
                       (¬ (n60 < (-68719476736)) →
                        (∀ b32 : Nat, (∀ b33 : Nat, (((-68719476736) ≤ n37) ∧
                        ((n37 ≤ 68719476736) ∧
                        (∀ n61 : Int, n61 = n37 → (-68719476736) ≤ n61 → n61 ≤ 68719476736 →
                        (((-68719476736) ≤ n60) ∧
                        ((n60 ≤ 68719476736) ∧
                        (∀ n62 : Int, n62 = n60 → (-68719476736) ≤ n62 → n62 ≤ 68719476736 →
                        Post_pplace [[n, n1, n2, n3, n4, n5], [n6, n7, n8], [n9, n10, n11]] [[n61, n62], [0]]))))))))))))))))))))))))))))))))))))))))))))))))))))))))))))))))))))))))))))))))))))))))))))))))))))))))))))))))))))))))))))))))))))))))))))))))))))))))))))))))))))))
theorem c_pplace : canCall Tryz.prog 10 = true := by kernel_rfl
theorem s_pplace : P_pplace = sat E (symTop Tryz.prog tab48 2000 10 ash_pplace sh_pplace) := by kernel_rfl
theorem pure_pplace (hV : Valid Tryz.prog tab48 E) (h : P_pplace) (args : List Value) (ha : shaFits ash_pplace args) (hp : E.pre 10 (args.map vints)) : Pure Tryz.prog 10 args.toArray fun v => sh_pplace.fits v ∧ E.post 10 (args.map vints) (vres v) := @top_sat Tryz.prog tab48 E hV 2000 10 ash_pplace sh_pplace (@Eq.mp _ _ s_pplace h) args ha hp
theorem step_pplace (hV : Valid Tryz.prog tab48 E) (h : P_pplace) : Valid Tryz.prog tab49 E := hV.add c_pplace (pure_pplace hV h)

/-- gouache/gouacheref20.may -/
def P_rmay : Prop :=
  (∀ n : Int, (-9223372036854775808) ≤ n → n ≤ 9223372036854775807 →
  (∀ n1 : Int, 0 ≤ n1 → n1 ≤ 18446744073709551615 →
  (∀ n2 : Int, (-9223372036854775808) ≤ n2 → n2 ≤ 9223372036854775807 →
  (Pre_rmay [[n, n1, n2]] →
  (∀ b : Nat, (Pre_rmul [[8589934592], [8589934592]] ∧
  (∀ n3 : Int, (-9223372036854775808) ≤ n3 → n3 ≤ 9223372036854775807 →
  (∀ n4 : Int, 0 ≤ n4 → n4 ≤ 18446744073709551615 →
  (Post_rmul [[8589934592], [8589934592]] [[n3, n4]] →
  (∀ b1 : Nat, (Pre_rmul [[(-8589934592)], [8589934592]] ∧
  (∀ n5 : Int, (-9223372036854775808) ≤ n5 → n5 ≤ 9223372036854775807 →
  (∀ n6 : Int, 0 ≤ n6 → n6 ≤ 18446744073709551615 →
  (Post_rmul [[(-8589934592)], [8589934592]] [[n5, n6]] →
  (∀ b2 : Nat, (((1 ≤ n2) →
    (((n2 ≤ 4294967295) →
      (Pre_rcmp [[n, n1], [n3, n4]] ∧
      (∀ n7 : Int, (-1) ≤ n7 → n7 ≤ 1 →
      (Post_rcmp [[n, n1], [n3, n4]] [[n7]] →
      (((n7 ≤ 0) →
        (Pre_rcmp [[n, n1], [n5, n6]] ∧
        (∀ n8 : Int, (-1) ≤ n8 → n8 ≤ 1 →
        (Post_rcmp [[n, n1], [n5, n6]] [[n8]] →
        Post_rmay [[n, n1, n2]] [[b2i (decide (0 ≤ n8))]])))) ∧
       (¬ (n7 ≤ 0) →
        Post_rmay [[n, n1, n2]] [[b2i false]])))))) ∧
     (¬ (n2 ≤ 4294967295) →
      Post_rmay [[n, n1, n2]] [[b2i false]]))) ∧
   (¬ (1 ≤ n2) →
    Post_rmay [[n, n1, n2]] [[b2i false]])))))))))))))))))
theorem c_rmay : canCall Tryz.prog 54 = true := by kernel_rfl
theorem s_rmay : P_rmay = sat E (symTop Tryz.prog tab49 2000 54 ash_rmay sh_rmay) := by kernel_rfl
theorem pure_rmay (hV : Valid Tryz.prog tab49 E) (h : P_rmay) (args : List Value) (ha : shaFits ash_rmay args) (hp : E.pre 54 (args.map vints)) : Pure Tryz.prog 54 args.toArray fun v => sh_rmay.fits v ∧ E.post 54 (args.map vints) (vres v) := @top_sat Tryz.prog tab49 E hV 2000 54 ash_rmay sh_rmay (@Eq.mp _ _ s_rmay h) args ha hp
theorem step_rmay (hV : Valid Tryz.prog tab49 E) (h : P_rmay) : Valid Tryz.prog tab50 E := hV.add c_rmay (pure_rmay hV h)

/-- gouache/gouacheref20.line -/
def P_rline : Prop :=
  (∀ n : Int, (-2147483648) ≤ n → n ≤ 2147483647 →
  (∀ n1 : Int, (-2147483648) ≤ n1 → n1 ≤ 2147483647 →
  (∀ n2 : Int, (-2147483648) ≤ n2 → n2 ≤ 2147483647 →
  (∀ n3 : Int, (-9223372036854775808) ≤ n3 → n3 ≤ 9223372036854775807 →
  (∀ n4 : Int, 0 ≤ n4 → n4 ≤ 18446744073709551615 →
  (∀ n5 : Int, (-9223372036854775808) ≤ n5 → n5 ≤ 9223372036854775807 →
  (∀ n6 : Int, (-9223372036854775808) ≤ n6 → n6 ≤ 9223372036854775807 →
  (∀ n7 : Int, 0 ≤ n7 → n7 ≤ 18446744073709551615 →
  (∀ n8 : Int, (-9223372036854775808) ≤ n8 → n8 ≤ 9223372036854775807 →
  (∀ n9 : Int, 256 ≤ n9 → n9 ≤ 65536 →
  (Pre_rline [[n], [n1], [n2], [n3, n4, n5], [n6, n7, n8], [n9]] →
  (∀ b : Nat, (∀ b1 : Nat, (Pre_rtms [[n3, n4], [n]] ∧
  (∀ n10 : Int, (-9223372036854775808) ≤ n10 → n10 ≤ 9223372036854775807 →
  (∀ n11 : Int, 0 ≤ n11 → n11 ≤ 18446744073709551615 →
  (∀ n12 : Int, 0 ≤ n12 → n12 ≤ 11 →
  (Post_rtms [[n3, n4], [n]] [[n10, n11], [n12]] →
  (∀ b2 : Nat, (Pre_rtms [[n6, n7], [n1]] ∧
  (∀ n13 : Int, (-9223372036854775808) ≤ n13 → n13 ≤ 9223372036854775807 →
  (∀ n14 : Int, 0 ≤ n14 → n14 ≤ 18446744073709551615 →
  (∀ n15 : Int, 0 ≤ n15 → n15 ≤ 11 →
  (Post_rtms [[n6, n7], [n1]] [[n13, n14], [n15]] →
  (∀ b3 : Nat, (Pre_rmul [[n2], [65536]] ∧
  (∀ n16 : Int, (-9223372036854775808) ≤ n16 → n16 ≤ 9223372036854775807 →
  (∀ n17 : Int, 0 ≤ n17 → n17 ≤ 18446744073709551615 →
  (Post_rmul [[n2], [65536]] [[n16, n17]] →
  (Pre_rtms [[n16, n17], [n5]] ∧
  (∀ n18 : Int, (-9223372036854775808) ≤ n18 → n18 ≤ 9223372036854775807 →
  (∀ n19 : Int, 0 ≤ n19 → n19 ≤ 18446744073709551615 →
  (∀ n20 : Int, 0 ≤ n20 → n20 ≤ 11 →
  (Post_rtms [[n16, n17], [n5]] [[n18, n19], [n20]] →
  (∀ b4 : Nat, (Pre_radd [[n10, n11], [n13, n14]] ∧
  (∀ n21 : Int, (-9223372036854775808) ≤ n21 → n21 ≤ 9223372036854775807 →
  (∀ n22 : Int, 0 ≤ n22 → n22 ≤ 18446744073709551615 →
  (∀ n23 : Int, 0 ≤ n23 → n23 ≤ 11 →
  (Post_radd [[n10, n11], [n13, n14]] [[n21, n22], [n23]] →
  (∀ b5 : Nat, (Pre_radd [[n21, n22], [n18, n19]] ∧
  (∀ n24 : Int, (-9223372036854775808) ≤ n24 → n24 ≤ 9223372036854775807 →
  (∀ n25 : Int, 0 ≤ n25 → n25 ≤ 18446744073709551615 →
  (∀ n26 : Int, 0 ≤ n26 → n26 ≤ 11 →
  (Post_radd [[n21, n22], [n18, n19]] [[n24, n25], [n26]] →
  (∀ n27 : Int, n27 = (n9 / 256) → 1 ≤ n27 → n27 ≤ 256 →
  (Pre_rtms [[n24, n25], [n27]] ∧
  (∀ n28 : Int, (-9223372036854775808) ≤ n28 → n28 ≤ 9223372036854775807 →
  (∀ n29 : Int, 0 ≤ n29 → n29 ≤ 18446744073709551615 →
  (∀ n30 : Int, 0 ≤ n30 → n30 ≤ 11 →
  (Post_rtms [[n24, n25], [n27]] [[n28, n29], [n30]] →
  (∀ n31 : Int, n31 = (IntKind.wrap .i64 (n5 * 16777216)) → (-9223372036854775808) ≤ n31 → n31 ≤ 9223372036854775807 →
  (Pre_rnear [[n28, n29], [n31]] ∧
  (∀ n32 : Int, (-9223372036854775808) ≤ n32 → n32 ≤ 9223372036854775807 →
  (∀ n33 : Int, 0 ≤ n33 → n33 ≤ 18446744073709551615 →
  (∀ n34 : Int, 0 ≤ n34 → n34 ≤ 11 →
  (Post_rnear [[n28, n29], [n31]] [[n32, n33], [n34]] →
  (Pre_rint [[n32, n33]] ∧
  (∀ n35 : Int, (-9223372036854775808) ≤ n35 → n35 ≤ 9223372036854775807 →
  (∀ t : Bool, (Post_rint [[n32, n33]] [[n35], [b2i t]] →
  (((t = true) →
    (((n35 ≤ (1048576 * n9)) →
      Post_rline [[n], [n1], [n2], [n3, n4, n5], [n6, n7, n8], [n9]] [[n35], [b2i (decide (((-1048576) * n9) ≤ n35))]]) ∧
     (¬ (n35 ≤ (1048576 * n9)) →
      Post_rline [[n], [n1], [n2], [n3, n4, n5], [n6, n7, n8], [n9]] [[n35], [b2i false]]))) ∧
   (¬ (t = true) →
    Post_rline [[n], [n1], [n2], [n3, n4, n5], [n6, n7, n8], [n9]] [[n35], [b2i false]]))))))))))))))))))))))))))))))))))))))))))))))))))))))))))))))))
theorem c_rline : canCall Tryz.prog 55 = true := by kernel_rfl
theorem s_rline : P_rline = sat E (symTop Tryz.prog tab50 2000 55 ash_rline sh_rline) := by kernel_rfl
theorem pure_rline (hV : Valid Tryz.prog tab50 E) (h : P_rline) (args : List Value) (ha : shaFits ash_rline args) (hp : E.pre 55 (args.map vints)) : Pure Tryz.prog 55 args.toArray fun v => sh_rline.fits v ∧ E.post 55 (args.map vints) (vres v) := @top_sat Tryz.prog tab50 E hV 2000 55 ash_rline sh_rline (@Eq.mp _ _ s_rline h) args ha hp
theorem step_rline (hV : Valid Tryz.prog tab50 E) (h : P_rline) : Valid Tryz.prog tab51 E := hV.add c_rline (pure_rline hV h)

/-- gouache/gouacheref20.Place -/
def P_rplace : Prop :=
  (∀ n : Int, (-2147483648) ≤ n → n ≤ 2147483647 →
  (∀ n1 : Int, (-2147483648) ≤ n1 → n1 ≤ 2147483647 →
  (∀ n2 : Int, (-2147483648) ≤ n2 → n2 ≤ 2147483647 →
  (∀ n3 : Int, (-2147483648) ≤ n3 → n3 ≤ 2147483647 →
  (∀ n4 : Int, (-2147483648) ≤ n4 → n4 ≤ 2147483647 →
  (∀ n5 : Int, (-2147483648) ≤ n5 → n5 ≤ 2147483647 →
  (∀ n6 : Int, (-9223372036854775808) ≤ n6 → n6 ≤ 9223372036854775807 →
  (∀ n7 : Int, 0 ≤ n7 → n7 ≤ 18446744073709551615 →
  (∀ n8 : Int, (-9223372036854775808) ≤ n8 → n8 ≤ 9223372036854775807 →
  (∀ n9 : Int, (-9223372036854775808) ≤ n9 → n9 ≤ 9223372036854775807 →
  (∀ n10 : Int, 0 ≤ n10 → n10 ≤ 18446744073709551615 →
  (∀ n11 : Int, (-9223372036854775808) ≤ n11 → n11 ≤ 9223372036854775807 →
  (Pre_rplace [[n, n1, n2, n3, n4, n5], [n6, n7, n8], [n9, n10, n11]] →
  (∀ b : Nat, (∀ b1 : Nat, (∀ b2 : Nat, (∀ b3 : Nat, (∀ b4 : Nat, (∀ b5 : Nat, (∀ b6 : Nat, (∀ b7 : Nat, (((¬ (n8 = n11)) →
    Post_rplace [[n, n1, n2, n3, n4, n5], [n6, n7, n8], [n9, n10, n11]] [[0, 0], [1]]) ∧
   (¬ (¬ (n8 = n11)) →
    (Pre_rmay [[n6, n7, n8]] ∧
    (∀ t : Bool, (Post_rmay [[n6, n7, n8]] [[b2i t]] →
    (((¬ (t = true)) →
      Post_rplace [[n, n1, n2, n3, n4, n5], [n6, n7, n8], [n9, n10, n11]] [[0, 0], [1]]) ∧
     (¬ (¬ (t = true)) →
      (Pre_rmay [[n9, n10, n11]] ∧
      (∀ t1 : Bool, (Post_rmay [[n9, n10, n11]] [[b2i t1]] →
      (((¬ (t1 = true)) →
        Post_rplace [[n, n1, n2, n3, n4, n5], [n6, n7, n8], [n9, n10, n11]] [[0, 0], [1]]) ∧
       (¬ (¬ (t1 = true)) →
        (Pre_rline [[n], [n2], [n4], [n6, n7, n8], [n9, n10, n11], [65536]] ∧
        (∀ n12 : Int, (-9223372036854775808) ≤ n12 → n12 ≤ 9223372036854775807 →
        (∀ t2 : Bool, (Post_rline [[n], [n2], [n4], [n6, n7, n8], [n9, n10, n11], [65536]] [[n12], [b2i t2]] →
        (Pre_rline [[n1], [n3], [n5], [n6, n7, n8], [n9, n10, n11], [65536]] ∧
        (∀ n13 : Int, (-9223372036854775808) ≤ n13 → n13 ≤ 9223372036854775807 →
        (∀ t3 : Bool, (Post_rline [[n1], [n3], [n5], [n6, n7, n8], [n9, n10, n11], [65536]] [[n13], [b2i t3]] →
        (((¬ (t2 = true)) →
          Post_rplace [[n, n1, n2, n3, n4, n5], [n6, n7, n8], [n9, n10, n11]] [[0, 0], [8]]) ∧
         (¬ (¬ (t2 = true)) →
          (((¬ (t3 = true)) →
            Post_rplace [[n, n1, n2, n3, n4, n5], [n6, n7, n8], [n9, n10, n11]] [[0, 0], [8]]) ∧
           (¬ (¬ (t3 = true)) →
            (((-68719476736) ≤ n12) ∧
            ((n12 ≤ 68719476736) ∧
            (∀ n14 : Int, n14 = n12 → (-68719476736) ≤ n14 → n14 ≤ 68719476736 →
            (((-68719476736) ≤ n13) ∧
            ((n13 ≤ 68719476736) ∧
            (∀ n15 : Int, n15 = n13 → (-68719476736) ≤ n15 → n15 ≤ 68719476736 →
            Post_rplace [[n, n1, n2, n3, n4, n5], [n6, n7, n8], [n9, n10, n11]] [[n14, n15], [0]])))))))))))))))))))))))))))))))))))))))))))))))))))
theorem c_rplace : canCall Tryz.prog 15 = true := by kernel_rfl
theorem s_rplace : P_rplace = sat E (symTop Tryz.prog tab51 2000 15 ash_rplace sh_rplace) := by kernel_rfl
theorem pure_rplace (hV : Valid Tryz.prog tab51 E) (h : P_rplace) (args : List Value) (ha : shaFits ash_rplace args) (hp : E.pre 15 (args.map vints)) : Pure Tryz.prog 15 args.toArray fun v => sh_rplace.fits v ∧ E.post 15 (args.map vints) (vres v) := @top_sat Tryz.prog tab51 E hV 2000 15 ash_rplace sh_rplace (@Eq.mp _ _ s_rplace h) args ha hp
theorem step_rplace (hV : Valid Tryz.prog tab51 E) (h : P_rplace) : Valid Tryz.prog tab52 E := hV.add c_rplace (pure_rplace hV h)

/-- gouache/layouts.Check -/
def P_lcheck : Prop :=
  (∀ n : Int, (-9223372036854775808) ≤ n → n ≤ 9223372036854775807 →
  (∀ n1 : Int, (-9223372036854775808) ≤ n1 → n1 ≤ 9223372036854775807 →
  (∀ n2 : Int, (-9223372036854775808) ≤ n2 → n2 ≤ 9223372036854775807 →
  (∀ n3 : Int, (-9223372036854775808) ≤ n3 → n3 ≤ 9223372036854775807 →
  (∀ n4 : Int, (-9223372036854775808) ≤ n4 → n4 ≤ 9223372036854775807 →
  (∀ n5 : Int, (-9223372036854775808) ≤ n5 → n5 ≤ 9223372036854775807 →
  (∀ n6 : Int, (-2147483648) ≤ n6 → n6 ≤ 2147483647 →
  (∀ n7 : Int, (-2147483648) ≤ n7 → n7 ≤ 2147483647 →
  (∀ n8 : Int, (-2147483648) ≤ n8 → n8 ≤ 2147483647 →
  (∀ n9 : Int, (-2147483648) ≤ n9 → n9 ≤ 2147483647 →
  (∀ n10 : Int, (-2147483648) ≤ n10 → n10 ≤ 2147483647 →
  (∀ n11 : Int, (-2147483648) ≤ n11 → n11 ≤ 2147483647 →
  (∀ n12 : Int, (-2147483648) ≤ n12 → n12 ≤ 2147483647 →
  (∀ n13 : Int, (-2147483648) ≤ n13 → n13 ≤ 2147483647 →
  (∀ n14 : Int, (-2147483648) ≤ n14 → n14 ≤ 2147483647 →
  (∀ n15 : Int, (-2147483648) ≤ n15 → n15 ≤ 2147483647 →
  (∀ n16 : Int, (-2147483648) ≤ n16 → n16 ≤ 2147483647 →
  (∀ n17 : Int, (-2147483648) ≤ n17 → n17 ≤ 2147483647 →
  (Pre_lcheck [[n, n1, n2, n3, n4, n5, n6, n7, n8, n9, n10, n11, n12, n13, n14, n15, n16, n17]] →
  (∀ b : Nat, (((0 ≤ n1) →
    (((n1 < 64) →
      ((0 ≤ n1) ∧
      (∀ n18 : Int, n18 = n1 → 0 ≤ n18 → n18 ≤ 9223372036854775807 →
      (((((shI .shr .u64 4311814422 n18) % 2) = 1) →
        (((0 ≤ n2) →
          (((n2 < 64) →
            ((0 ≤ n2) ∧
            (∀ n19 : Int, n19 = n2 → 0 ≤ n19 → n19 ≤ 9223372036854775807 →
            (((((shI .shr .u64 69910 n19) % 2) = 1) →
              (((1 ≤ n4) →
                (((n = 5) →
                  (((n4 ≤ 4) →
                    (((¬ (2 ≤ n5)) →
                      Post_lcheck [[n, n1, n2, n3, n4, n5, n6, n7, n8, n9, n10, n11, n12, n13, n14, n15, n16, n17]] [[4]]) ∧
                     (¬ (¬ (2 ≤ n5)) →
                      Post_lcheck [[n, n1, n2, n3, n4, n5, n6, n7, n8, n9, n10, n11, n12, n13, n14, n15, n16, n17]] [[0]]))) ∧
                   (¬ (n4 ≤ 4) →
                    Post_lcheck [[n, n1, n2, n3, n4, n5, n6, n7, n8, n9, n10, n11, n12, n13, n14, n15, n16, n17]] [[4]]))) ∧
                 (¬ (n = 5) →
                  (((n = 4) →
                    (((n4 ≤ 4) →
                      (((0 ≤ n3) →
                        (((n3 < 64) →
                          ((0 ≤ n3) ∧
                          (∀ n20 : Int, n20 = n3 → 0 ≤ n20 → n20 ≤ 9223372036854775807 →
                          (((¬ (((shI .shr .u64 276 n20) % 2) = 1)) →
                            Post_lcheck [[n, n1, n2, n3, n4, n5, n6, n7, n8, n9, n10, n11, n12, n13, n14, n15, n16, n17]] [[4]]) ∧
                           (¬ (¬ (((shI .shr .u64 276 n20) % 2) = 1)) →
                            Post_lcheck [[n, n1, n2, n3, n4, n5, n6, n7, n8, n9, n10, n11, n12, n13, n14, n15, n16, n17]] [[0]]))))) ∧
                         (¬ (n3 < 64) →
                          Post_lcheck [[n, n1, n2, n3, n4, n5, n6, n7, n8, n9, n10, n11, n12, n13, n14, n15, n16, n17]] [[4]]))) ∧
                       (¬ (0 ≤ n3) →
                        Post_lcheck [[n, n1, n2, n3, n4, n5, n6, n7, n8, n9, n10, n11, n12, n13, n14, n15, n16, n17]] [[4]]))) ∧
                     (¬ (n4 ≤ 4) →
                      Post_lcheck [[n, n1, n2, n3, n4, n5, n6, n7, n8, n9, n10, n11, n12, n13, n14, n15, n16, n17]] [[4]]))) ∧
                   (¬ (n = 4) →
                    (((n = 6) →
                      (((n4 ≤ 4) →
                        (((0 ≤ n3) →
                          (((n3 < 64) →
                            ((0 ≤ n3) ∧
                            (∀ n20 : Int, n20 = n3 → 0 ≤ n20 → n20 ≤ 9223372036854775807 →
                            (((¬ (((shI .shr .u64 276 n20) % 2) = 1)) →
                              Post_lcheck [[n, n1, n2, n3, n4, n5, n6, n7, n8, n9, n10, n11, n12, n13, n14, n15, n16, n17]] [[4]]) ∧
                             (¬ (¬ (((shI .shr .u64 276 n20) % 2) = 1)) →
                              Post_lcheck [[n, n1, n2, n3, n4, n5, n6, n7, n8, n9, n10, n11, n12, n13, n14, n15, n16, n17]] [[0]]))))) ∧
                           (¬ (n3 < 64) →
                            Post_lcheck [[n, n1, n2, n3, n4, n5, n6, n7, n8, n9, n10, n11, n12, n13, n14, n15, n16, n17]] [[4]]))) ∧
                         (¬ (0 ≤ n3) →
                          Post_lcheck [[n, n1, n2, n3, n4, n5, n6, n7, n8, n9, n10, n11, n12, n13, n14, n15, n16, n17]] [[4]]))) ∧
                       (¬ (n4 ≤ 4) →
                        Post_lcheck [[n, n1, n2, n3, n4, n5, n6, n7, n8, n9, n10, n11, n12, n13, n14, n15, n16, n17]] [[4]]))) ∧
                     (¬ (n = 6) →
                      (((n = 7) →
                        (((n4 ≤ 4) →
                          (((0 ≤ n3) →
                            (((n3 < 64) →
                              ((0 ≤ n3) ∧
                              (∀ n20 : Int, n20 = n3 → 0 ≤ n20 → n20 ≤ 9223372036854775807 →
                              (((¬ (((shI .shr .u64 276 n20) % 2) = 1)) →
                                Post_lcheck [[n, n1, n2, n3, n4, n5, n6, n7, n8, n9, n10, n11, n12, n13, n14, n15, n16, n17]] [[4]]) ∧
                               (¬ (¬ (((shI .shr .u64 276 n20) % 2) = 1)) →
                                Post_lcheck [[n, n1, n2, n3, n4, n5, n6, n7, n8, n9, n10, n11, n12, n13, n14, n15, n16, n17]] [[0]]))))) ∧
                             (¬ (n3 < 64) →
                              Post_lcheck [[n, n1, n2, n3, n4, n5, n6, n7, n8, n9, n10, n11, n12, n13, n14, n15, n16, n17]] [[4]]))) ∧
                           (¬ (0 ≤ n3) →
                            Post_lcheck [[n, n1, n2, n3, n4, n5, n6, n7, n8, n9, n10, n11, n12, n13, n14, n15, n16, n17]] [[4]]))) ∧
                         (¬ (n4 ≤ 4) →
                          Post_lcheck [[n, n1, n2, n3, n4, n5, n6, n7, n8, n9, n10, n11, n12, n13, n14, n15, n16, n17]] [[4]]))) ∧
                       (¬ (n = 7) →
                        Post_lcheck [[n, n1, n2, n3, n4, n5, n6, n7, n8, n9, n10, n11, n12, n13, n14, n15, n16, n17]] [[4]]))))))))) ∧
               (¬ (1 ≤ n4) →
                (((n = 5) →
                  Post_lcheck [[n, n1, n2, n3, n4, n5, n6, n7, n8, n9, n10, n11, n12, n13, n14, n15, n16, n17]] [[4]]) ∧
                 (¬ (n = 5) →
                  (((n = 4) →
                    Post_lcheck [[n, n1, n2, n3, n4, n5, n6, n7, n8, n9, n10, n11, n12, n13, n14, n15, n16, n17]] [[4]]) ∧
                   (¬ (n = 4) →
                    (((n = 6) →
                      Post_lcheck [[n, n1, n2, n3, n4, n5, n6, n7, n8, n9, n10, n11, n12, n13, n14, n15, n16, n17]] [[4]]) ∧
                     (¬ (n = 6) →
                      (((n = 7) →
                        Post_lcheck [[n, n1, n2, n3, n4, n5, n6, n7, n8, n9, n10, n11, n12, n13, n14, n15, n16, n17]] [[4]]) ∧
                       (¬ (n = 7) →
                        Post_lcheck [[n, n1, n2, n3, n4, n5, n6, n7, n8, n9, n10, n11, n12, n13, n14, n15, n16, n17]] [[4]]))))))))))) ∧
             (¬ (((shI .shr .u64 69910 n19) % 2) = 1) →
              (((n = 5) →
                Post_lcheck [[n, n1, n2, n3, n4, n5, n6, n7, n8, n9, n10, n11, n12, n13, n14, n15, n16, n17]] [[4]]) ∧
               (¬ (n = 5) →
                (((n = 4) →
                  Post_lcheck [[n, n1, n2, n3, n4, n5, n6, n7, n8, n9, n10, n11, n12, n13, n14, n15, n16, n17]] [[4]]) ∧
                 (¬ (n = 4) →
                  (((n = 6) →
                    Post_lcheck [[n, n1, n2, n3, n4, n5, n6, n7, n8, n9, n10, n11, n12, n13, n14, n15, n16, n17]] [[4]]) ∧
                   (¬ (n = 6) →
                    (((n = 7) →
                      Post_lcheck [[n, n1, n2, n3, n4, n5, n6, n7, n8, n9, n10, n11, n12, n13, n14, n15, n16, n17]] [[4]]) ∧
                     (¬ (n = 7) →
                      Post_lcheck [[n, n1, n2, n3, n4, n5, n6, n7, n8, n9, n10, n11, n12, n13, n14, n15, n16, n17]] [[4]]))))))))))))) ∧
           (¬ (n2 < 64) →
            (((n = 5) →
              Post_lcheck [[n, n1, n2, n3, n4, n5, n6, n7, n8, n9, n10, n11, n12, n13, n14, n15, n16, n17]] [[4]]) ∧
             (¬ (n = 5) →
              (((n = 4) →
                Post_lcheck [[n, n1, n2, n3, n4, n5, n6, n7, n8, n9, n10, n11, n12, n13, n14, n15, n16, n17]] [[4]]) ∧
               (¬ (n = 4) →
                (((n = 6) →
                  Post_lcheck [[n, n1, n2, n3, n4, n5, n6, n7, n8, n9, n10, n11, n12, n13, n14, n15, n16, n17]] [[4]]) ∧
                 (¬ (n = 6) →
                  (((n = 7) →
                    Post_lcheck [[n, n1, n2, n3, n4, n5, n6, n7, n8, n9, n10, n11, n12, n13, n14, n15, n16, n17]] [[4]]) ∧
                   (¬ (n = 7) →
                    Post_lcheck [[n, n1, n2, n3, n4, n5, n6, n7, n8, n9, n10, n11, n12, n13, n14, n15, n16, n17]] [[4]]))))))))))) ∧
         (¬ (0 ≤ n2) →
          (((n = 5) →
            Post_lcheck [[n, n1, n2, n3, n4, n5, n6, n7, n8, n9, n10, n11, n12, n13, n14, n15, n16, n17]] [[4]]) ∧
           (¬ (n = 5) →
            (((n = 4) →
              Post_lcheck [[n, n1, n2, n3, n4, n5, n6, n7, n8, n9, n10, n11, n12, n13, n14, n15, n16, n17]] [[4]]) ∧
             (¬ (n = 4) →
              (((n = 6) →
                Post_lcheck [[n, n1, n2, n3, n4, n5, n6, n7, n8, n9, n10, n11, n12, n13, n14, n15, n16, n17]] [[4]]) ∧
               (¬ (n = 6) →
                (((n = 7) →
                  Post_lcheck [[n, n1, n2, n3, n4, n5, n6, n7, n8, n9, n10, n11, n12, n13, n14, n15, n16, n17]] [[4]]) ∧
                 (¬ (n = 7) →
                  Post_lcheck [[n, n1, n2, n3, n4, n5, n6, n7, n8, n9, n10, n11, n12, n13, n14, n15, n16, n17]] [[4]]))))))))))) ∧
       (¬ (((shI .shr .u64 4311814422 n18) % 2) = 1) →
        (((n = 5) →
          Post_lcheck [[n, n1, n2, n3, n4, n5, n6, n7, n8, n9, n10, n11, n12, n13, n14, n15, n16, n17]] [[4]]) ∧
         (¬ (n = 5) →
          (((n = 4) →
            Post_lcheck [[n, n1, n2, n3, n4, n5, n6, n7, n8, n9, n10, n11, n12, n13, n14, n15, n16, n17]] [[4]]) ∧
           (¬ (n = 4) →
            (((n = 6) →
              Post_lcheck [[n, n1, n2, n3, n4, n5, n6, n7, n8, n9, n10, n11, n12, n13, n14, n15, n16, n17]] [[4]]) ∧
             (¬ (n = 6) →
              (((n = 7) →
                Post_lcheck [[n, n1, n2, n3, n4, n5, n6, n7, n8, n9, n10, n11, n12, n13, n14, n15, n16, n17]] [[4]]) ∧
               (¬ (n = 7) →
                Post_lcheck [[n, n1, n2, n3, n4, n5, n6, n7, n8, n9, n10, n11, n12, n13, n14, n15, n16, n17]] [[4]]))))))))))))) ∧
     (¬ (n1 < 64) →
      (((n = 5) →
        Post_lcheck [[n, n1, n2, n3, n4, n5, n6, n7, n8, n9, n10, n11, n12, n13, n14, n15, n16, n17]] [[4]]) ∧
       (¬ (n = 5) →
        (((n = 4) →
          Post_lcheck [[n, n1, n2, n3, n4, n5, n6, n7, n8, n9, n10, n11, n12, n13, n14, n15, n16, n17]] [[4]]) ∧
         (¬ (n = 4) →
          (((n = 6) →
            Post_lcheck [[n, n1, n2, n3, n4, n5, n6, n7, n8, n9, n10, n11, n12, n13, n14, n15, n16, n17]] [[4]]) ∧
           (¬ (n = 6) →
            (((n = 7) →
              Post_lcheck [[n, n1, n2, n3, n4, n5, n6, n7, n8, n9, n10, n11, n12, n13, n14, n15, n16, n17]] [[4]]) ∧
             (¬ (n = 7) →
              Post_lcheck [[n, n1, n2, n3, n4, n5, n6, n7, n8, n9, n10, n11, n12, n13, n14, n15, n16, n17]] [[4]]))))))))))) ∧
   (¬ (0 ≤ n1) →
    (((n = 5) →
      Post_lcheck [[n, n1, n2, n3, n4, n5, n6, n7, n8, n9, n10, n11, n12, n13, n14, n15, n16, n17]] [[4]]) ∧
     (¬ (n = 5) →
      (((n = 4) →
        Post_lcheck [[n, n1, n2, n3, n4, n5, n6, n7, n8, n9, n10, n11, n12, n13, n14, n15, n16, n17]] [[4]]) ∧
       (¬ (n = 4) →
        (((n = 6) →
          Post_lcheck [[n, n1, n2, n3, n4, n5, n6, n7, n8, n9, n10, n11, n12, n13, n14, n15, n16, n17]] [[4]]) ∧
         (¬ (n = 6) →
          (((n = 7) →
            Post_lcheck [[n, n1, n2, n3, n4, n5, n6, n7, n8, n9, n10, n11, n12, n13, n14, n15, n16, n17]] [[4]]) ∧
           (¬ (n = 7) →
            Post_lcheck [[n, n1, n2, n3, n4, n5, n6, n7, n8, n9, n10, n11, n12, n13, n14, n15, n16, n17]] [[4]]))))))))))))))))))))))))))))))
theorem c_lcheck : canCall Tryz.prog 7 = true := by kernel_rfl
theorem s_lcheck : P_lcheck = sat E (symTop Tryz.prog tab52 2000 7 ash_lcheck sh_lcheck) := by kernel_rfl
theorem pure_lcheck (hV : Valid Tryz.prog tab52 E) (h : P_lcheck) (args : List Value) (ha : shaFits ash_lcheck args) (hp : E.pre 7 (args.map vints)) : Pure Tryz.prog 7 args.toArray fun v => sh_lcheck.fits v ∧ E.post 7 (args.map vints) (vres v) := @top_sat Tryz.prog tab52 E hV 2000 7 ash_lcheck sh_lcheck (@Eq.mp _ _ s_lcheck h) args ha hp
theorem step_lcheck (hV : Valid Tryz.prog tab52 E) (h : P_lcheck) : Valid Tryz.prog tab53 E := hV.add c_lcheck (pure_lcheck hV h)


end Go.Proofs.YtndfeckmfhiniaaGreatDoor.Sx
