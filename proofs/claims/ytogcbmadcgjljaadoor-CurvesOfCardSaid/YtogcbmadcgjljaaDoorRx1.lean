/-
  What each function comes to, part 1. Printed by a program of our own.
-/
import Derived.Test.YtogcbmadcgjljaaDoorRxh
set_option maxRecDepth 1000000
set_option linter.all false
namespace Go.Proofs.YtogcbmadcgjljaaDoor.Sx
open Go Go.RowKit

/-- math/bits.Len64 -/
def P_len64 : Prop :=
  (∀ n : Int, 0 ≤ n → n ≤ 18446744073709551615 →
  (Pre_len64 [[n]] →
  (((4294967296 ≤ n) →
    (∀ n1 : Int, n1 = (n / 4294967296) → 0 ≤ n1 → n1 ≤ 4294967295 →
    (((65536 ≤ n1) →
      (∀ n2 : Int, n2 = (n1 / 65536) → 0 ≤ n2 → n2 ≤ 65535 →
      (((256 ≤ n2) →
        (∀ n3 : Int, n3 = (n2 / 256) → 0 ≤ n3 → n3 ≤ 255 →
        (∀ n4 : Int, n4 = (len8tab.getD (Int.toNat n3) 0) → 0 ≤ n4 → n4 ≤ 8 →
        (∀ n5 : Int, n5 = (56 + n4) → 56 ≤ n5 → n5 ≤ 64 →
        Post_len64 [[n]] [[n5]])))) ∧
       (¬ (256 ≤ n2) →
        (∀ n3 : Int, n3 = (len8tab.getD (Int.toNat (IntKind.wrap .u8 n2)) 0) → 0 ≤ n3 → n3 ≤ 8 →
        (∀ n4 : Int, n4 = (48 + n3) → 48 ≤ n4 → n4 ≤ 56 →
        Post_len64 [[n]] [[n4]])))))) ∧
     (¬ (65536 ≤ n1) →
      (((256 ≤ n1) →
        (∀ n2 : Int, n2 = (n1 / 256) → 0 ≤ n2 → n2 ≤ 16777215 →
        (∀ n3 : Int, n3 = (len8tab.getD (Int.toNat (IntKind.wrap .u8 n2)) 0) → 0 ≤ n3 → n3 ≤ 8 →
        (∀ n4 : Int, n4 = (40 + n3) → 40 ≤ n4 → n4 ≤ 48 →
        Post_len64 [[n]] [[n4]])))) ∧
       (¬ (256 ≤ n1) →
        (∀ n2 : Int, n2 = (len8tab.getD (Int.toNat (IntKind.wrap .u8 n1)) 0) → 0 ≤ n2 → n2 ≤ 8 →
        (∀ n3 : Int, n3 = (32 + n2) → 32 ≤ n3 → n3 ≤ 40 →
        Post_len64 [[n]] [[n3]])))))))) ∧
   (¬ (4294967296 ≤ n) →
    (((65536 ≤ n) →
      (∀ n1 : Int, n1 = (n / 65536) → 0 ≤ n1 → n1 ≤ 281474976710655 →
      (((256 ≤ n1) →
        (∀ n2 : Int, n2 = (n1 / 256) → 0 ≤ n2 → n2 ≤ 1099511627775 →
        (∀ n3 : Int, n3 = (len8tab.getD (Int.toNat (IntKind.wrap .u8 n2)) 0) → 0 ≤ n3 → n3 ≤ 8 →
        (∀ n4 : Int, n4 = (24 + n3) → 24 ≤ n4 → n4 ≤ 32 →
        Post_len64 [[n]] [[n4]])))) ∧
       (¬ (256 ≤ n1) →
        (∀ n2 : Int, n2 = (len8tab.getD (Int.toNat (IntKind.wrap .u8 n1)) 0) → 0 ≤ n2 → n2 ≤ 8 →
        (∀ n3 : Int, n3 = (16 + n2) → 16 ≤ n3 → n3 ≤ 24 →
        Post_len64 [[n]] [[n3]])))))) ∧
     (¬ (65536 ≤ n) →
      (((256 ≤ n) →
        (∀ n1 : Int, n1 = (n / 256) → 0 ≤ n1 → n1 ≤ 72057594037927935 →
        (∀ n2 : Int, n2 = (len8tab.getD (Int.toNat (IntKind.wrap .u8 n1)) 0) → 0 ≤ n2 → n2 ≤ 8 →
        (∀ n3 : Int, n3 = (8 + n2) → 8 ≤ n3 → n3 ≤ 16 →
        Post_len64 [[n]] [[n3]])))) ∧
       (¬ (256 ≤ n) →
        (∀ n1 : Int, n1 = (len8tab.getD (Int.toNat (IntKind.wrap .u8 n)) 0) → 0 ≤ n1 → n1 ≤ 8 →
        Post_len64 [[n]] [[n1]])))))))))
theorem c_len64 : canCall Tryd.prog 84 = true := by kernel_rfl
theorem s_len64 : P_len64 = sat E (symTop Tryd.prog tab0 2000 84 ash_len64 sh_len64) := by kernel_rfl
theorem pure_len64 (hV : Valid Tryd.prog tab0 E) (h : P_len64) (args : List Value) (ha : shaFits ash_len64 args) (hp : E.pre 84 (args.map vints)) : Pure Tryd.prog 84 args.toArray fun v => sh_len64.fits v ∧ E.post 84 (args.map vints) (vres v) := @top_sat Tryd.prog tab0 E hV 2000 84 ash_len64 sh_len64 (@Eq.mp _ _ s_len64 h) args ha hp
theorem step_len64 (hV : Valid Tryd.prog tab0 E) (h : P_len64) : Valid Tryd.prog tab1 E := hV.add c_len64 (pure_len64 hV h)

/-- math/bits.Mul64 -/
def P_mul64 : Prop :=
  (∀ n : Int, 0 ≤ n → n ≤ 18446744073709551615 →
  (∀ n1 : Int, 0 ≤ n1 → n1 ≤ 18446744073709551615 →
  (Pre_mul64 [[n], [n1]] →
  (∀ n2 : Int, n2 = (n % 4294967296) → 0 ≤ n2 → n2 ≤ 4294967295 →
  (∀ n3 : Int, n3 = (n / 4294967296) → 0 ≤ n3 → n3 ≤ 4294967295 →
  (∀ n4 : Int, n4 = (n1 % 4294967296) → 0 ≤ n4 → n4 ≤ 4294967295 →
  (∀ n5 : Int, n5 = (n1 / 4294967296) → 0 ≤ n5 → n5 ≤ 4294967295 →
  (∀ n6 : Int, n6 = (n2 * n4) → 0 ≤ n6 → n6 ≤ 18446744065119617025 →
  (∀ n7 : Int, n7 = ((n3 * n4) + (n6 / 4294967296)) → 0 ≤ n7 → n7 ≤ 18446744069414584319 →
  (∀ n8 : Int, n8 = (n7 % 4294967296) → 0 ≤ n8 → n8 ≤ 4294967295 →
  (∀ n9 : Int, n9 = (n7 / 4294967296) → 0 ≤ n9 → n9 ≤ 4294967294 →
  (∀ n10 : Int, n10 = (n8 + (n2 * n5)) → 0 ≤ n10 → n10 ≤ 18446744069414584320 →
  (∀ n11 : Int, n11 = (((n3 * n5) + n9) + (n10 / 4294967296)) → 0 ≤ n11 → n11 ≤ 18446744073709551614 →
  (∀ n12 : Int, n12 = (IntKind.wrap .u64 (n * n1)) → 0 ≤ n12 → n12 ≤ 18446744073709551615 →
  Post_mul64 [[n], [n1]] [[n11], [n12]]))))))))))))))
theorem c_mul64 : canCall Tryd.prog 62 = true := by kernel_rfl
theorem s_mul64 : P_mul64 = sat E (symTop Tryd.prog tab1 2000 62 ash_mul64 sh_mul64) := by kernel_rfl
theorem pure_mul64 (hV : Valid Tryd.prog tab1 E) (h : P_mul64) (args : List Value) (ha : shaFits ash_mul64 args) (hp : E.pre 62 (args.map vints)) : Pure Tryd.prog 62 args.toArray fun v => sh_mul64.fits v ∧ E.post 62 (args.map vints) (vres v) := @top_sat Tryd.prog tab1 E hV 2000 62 ash_mul64 sh_mul64 (@Eq.mp _ _ s_mul64 h) args ha hp
theorem step_mul64 (hV : Valid Tryd.prog tab1 E) (h : P_mul64) : Valid Tryd.prog tab2 E := hV.add c_mul64 (pure_mul64 hV h)

/-- gouache/gouacheref01.compare -/
def P_compare : Prop :=
  (∀ n : Int, 0 ≤ n → n ≤ 65535 →
  (∀ n1 : Int, 0 ≤ n1 → n1 ≤ 65535 →
  (∀ n2 : Int, 0 ≤ n2 → n2 ≤ 65535 →
  (∀ n3 : Int, 0 ≤ n3 → n3 ≤ 65535 →
  (∀ n4 : Int, 0 ≤ n4 → n4 ≤ 65535 →
  (∀ n5 : Int, 0 ≤ n5 → n5 ≤ 65535 →
  (∀ n6 : Int, 0 ≤ n6 → n6 ≤ 65535 →
  (∀ n7 : Int, 0 ≤ n7 → n7 ≤ 65535 →
  (∀ n8 : Int, 0 ≤ n8 → n8 ≤ 65535 →
  (∀ n9 : Int, 0 ≤ n9 → n9 ≤ 65535 →
  (∀ n10 : Int, 0 ≤ n10 → n10 ≤ 65535 →
  (∀ n11 : Int, 0 ≤ n11 → n11 ≤ 65535 →
  (∀ n12 : Int, 0 ≤ n12 → n12 ≤ 65535 →
  (∀ n13 : Int, 0 ≤ n13 → n13 ≤ 65535 →
  (∀ n14 : Int, 0 ≤ n14 → n14 ≤ 65535 →
  (∀ n15 : Int, 0 ≤ n15 → n15 ≤ 65535 →
  (∀ n16 : Int, 0 ≤ n16 → n16 ≤ 65535 →
  (∀ n17 : Int, 0 ≤ n17 → n17 ≤ 65535 →
  (∀ n18 : Int, 0 ≤ n18 → n18 ≤ 65535 →
  (∀ n19 : Int, 0 ≤ n19 → n19 ≤ 65535 →
  (∀ n20 : Int, 0 ≤ n20 → n20 ≤ 65535 →
  (∀ n21 : Int, 0 ≤ n21 → n21 ≤ 65535 →
  (∀ n22 : Int, 0 ≤ n22 → n22 ≤ 65535 →
  (∀ n23 : Int, 0 ≤ n23 → n23 ≤ 65535 →
  (Pre_compare [[n, n1, n2, n3, n4, n5, n6, n7, n8, n9, n10, n11], [n12, n13, n14, n15, n16, n17, n18, n19, n20, n21, n22, n23]] →
  (∀ b : Nat, (∀ b1 : Nat, (((n11 < n23) →
    Post_compare [[n, n1, n2, n3, n4, n5, n6, n7, n8, n9, n10, n11], [n12, n13, n14, n15, n16, n17, n18, n19, n20, n21, n22, n23]] [[(-1)]]) ∧
   (¬ (n11 < n23) →
    (((n23 < n11) →
      Post_compare [[n, n1, n2, n3, n4, n5, n6, n7, n8, n9, n10, n11], [n12, n13, n14, n15, n16, n17, n18, n19, n20, n21, n22, n23]] [[1]]) ∧
     (¬ (n23 < n11) →
      (((n10 < n22) →
        Post_compare [[n, n1, n2, n3, n4, n5, n6, n7, n8, n9, n10, n11], [n12, n13, n14, n15, n16, n17, n18, n19, n20, n21, n22, n23]] [[(-1)]]) ∧
       (¬ (n10 < n22) →
        (((n22 < n10) →
          Post_compare [[n, n1, n2, n3, n4, n5, n6, n7, n8, n9, n10, n11], [n12, n13, n14, n15, n16, n17, n18, n19, n20, n21, n22, n23]] [[1]]) ∧
         (¬ (n22 < n10) →
          (((n9 < n21) →
            Post_compare [[n, n1, n2, n3, n4, n5, n6, n7, n8, n9, n10, n11], [n12, n13, n14, n15, n16, n17, n18, n19, n20, n21, n22, n23]] [[(-1)]]) ∧
           (¬ (n9 < n21) →
            (((n21 < n9) →
              Post_compare [[n, n1, n2, n3, n4, n5, n6, n7, n8, n9, n10, n11], [n12, n13, n14, n15, n16, n17, n18, n19, n20, n21, n22, n23]] [[1]]) ∧
             (¬ (n21 < n9) →
              (((n8 < n20) →
                Post_compare [[n, n1, n2, n3, n4, n5, n6, n7, n8, n9, n10, n11], [n12, n13, n14, n15, n16, n17, n18, n19, n20, n21, n22, n23]] [[(-1)]]) ∧
               (¬ (n8 < n20) →
                (((n20 < n8) →
                  Post_compare [[n, n1, n2, n3, n4, n5, n6, n7, n8, n9, n10, n11], [n12, n13, n14, n15, n16, n17, n18, n19, n20, n21, n22, n23]] [[1]]) ∧
                 (¬ (n20 < n8) →
                  (((n7 < n19) →
                    Post_compare [[n, n1, n2, n3, n4, n5, n6, n7, n8, n9, n10, n11], [n12, n13, n14, n15, n16, n17, n18, n19, n20, n21, n22, n23]] [[(-1)]]) ∧
                   (¬ (n7 < n19) →
                    (((n19 < n7) →
                      Post_compare [[n, n1, n2, n3, n4, n5, n6, n7, n8, n9, n10, n11], [n12, n13, n14, n15, n16, n17, n18, n19, n20, n21, n22, n23]] [[1]]) ∧
                     (¬ (n19 < n7) →
                      (((n6 < n18) →
                        Post_compare [[n, n1, n2, n3, n4, n5, n6, n7, n8, n9, n10, n11], [n12, n13, n14, n15, n16, n17, n18, n19, n20, n21, n22, n23]] [[(-1)]]) ∧
                       (¬ (n6 < n18) →
                        (((n18 < n6) →
                          Post_compare [[n, n1, n2, n3, n4, n5, n6, n7, n8, n9, n10, n11], [n12, n13, n14, n15, n16, n17, n18, n19, n20, n21, n22, n23]] [[1]]) ∧
                         (¬ (n18 < n6) →
                          (((n5 < n17) →
                            Post_compare [[n, n1, n2, n3, n4, n5, n6, n7, n8, n9, n10, n11], [n12, n13, n14, n15, n16, n17, n18, n19, n20, n21, n22, n23]] [[(-1)]]) ∧
                           (¬ (n5 < n17) →
                            (((n17 < n5) →
                              Post_compare [[n, n1, n2, n3, n4, n5, n6, n7, n8, n9, n10, n11], [n12, n13, n14, n15, n16, n17, n18, n19, n20, n21, n22, n23]] [[1]]) ∧
                             (¬ (n17 < n5) →
                              (((n4 < n16) →
                                Post_compare [[n, n1, n2, n3, n4, n5, n6, n7, n8, n9, n10, n11], [n12, n13, n14, n15, n16, n17, n18, n19, n20, n21, n22, n23]] [[(-1)]]) ∧
                               (¬ (n4 < n16) →
                                (((n16 < n4) →
                                  Post_compare [[n, n1, n2, n3, n4, n5, n6, n7, n8, n9, n10, n11], [n12, n13, n14, n15, n16, n17, n18, n19, n20, n21, n22, n23]] [[1]]) ∧
                                 (¬ (n16 < n4) →
                                  (((n3 < n15) →
                                    Post_compare [[n, n1, n2, n3, n4, n5, n6, n7, n8, n9, n10, n11], [n12, n13, n14, n15, n16, n17, n18, n19, n20, n21, n22, n23]] [[(-1)]]) ∧
                                   (¬ (n3 < n15) →
                                    (((n15 < n3) →
                                      Post_compare [[n, n1, n2, n3, n4, n5, n6, n7, n8, n9, n10, n11], [n12, n13, n14, n15, n16, n17, n18, n19, n20, n21, n22, n23]] [[1]]) ∧
                                     (¬ (n15 < n3) →
                                      (((n2 < n14) →
                                        Post_compare [[n, n1, n2, n3, n4, n5, n6, n7, n8, n9, n10, n11], [n12, n13, n14, n15, n16, n17, n18, n19, n20, n21, n22, n23]] [[(-1)]]) ∧
                                       (¬ (n2 < n14) →
                                        (((n14 < n2) →
                                          Post_compare [[n, n1, n2, n3, n4, n5, n6, n7, n8, n9, n10, n11], [n12, n13, n14, n15, n16, n17, n18, n19, n20, n21, n22, n23]] [[1]]) ∧
                                         (¬ (n14 < n2) →
                                          (((n1 < n13) →
                                            Post_compare [[n, n1, n2, n3, n4, n5, n6, n7, n8, n9, n10, n11], [n12, n13, n14, n15, n16, n17, n18, n19, n20, n21, n22, n23]] [[(-1)]]) ∧
                                           (¬ (n1 < n13) →
                                            (((n13 < n1) →
                                              Post_compare [[n, n1, n2, n3, n4, n5, n6, n7, n8, n9, n10, n11], [n12, n13, n14, n15, n16, n17, n18, n19, n20, n21, n22, n23]] [[1]]) ∧
                                             (¬ (n13 < n1) →
                                              (((n < n12) →
                                                Post_compare [[n, n1, n2, n3, n4, n5, n6, n7, n8, n9, n10, n11], [n12, n13, n14, n15, n16, n17, n18, n19, n20, n21, n22, n23]] [[(-1)]]) ∧
                                               (¬ (n < n12) →
                                                (((n12 < n) →
                                                  Post_compare [[n, n1, n2, n3, n4, n5, n6, n7, n8, n9, n10, n11], [n12, n13, n14, n15, n16, n17, n18, n19, n20, n21, n22, n23]] [[1]]) ∧
                                                 (¬ (n12 < n) →
                                                  Post_compare [[n, n1, n2, n3, n4, n5, n6, n7, n8, n9, n10, n11], [n12, n13, n14, n15, n16, n17, n18, n19, n20, n21, n22, n23]] [[0]])))))))))))))))))))))))))))))))))))))))))))))))))))))))))))))))))))))))))))
theorem c_compare : canCall Tryd.prog 68 = true := by kernel_rfl
theorem s_compare : P_compare = sat E (symTop Tryd.prog tab2 2000 68 ash_compare sh_compare) := by kernel_rfl
theorem pure_compare (hV : Valid Tryd.prog tab2 E) (h : P_compare) (args : List Value) (ha : shaFits ash_compare args) (hp : E.pre 68 (args.map vints)) : Pure Tryd.prog 68 args.toArray fun v => sh_compare.fits v ∧ E.post 68 (args.map vints) (vres v) := @top_sat Tryd.prog tab2 E hV 2000 68 ash_compare sh_compare (@Eq.mp _ _ s_compare h) args ha hp
theorem step_compare (hV : Valid Tryd.prog tab2 E) (h : P_compare) : Valid Tryd.prog tab3 E := hV.add c_compare (pure_compare hV h)

/-- gouache/gouacheref01.plus -/
def P_plus : Prop :=
  (∀ n : Int, 0 ≤ n → n ≤ 65535 →
  (∀ n1 : Int, 0 ≤ n1 → n1 ≤ 65535 →
  (∀ n2 : Int, 0 ≤ n2 → n2 ≤ 65535 →
  (∀ n3 : Int, 0 ≤ n3 → n3 ≤ 65535 →
  (∀ n4 : Int, 0 ≤ n4 → n4 ≤ 65535 →
  (∀ n5 : Int, 0 ≤ n5 → n5 ≤ 65535 →
  (∀ n6 : Int, 0 ≤ n6 → n6 ≤ 65535 →
  (∀ n7 : Int, 0 ≤ n7 → n7 ≤ 65535 →
  (∀ n8 : Int, 0 ≤ n8 → n8 ≤ 65535 →
  (∀ n9 : Int, 0 ≤ n9 → n9 ≤ 65535 →
  (∀ n10 : Int, 0 ≤ n10 → n10 ≤ 65535 →
  (∀ n11 : Int, 0 ≤ n11 → n11 ≤ 65535 →
  (∀ n12 : Int, 0 ≤ n12 → n12 ≤ 65535 →
  (∀ n13 : Int, 0 ≤ n13 → n13 ≤ 65535 →
  (∀ n14 : Int, 0 ≤ n14 → n14 ≤ 65535 →
  (∀ n15 : Int, 0 ≤ n15 → n15 ≤ 65535 →
  (∀ n16 : Int, 0 ≤ n16 → n16 ≤ 65535 →
  (∀ n17 : Int, 0 ≤ n17 → n17 ≤ 65535 →
  (∀ n18 : Int, 0 ≤ n18 → n18 ≤ 65535 →
  (∀ n19 : Int, 0 ≤ n19 → n19 ≤ 65535 →
  (∀ n20 : Int, 0 ≤ n20 → n20 ≤ 65535 →
  (∀ n21 : Int, 0 ≤ n21 → n21 ≤ 65535 →
  (∀ n22 : Int, 0 ≤ n22 → n22 ≤ 65535 →
  (∀ n23 : Int, 0 ≤ n23 → n23 ≤ 65535 →
  (Pre_plus [[n, n1, n2, n3, n4, n5, n6, n7, n8, n9, n10, n11], [n12, n13, n14, n15, n16, n17, n18, n19, n20, n21, n22, n23]] →
  (∀ b : Nat, (∀ b1 : Nat, (∀ b2 : Nat, (∀ n24 : Int, n24 = (n + n12) → 0 ≤ n24 → n24 ≤ 131070 →
  (∀ n25 : Int, n25 = (n24 % 65536) → 0 ≤ n25 → n25 ≤ 65535 →
  (∀ n26 : Int, n26 = (n24 / 65536) → 0 ≤ n26 → n26 ≤ 1 →
  (∀ n27 : Int, n27 = ((n26 + n1) + n13) → 0 ≤ n27 → n27 ≤ 131071 →
  (∀ n28 : Int, n28 = (n27 % 65536) → 0 ≤ n28 → n28 ≤ 65535 →
  (∀ n29 : Int, n29 = (n27 / 65536) → 0 ≤ n29 → n29 ≤ 1 →
  (∀ n30 : Int, n30 = ((n29 + n2) + n14) → 0 ≤ n30 → n30 ≤ 131071 →
  (∀ n31 : Int, n31 = (n30 % 65536) → 0 ≤ n31 → n31 ≤ 65535 →
  (∀ n32 : Int, n32 = (n30 / 65536) → 0 ≤ n32 → n32 ≤ 1 →
  (∀ n33 : Int, n33 = ((n32 + n3) + n15) → 0 ≤ n33 → n33 ≤ 131071 →
  (∀ n34 : Int, n34 = (n33 % 65536) → 0 ≤ n34 → n34 ≤ 65535 →
  (∀ n35 : Int, n35 = (n33 / 65536) → 0 ≤ n35 → n35 ≤ 1 →
  (∀ n36 : Int, n36 = ((n35 + n4) + n16) → 0 ≤ n36 → n36 ≤ 131071 →
  (∀ n37 : Int, n37 = (n36 % 65536) → 0 ≤ n37 → n37 ≤ 65535 →
  (∀ n38 : Int, n38 = (n36 / 65536) → 0 ≤ n38 → n38 ≤ 1 →
  (∀ n39 : Int, n39 = ((n38 + n5) + n17) → 0 ≤ n39 → n39 ≤ 131071 →
  (∀ n40 : Int, n40 = (n39 % 65536) → 0 ≤ n40 → n40 ≤ 65535 →
  (∀ n41 : Int, n41 = (n39 / 65536) → 0 ≤ n41 → n41 ≤ 1 →
  (∀ n42 : Int, n42 = ((n41 + n6) + n18) → 0 ≤ n42 → n42 ≤ 131071 →
  (∀ n43 : Int, n43 = (n42 % 65536) → 0 ≤ n43 → n43 ≤ 65535 →
  (∀ n44 : Int, n44 = (n42 / 65536) → 0 ≤ n44 → n44 ≤ 1 →
  (∀ n45 : Int, n45 = ((n44 + n7) + n19) → 0 ≤ n45 → n45 ≤ 131071 →
  (∀ n46 : Int, n46 = (n45 % 65536) → 0 ≤ n46 → n46 ≤ 65535 →
  (∀ n47 : Int, n47 = (n45 / 65536) → 0 ≤ n47 → n47 ≤ 1 →
  (∀ n48 : Int, n48 = ((n47 + n8) + n20) → 0 ≤ n48 → n48 ≤ 131071 →
  (∀ n49 : Int, n49 = (n48 % 65536) → 0 ≤ n49 → n49 ≤ 65535 →
  (∀ n50 : Int, n50 = (n48 / 65536) → 0 ≤ n50 → n50 ≤ 1 →
  (∀ n51 : Int, n51 = ((n50 + n9) + n21) → 0 ≤ n51 → n51 ≤ 131071 →
  (∀ n52 : Int, n52 = (n51 % 65536) → 0 ≤ n52 → n52 ≤ 65535 →
  (∀ n53 : Int, n53 = (n51 / 65536) → 0 ≤ n53 → n53 ≤ 1 →
  (∀ n54 : Int, n54 = ((n53 + n10) + n22) → 0 ≤ n54 → n54 ≤ 131071 →
  (∀ n55 : Int, n55 = (n54 % 65536) → 0 ≤ n55 → n55 ≤ 65535 →
  (∀ n56 : Int, n56 = (n54 / 65536) → 0 ≤ n56 → n56 ≤ 1 →
  (∀ n57 : Int, n57 = ((n56 + n11) + n23) → 0 ≤ n57 → n57 ≤ 131071 →
  (∀ n58 : Int, n58 = (n57 % 65536) → 0 ≤ n58 → n58 ≤ 65535 →
  (∀ n59 : Int, n59 = (n57 / 65536) → 0 ≤ n59 → n59 ≤ 1 →
  Post_plus [[n, n1, n2, n3, n4, n5, n6, n7, n8, n9, n10, n11], [n12, n13, n14, n15, n16, n17, n18, n19, n20, n21, n22, n23]] [[n25, n28, n31, n34, n37, n40, n43, n46, n49, n52, n55, n58]]))))))))))))))))))))))))))))))))))))))))))))))))))))))))))))))))
theorem c_plus : canCall Tryd.prog 72 = true := by kernel_rfl
theorem s_plus : P_plus = sat E (symTop Tryd.prog tab3 2000 72 ash_plus sh_plus) := by kernel_rfl
theorem pure_plus (hV : Valid Tryd.prog tab3 E) (h : P_plus) (args : List Value) (ha : shaFits ash_plus args) (hp : E.pre 72 (args.map vints)) : Pure Tryd.prog 72 args.toArray fun v => sh_plus.fits v ∧ E.post 72 (args.map vints) (vres v) := @top_sat Tryd.prog tab3 E hV 2000 72 ash_plus sh_plus (@Eq.mp _ _ s_plus h) args ha hp
theorem step_plus (hV : Valid Tryd.prog tab3 E) (h : P_plus) : Valid Tryd.prog tab4 E := hV.add c_plus (pure_plus hV h)

/-- gouache/gouacheref01.less -/
def P_less : Prop :=
  (∀ n : Int, 0 ≤ n → n ≤ 65535 →
  (∀ n1 : Int, 0 ≤ n1 → n1 ≤ 65535 →
  (∀ n2 : Int, 0 ≤ n2 → n2 ≤ 65535 →
  (∀ n3 : Int, 0 ≤ n3 → n3 ≤ 65535 →
  (∀ n4 : Int, 0 ≤ n4 → n4 ≤ 65535 →
  (∀ n5 : Int, 0 ≤ n5 → n5 ≤ 65535 →
  (∀ n6 : Int, 0 ≤ n6 → n6 ≤ 65535 →
  (∀ n7 : Int, 0 ≤ n7 → n7 ≤ 65535 →
  (∀ n8 : Int, 0 ≤ n8 → n8 ≤ 65535 →
  (∀ n9 : Int, 0 ≤ n9 → n9 ≤ 65535 →
  (∀ n10 : Int, 0 ≤ n10 → n10 ≤ 65535 →
  (∀ n11 : Int, 0 ≤ n11 → n11 ≤ 65535 →
  (∀ n12 : Int, 0 ≤ n12 → n12 ≤ 65535 →
  (∀ n13 : Int, 0 ≤ n13 → n13 ≤ 65535 →
  (∀ n14 : Int, 0 ≤ n14 → n14 ≤ 65535 →
  (∀ n15 : Int, 0 ≤ n15 → n15 ≤ 65535 →
  (∀ n16 : Int, 0 ≤ n16 → n16 ≤ 65535 →
  (∀ n17 : Int, 0 ≤ n17 → n17 ≤ 65535 →
  (∀ n18 : Int, 0 ≤ n18 → n18 ≤ 65535 →
  (∀ n19 : Int, 0 ≤ n19 → n19 ≤ 65535 →
  (∀ n20 : Int, 0 ≤ n20 → n20 ≤ 65535 →
  (∀ n21 : Int, 0 ≤ n21 → n21 ≤ 65535 →
  (∀ n22 : Int, 0 ≤ n22 → n22 ≤ 65535 →
  (∀ n23 : Int, 0 ≤ n23 → n23 ≤ 65535 →
  (Pre_less [[n, n1, n2, n3, n4, n5, n6, n7, n8, n9, n10, n11], [n12, n13, n14, n15, n16, n17, n18, n19, n20, n21, n22, n23]] →
  (∀ b : Nat, (∀ b1 : Nat, (∀ b2 : Nat, (Inv_less [n, n1, n2, n3, n4, n5, n6, n7, n8, n9, n10, n11, n12, n13, n14, n15, n16, n17, n18, n19, n20, n21, n22, n23] [0, n, n1, n2, n3, n4, n5, n6, n7, n8, n9, n10, n11] ∧
  (∀ n24 : Int, 0 ≤ n24 → n24 ≤ 12 →
  (∀ n25 : Int, (-1) ≤ n25 → n25 ≤ 65535 →
  (∀ n26 : Int, (-1) ≤ n26 → n26 ≤ 65535 →
  (∀ n27 : Int, (-1) ≤ n27 → n27 ≤ 65535 →
  (∀ n28 : Int, (-1) ≤ n28 → n28 ≤ 65535 →
  (∀ n29 : Int, (-1) ≤ n29 → n29 ≤ 65535 →
  (∀ n30 : Int, (-1) ≤ n30 → n30 ≤ 65535 →
  (∀ n31 : Int, (-1) ≤ n31 → n31 ≤ 65535 →
  (∀ n32 : Int, (-1) ≤ n32 → n32 ≤ 65535 →
  (∀ n33 : Int, (-1) ≤ n33 → n33 ≤ 65535 →
  (∀ n34 : Int, (-1) ≤ n34 → n34 ≤ 65535 →
  (∀ n35 : Int, (-1) ≤ n35 → n35 ≤ 65535 →
  (∀ n36 : Int, (-1) ≤ n36 → n36 ≤ 65535 →
  (Inv_less [n, n1, n2, n3, n4, n5, n6, n7, n8, n9, n10, n11, n12, n13, n14, n15, n16, n17, n18, n19, n20, n21, n22, n23] [n24, n25, n26, n27, n28, n29, n30, n31, n32, n33, n34, n35, n36] →
  (∀ vs : List Value, vs.length = 30 →
  (((n24 < 12) →
    ((n24 < 12) ∧
    ((n24 < 12) ∧
    ((n24 < 12) ∧
    (∀ n37 : Int, n37 = ((if n24 = 0 then n25 else (if n24 = 1 then n26 else (if n24 = 2 then n27 else (if n24 = 3 then n28 else (if n24 = 4 then n29 else (if n24 = 5 then n30 else (if n24 = 6 then n31 else (if n24 = 7 then n32 else (if n24 = 8 then n33 else (if n24 = 9 then n34 else (if n24 = 10 then n35 else n36))))))))))) - (if n24 = 0 then n12 else (if n24 = 1 then n13 else (if n24 = 2 then n14 else (if n24 = 3 then n15 else (if n24 = 4 then n16 else (if n24 = 5 then n17 else (if n24 = 6 then n18 else (if n24 = 7 then n19 else (if n24 = 8 then n20 else (if n24 = 9 then n21 else (if n24 = 10 then n22 else n23)))))))))))) → (-65536) ≤ n37 → n37 ≤ 65535 →
    ((n24 < 12) ∧
    ((((if n24 = 0 then (if n24 = 0 then n37 else n25) else (if n24 = 1 then (if n24 = 1 then n37 else n26) else (if n24 = 2 then (if n24 = 2 then n37 else n27) else (if n24 = 3 then (if n24 = 3 then n37 else n28) else (if n24 = 4 then (if n24 = 4 then n37 else n29) else (if n24 = 5 then (if n24 = 5 then n37 else n30) else (if n24 = 6 then (if n24 = 6 then n37 else n31) else (if n24 = 7 then (if n24 = 7 then n37 else n32) else (if n24 = 8 then (if n24 = 8 then n37 else n33) else (if n24 = 9 then (if n24 = 9 then n37 else n34) else (if n24 = 10 then (if n24 = 10 then n37 else n35) else (if n24 = 11 then n37 else n36)))))))))))) < 0) →
      ((n24 < 12) ∧
      ((n24 < 12) ∧
      (∀ n38 : Int, n38 = ((if n24 = 0 then (if n24 = 0 then n37 else n25) else (if n24 = 1 then (if n24 = 1 then n37 else n26) else (if n24 = 2 then (if n24 = 2 then n37 else n27) else (if n24 = 3 then (if n24 = 3 then n37 else n28) else (if n24 = 4 then (if n24 = 4 then n37 else n29) else (if n24 = 5 then (if n24 = 5 then n37 else n30) else (if n24 = 6 then (if n24 = 6 then n37 else n31) else (if n24 = 7 then (if n24 = 7 then n37 else n32) else (if n24 = 8 then (if n24 = 8 then n37 else n33) else (if n24 = 9 then (if n24 = 9 then n37 else n34) else (if n24 = 10 then (if n24 = 10 then n37 else n35) else (if n24 = 11 then n37 else n36)))))))))))) + 65536) → 0 ≤ n38 → n38 ≤ 131071 →
      (((n24 + 1) < 12) ∧
      (((n24 + 1) < 12) ∧
      (∀ n39 : Int, n39 = ((if (n24 + 1) = 1 then (if n24 = 1 then n38 else (if n24 = 1 then n37 else n26)) else (if (n24 + 1) = 2 then (if n24 = 2 then n38 else (if n24 = 2 then n37 else n27)) else (if (n24 + 1) = 3 then (if n24 = 3 then n38 else (if n24 = 3 then n37 else n28)) else (if (n24 + 1) = 4 then (if n24 = 4 then n38 else (if n24 = 4 then n37 else n29)) else (if (n24 + 1) = 5 then (if n24 = 5 then n38 else (if n24 = 5 then n37 else n30)) else (if (n24 + 1) = 6 then (if n24 = 6 then n38 else (if n24 = 6 then n37 else n31)) else (if (n24 + 1) = 7 then (if n24 = 7 then n38 else (if n24 = 7 then n37 else n32)) else (if (n24 + 1) = 8 then (if n24 = 8 then n38 else (if n24 = 8 then n37 else n33)) else (if (n24 + 1) = 9 then (if n24 = 9 then n38 else (if n24 = 9 then n37 else n34)) else (if (n24 + 1) = 10 then (if n24 = 10 then n38 else (if n24 = 10 then n37 else n35)) else (if n24 = 11 then n38 else (if n24 = 11 then n37 else n36)))))))))))) - 1) → (-65537) ≤ n39 → n39 ≤ 131070 →
      (∀ n40 : Int, n40 = (n24 + 1) → 1 ≤ n40 → n40 ≤ 13 →
      ((n40 ≤ 12) ∧
      (∀ n41 : Int, n41 = n40 → 0 ≤ n41 → n41 ≤ 12 →
      (((-1) ≤ (if n24 = 0 then n38 else (if n24 = 0 then n37 else n25))) ∧
      (((if n24 = 0 then n38 else (if n24 = 0 then n37 else n25)) ≤ 65535) ∧
      (∀ n42 : Int, n42 = (if n24 = 0 then n38 else (if n24 = 0 then n37 else n25)) → (-1) ≤ n42 → n42 ≤ 65535 →
      (((-1) ≤ (if (n24 + 1) = 1 then n39 else (if n24 = 1 then n38 else (if n24 = 1 then n37 else n26)))) ∧
      (((if (n24 + 1) = 1 then n39 else (if n24 = 1 then n38 else (if n24 = 1 then n37 else n26))) ≤ 65535) ∧
      (∀ n43 : Int, n43 = (if (n24 + 1) = 1 then n39 else (if n24 = 1 then n38 else (if n24 = 1 then n37 else n26))) → (-1) ≤ n43 → n43 ≤ 65535 →
      (((-1) ≤ (if (n24 + 1) = 2 then n39 else (if n24 = 2 then n38 else (if n24 = 2 then n37 else n27)))) ∧
      (((if (n24 + 1) = 2 then n39 else (if n24 = 2 then n38 else (if n24 = 2 then n37 else n27))) ≤ 65535) ∧
      (∀ n44 : Int, n44 = (if (n24 + 1) = 2 then n39 else (if n24 = 2 then n38 else (if n24 = 2 then n37 else n27))) → (-1) ≤ n44 → n44 ≤ 65535 →
      (((-1) ≤ (if (n24 + 1) = 3 then n39 else (if n24 = 3 then n38 else (if n24 = 3 then n37 else n28)))) ∧
      (((if (n24 + 1) = 3 then n39 else (if n24 = 3 then n38 else (if n24 = 3 then n37 else n28))) ≤ 65535) ∧
      (∀ n45 : Int, n45 = (if (n24 + 1) = 3 then n39 else (if n24 = 3 then n38 else (if n24 = 3 then n37 else n28))) → (-1) ≤ n45 → n45 ≤ 65535 →
      (((-1) ≤ (if (n24 + 1) = 4 then n39 else (if n24 = 4 then n38 else (if n24 = 4 then n37 else n29)))) ∧
      (((if (n24 + 1) = 4 then n39 else (if n24 = 4 then n38 else (if n24 = 4 then n37 else n29))) ≤ 65535) ∧
      (∀ n46 : Int, n46 = (if (n24 + 1) = 4 then n39 else (if n24 = 4 then n38 else (if n24 = 4 then n37 else n29))) → (-1) ≤ n46 → n46 ≤ 65535 →
      (((-1) ≤ (if (n24 + 1) = 5 then n39 else (if n24 = 5 then n38 else (if n24 = 5 then n37 else n30)))) ∧
      (((if (n24 + 1) = 5 then n39 else (if n24 = 5 then n38 else (if n24 = 5 then n37 else n30))) ≤ 65535) ∧
      (∀ n47 : Int, n47 = (if (n24 + 1) = 5 then n39 else (if n24 = 5 then n38 else (if n24 = 5 then n37 else n30))) → (-1) ≤ n47 → n47 ≤ 65535 →
      (((-1) ≤ (if (n24 + 1) = 6 then n39 else (if n24 = 6 then n38 else (if n24 = 6 then n37 else n31)))) ∧
      (((if (n24 + 1) = 6 then n39 else (if n24 = 6 then n38 else (if n24 = 6 then n37 else n31))) ≤ 65535) ∧
      (∀ n48 : Int, n48 = (if (n24 + 1) = 6 then n39 else (if n24 = 6 then n38 else (if n24 = 6 then n37 else n31))) → (-1) ≤ n48 → n48 ≤ 65535 →
      (((-1) ≤ (if (n24 + 1) = 7 then n39 else (if n24 = 7 then n38 else (if n24 = 7 then n37 else n32)))) ∧
      (((if (n24 + 1) = 7 then n39 else (if n24 = 7 then n38 else (if n24 = 7 then n37 else n32))) ≤ 65535) ∧
      (∀ n49 : Int, n49 = (if (n24 + 1) = 7 then n39 else (if n24 = 7 then n38 else (if n24 = 7 then n37 else n32))) → (-1) ≤ n49 → n49 ≤ 65535 →
      (((-1) ≤ (if (n24 + 1) = 8 then n39 else (if n24 = 8 then n38 else (if n24 = 8 then n37 else n33)))) ∧
      (((if (n24 + 1) = 8 then n39 else (if n24 = 8 then n38 else (if n24 = 8 then n37 else n33))) ≤ 65535) ∧
      (∀ n50 : Int, n50 = (if (n24 + 1) = 8 then n39 else (if n24 = 8 then n38 else (if n24 = 8 then n37 else n33))) → (-1) ≤ n50 → n50 ≤ 65535 →
      (((-1) ≤ (if (n24 + 1) = 9 then n39 else (if n24 = 9 then n38 else (if n24 = 9 then n37 else n34)))) ∧
      (((if (n24 + 1) = 9 then n39 else (if n24 = 9 then n38 else (if n24 = 9 then n37 else n34))) ≤ 65535) ∧
      (∀ n51 : Int, n51 = (if (n24 + 1) = 9 then n39 else (if n24 = 9 then n38 else (if n24 = 9 then n37 else n34))) → (-1) ≤ n51 → n51 ≤ 65535 →
      (((-1) ≤ (if (n24 + 1) = 10 then n39 else (if n24 = 10 then n38 else (if n24 = 10 then n37 else n35)))) ∧
      (((if (n24 + 1) = 10 then n39 else (if n24 = 10 then n38 else (if n24 = 10 then n37 else n35))) ≤ 65535) ∧
      (∀ n52 : Int, n52 = (if (n24 + 1) = 10 then n39 else (if n24 = 10 then n38 else (if n24 = 10 then n37 else n35))) → (-1) ≤ n52 → n52 ≤ 65535 →
      (((-1) ≤ (if (n24 + 1) = 11 then n39 else (if n24 = 11 then n38 else (if n24 = 11 then n37 else n36)))) ∧
      (((if (n24 + 1) = 11 then n39 else (if n24 = 11 then n38 else (if n24 = 11 then n37 else n36))) ≤ 65535) ∧
      (∀ n53 : Int, n53 = (if (n24 + 1) = 11 then n39 else (if n24 = 11 then n38 else (if n24 = 11 then n37 else n36))) → (-1) ≤ n53 → n53 ≤ 65535 →
      (Inv_less [n, n1, n2, n3, n4, n5, n6, n7, n8, n9, n10, n11, n12, n13, n14, n15, n16, n17, n18, n19, n20, n21, n22, n23] [n41, n42, n43, n44, n45, n46, n47, n48, n49, n50, n51, n52, n53] ∧ Mea_less [n, n1, n2, n3, n4, n5, n6, n7, n8, n9, n10, n11, n12, n13, n14, n15, n16, n17, n18, n19, n20, n21, n22, n23] [n41, n42, n43, n44, n45, n46, n47, n48, n49, n50, n51, n52, n53] < Mea_less [n, n1, n2, n3, n4, n5, n6, n7, n8, n9, n10, n11, n12, n13, n14, n15, n16, n17, n18, n19, n20, n21, n22, n23] [n24, n25, n26, n27, n28, n29, n30, n31, n32, n33, n34, n35, n36]))))))))))))))))))))))))))))))))))))))))))))))) ∧
     (¬ ((if n24 = 0 then (if n24 = 0 then n37 else n25) else (if n24 = 1 then (if n24 = 1 then n37 else n26) else (if n24 = 2 then (if n24 = 2 then n37 else n27) else (if n24 = 3 then (if n24 = 3 then n37 else n28) else (if n24 = 4 then (if n24 = 4 then n37 else n29) else (if n24 = 5 then (if n24 = 5 then n37 else n30) else (if n24 = 6 then (if n24 = 6 then n37 else n31) else (if n24 = 7 then (if n24 = 7 then n37 else n32) else (if n24 = 8 then (if n24 = 8 then n37 else n33) else (if n24 = 9 then (if n24 = 9 then n37 else n34) else (if n24 = 10 then (if n24 = 10 then n37 else n35) else (if n24 = 11 then n37 else n36)))))))))))) < 0) →
      (∀ n38 : Int, n38 = (n24 + 1) → 1 ≤ n38 → n38 ≤ 13 →
      ((n38 ≤ 12) ∧
      (∀ n39 : Int, n39 = n38 → 0 ≤ n39 → n39 ≤ 12 →
      (((-1) ≤ (if n24 = 0 then n37 else n25)) ∧
      (∀ n40 : Int, n40 = (if n24 = 0 then n37 else n25) → (-1) ≤ n40 → n40 ≤ 65535 →
      (((-1) ≤ (if n24 = 1 then n37 else n26)) ∧
      (∀ n41 : Int, n41 = (if n24 = 1 then n37 else n26) → (-1) ≤ n41 → n41 ≤ 65535 →
      (((-1) ≤ (if n24 = 2 then n37 else n27)) ∧
      (∀ n42 : Int, n42 = (if n24 = 2 then n37 else n27) → (-1) ≤ n42 → n42 ≤ 65535 →
      (((-1) ≤ (if n24 = 3 then n37 else n28)) ∧
      (∀ n43 : Int, n43 = (if n24 = 3 then n37 else n28) → (-1) ≤ n43 → n43 ≤ 65535 →
      (((-1) ≤ (if n24 = 4 then n37 else n29)) ∧
      (∀ n44 : Int, n44 = (if n24 = 4 then n37 else n29) → (-1) ≤ n44 → n44 ≤ 65535 →
      (((-1) ≤ (if n24 = 5 then n37 else n30)) ∧
      (∀ n45 : Int, n45 = (if n24 = 5 then n37 else n30) → (-1) ≤ n45 → n45 ≤ 65535 →
      (((-1) ≤ (if n24 = 6 then n37 else n31)) ∧
      (∀ n46 : Int, n46 = (if n24 = 6 then n37 else n31) → (-1) ≤ n46 → n46 ≤ 65535 →
      (((-1) ≤ (if n24 = 7 then n37 else n32)) ∧
      (∀ n47 : Int, n47 = (if n24 = 7 then n37 else n32) → (-1) ≤ n47 → n47 ≤ 65535 →
      (((-1) ≤ (if n24 = 8 then n37 else n33)) ∧
      (∀ n48 : Int, n48 = (if n24 = 8 then n37 else n33) → (-1) ≤ n48 → n48 ≤ 65535 →
      (((-1) ≤ (if n24 = 9 then n37 else n34)) ∧
      (∀ n49 : Int, n49 = (if n24 = 9 then n37 else n34) → (-1) ≤ n49 → n49 ≤ 65535 →
      (((-1) ≤ (if n24 = 10 then n37 else n35)) ∧
      (∀ n50 : Int, n50 = (if n24 = 10 then n37 else n35) → (-1) ≤ n50 → n50 ≤ 65535 →
      (((-1) ≤ (if n24 = 11 then n37 else n36)) ∧
      (∀ n51 : Int, n51 = (if n24 = 11 then n37 else n36) → (-1) ≤ n51 → n51 ≤ 65535 →
      (Inv_less [n, n1, n2, n3, n4, n5, n6, n7, n8, n9, n10, n11, n12, n13, n14, n15, n16, n17, n18, n19, n20, n21, n22, n23] [n39, n40, n41, n42, n43, n44, n45, n46, n47, n48, n49, n50, n51] ∧ Mea_less [n, n1, n2, n3, n4, n5, n6, n7, n8, n9, n10, n11, n12, n13, n14, n15, n16, n17, n18, n19, n20, n21, n22, n23] [n39, n40, n41, n42, n43, n44, n45, n46, n47, n48, n49, n50, n51] < Mea_less [n, n1, n2, n3, n4, n5, n6, n7, n8, n9, n10, n11, n12, n13, n14, n15, n16, n17, n18, n19, n20, n21, n22, n23] [n24, n25, n26, n27, n28, n29, n30, n31, n32, n33, n34, n35, n36])))))))))))))))))))))))))))))))))))) ∧
   (¬ (n24 < 12) →
    ((0 ≤ n25) ∧
    (∀ n37 : Int, n37 = n25 → 0 ≤ n37 → n37 ≤ 65535 →
    ((0 ≤ n26) ∧
    (∀ n38 : Int, n38 = n26 → 0 ≤ n38 → n38 ≤ 65535 →
    ((0 ≤ n27) ∧
    (∀ n39 : Int, n39 = n27 → 0 ≤ n39 → n39 ≤ 65535 →
    ((0 ≤ n28) ∧
    (∀ n40 : Int, n40 = n28 → 0 ≤ n40 → n40 ≤ 65535 →
    ((0 ≤ n29) ∧
    (∀ n41 : Int, n41 = n29 → 0 ≤ n41 → n41 ≤ 65535 →
    ((0 ≤ n30) ∧
    (∀ n42 : Int, n42 = n30 → 0 ≤ n42 → n42 ≤ 65535 →
    ((0 ≤ n31) ∧
    (∀ n43 : Int, n43 = n31 → 0 ≤ n43 → n43 ≤ 65535 →
    ((0 ≤ n32) ∧
    (∀ n44 : Int, n44 = n32 → 0 ≤ n44 → n44 ≤ 65535 →
    ((0 ≤ n33) ∧
    (∀ n45 : Int, n45 = n33 → 0 ≤ n45 → n45 ≤ 65535 →
    ((0 ≤ n34) ∧
    (∀ n46 : Int, n46 = n34 → 0 ≤ n46 → n46 ≤ 65535 →
    ((0 ≤ n35) ∧
    (∀ n47 : Int, n47 = n35 → 0 ≤ n47 → n47 ≤ 65535 →
    ((0 ≤ n36) ∧
    (∀ n48 : Int, n48 = n36 → 0 ≤ n48 → n48 ≤ 65535 →
    Post_less [[n, n1, n2, n3, n4, n5, n6, n7, n8, n9, n10, n11], [n12, n13, n14, n15, n16, n17, n18, n19, n20, n21, n22, n23]] [[n37, n38, n39, n40, n41, n42, n43, n44, n45, n46, n47, n48]]))))))))))))))))))))))))))))))))))))))))))))))))))))))))))))))))))))))
theorem c_less : canCall Tryd.prog 70 = true := by kernel_rfl
theorem s_less : P_less = sat E (symTop Tryd.prog tab4 2000 70 ash_less sh_less) := by kernel_rfl
theorem pure_less (hV : Valid Tryd.prog tab4 E) (h : P_less) (args : List Value) (ha : shaFits ash_less args) (hp : E.pre 70 (args.map vints)) : Pure Tryd.prog 70 args.toArray fun v => sh_less.fits v ∧ E.post 70 (args.map vints) (vres v) := @top_sat Tryd.prog tab4 E hV 2000 70 ash_less sh_less (@Eq.mp _ _ s_less h) args ha hp
theorem step_less (hV : Valid Tryd.prog tab4 E) (h : P_less) : Valid Tryd.prog tab5 E := hV.add c_less (pure_less hV h)

/-- gouache/gouacheref01.Product -/
def P_product : Prop :=
  (∀ t : Bool, (∀ n : Int, 0 ≤ n → n ≤ 65535 →
  (∀ n1 : Int, 0 ≤ n1 → n1 ≤ 65535 →
  (∀ n2 : Int, 0 ≤ n2 → n2 ≤ 65535 →
  (∀ n3 : Int, 0 ≤ n3 → n3 ≤ 65535 →
  (∀ n4 : Int, 0 ≤ n4 → n4 ≤ 65535 →
  (∀ n5 : Int, 0 ≤ n5 → n5 ≤ 65535 →
  (∀ n6 : Int, 0 ≤ n6 → n6 ≤ 65535 →
  (∀ n7 : Int, 0 ≤ n7 → n7 ≤ 65535 →
  (∀ n8 : Int, 0 ≤ n8 → n8 ≤ 65535 →
  (∀ n9 : Int, 0 ≤ n9 → n9 ≤ 65535 →
  (∀ n10 : Int, 0 ≤ n10 → n10 ≤ 65535 →
  (∀ n11 : Int, 0 ≤ n11 → n11 ≤ 65535 →
  (∀ t1 : Bool, (∀ n12 : Int, 0 ≤ n12 → n12 ≤ 65535 →
  (∀ n13 : Int, 0 ≤ n13 → n13 ≤ 65535 →
  (∀ n14 : Int, 0 ≤ n14 → n14 ≤ 65535 →
  (∀ n15 : Int, 0 ≤ n15 → n15 ≤ 65535 →
  (∀ n16 : Int, 0 ≤ n16 → n16 ≤ 65535 →
  (∀ n17 : Int, 0 ≤ n17 → n17 ≤ 65535 →
  (∀ n18 : Int, 0 ≤ n18 → n18 ≤ 65535 →
  (∀ n19 : Int, 0 ≤ n19 → n19 ≤ 65535 →
  (∀ n20 : Int, 0 ≤ n20 → n20 ≤ 65535 →
  (∀ n21 : Int, 0 ≤ n21 → n21 ≤ 65535 →
  (∀ n22 : Int, 0 ≤ n22 → n22 ≤ 65535 →
  (∀ n23 : Int, 0 ≤ n23 → n23 ≤ 65535 →
  (Pre_product [[b2i t, n, n1, n2, n3, n4, n5, n6, n7, n8, n9, n10, n11], [b2i t1, n12, n13, n14, n15, n16, n17, n18, n19, n20, n21, n22, n23]] →
  (∀ b : Nat, (∀ b1 : Nat, (∀ b2 : Nat, (∀ b3 : Nat, (Inv_prodo [b2i t, n, n1, n2, n3, n4, n5, n6, n7, n8, n9, n10, n11, b2i t1, n12, n13, n14, n15, n16, n17, n18, n19, n20, n21, n22, n23] [0, 0, 0, 0, 0, 0, 0, 0, 0, 0, 0, 0, 0] ∧
  (∀ n24 : Int, 0 ≤ n24 → n24 ≤ 12 →
  (∀ n25 : Int, 0 ≤ n25 → n25 ≤ 65535 →
  (∀ n26 : Int, 0 ≤ n26 → n26 ≤ 65535 →
  (∀ n27 : Int, 0 ≤ n27 → n27 ≤ 65535 →
  (∀ n28 : Int, 0 ≤ n28 → n28 ≤ 65535 →
  (∀ n29 : Int, 0 ≤ n29 → n29 ≤ 65535 →
  (∀ n30 : Int, 0 ≤ n30 → n30 ≤ 65535 →
  (∀ n31 : Int, 0 ≤ n31 → n31 ≤ 65535 →
  (∀ n32 : Int, 0 ≤ n32 → n32 ≤ 65535 →
  (∀ n33 : Int, 0 ≤ n33 → n33 ≤ 65535 →
  (∀ n34 : Int, 0 ≤ n34 → n34 ≤ 65535 →
  (∀ n35 : Int, 0 ≤ n35 → n35 ≤ 65535 →
  (∀ n36 : Int, 0 ≤ n36 → n36 ≤ 65535 →
  (Inv_prodo [b2i t, n, n1, n2, n3, n4, n5, n6, n7, n8, n9, n10, n11, b2i t1, n12, n13, n14, n15, n16, n17, n18, n19, n20, n21, n22, n23] [n24, n25, n26, n27, n28, n29, n30, n31, n32, n33, n34, n35, n36] →
  (∀ vs : List Value, vs.length = 41 →
  (((n24 < 12) →
    (Inv_prodi [n24, b2i t, n, n1, n2, n3, n4, n5, n6, n7, n8, n9, n10, n11, b2i t1, n12, n13, n14, n15, n16, n17, n18, n19, n20, n21, n22, n23] [0, 0, n25, n26, n27, n28, n29, n30, n31, n32, n33, n34, n35, n36] ∧
    (∀ n37 : Int, 0 ≤ n37 → n37 ≤ 65535 →
    (∀ n38 : Int, 0 ≤ n38 → n38 ≤ 12 →
    (∀ n39 : Int, 0 ≤ n39 → n39 ≤ 65535 →
    (∀ n40 : Int, 0 ≤ n40 → n40 ≤ 65535 →
    (∀ n41 : Int, 0 ≤ n41 → n41 ≤ 65535 →
    (∀ n42 : Int, 0 ≤ n42 → n42 ≤ 65535 →
    (∀ n43 : Int, 0 ≤ n43 → n43 ≤ 65535 →
    (∀ n44 : Int, 0 ≤ n44 → n44 ≤ 65535 →
    (∀ n45 : Int, 0 ≤ n45 → n45 ≤ 65535 →
    (∀ n46 : Int, 0 ≤ n46 → n46 ≤ 65535 →
    (∀ n47 : Int, 0 ≤ n47 → n47 ≤ 65535 →
    (∀ n48 : Int, 0 ≤ n48 → n48 ≤ 65535 →
    (∀ n49 : Int, 0 ≤ n49 → n49 ≤ 65535 →
    (∀ n50 : Int, 0 ≤ n50 → n50 ≤ 65535 →
    (Inv_prodi [n24, b2i t, n, n1, n2, n3, n4, n5, n6, n7, n8, n9, n10, n11, b2i t1, n12, n13, n14, n15, n16, n17, n18, n19, n20, n21, n22, n23] [n37, n38, n39, n40, n41, n42, n43, n44, n45, n46, n47, n48, n49, n50] →
    (∀ vs1 : List Value, vs1.length = 34 →
    ((((n24 + n38) < 12) →
      (((n24 + n38) < 12) ∧
      ((n24 < 12) ∧
      ((n38 < 12) ∧
      (∀ n51 : Int, n51 = ((n37 + (if (n24 + n38) = 0 then n39 else (if (n24 + n38) = 1 then n40 else (if (n24 + n38) = 2 then n41 else (if (n24 + n38) = 3 then n42 else (if (n24 + n38) = 4 then n43 else (if (n24 + n38) = 5 then n44 else (if (n24 + n38) = 6 then n45 else (if (n24 + n38) = 7 then n46 else (if (n24 + n38) = 8 then n47 else (if (n24 + n38) = 9 then n48 else (if (n24 + n38) = 10 then n49 else n50)))))))))))) + ((if n24 = 0 then n else (if n24 = 1 then n1 else (if n24 = 2 then n2 else (if n24 = 3 then n3 else (if n24 = 4 then n4 else (if n24 = 5 then n5 else (if n24 = 6 then n6 else (if n24 = 7 then n7 else (if n24 = 8 then n8 else (if n24 = 9 then n9 else (if n24 = 10 then n10 else n11))))))))))) * (if n38 = 0 then n12 else (if n38 = 1 then n13 else (if n38 = 2 then n14 else (if n38 = 3 then n15 else (if n38 = 4 then n16 else (if n38 = 5 then n17 else (if n38 = 6 then n18 else (if n38 = 7 then n19 else (if n38 = 8 then n20 else (if n38 = 9 then n21 else (if n38 = 10 then n22 else n23))))))))))))) → 0 ≤ n51 → n51 ≤ 4294967295 →
      (((n24 + n38) < 12) ∧
      (∀ n52 : Int, n52 = (n51 % 65536) → 0 ≤ n52 → n52 ≤ 65535 →
      (∀ n53 : Int, n53 = (n51 / 65536) → 0 ≤ n53 → n53 ≤ 65535 →
      (∀ n54 : Int, n54 = (n38 + 1) → 1 ≤ n54 → n54 ≤ 13 →
      ((n54 ≤ 12) ∧
      (∀ n55 : Int, n55 = n54 → 0 ≤ n55 → n55 ≤ 12 →
      (Inv_prodi [n24, b2i t, n, n1, n2, n3, n4, n5, n6, n7, n8, n9, n10, n11, b2i t1, n12, n13, n14, n15, n16, n17, n18, n19, n20, n21, n22, n23] [n53, n55, (if (n24 + n38) = 0 then n52 else n39), (if (n24 + n38) = 1 then n52 else n40), (if (n24 + n38) = 2 then n52 else n41), (if (n24 + n38) = 3 then n52 else n42), (if (n24 + n38) = 4 then n52 else n43), (if (n24 + n38) = 5 then n52 else n44), (if (n24 + n38) = 6 then n52 else n45), (if (n24 + n38) = 7 then n52 else n46), (if (n24 + n38) = 8 then n52 else n47), (if (n24 + n38) = 9 then n52 else n48), (if (n24 + n38) = 10 then n52 else n49), (if (n24 + n38) = 11 then n52 else n50)] ∧ Mea_prodi [n24, b2i t, n, n1, n2, n3, n4, n5, n6, n7, n8, n9, n10, n11, b2i t1, n12, n13, n14, n15, n16, n17, n18, n19, n20, n21, n22, n23] [n53, n55, (if (n24 + n38) = 0 then n52 else n39), (if (n24 + n38) = 1 then n52 else n40), (if (n24 + n38) = 2 then n52 else n41), (if (n24 + n38) = 3 then n52 else n42), (if (n24 + n38) = 4 then n52 else n43), (if (n24 + n38) = 5 then n52 else n44), (if (n24 + n38) = 6 then n52 else n45), (if (n24 + n38) = 7 then n52 else n46), (if (n24 + n38) = 8 then n52 else n47), (if (n24 + n38) = 9 then n52 else n48), (if (n24 + n38) = 10 then n52 else n49), (if (n24 + n38) = 11 then n52 else n50)] < Mea_prodi [n24, b2i t, n, n1, n2, n3, n4, n5, n6, n7, n8, n9, n10, n11, b2i t1, n12, n13, n14, n15, n16, n17, n18, n19, n20, n21, n22, n23] [n37, n38, n39, n40, n41, n42, n43, n44, n45, n46, n47, n48, n49, n50])))))))))))) ∧
     (¬ ((n24 + n38) < 12) →
      (∀ n51 : Int, n51 = (n24 + 1) → 1 ≤ n51 → n51 ≤ 13 →
      ((n51 ≤ 12) ∧
      (∀ n52 : Int, n52 = n51 → 0 ≤ n52 → n52 ≤ 12 →
      (Inv_prodo [b2i t, n, n1, n2, n3, n4, n5, n6, n7, n8, n9, n10, n11, b2i t1, n12, n13, n14, n15, n16, n17, n18, n19, n20, n21, n22, n23] [n52, n39, n40, n41, n42, n43, n44, n45, n46, n47, n48, n49, n50] ∧ Mea_prodo [b2i t, n, n1, n2, n3, n4, n5, n6, n7, n8, n9, n10, n11, b2i t1, n12, n13, n14, n15, n16, n17, n18, n19, n20, n21, n22, n23] [n52, n39, n40, n41, n42, n43, n44, n45, n46, n47, n48, n49, n50] < Mea_prodo [b2i t, n, n1, n2, n3, n4, n5, n6, n7, n8, n9, n10, n11, b2i t1, n12, n13, n14, n15, n16, n17, n18, n19, n20, n21, n22, n23] [n24, n25, n26, n27, n28, n29, n30, n31, n32, n33, n34, n35, n36])))))))))))))))))))))))) ∧
   (¬ (n24 < 12) →
    Post_product [[b2i t, n, n1, n2, n3, n4, n5, n6, n7, n8, n9, n10, n11], [b2i t1, n12, n13, n14, n15, n16, n17, n18, n19, n20, n21, n22, n23]] [[b2i (!(t == t1)), n25, n26, n27, n28, n29, n30, n31, n32, n33, n34, n35, n36]])))))))))))))))))))))))))))))))))))))))))))))))))
theorem c_product : canCall Tryd.prog 57 = true := by kernel_rfl
theorem s_product : P_product = sat E (symTop Tryd.prog tab5 2000 57 ash_product sh_product) := by kernel_rfl
theorem pure_product (hV : Valid Tryd.prog tab5 E) (h : P_product) (args : List Value) (ha : shaFits ash_product args) (hp : E.pre 57 (args.map vints)) : Pure Tryd.prog 57 args.toArray fun v => sh_product.fits v ∧ E.post 57 (args.map vints) (vres v) := @top_sat Tryd.prog tab5 E hV 2000 57 ash_product sh_product (@Eq.mp _ _ s_product h) args ha hp
theorem step_product (hV : Valid Tryd.prog tab5 E) (h : P_product) : Valid Tryd.prog tab6 E := hV.add c_product (pure_product hV h)

/-- gouache/gouacheref01.Read -/
def P_read : Prop :=
  (∀ n : Int, (-9223372036854775808) ≤ n → n ≤ 9223372036854775807 →
  (∀ n1 : Int, 0 ≤ n1 → n1 ≤ 18446744073709551615 →
  (Pre_read [[n, n1]] →
  (∀ b : Nat, (∀ b1 : Nat, (∀ b2 : Nat, (∀ n2 : Int, n2 = (n1 % 65536) → 0 ≤ n2 → n2 ≤ 65535 →
  (∀ n3 : Int, n3 = ((IntKind.wrap .u64 n) % 65536) → 0 ≤ n3 → n3 ≤ 65535 →
  (∀ n4 : Int, n4 = ((n1 / 65536) % 65536) → 0 ≤ n4 → n4 ≤ 65535 →
  (∀ n5 : Int, n5 = (((IntKind.wrap .u64 n) / 65536) % 65536) → 0 ≤ n5 → n5 ≤ 65535 →
  (∀ n6 : Int, n6 = ((n1 / 4294967296) % 65536) → 0 ≤ n6 → n6 ≤ 65535 →
  (∀ n7 : Int, n7 = (((IntKind.wrap .u64 n) / 4294967296) % 65536) → 0 ≤ n7 → n7 ≤ 65535 →
  (∀ n8 : Int, n8 = (n1 / 281474976710656) → 0 ≤ n8 → n8 ≤ 65535 →
  (∀ n9 : Int, n9 = ((IntKind.wrap .u64 n) / 281474976710656) → 0 ≤ n9 → n9 ≤ 65535 →
  (((n < 0) →
    (Pre_less [[0, 0, 0, 0, 0, 0, 0, 0, 1, 0, 0, 0], [n2, n4, n6, n8, n3, n5, n7, n9, 0, 0, 0, 0]] ∧
    (∀ n10 : Int, 0 ≤ n10 → n10 ≤ 65535 →
    (∀ n11 : Int, 0 ≤ n11 → n11 ≤ 65535 →
    (∀ n12 : Int, 0 ≤ n12 → n12 ≤ 65535 →
    (∀ n13 : Int, 0 ≤ n13 → n13 ≤ 65535 →
    (∀ n14 : Int, 0 ≤ n14 → n14 ≤ 65535 →
    (∀ n15 : Int, 0 ≤ n15 → n15 ≤ 65535 →
    (∀ n16 : Int, 0 ≤ n16 → n16 ≤ 65535 →
    (∀ n17 : Int, 0 ≤ n17 → n17 ≤ 65535 →
    (∀ n18 : Int, 0 ≤ n18 → n18 ≤ 65535 →
    (∀ n19 : Int, 0 ≤ n19 → n19 ≤ 65535 →
    (∀ n20 : Int, 0 ≤ n20 → n20 ≤ 65535 →
    (∀ n21 : Int, 0 ≤ n21 → n21 ≤ 65535 →
    (Post_less [[0, 0, 0, 0, 0, 0, 0, 0, 1, 0, 0, 0], [n2, n4, n6, n8, n3, n5, n7, n9, 0, 0, 0, 0]] [[n10, n11, n12, n13, n14, n15, n16, n17, n18, n19, n20, n21]] →
    Post_read [[n, n1]] [[b2i true, n10, n11, n12, n13, n14, n15, n16, n17, n18, n19, n20, n21]]))))))))))))))) ∧
   (¬ (n < 0) →
    Post_read [[n, n1]] [[b2i false, n2, n4, n6, n8, n3, n5, n7, n9, 0, 0, 0, 0]]))))))))))))))))
theorem c_read : canCall Tryd.prog 49 = true := by kernel_rfl
theorem s_read : P_read = sat E (symTop Tryd.prog tab6 2000 49 ash_read sh_read) := by kernel_rfl
theorem pure_read (hV : Valid Tryd.prog tab6 E) (h : P_read) (args : List Value) (ha : shaFits ash_read args) (hp : E.pre 49 (args.map vints)) : Pure Tryd.prog 49 args.toArray fun v => sh_read.fits v ∧ E.post 49 (args.map vints) (vres v) := @top_sat Tryd.prog tab6 E hV 2000 49 ash_read sh_read (@Eq.mp _ _ s_read h) args ha hp
theorem step_read (hV : Valid Tryd.prog tab6 E) (h : P_read) : Valid Tryd.prog tab7 E := hV.add c_read (pure_read hV h)

/-- gouache/gouacheref01.Minus -/
def P_minus : Prop :=
  (∀ t : Bool, (∀ n : Int, 0 ≤ n → n ≤ 65535 →
  (∀ n1 : Int, 0 ≤ n1 → n1 ≤ 65535 →
  (∀ n2 : Int, 0 ≤ n2 → n2 ≤ 65535 →
  (∀ n3 : Int, 0 ≤ n3 → n3 ≤ 65535 →
  (∀ n4 : Int, 0 ≤ n4 → n4 ≤ 65535 →
  (∀ n5 : Int, 0 ≤ n5 → n5 ≤ 65535 →
  (∀ n6 : Int, 0 ≤ n6 → n6 ≤ 65535 →
  (∀ n7 : Int, 0 ≤ n7 → n7 ≤ 65535 →
  (∀ n8 : Int, 0 ≤ n8 → n8 ≤ 65535 →
  (∀ n9 : Int, 0 ≤ n9 → n9 ≤ 65535 →
  (∀ n10 : Int, 0 ≤ n10 → n10 ≤ 65535 →
  (∀ n11 : Int, 0 ≤ n11 → n11 ≤ 65535 →
  (Pre_minus [[b2i t, n, n1, n2, n3, n4, n5, n6, n7, n8, n9, n10, n11]] →
  (∀ b : Nat, (∀ b1 : Nat, Post_minus [[b2i t, n, n1, n2, n3, n4, n5, n6, n7, n8, n9, n10, n11]] [[b2i (!t), n, n1, n2, n3, n4, n5, n6, n7, n8, n9, n10, n11]]))))))))))))))))
theorem c_minus : canCall Tryd.prog 36 = true := by kernel_rfl
theorem s_minus : P_minus = sat E (symTop Tryd.prog tab7 2000 36 ash_minus sh_minus) := by kernel_rfl
theorem pure_minus (hV : Valid Tryd.prog tab7 E) (h : P_minus) (args : List Value) (ha : shaFits ash_minus args) (hp : E.pre 36 (args.map vints)) : Pure Tryd.prog 36 args.toArray fun v => sh_minus.fits v ∧ E.post 36 (args.map vints) (vres v) := @top_sat Tryd.prog tab7 E hV 2000 36 ash_minus sh_minus (@Eq.mp _ _ s_minus h) args ha hp
theorem step_minus (hV : Valid Tryd.prog tab7 E) (h : P_minus) : Valid Tryd.prog tab8 E := hV.add c_minus (pure_minus hV h)

/-- gouache/gouacheref01.Sum -/
def P_sum : Prop :=
  (∀ t : Bool, (∀ n : Int, 0 ≤ n → n ≤ 65535 →
  (∀ n1 : Int, 0 ≤ n1 → n1 ≤ 65535 →
  (∀ n2 : Int, 0 ≤ n2 → n2 ≤ 65535 →
  (∀ n3 : Int, 0 ≤ n3 → n3 ≤ 65535 →
  (∀ n4 : Int, 0 ≤ n4 → n4 ≤ 65535 →
  (∀ n5 : Int, 0 ≤ n5 → n5 ≤ 65535 →
  (∀ n6 : Int, 0 ≤ n6 → n6 ≤ 65535 →
  (∀ n7 : Int, 0 ≤ n7 → n7 ≤ 65535 →
  (∀ n8 : Int, 0 ≤ n8 → n8 ≤ 65535 →
  (∀ n9 : Int, 0 ≤ n9 → n9 ≤ 65535 →
  (∀ n10 : Int, 0 ≤ n10 → n10 ≤ 65535 →
  (∀ n11 : Int, 0 ≤ n11 → n11 ≤ 65535 →
  (∀ t1 : Bool, (∀ n12 : Int, 0 ≤ n12 → n12 ≤ 65535 →
  (∀ n13 : Int, 0 ≤ n13 → n13 ≤ 65535 →
  (∀ n14 : Int, 0 ≤ n14 → n14 ≤ 65535 →
  (∀ n15 : Int, 0 ≤ n15 → n15 ≤ 65535 →
  (∀ n16 : Int, 0 ≤ n16 → n16 ≤ 65535 →
  (∀ n17 : Int, 0 ≤ n17 → n17 ≤ 65535 →
  (∀ n18 : Int, 0 ≤ n18 → n18 ≤ 65535 →
  (∀ n19 : Int, 0 ≤ n19 → n19 ≤ 65535 →
  (∀ n20 : Int, 0 ≤ n20 → n20 ≤ 65535 →
  (∀ n21 : Int, 0 ≤ n21 → n21 ≤ 65535 →
  (∀ n22 : Int, 0 ≤ n22 → n22 ≤ 65535 →
  (∀ n23 : Int, 0 ≤ n23 → n23 ≤ 65535 →
  (Pre_sum [[b2i t, n, n1, n2, n3, n4, n5, n6, n7, n8, n9, n10, n11], [b2i t1, n12, n13, n14, n15, n16, n17, n18, n19, n20, n21, n22, n23]] →
  (∀ b : Nat, (∀ b1 : Nat, (∀ b2 : Nat, ((((t = true) ↔ (t1 = true)) →
    (Pre_plus [[n, n1, n2, n3, n4, n5, n6, n7, n8, n9, n10, n11], [n12, n13, n14, n15, n16, n17, n18, n19, n20, n21, n22, n23]] ∧
    (∀ n24 : Int, 0 ≤ n24 → n24 ≤ 65535 →
    (∀ n25 : Int, 0 ≤ n25 → n25 ≤ 65535 →
    (∀ n26 : Int, 0 ≤ n26 → n26 ≤ 65535 →
    (∀ n27 : Int, 0 ≤ n27 → n27 ≤ 65535 →
    (∀ n28 : Int, 0 ≤ n28 → n28 ≤ 65535 →
    (∀ n29 : Int, 0 ≤ n29 → n29 ≤ 65535 →
    (∀ n30 : Int, 0 ≤ n30 → n30 ≤ 65535 →
    (∀ n31 : Int, 0 ≤ n31 → n31 ≤ 65535 →
    (∀ n32 : Int, 0 ≤ n32 → n32 ≤ 65535 →
    (∀ n33 : Int, 0 ≤ n33 → n33 ≤ 65535 →
    (∀ n34 : Int, 0 ≤ n34 → n34 ≤ 65535 →
    (∀ n35 : Int, 0 ≤ n35 → n35 ≤ 65535 →
    (Post_plus [[n, n1, n2, n3, n4, n5, n6, n7, n8, n9, n10, n11], [n12, n13, n14, n15, n16, n17, n18, n19, n20, n21, n22, n23]] [[n24, n25, n26, n27, n28, n29, n30, n31, n32, n33, n34, n35]] →
    Post_sum [[b2i t, n, n1, n2, n3, n4, n5, n6, n7, n8, n9, n10, n11], [b2i t1, n12, n13, n14, n15, n16, n17, n18, n19, n20, n21, n22, n23]] [[b2i t, n24, n25, n26, n27, n28, n29, n30, n31, n32, n33, n34, n35]]))))))))))))))) ∧
   (¬ ((t = true) ↔ (t1 = true)) →
    (Pre_compare [[n, n1, n2, n3, n4, n5, n6, n7, n8, n9, n10, n11], [n12, n13, n14, n15, n16, n17, n18, n19, n20, n21, n22, n23]] ∧
    (∀ n24 : Int, (-1) ≤ n24 → n24 ≤ 1 →
    (Post_compare [[n, n1, n2, n3, n4, n5, n6, n7, n8, n9, n10, n11], [n12, n13, n14, n15, n16, n17, n18, n19, n20, n21, n22, n23]] [[n24]] →
    (((n24 < 0) →
      (Pre_less [[n12, n13, n14, n15, n16, n17, n18, n19, n20, n21, n22, n23], [n, n1, n2, n3, n4, n5, n6, n7, n8, n9, n10, n11]] ∧
      (∀ n25 : Int, 0 ≤ n25 → n25 ≤ 65535 →
      (∀ n26 : Int, 0 ≤ n26 → n26 ≤ 65535 →
      (∀ n27 : Int, 0 ≤ n27 → n27 ≤ 65535 →
      (∀ n28 : Int, 0 ≤ n28 → n28 ≤ 65535 →
      (∀ n29 : Int, 0 ≤ n29 → n29 ≤ 65535 →
      (∀ n30 : Int, 0 ≤ n30 → n30 ≤ 65535 →
      (∀ n31 : Int, 0 ≤ n31 → n31 ≤ 65535 →
      (∀ n32 : Int, 0 ≤ n32 → n32 ≤ 65535 →
      (∀ n33 : Int, 0 ≤ n33 → n33 ≤ 65535 →
      (∀ n34 : Int, 0 ≤ n34 → n34 ≤ 65535 →
      (∀ n35 : Int, 0 ≤ n35 → n35 ≤ 65535 →
      (∀ n36 : Int, 0 ≤ n36 → n36 ≤ 65535 →
      (Post_less [[n12, n13, n14, n15, n16, n17, n18, n19, n20, n21, n22, n23], [n, n1, n2, n3, n4, n5, n6, n7, n8, n9, n10, n11]] [[n25, n26, n27, n28, n29, n30, n31, n32, n33, n34, n35, n36]] →
      Post_sum [[b2i t, n, n1, n2, n3, n4, n5, n6, n7, n8, n9, n10, n11], [b2i t1, n12, n13, n14, n15, n16, n17, n18, n19, n20, n21, n22, n23]] [[b2i t1, n25, n26, n27, n28, n29, n30, n31, n32, n33, n34, n35, n36]]))))))))))))))) ∧
     (¬ (n24 < 0) →
      (Pre_less [[n, n1, n2, n3, n4, n5, n6, n7, n8, n9, n10, n11], [n12, n13, n14, n15, n16, n17, n18, n19, n20, n21, n22, n23]] ∧
      (∀ n25 : Int, 0 ≤ n25 → n25 ≤ 65535 →
      (∀ n26 : Int, 0 ≤ n26 → n26 ≤ 65535 →
      (∀ n27 : Int, 0 ≤ n27 → n27 ≤ 65535 →
      (∀ n28 : Int, 0 ≤ n28 → n28 ≤ 65535 →
      (∀ n29 : Int, 0 ≤ n29 → n29 ≤ 65535 →
      (∀ n30 : Int, 0 ≤ n30 → n30 ≤ 65535 →
      (∀ n31 : Int, 0 ≤ n31 → n31 ≤ 65535 →
      (∀ n32 : Int, 0 ≤ n32 → n32 ≤ 65535 →
      (∀ n33 : Int, 0 ≤ n33 → n33 ≤ 65535 →
      (∀ n34 : Int, 0 ≤ n34 → n34 ≤ 65535 →
      (∀ n35 : Int, 0 ≤ n35 → n35 ≤ 65535 →
      (∀ n36 : Int, 0 ≤ n36 → n36 ≤ 65535 →
      (Post_less [[n, n1, n2, n3, n4, n5, n6, n7, n8, n9, n10, n11], [n12, n13, n14, n15, n16, n17, n18, n19, n20, n21, n22, n23]] [[n25, n26, n27, n28, n29, n30, n31, n32, n33, n34, n35, n36]] →
      Post_sum [[b2i t, n, n1, n2, n3, n4, n5, n6, n7, n8, n9, n10, n11], [b2i t1, n12, n13, n14, n15, n16, n17, n18, n19, n20, n21, n22, n23]] [[b2i t, n25, n26, n27, n28, n29, n30, n31, n32, n33, n34, n35, n36]])))))))))))))))))))))))))))))))))))))))))))))))))))
theorem c_sum : canCall Tryd.prog 59 = true := by kernel_rfl
theorem s_sum : P_sum = sat E (symTop Tryd.prog tab8 2000 59 ash_sum sh_sum) := by kernel_rfl
theorem pure_sum (hV : Valid Tryd.prog tab8 E) (h : P_sum) (args : List Value) (ha : shaFits ash_sum args) (hp : E.pre 59 (args.map vints)) : Pure Tryd.prog 59 args.toArray fun v => sh_sum.fits v ∧ E.post 59 (args.map vints) (vres v) := @top_sat Tryd.prog tab8 E hV 2000 59 ash_sum sh_sum (@Eq.mp _ _ s_sum h) args ha hp
theorem step_sum (hV : Valid Tryd.prog tab8 E) (h : P_sum) : Valid Tryd.prog tab9 E := hV.add c_sum (pure_sum hV h)

/-- gouache/gouacheref01.Above -/
def P_above : Prop :=
  (∀ t : Bool, (∀ n : Int, 0 ≤ n → n ≤ 65535 →
  (∀ n1 : Int, 0 ≤ n1 → n1 ≤ 65535 →
  (∀ n2 : Int, 0 ≤ n2 → n2 ≤ 65535 →
  (∀ n3 : Int, 0 ≤ n3 → n3 ≤ 65535 →
  (∀ n4 : Int, 0 ≤ n4 → n4 ≤ 65535 →
  (∀ n5 : Int, 0 ≤ n5 → n5 ≤ 65535 →
  (∀ n6 : Int, 0 ≤ n6 → n6 ≤ 65535 →
  (∀ n7 : Int, 0 ≤ n7 → n7 ≤ 65535 →
  (∀ n8 : Int, 0 ≤ n8 → n8 ≤ 65535 →
  (∀ n9 : Int, 0 ≤ n9 → n9 ≤ 65535 →
  (∀ n10 : Int, 0 ≤ n10 → n10 ≤ 65535 →
  (∀ n11 : Int, 0 ≤ n11 → n11 ≤ 65535 →
  (∀ t1 : Bool, (∀ n12 : Int, 0 ≤ n12 → n12 ≤ 65535 →
  (∀ n13 : Int, 0 ≤ n13 → n13 ≤ 65535 →
  (∀ n14 : Int, 0 ≤ n14 → n14 ≤ 65535 →
  (∀ n15 : Int, 0 ≤ n15 → n15 ≤ 65535 →
  (∀ n16 : Int, 0 ≤ n16 → n16 ≤ 65535 →
  (∀ n17 : Int, 0 ≤ n17 → n17 ≤ 65535 →
  (∀ n18 : Int, 0 ≤ n18 → n18 ≤ 65535 →
  (∀ n19 : Int, 0 ≤ n19 → n19 ≤ 65535 →
  (∀ n20 : Int, 0 ≤ n20 → n20 ≤ 65535 →
  (∀ n21 : Int, 0 ≤ n21 → n21 ≤ 65535 →
  (∀ n22 : Int, 0 ≤ n22 → n22 ≤ 65535 →
  (∀ n23 : Int, 0 ≤ n23 → n23 ≤ 65535 →
  (Pre_above [[b2i t, n, n1, n2, n3, n4, n5, n6, n7, n8, n9, n10, n11], [b2i t1, n12, n13, n14, n15, n16, n17, n18, n19, n20, n21, n22, n23]] →
  (∀ b : Nat, (∀ b1 : Nat, (Pre_minus [[b2i t1, n12, n13, n14, n15, n16, n17, n18, n19, n20, n21, n22, n23]] ∧
  (∀ t2 : Bool, (∀ n24 : Int, 0 ≤ n24 → n24 ≤ 65535 →
  (∀ n25 : Int, 0 ≤ n25 → n25 ≤ 65535 →
  (∀ n26 : Int, 0 ≤ n26 → n26 ≤ 65535 →
  (∀ n27 : Int, 0 ≤ n27 → n27 ≤ 65535 →
  (∀ n28 : Int, 0 ≤ n28 → n28 ≤ 65535 →
  (∀ n29 : Int, 0 ≤ n29 → n29 ≤ 65535 →
  (∀ n30 : Int, 0 ≤ n30 → n30 ≤ 65535 →
  (∀ n31 : Int, 0 ≤ n31 → n31 ≤ 65535 →
  (∀ n32 : Int, 0 ≤ n32 → n32 ≤ 65535 →
  (∀ n33 : Int, 0 ≤ n33 → n33 ≤ 65535 →
  (∀ n34 : Int, 0 ≤ n34 → n34 ≤ 65535 →
  (∀ n35 : Int, 0 ≤ n35 → n35 ≤ 65535 →
  (Post_minus [[b2i t1, n12, n13, n14, n15, n16, n17, n18, n19, n20, n21, n22, n23]] [[b2i t2, n24, n25, n26, n27, n28, n29, n30, n31, n32, n33, n34, n35]] →
  (Pre_sum [[b2i t, n, n1, n2, n3, n4, n5, n6, n7, n8, n9, n10, n11], [b2i t2, n24, n25, n26, n27, n28, n29, n30, n31, n32, n33, n34, n35]] ∧
  (∀ t3 : Bool, (∀ n36 : Int, 0 ≤ n36 → n36 ≤ 65535 →
  (∀ n37 : Int, 0 ≤ n37 → n37 ≤ 65535 →
  (∀ n38 : Int, 0 ≤ n38 → n38 ≤ 65535 →
  (∀ n39 : Int, 0 ≤ n39 → n39 ≤ 65535 →
  (∀ n40 : Int, 0 ≤ n40 → n40 ≤ 65535 →
  (∀ n41 : Int, 0 ≤ n41 → n41 ≤ 65535 →
  (∀ n42 : Int, 0 ≤ n42 → n42 ≤ 65535 →
  (∀ n43 : Int, 0 ≤ n43 → n43 ≤ 65535 →
  (∀ n44 : Int, 0 ≤ n44 → n44 ≤ 65535 →
  (∀ n45 : Int, 0 ≤ n45 → n45 ≤ 65535 →
  (∀ n46 : Int, 0 ≤ n46 → n46 ≤ 65535 →
  (∀ n47 : Int, 0 ≤ n47 → n47 ≤ 65535 →
  (Post_sum [[b2i t, n, n1, n2, n3, n4, n5, n6, n7, n8, n9, n10, n11], [b2i t2, n24, n25, n26, n27, n28, n29, n30, n31, n32, n33, n34, n35]] [[b2i t3, n36, n37, n38, n39, n40, n41, n42, n43, n44, n45, n46, n47]] →
  (∀ b2 : Nat, (((¬ (t3 = true)) →
    (∀ b3 : Nat, Post_above [[b2i t, n, n1, n2, n3, n4, n5, n6, n7, n8, n9, n10, n11], [b2i t1, n12, n13, n14, n15, n16, n17, n18, n19, n20, n21, n22, n23]] [[b2i (!((n36 == 0) && ((n37 == 0) && ((n38 == 0) && ((n39 == 0) && ((n40 == 0) && ((n41 == 0) && ((n42 == 0) && ((n43 == 0) && ((n44 == 0) && ((n45 == 0) && ((n46 == 0) && (n47 == 0)))))))))))))]])) ∧
   (¬ (¬ (t3 = true)) →
    Post_above [[b2i t, n, n1, n2, n3, n4, n5, n6, n7, n8, n9, n10, n11], [b2i t1, n12, n13, n14, n15, n16, n17, n18, n19, n20, n21, n22, n23]] [[b2i false]]))))))))))))))))))))))))))))))))))))))))))))))))))))))))))))))
theorem c_above : canCall Tryd.prog 60 = true := by kernel_rfl
theorem s_above : P_above = sat E (symTop Tryd.prog tab9 2000 60 ash_above sh_above) := by kernel_rfl
theorem pure_above (hV : Valid Tryd.prog tab9 E) (h : P_above) (args : List Value) (ha : shaFits ash_above args) (hp : E.pre 60 (args.map vints)) : Pure Tryd.prog 60 args.toArray fun v => sh_above.fits v ∧ E.post 60 (args.map vints) (vres v) := @top_sat Tryd.prog tab9 E hV 2000 60 ash_above sh_above (@Eq.mp _ _ s_above h) args ha hp
theorem step_above (hV : Valid Tryd.prog tab9 E) (h : P_above) : Valid Tryd.prog tab10 E := hV.add c_above (pure_above hV h)

/-- cmp.Compare[int64] -/
def P_cmpi64 : Prop :=
  (∀ n : Int, (-9223372036854775808) ≤ n → n ≤ 9223372036854775807 →
  (∀ n1 : Int, (-9223372036854775808) ≤ n1 → n1 ≤ 9223372036854775807 →
  (Pre_cmpi64 [[n], [n1]] →
  (((¬ (n = n)) →
    (((¬ (n1 = n1)) →
      Post_cmpi64 [[n], [n1]] [[0]]) ∧
     (¬ (¬ (n1 = n1)) →
      Post_cmpi64 [[n], [n1]] [[(-1)]]))) ∧
   (¬ (¬ (n = n)) →
    (((¬ (n1 = n1)) →
      Post_cmpi64 [[n], [n1]] [[1]]) ∧
     (¬ (¬ (n1 = n1)) →
      (((n < n1) →
        Post_cmpi64 [[n], [n1]] [[(-1)]]) ∧
       (¬ (n < n1) →
        (((n1 < n) →
          Post_cmpi64 [[n], [n1]] [[1]]) ∧
         (¬ (n1 < n) →
          Post_cmpi64 [[n], [n1]] [[0]])))))))))))
theorem c_cmpi64 : canCall Tryd.prog 94 = true := by kernel_rfl
theorem s_cmpi64 : P_cmpi64 = sat E (symTop Tryd.prog tab10 2000 94 ash_cmpi64 sh_cmpi64) := by kernel_rfl
theorem pure_cmpi64 (hV : Valid Tryd.prog tab10 E) (h : P_cmpi64) (args : List Value) (ha : shaFits ash_cmpi64 args) (hp : E.pre 94 (args.map vints)) : Pure Tryd.prog 94 args.toArray fun v => sh_cmpi64.fits v ∧ E.post 94 (args.map vints) (vres v) := @top_sat Tryd.prog tab10 E hV 2000 94 ash_cmpi64 sh_cmpi64 (@Eq.mp _ _ s_cmpi64 h) args ha hp
theorem step_cmpi64 (hV : Valid Tryd.prog tab10 E) (h : P_cmpi64) : Valid Tryd.prog tab11 E := hV.add c_cmpi64 (pure_cmpi64 hV h)

/-- cmp.Compare[uint64] -/
def P_cmpu64 : Prop :=
  (∀ n : Int, 0 ≤ n → n ≤ 18446744073709551615 →
  (∀ n1 : Int, 0 ≤ n1 → n1 ≤ 18446744073709551615 →
  (Pre_cmpu64 [[n], [n1]] →
  (((¬ (n = n)) →
    (((¬ (n1 = n1)) →
      Post_cmpu64 [[n], [n1]] [[0]]) ∧
     (¬ (¬ (n1 = n1)) →
      Post_cmpu64 [[n], [n1]] [[(-1)]]))) ∧
   (¬ (¬ (n = n)) →
    (((¬ (n1 = n1)) →
      Post_cmpu64 [[n], [n1]] [[1]]) ∧
     (¬ (¬ (n1 = n1)) →
      (((n < n1) →
        Post_cmpu64 [[n], [n1]] [[(-1)]]) ∧
       (¬ (n < n1) →
        (((n1 < n) →
          Post_cmpu64 [[n], [n1]] [[1]]) ∧
         (¬ (n1 < n) →
          Post_cmpu64 [[n], [n1]] [[0]])))))))))))
theorem c_cmpu64 : canCall Tryd.prog 95 = true := by kernel_rfl
theorem s_cmpu64 : P_cmpu64 = sat E (symTop Tryd.prog tab11 2000 95 ash_cmpu64 sh_cmpu64) := by kernel_rfl
theorem pure_cmpu64 (hV : Valid Tryd.prog tab11 E) (h : P_cmpu64) (args : List Value) (ha : shaFits ash_cmpu64 args) (hp : E.pre 95 (args.map vints)) : Pure Tryd.prog 95 args.toArray fun v => sh_cmpu64.fits v ∧ E.post 95 (args.map vints) (vres v) := @top_sat Tryd.prog tab11 E hV 2000 95 ash_cmpu64 sh_cmpu64 (@Eq.mp _ _ s_cmpu64 h) args ha hp
theorem step_cmpu64 (hV : Valid Tryd.prog tab11 E) (h : P_cmpu64) : Valid Tryd.prog tab12 E := hV.add c_cmpu64 (pure_cmpu64 hV h)

/-- gouache/wides.Cmp -/
def P_wcmp : Prop :=
  (∀ n : Int, (-9223372036854775808) ≤ n → n ≤ 9223372036854775807 →
  (∀ n1 : Int, 0 ≤ n1 → n1 ≤ 18446744073709551615 →
  (∀ n2 : Int, (-9223372036854775808) ≤ n2 → n2 ≤ 9223372036854775807 →
  (∀ n3 : Int, 0 ≤ n3 → n3 ≤ 18446744073709551615 →
  (Pre_wcmp [[n, n1], [n2, n3]] →
  (∀ b : Nat, (∀ b1 : Nat, (Pre_cmpi64 [[n], [n2]] ∧
  (∀ n4 : Int, (-1) ≤ n4 → n4 ≤ 1 →
  (Post_cmpi64 [[n], [n2]] [[n4]] →
  (Pre_cmpu64 [[n1], [n3]] ∧
  (∀ n5 : Int, (-1) ≤ n5 → n5 ≤ 1 →
  (Post_cmpu64 [[n1], [n3]] [[n5]] →
  (∀ b2 : Nat, (((¬ (n4 = 0)) →
    Post_wcmp [[n, n1], [n2, n3]] [[n4]]) ∧
   (¬ (¬ (n4 = 0)) →
    (((¬ (n5 = 0)) →
      Post_wcmp [[n, n1], [n2, n3]] [[n5]]) ∧
     (¬ (¬ (n5 = 0)) →
      Post_wcmp [[n, n1], [n2, n3]] [[0]]))))))))))))))))))
theorem c_wcmp : canCall Tryd.prog 86 = true := by kernel_rfl
theorem s_wcmp : P_wcmp = sat E (symTop Tryd.prog tab12 2000 86 ash_wcmp sh_wcmp) := by kernel_rfl
theorem pure_wcmp (hV : Valid Tryd.prog tab12 E) (h : P_wcmp) (args : List Value) (ha : shaFits ash_wcmp args) (hp : E.pre 86 (args.map vints)) : Pure Tryd.prog 86 args.toArray fun v => sh_wcmp.fits v ∧ E.post 86 (args.map vints) (vres v) := @top_sat Tryd.prog tab12 E hV 2000 86 ash_wcmp sh_wcmp (@Eq.mp _ _ s_wcmp h) args ha hp
theorem step_wcmp (hV : Valid Tryd.prog tab12 E) (h : P_wcmp) : Valid Tryd.prog tab13 E := hV.add c_wcmp (pure_wcmp hV h)

/-- gouache/wides.Of -/
def P_wof : Prop :=
  (∀ n : Int, (-9223372036854775808) ≤ n → n ≤ 9223372036854775807 →
  (Pre_wof [[n]] →
  (∀ b : Nat, (∀ n1 : Int, n1 = (n / 9223372036854775808) → (-1) ≤ n1 → n1 ≤ 0 →
  (∀ n2 : Int, n2 = (IntKind.wrap .u64 n) → 0 ≤ n2 → n2 ≤ 18446744073709551615 →
  Post_wof [[n]] [[n1, n2]])))))
theorem c_wof : canCall Tryd.prog 65 = true := by kernel_rfl
theorem s_wof : P_wof = sat E (symTop Tryd.prog tab13 2000 65 ash_wof sh_wof) := by kernel_rfl
theorem pure_wof (hV : Valid Tryd.prog tab13 E) (h : P_wof) (args : List Value) (ha : shaFits ash_wof args) (hp : E.pre 65 (args.map vints)) : Pure Tryd.prog 65 args.toArray fun v => sh_wof.fits v ∧ E.post 65 (args.map vints) (vres v) := @top_sat Tryd.prog tab13 E hV 2000 65 ash_wof sh_wof (@Eq.mp _ _ s_wof h) args ha hp
theorem step_wof (hV : Valid Tryd.prog tab13 E) (h : P_wof) : Valid Tryd.prog tab14 E := hV.add c_wof (pure_wof hV h)

/-- math/bits.LeadingZeros64 -/
def P_lz64 : Prop :=
  (∀ n : Int, 0 ≤ n → n ≤ 18446744073709551615 →
  (Pre_lz64 [[n]] →
  (Pre_len64 [[n]] ∧
  (∀ n1 : Int, 0 ≤ n1 → n1 ≤ 64 →
  (Post_len64 [[n]] [[n1]] →
  (∀ n2 : Int, n2 = (64 - n1) → 0 ≤ n2 → n2 ≤ 64 →
  Post_lz64 [[n]] [[n2]]))))))
theorem c_lz64 : canCall Tryd.prog 98 = true := by kernel_rfl
theorem s_lz64 : P_lz64 = sat E (symTop Tryd.prog tab14 2000 98 ash_lz64 sh_lz64) := by kernel_rfl
theorem pure_lz64 (hV : Valid Tryd.prog tab14 E) (h : P_lz64) (args : List Value) (ha : shaFits ash_lz64 args) (hp : E.pre 98 (args.map vints)) : Pure Tryd.prog 98 args.toArray fun v => sh_lz64.fits v ∧ E.post 98 (args.map vints) (vres v) := @top_sat Tryd.prog tab14 E hV 2000 98 ash_lz64 sh_lz64 (@Eq.mp _ _ s_lz64 h) args ha hp
theorem step_lz64 (hV : Valid Tryd.prog tab14 E) (h : P_lz64) : Valid Tryd.prog tab15 E := hV.add c_lz64 (pure_lz64 hV h)

/-- math/bits.Div64 -/
def P_div64 : Prop :=
  (∀ n : Int, 0 ≤ n → n ≤ 18446744073709551615 →
  (∀ n1 : Int, 0 ≤ n1 → n1 ≤ 18446744073709551615 →
  (∀ n2 : Int, 0 ≤ n2 → n2 ≤ 18446744073709551615 →
  (Pre_div64 [[n], [n1], [n2]] →
  (((n2 = 0) →
    False /- op -/) ∧
   (¬ (n2 = 0) →
    (((n2 ≤ n) →
      False /- op -/) ∧
     (¬ (n2 ≤ n) →
      (((n = 0) →
        ((1 ≤ n2) ∧
        (∀ n3 : Int, n3 = n2 → 1 ≤ n3 → n3 ≤ 18446744073709551615 →
        ((1 ≤ n2) ∧
        (∀ n4 : Int, n4 = n2 → 1 ≤ n4 → n4 ≤ 18446744073709551615 →
        (∀ n5 : Int, n5 = (IntKind.wrap .u64 (n1.tdiv n3)) → 0 ≤ n5 → n5 ≤ 18446744073709551615 →
        (∀ n6 : Int, n6 = (n1.tmod n4) → 0 ≤ n6 → n6 ≤ 18446744073709551615 →
        Post_div64 [[n], [n1], [n2]] [[n5], [n6]]))))))) ∧
       (¬ (n = 0) →
        (Pre_lz64 [[n2]] ∧
        (∀ n3 : Int, 0 ≤ n3 → n3 ≤ 64 →
        (Post_lz64 [[n2]] [[n3]] →
        (∀ n4 : Int, n4 = (shI .shl .u64 n2 n3) → 0 ≤ n4 → n4 ≤ 18446744073709551615 →
        (∀ n5 : Int, n5 = (n4 / 4294967296) → 0 ≤ n5 → n5 ≤ 4294967295 →
        (∀ n6 : Int, n6 = (n4 % 4294967296) → 0 ≤ n6 → n6 ≤ 4294967295 →
        (∀ n7 : Int, n7 = (bitsI .or .u64 (shI .shl .u64 n n3) (shI .shr .u64 n1 (64 - n3))) → 0 ≤ n7 → n7 ≤ 18446744073709551615 →
        (∀ n8 : Int, n8 = (shI .shl .u64 n1 n3) → 0 ≤ n8 → n8 ≤ 18446744073709551615 →
        (∀ n9 : Int, n9 = (n8 / 4294967296) → 0 ≤ n9 → n9 ≤ 4294967295 →
        (∀ n10 : Int, n10 = (n8 % 4294967296) → 0 ≤ n10 → n10 ≤ 4294967295 →
        ((1 ≤ n5) ∧
        (∀ n11 : Int, n11 = n5 → 1 ≤ n11 → n11 ≤ 4294967295 →
        (∀ n12 : Int, n12 = (IntKind.wrap .u64 (n7.tdiv n11)) → 0 ≤ n12 → n12 ≤ 18446744073709551615 →
        (∀ n13 : Int, n13 = (IntKind.wrap .u64 (n7 - (IntKind.wrap .u64 (n12 * n5)))) → 0 ≤ n13 → n13 ≤ 18446744073709551615 →
        (Inv_dv1 [n7, n5, n6, n9] [n12, n13] ∧
        (∀ n14 : Int, 0 ≤ n14 → n14 ≤ 18446744073709551615 →
        (∀ n15 : Int, 0 ≤ n15 → n15 ≤ 18446744073709551615 →
        (Inv_dv1 [n7, n5, n6, n9] [n14, n15] →
        (∀ vs : List Value, vs.length = 21 →
        (((4294967296 ≤ n14) →
          (∀ n16 : Int, n16 = (IntKind.wrap .u64 (n14 - 1)) → 0 ≤ n16 → n16 ≤ 18446744073709551615 →
          (∀ n17 : Int, n17 = (IntKind.wrap .u64 (n15 + n5)) → 0 ≤ n17 → n17 ≤ 18446744073709551615 →
          (((4294967296 ≤ n17) →
            (∀ n18 : Int, n18 = (IntKind.wrap .u64 ((IntKind.wrap .u64 ((IntKind.wrap .u64 (n7 * 4294967296)) + n9)) - (IntKind.wrap .u64 (n16 * n4)))) → 0 ≤ n18 → n18 ≤ 18446744073709551615 →
            ((1 ≤ n5) ∧
            (∀ n19 : Int, n19 = n5 → 1 ≤ n19 → n19 ≤ 4294967295 →
            (∀ n20 : Int, n20 = (IntKind.wrap .u64 (n18.tdiv n19)) → 0 ≤ n20 → n20 ≤ 18446744073709551615 →
            (∀ n21 : Int, n21 = (IntKind.wrap .u64 (n18 - (IntKind.wrap .u64 (n20 * n5)))) → 0 ≤ n21 → n21 ≤ 18446744073709551615 →
            (Inv_dv2 [n18, n5, n6, n10] [n20, n21] ∧
            (∀ n22 : Int, 0 ≤ n22 → n22 ≤ 18446744073709551615 →
            (∀ n23 : Int, 0 ≤ n23 → n23 ≤ 18446744073709551615 →
            (Inv_dv2 [n18, n5, n6, n10] [n22, n23] →
            (∀ vs1 : List Value, vs1.length = 21 →
            (((4294967296 ≤ n22) →
              (∀ n24 : Int, n24 = (IntKind.wrap .u64 (n22 - 1)) → 0 ≤ n24 → n24 ≤ 18446744073709551615 →
              (∀ n25 : Int, n25 = (IntKind.wrap .u64 (n23 + n5)) → 0 ≤ n25 → n25 ≤ 18446744073709551615 →
              (((4294967296 ≤ n25) →
                (∀ n26 : Int, n26 = (IntKind.wrap .u64 ((IntKind.wrap .u64 (n16 * 4294967296)) + n24)) → 0 ≤ n26 → n26 ≤ 18446744073709551615 →
                (∀ n27 : Int, n27 = (shI .shr .u64 (IntKind.wrap .u64 ((IntKind.wrap .u64 ((IntKind.wrap .u64 (n18 * 4294967296)) + n10)) - (IntKind.wrap .u64 (n24 * n4)))) n3) → 0 ≤ n27 → n27 ≤ 18446744073709551615 →
                Post_div64 [[n], [n1], [n2]] [[n26], [n27]]))) ∧
               (¬ (4294967296 ≤ n25) →
                (Inv_dv2 [n18, n5, n6, n10] [n24, n25] ∧ Mea_dv2 [n18, n5, n6, n10] [n24, n25] < Mea_dv2 [n18, n5, n6, n10] [n22, n23])))))) ∧
             (¬ (4294967296 ≤ n22) →
              ((((IntKind.wrap .u64 ((IntKind.wrap .u64 (4294967296 * n23)) + n10)) < (IntKind.wrap .u64 (n22 * n6))) →
                (∀ n24 : Int, n24 = (IntKind.wrap .u64 (n22 - 1)) → 0 ≤ n24 → n24 ≤ 18446744073709551615 →
                (∀ n25 : Int, n25 = (IntKind.wrap .u64 (n23 + n5)) → 0 ≤ n25 → n25 ≤ 18446744073709551615 →
                (((4294967296 ≤ n25) →
                  (∀ n26 : Int, n26 = (IntKind.wrap .u64 ((IntKind.wrap .u64 (n16 * 4294967296)) + n24)) → 0 ≤ n26 → n26 ≤ 18446744073709551615 →
                  (∀ n27 : Int, n27 = (shI .shr .u64 (IntKind.wrap .u64 ((IntKind.wrap .u64 ((IntKind.wrap .u64 (n18 * 4294967296)) + n10)) - (IntKind.wrap .u64 (n24 * n4)))) n3) → 0 ≤ n27 → n27 ≤ 18446744073709551615 →
                  Post_div64 [[n], [n1], [n2]] [[n26], [n27]]))) ∧
                 (¬ (4294967296 ≤ n25) →
                  (Inv_dv2 [n18, n5, n6, n10] [n24, n25] ∧ Mea_dv2 [n18, n5, n6, n10] [n24, n25] < Mea_dv2 [n18, n5, n6, n10] [n22, n23])))))) ∧
               (¬ ((IntKind.wrap .u64 ((IntKind.wrap .u64 (4294967296 * n23)) + n10)) < (IntKind.wrap .u64 (n22 * n6))) →
                (∀ n24 : Int, n24 = (IntKind.wrap .u64 ((IntKind.wrap .u64 (n16 * 4294967296)) + n22)) → 0 ≤ n24 → n24 ≤ 18446744073709551615 →
                (∀ n25 : Int, n25 = (shI .shr .u64 (IntKind.wrap .u64 ((IntKind.wrap .u64 ((IntKind.wrap .u64 (n18 * 4294967296)) + n10)) - (IntKind.wrap .u64 (n22 * n4)))) n3) → 0 ≤ n25 → n25 ≤ 18446744073709551615 →
                Post_div64 [[n], [n1], [n2]] [[n24], [n25]]))))))))))))))))) ∧
           (¬ (4294967296 ≤ n17) →
            (Inv_dv1 [n7, n5, n6, n9] [n16, n17] ∧ Mea_dv1 [n7, n5, n6, n9] [n16, n17] < Mea_dv1 [n7, n5, n6, n9] [n14, n15])))))) ∧
         (¬ (4294967296 ≤ n14) →
          ((((IntKind.wrap .u64 ((IntKind.wrap .u64 (4294967296 * n15)) + n9)) < (IntKind.wrap .u64 (n14 * n6))) →
            (∀ n16 : Int, n16 = (IntKind.wrap .u64 (n14 - 1)) → 0 ≤ n16 → n16 ≤ 18446744073709551615 →
            (∀ n17 : Int, n17 = (IntKind.wrap .u64 (n15 + n5)) → 0 ≤ n17 → n17 ≤ 18446744073709551615 →
            (((4294967296 ≤ n17) →
              (∀ n18 : Int, n18 = (IntKind.wrap .u64 ((IntKind.wrap .u64 ((IntKind.wrap .u64 (n7 * 4294967296)) + n9)) - (IntKind.wrap .u64 (n16 * n4)))) → 0 ≤ n18 → n18 ≤ 18446744073709551615 →
              ((1 ≤ n5) ∧
              (∀ n19 : Int, n19 = n5 → 1 ≤ n19 → n19 ≤ 4294967295 →
              (∀ n20 : Int, n20 = (IntKind.wrap .u64 (n18.tdiv n19)) → 0 ≤ n20 → n20 ≤ 18446744073709551615 →
              (∀ n21 : Int, n21 = (IntKind.wrap .u64 (n18 - (IntKind.wrap .u64 (n20 * n5)))) → 0 ≤ n21 → n21 ≤ 18446744073709551615 →
              (Inv_dv2 [n18, n5, n6, n10] [n20, n21] ∧
              (∀ n22 : Int, 0 ≤ n22 → n22 ≤ 18446744073709551615 →
              (∀ n23 : Int, 0 ≤ n23 → n23 ≤ 18446744073709551615 →
              (Inv_dv2 [n18, n5, n6, n10] [n22, n23] →
              (∀ vs1 : List Value, vs1.length = 21 →
              (((4294967296 ≤ n22) →
                (∀ n24 : Int, n24 = (IntKind.wrap .u64 (n22 - 1)) → 0 ≤ n24 → n24 ≤ 18446744073709551615 →
                (∀ n25 : Int, n25 = (IntKind.wrap .u64 (n23 + n5)) → 0 ≤ n25 → n25 ≤ 18446744073709551615 →
                (((4294967296 ≤ n25) →
                  (∀ n26 : Int, n26 = (IntKind.wrap .u64 ((IntKind.wrap .u64 (n16 * 4294967296)) + n24)) → 0 ≤ n26 → n26 ≤ 18446744073709551615 →
                  (∀ n27 : Int, n27 = (shI .shr .u64 (IntKind.wrap .u64 ((IntKind.wrap .u64 ((IntKind.wrap .u64 (n18 * 4294967296)) + n10)) - (IntKind.wrap .u64 (n24 * n4)))) n3) → 0 ≤ n27 → n27 ≤ 18446744073709551615 →
                  Post_div64 [[n], [n1], [n2]] [[n26], [n27]]))) ∧
                 (¬ (4294967296 ≤ n25) →
                  (Inv_dv2 [n18, n5, n6, n10] [n24, n25] ∧ Mea_dv2 [n18, n5, n6, n10] [n24, n25] < Mea_dv2 [n18, n5, n6, n10] [n22, n23])))))) ∧
               (¬ (4294967296 ≤ n22) →
                ((((IntKind.wrap .u64 ((IntKind.wrap .u64 (4294967296 * n23)) + n10)) < (IntKind.wrap .u64 (n22 * n6))) →
                  (∀ n24 : Int, n24 = (IntKind.wrap .u64 (n22 - 1)) → 0 ≤ n24 → n24 ≤ 18446744073709551615 →
                  (∀ n25 : Int, n25 = (IntKind.wrap .u64 (n23 + n5)) → 0 ≤ n25 → n25 ≤ 18446744073709551615 →
                  (((4294967296 ≤ n25) →
                    (∀ n26 : Int, n26 = (IntKind.wrap .u64 ((IntKind.wrap .u64 (n16 * 4294967296)) + n24)) → 0 ≤ n26 → n26 ≤ 18446744073709551615 →
                    (∀ n27 : Int, n27 = (shI .shr .u64 (IntKind.wrap .u64 ((IntKind.wrap .u64 ((IntKind.wrap .u64 (n18 * 4294967296)) + n10)) - (IntKind.wrap .u64 (n24 * n4)))) n3) → 0 ≤ n27 → n27 ≤ 18446744073709551615 →
                    Post_div64 [[n], [n1], [n2]] [[n26], [n27]]))) ∧
                   (¬ (4294967296 ≤ n25) →
                    (Inv_dv2 [n18, n5, n6, n10] [n24, n25] ∧ Mea_dv2 [n18, n5, n6, n10] [n24, n25] < Mea_dv2 [n18, n5, n6, n10] [n22, n23])))))) ∧
                 (¬ ((IntKind.wrap .u64 ((IntKind.wrap .u64 (4294967296 * n23)) + n10)) < (IntKind.wrap .u64 (n22 * n6))) →
                  (∀ n24 : Int, n24 = (IntKind.wrap .u64 ((IntKind.wrap .u64 (n16 * 4294967296)) + n22)) → 0 ≤ n24 → n24 ≤ 18446744073709551615 →
                  (∀ n25 : Int, n25 = (shI .shr .u64 (IntKind.wrap .u64 ((IntKind.wrap .u64 ((IntKind.wrap .u64 (n18 * 4294967296)) + n10)) - (IntKind.wrap .u64 (n22 * n4)))) n3) → 0 ≤ n25 → n25 ≤ 18446744073709551615 →
                  Post_div64 [[n], [n1], [n2]] [[n24], [n25]]))))))))))))))))) ∧
             (¬ (4294967296 ≤ n17) →
              (Inv_dv1 [n7, n5, n6, n9] [n16, n17] ∧ Mea_dv1 [n7, n5, n6, n9] [n16, n17] < Mea_dv1 [n7, n5, n6, n9] [n14, n15])))))) ∧
           (¬ ((IntKind.wrap .u64 ((IntKind.wrap .u64 (4294967296 * n15)) + n9)) < (IntKind.wrap .u64 (n14 * n6))) →
            (∀ n16 : Int, n16 = (IntKind.wrap .u64 ((IntKind.wrap .u64 ((IntKind.wrap .u64 (n7 * 4294967296)) + n9)) - (IntKind.wrap .u64 (n14 * n4)))) → 0 ≤ n16 → n16 ≤ 18446744073709551615 →
            ((1 ≤ n5) ∧
            (∀ n17 : Int, n17 = n5 → 1 ≤ n17 → n17 ≤ 4294967295 →
            (∀ n18 : Int, n18 = (IntKind.wrap .u64 (n16.tdiv n17)) → 0 ≤ n18 → n18 ≤ 18446744073709551615 →
            (∀ n19 : Int, n19 = (IntKind.wrap .u64 (n16 - (IntKind.wrap .u64 (n18 * n5)))) → 0 ≤ n19 → n19 ≤ 18446744073709551615 →
            (Inv_dv2 [n16, n5, n6, n10] [n18, n19] ∧
            (∀ n20 : Int, 0 ≤ n20 → n20 ≤ 18446744073709551615 →
            (∀ n21 : Int, 0 ≤ n21 → n21 ≤ 18446744073709551615 →
            (Inv_dv2 [n16, n5, n6, n10] [n20, n21] →
            (∀ vs1 : List Value, vs1.length = 21 →
            (((4294967296 ≤ n20) →
              (∀ n22 : Int, n22 = (IntKind.wrap .u64 (n20 - 1)) → 0 ≤ n22 → n22 ≤ 18446744073709551615 →
              (∀ n23 : Int, n23 = (IntKind.wrap .u64 (n21 + n5)) → 0 ≤ n23 → n23 ≤ 18446744073709551615 →
              (((4294967296 ≤ n23) →
                (∀ n24 : Int, n24 = (IntKind.wrap .u64 ((IntKind.wrap .u64 (n14 * 4294967296)) + n22)) → 0 ≤ n24 → n24 ≤ 18446744073709551615 →
                (∀ n25 : Int, n25 = (shI .shr .u64 (IntKind.wrap .u64 ((IntKind.wrap .u64 ((IntKind.wrap .u64 (n16 * 4294967296)) + n10)) - (IntKind.wrap .u64 (n22 * n4)))) n3) → 0 ≤ n25 → n25 ≤ 18446744073709551615 →
                Post_div64 [[n], [n1], [n2]] [[n24], [n25]]))) ∧
               (¬ (4294967296 ≤ n23) →
                (Inv_dv2 [n16, n5, n6, n10] [n22, n23] ∧ Mea_dv2 [n16, n5, n6, n10] [n22, n23] < Mea_dv2 [n16, n5, n6, n10] [n20, n21])))))) ∧
             (¬ (4294967296 ≤ n20) →
              ((((IntKind.wrap .u64 ((IntKind.wrap .u64 (4294967296 * n21)) + n10)) < (IntKind.wrap .u64 (n20 * n6))) →
                (∀ n22 : Int, n22 = (IntKind.wrap .u64 (n20 - 1)) → 0 ≤ n22 → n22 ≤ 18446744073709551615 →
                (∀ n23 : Int, n23 = (IntKind.wrap .u64 (n21 + n5)) → 0 ≤ n23 → n23 ≤ 18446744073709551615 →
                (((4294967296 ≤ n23) →
                  (∀ n24 : Int, n24 = (IntKind.wrap .u64 ((IntKind.wrap .u64 (n14 * 4294967296)) + n22)) → 0 ≤ n24 → n24 ≤ 18446744073709551615 →
                  (∀ n25 : Int, n25 = (shI .shr .u64 (IntKind.wrap .u64 ((IntKind.wrap .u64 ((IntKind.wrap .u64 (n16 * 4294967296)) + n10)) - (IntKind.wrap .u64 (n22 * n4)))) n3) → 0 ≤ n25 → n25 ≤ 18446744073709551615 →
                  Post_div64 [[n], [n1], [n2]] [[n24], [n25]]))) ∧
                 (¬ (4294967296 ≤ n23) →
                  (Inv_dv2 [n16, n5, n6, n10] [n22, n23] ∧ Mea_dv2 [n16, n5, n6, n10] [n22, n23] < Mea_dv2 [n16, n5, n6, n10] [n20, n21])))))) ∧
               (¬ ((IntKind.wrap .u64 ((IntKind.wrap .u64 (4294967296 * n21)) + n10)) < (IntKind.wrap .u64 (n20 * n6))) →
                (∀ n22 : Int, n22 = (IntKind.wrap .u64 ((IntKind.wrap .u64 (n14 * 4294967296)) + n20)) → 0 ≤ n22 → n22 ≤ 18446744073709551615 →
                (∀ n23 : Int, n23 = (shI .shr .u64 (IntKind.wrap .u64 ((IntKind.wrap .u64 ((IntKind.wrap .u64 (n16 * 4294967296)) + n10)) - (IntKind.wrap .u64 (n20 * n4)))) n3) → 0 ≤ n23 → n23 ≤ 18446744073709551615 →
                Post_div64 [[n], [n1], [n2]] [[n22], [n23]])))))))))))))))))))))))))))))))))))))))))))))))))
theorem c_div64 : canCall Tryd.prog 90 = true := by kernel_rfl
theorem s_div64 : P_div64 = sat E (symTop Tryd.prog tab15 2000 90 ash_div64 sh_div64) := by kernel_rfl
theorem pure_div64 (hV : Valid Tryd.prog tab15 E) (h : P_div64) (args : List Value) (ha : shaFits ash_div64 args) (hp : E.pre 90 (args.map vints)) : Pure Tryd.prog 90 args.toArray fun v => sh_div64.fits v ∧ E.post 90 (args.map vints) (vres v) := @top_sat Tryd.prog tab15 E hV 2000 90 ash_div64 sh_div64 (@Eq.mp _ _ s_div64 h) args ha hp
theorem step_div64 (hV : Valid Tryd.prog tab15 E) (h : P_div64) : Valid Tryd.prog tab16 E := hV.add c_div64 (pure_div64 hV h)

/-- (gouache/wides.words).turned -/
def P_turned : Prop :=
  (∀ n : Int, 0 ≤ n → n ≤ 18446744073709551615 →
  (∀ n1 : Int, 0 ≤ n1 → n1 ≤ 18446744073709551615 →
  (∀ n2 : Int, 0 ≤ n2 → n2 ≤ 18446744073709551615 →
  (Pre_turned [[n, n1, n2]] →
  (∀ b : Nat, (∀ b1 : Nat, (∀ n3 : Int, n3 = (((18446744073709551615 - n) + 1) % 18446744073709551616) → 0 ≤ n3 → n3 ≤ 18446744073709551615 →
  (∀ n4 : Int, n4 = (((18446744073709551615 - n) + 1) / 18446744073709551616) → 0 ≤ n4 → n4 ≤ 1 →
  (∀ n5 : Int, n5 = (((18446744073709551615 - n1) + n4) % 18446744073709551616) → 0 ≤ n5 → n5 ≤ 18446744073709551615 →
  (∀ n6 : Int, n6 = (((18446744073709551615 - n1) + n4) / 18446744073709551616) → 0 ≤ n6 → n6 ≤ 1 →
  Post_turned [[n, n1, n2]] [[n3, n5, 0]]))))))))))
theorem c_turned : canCall Tryd.prog 89 = true := by kernel_rfl
theorem s_turned : P_turned = sat E (symTop Tryd.prog tab16 2000 89 ash_turned sh_turned) := by kernel_rfl
theorem pure_turned (hV : Valid Tryd.prog tab16 E) (h : P_turned) (args : List Value) (ha : shaFits ash_turned args) (hp : E.pre 89 (args.map vints)) : Pure Tryd.prog 89 args.toArray fun v => sh_turned.fits v ∧ E.post 89 (args.map vints) (vres v) := @top_sat Tryd.prog tab16 E hV 2000 89 ash_turned sh_turned (@Eq.mp _ _ s_turned h) args ha hp
theorem step_turned (hV : Valid Tryd.prog tab16 E) (h : P_turned) : Valid Tryd.prog tab17 E := hV.add c_turned (pure_turned hV h)

/-- gouache/wides.part -/
def P_part : Prop :=
  (∀ n : Int, (-9223372036854775808) ≤ n → n ≤ 9223372036854775807 →
  (∀ n1 : Int, 0 ≤ n1 → n1 ≤ 18446744073709551615 →
  (Pre_part [[n, n1]] →
  (∀ b : Nat, (∀ b1 : Nat, (∀ b2 : Nat, (∀ n2 : Int, n2 = (IntKind.wrap .u64 n) → 0 ≤ n2 → n2 ≤ 18446744073709551615 →
  (((n < 0) →
    (Pre_turned [[n1, n2, 0]] ∧
    (∀ n3 : Int, 0 ≤ n3 → n3 ≤ 18446744073709551615 →
    (∀ n4 : Int, 0 ≤ n4 → n4 ≤ 18446744073709551615 →
    (∀ n5 : Int, 0 ≤ n5 → n5 ≤ 18446744073709551615 →
    (Post_turned [[n1, n2, 0]] [[n3, n4, n5]] →
    Post_part [[n, n1]] [[b2i (decide (n < 0)), n3, n4, n5]])))))) ∧
   (¬ (n < 0) →
    Post_part [[n, n1]] [[b2i (decide (n < 0)), n1, n2, 0]])))))))))
theorem c_part : canCall Tryd.prog 77 = true := by kernel_rfl
theorem s_part : P_part = sat E (symTop Tryd.prog tab17 2000 77 ash_part sh_part) := by kernel_rfl
theorem pure_part (hV : Valid Tryd.prog tab17 E) (h : P_part) (args : List Value) (ha : shaFits ash_part args) (hp : E.pre 77 (args.map vints)) : Pure Tryd.prog 77 args.toArray fun v => sh_part.fits v ∧ E.post 77 (args.map vints) (vres v) := @top_sat Tryd.prog tab17 E hV 2000 77 ash_part sh_part (@Eq.mp _ _ s_part h) args ha hp
theorem step_part (hV : Valid Tryd.prog tab17 E) (h : P_part) : Valid Tryd.prog tab18 E := hV.add c_part (pure_part hV h)

/-- (gouache/wides.parted).whole -/
def P_whole : Prop :=
  (∀ t : Bool, (∀ n : Int, 0 ≤ n → n ≤ 18446744073709551615 →
  (∀ n1 : Int, 0 ≤ n1 → n1 ≤ 18446744073709551615 →
  (∀ n2 : Int, 0 ≤ n2 → n2 ≤ 18446744073709551615 →
  (Pre_whole [[b2i t, n, n1, n2]] →
  (∀ b : Nat, (∀ b1 : Nat, (∀ b2 : Nat, (((¬ ((t = true) ∧ ((n = 0) ∧ ((n1 = 9223372036854775808) ∧ (n2 = 0))))) →
    (((0 < n2) →
      Post_whole [[b2i t, n, n1, n2]] [[0, 0], [11]]) ∧
     (¬ (0 < n2) →
      (((0 < (n1 / 9223372036854775808)) →
        Post_whole [[b2i t, n, n1, n2]] [[0, 0], [11]]) ∧
       (¬ (0 < (n1 / 9223372036854775808)) →
        (((t = true) →
          (Pre_turned [[n, n1, n2]] ∧
          (∀ n3 : Int, 0 ≤ n3 → n3 ≤ 18446744073709551615 →
          (∀ n4 : Int, 0 ≤ n4 → n4 ≤ 18446744073709551615 →
          (∀ n5 : Int, 0 ≤ n5 → n5 ≤ 18446744073709551615 →
          (Post_turned [[n, n1, n2]] [[n3, n4, n5]] →
          (∀ n6 : Int, n6 = (IntKind.wrap .i64 n4) → (-9223372036854775808) ≤ n6 → n6 ≤ 9223372036854775807 →
          Post_whole [[b2i t, n, n1, n2]] [[n6, n3], [0]]))))))) ∧
         (¬ (t = true) →
          (∀ n3 : Int, n3 = (IntKind.wrap .i64 n1) → (-9223372036854775808) ≤ n3 → n3 ≤ 9223372036854775807 →
          Post_whole [[b2i t, n, n1, n2]] [[n3, n], [0]])))))))) ∧
   (¬ (¬ ((t = true) ∧ ((n = 0) ∧ ((n1 = 9223372036854775808) ∧ (n2 = 0))))) →
    (((t = true) →
      (Pre_turned [[n, n1, n2]] ∧
      (∀ n3 : Int, 0 ≤ n3 → n3 ≤ 18446744073709551615 →
      (∀ n4 : Int, 0 ≤ n4 → n4 ≤ 18446744073709551615 →
      (∀ n5 : Int, 0 ≤ n5 → n5 ≤ 18446744073709551615 →
      (Post_turned [[n, n1, n2]] [[n3, n4, n5]] →
      (∀ n6 : Int, n6 = (IntKind.wrap .i64 n4) → (-9223372036854775808) ≤ n6 → n6 ≤ 9223372036854775807 →
      Post_whole [[b2i t, n, n1, n2]] [[n6, n3], [0]]))))))) ∧
     (¬ (t = true) →
      (∀ n3 : Int, n3 = (IntKind.wrap .i64 n1) → (-9223372036854775808) ≤ n3 → n3 ≤ 9223372036854775807 →
      Post_whole [[b2i t, n, n1, n2]] [[n3, n], [0]])))))))))))))
theorem c_whole : canCall Tryd.prog 79 = true := by kernel_rfl
theorem s_whole : P_whole = sat E (symTop Tryd.prog tab18 2000 79 ash_whole sh_whole) := by kernel_rfl
theorem pure_whole (hV : Valid Tryd.prog tab18 E) (h : P_whole) (args : List Value) (ha : shaFits ash_whole args) (hp : E.pre 79 (args.map vints)) : Pure Tryd.prog 79 args.toArray fun v => sh_whole.fits v ∧ E.post 79 (args.map vints) (vres v) := @top_sat Tryd.prog tab18 E hV 2000 79 ash_whole sh_whole (@Eq.mp _ _ s_whole h) args ha hp
theorem step_whole (hV : Valid Tryd.prog tab18 E) (h : P_whole) : Valid Tryd.prog tab19 E := hV.add c_whole (pure_whole hV h)

/-- (gouache/wides.words).times -/
def P_wtimes : Prop :=
  (∀ n : Int, 0 ≤ n → n ≤ 18446744073709551615 →
  (∀ n1 : Int, 0 ≤ n1 → n1 ≤ 18446744073709551615 →
  (∀ n2 : Int, 0 ≤ n2 → n2 ≤ 18446744073709551615 →
  (∀ n3 : Int, 0 ≤ n3 → n3 ≤ 18446744073709551615 →
  (Pre_wtimes [[n, n1, n2], [n3]] →
  (∀ b : Nat, (∀ b1 : Nat, (Pre_mul64 [[n], [n3]] ∧
  (∀ n4 : Int, 0 ≤ n4 → n4 ≤ 18446744073709551615 →
  (∀ n5 : Int, 0 ≤ n5 → n5 ≤ 18446744073709551615 →
  (Post_mul64 [[n], [n3]] [[n4], [n5]] →
  (Pre_mul64 [[n1], [n3]] ∧
  (∀ n6 : Int, 0 ≤ n6 → n6 ≤ 18446744073709551615 →
  (∀ n7 : Int, 0 ≤ n7 → n7 ≤ 18446744073709551615 →
  (Post_mul64 [[n1], [n3]] [[n6], [n7]] →
  (∀ n8 : Int, n8 = ((n7 + n4) % 18446744073709551616) → 0 ≤ n8 → n8 ≤ 18446744073709551615 →
  (∀ n9 : Int, n9 = ((n7 + n4) / 18446744073709551616) → 0 ≤ n9 → n9 ≤ 1 →
  (∀ n10 : Int, n10 = (IntKind.wrap .u64 (n6 + n9)) → 0 ≤ n10 → n10 ≤ 18446744073709551615 →
  (Pre_mul64 [[n2], [n3]] ∧
  (∀ n11 : Int, 0 ≤ n11 → n11 ≤ 18446744073709551615 →
  (∀ n12 : Int, 0 ≤ n12 → n12 ≤ 18446744073709551615 →
  (Post_mul64 [[n2], [n3]] [[n11], [n12]] →
  (∀ n13 : Int, n13 = ((n12 + n10) % 18446744073709551616) → 0 ≤ n13 → n13 ≤ 18446744073709551615 →
  (∀ n14 : Int, n14 = ((n12 + n10) / 18446744073709551616) → 0 ≤ n14 → n14 ≤ 1 →
  (∀ n15 : Int, n15 = (IntKind.wrap .u64 (n11 + n14)) → 0 ≤ n15 → n15 ≤ 18446744073709551615 →
  Post_wtimes [[n, n1, n2], [n3]] [[n5, n8, n13]])))))))))))))))))))))))))
theorem c_wtimes : canCall Tryd.prog 82 = true := by kernel_rfl
theorem s_wtimes : P_wtimes = sat E (symTop Tryd.prog tab19 2000 82 ash_wtimes sh_wtimes) := by kernel_rfl
theorem pure_wtimes (hV : Valid Tryd.prog tab19 E) (h : P_wtimes) (args : List Value) (ha : shaFits ash_wtimes args) (hp : E.pre 82 (args.map vints)) : Pure Tryd.prog 82 args.toArray fun v => sh_wtimes.fits v ∧ E.post 82 (args.map vints) (vres v) := @top_sat Tryd.prog tab19 E hV 2000 82 ash_wtimes sh_wtimes (@Eq.mp _ _ s_wtimes h) args ha hp
theorem step_wtimes (hV : Valid Tryd.prog tab19 E) (h : P_wtimes) : Valid Tryd.prog tab20 E := hV.add c_wtimes (pure_wtimes hV h)

/-- gouache/wides.size -/
def P_size : Prop :=
  (∀ n : Int, (-9223372036854775808) ≤ n → n ≤ 9223372036854775807 →
  (Pre_size [[n]] →
  (((n < 0) →
    (∀ n1 : Int, n1 = (IntKind.wrap .u64 (0 - (IntKind.wrap .u64 n))) → 0 ≤ n1 → n1 ≤ 18446744073709551615 →
    Post_size [[n]] [[n1]])) ∧
   (¬ (n < 0) →
    (∀ n1 : Int, n1 = (IntKind.wrap .u64 n) → 0 ≤ n1 → n1 ≤ 18446744073709551615 →
    Post_size [[n]] [[n1]])))))
theorem c_size : canCall Tryd.prog 83 = true := by kernel_rfl
theorem s_size : P_size = sat E (symTop Tryd.prog tab20 2000 83 ash_size sh_size) := by kernel_rfl
theorem pure_size (hV : Valid Tryd.prog tab20 E) (h : P_size) (args : List Value) (ha : shaFits ash_size args) (hp : E.pre 83 (args.map vints)) : Pure Tryd.prog 83 args.toArray fun v => sh_size.fits v ∧ E.post 83 (args.map vints) (vres v) := @top_sat Tryd.prog tab20 E hV 2000 83 ash_size sh_size (@Eq.mp _ _ s_size h) args ha hp
theorem step_size (hV : Valid Tryd.prog tab20 E) (h : P_size) : Valid Tryd.prog tab21 E := hV.add c_size (pure_size hV h)

/-- gouache/wides.Add -/
def P_wadd : Prop :=
  (∀ n : Int, (-9223372036854775808) ≤ n → n ≤ 9223372036854775807 →
  (∀ n1 : Int, 0 ≤ n1 → n1 ≤ 18446744073709551615 →
  (∀ n2 : Int, (-9223372036854775808) ≤ n2 → n2 ≤ 9223372036854775807 →
  (∀ n3 : Int, 0 ≤ n3 → n3 ≤ 18446744073709551615 →
  (Pre_wadd [[n, n1], [n2, n3]] →
  (∀ b : Nat, (∀ b1 : Nat, (∀ b2 : Nat, (∀ n4 : Int, n4 = ((n1 + n3) % 18446744073709551616) → 0 ≤ n4 → n4 ≤ 18446744073709551615 →
  (∀ n5 : Int, n5 = ((n1 + n3) / 18446744073709551616) → 0 ≤ n5 → n5 ≤ 1 →
  (∀ n6 : Int, n6 = (IntKind.wrap .i64 ((IntKind.wrap .i64 (n + n2)) + n5)) → (-9223372036854775808) ≤ n6 → n6 ≤ 9223372036854775807 →
  ((((n < 0) ↔ (n2 < 0)) →
    (((¬ ((n6 < 0) ↔ (n < 0))) →
      Post_wadd [[n, n1], [n2, n3]] [[0, 0], [11]]) ∧
     (¬ (¬ ((n6 < 0) ↔ (n < 0))) →
      Post_wadd [[n, n1], [n2, n3]] [[n6, n4], [0]]))) ∧
   (¬ ((n < 0) ↔ (n2 < 0)) →
    Post_wadd [[n, n1], [n2, n3]] [[n6, n4], [0]])))))))))))))
theorem c_wadd : canCall Tryd.prog 64 = true := by kernel_rfl
theorem s_wadd : P_wadd = sat E (symTop Tryd.prog tab21 2000 64 ash_wadd sh_wadd) := by kernel_rfl
theorem pure_wadd (hV : Valid Tryd.prog tab21 E) (h : P_wadd) (args : List Value) (ha : shaFits ash_wadd args) (hp : E.pre 64 (args.map vints)) : Pure Tryd.prog 64 args.toArray fun v => sh_wadd.fits v ∧ E.post 64 (args.map vints) (vres v) := @top_sat Tryd.prog tab21 E hV 2000 64 ash_wadd sh_wadd (@Eq.mp _ _ s_wadd h) args ha hp
theorem step_wadd (hV : Valid Tryd.prog tab21 E) (h : P_wadd) : Valid Tryd.prog tab22 E := hV.add c_wadd (pure_wadd hV h)

/-- gouache/wides.Sub -/
def P_wsub : Prop :=
  (∀ n : Int, (-9223372036854775808) ≤ n → n ≤ 9223372036854775807 →
  (∀ n1 : Int, 0 ≤ n1 → n1 ≤ 18446744073709551615 →
  (∀ n2 : Int, (-9223372036854775808) ≤ n2 → n2 ≤ 9223372036854775807 →
  (∀ n3 : Int, 0 ≤ n3 → n3 ≤ 18446744073709551615 →
  (Pre_wsub [[n, n1], [n2, n3]] →
  (∀ b : Nat, (∀ b1 : Nat, (∀ b2 : Nat, (∀ n4 : Int, n4 = ((n1 - n3) % 18446744073709551616) → 0 ≤ n4 → n4 ≤ 18446744073709551615 →
  (∀ n5 : Int, n5 = (0 - ((n1 - n3) / 18446744073709551616)) → 0 ≤ n5 → n5 ≤ 1 →
  (∀ n6 : Int, n6 = (IntKind.wrap .i64 ((IntKind.wrap .i64 (n - n2)) - n5)) → (-9223372036854775808) ≤ n6 → n6 ≤ 9223372036854775807 →
  (((¬ ((n < 0) ↔ (n2 < 0))) →
    (((¬ ((n6 < 0) ↔ (n < 0))) →
      Post_wsub [[n, n1], [n2, n3]] [[0, 0], [11]]) ∧
     (¬ (¬ ((n6 < 0) ↔ (n < 0))) →
      Post_wsub [[n, n1], [n2, n3]] [[n6, n4], [0]]))) ∧
   (¬ (¬ ((n < 0) ↔ (n2 < 0))) →
    Post_wsub [[n, n1], [n2, n3]] [[n6, n4], [0]])))))))))))))
theorem c_wsub : canCall Tryd.prog 80 = true := by kernel_rfl
theorem s_wsub : P_wsub = sat E (symTop Tryd.prog tab22 2000 80 ash_wsub sh_wsub) := by kernel_rfl
theorem pure_wsub (hV : Valid Tryd.prog tab22 E) (h : P_wsub) (args : List Value) (ha : shaFits ash_wsub args) (hp : E.pre 80 (args.map vints)) : Pure Tryd.prog 80 args.toArray fun v => sh_wsub.fits v ∧ E.post 80 (args.map vints) (vres v) := @top_sat Tryd.prog tab22 E hV 2000 80 ash_wsub sh_wsub (@Eq.mp _ _ s_wsub h) args ha hp
theorem step_wsub (hV : Valid Tryd.prog tab22 E) (h : P_wsub) : Valid Tryd.prog tab23 E := hV.add c_wsub (pure_wsub hV h)

/-- gouache/wides.Times -/
def P_wtms : Prop :=
  (∀ n : Int, (-9223372036854775808) ≤ n → n ≤ 9223372036854775807 →
  (∀ n1 : Int, 0 ≤ n1 → n1 ≤ 18446744073709551615 →
  (∀ n2 : Int, (-9223372036854775808) ≤ n2 → n2 ≤ 9223372036854775807 →
  (Pre_wtms [[n, n1], [n2]] →
  (∀ b : Nat, (∀ b1 : Nat, (Pre_part [[n, n1]] ∧
  (∀ t : Bool, (∀ n3 : Int, 0 ≤ n3 → n3 ≤ 18446744073709551615 →
  (∀ n4 : Int, 0 ≤ n4 → n4 ≤ 18446744073709551615 →
  (∀ n5 : Int, 0 ≤ n5 → n5 ≤ 18446744073709551615 →
  (Post_part [[n, n1]] [[b2i t, n3, n4, n5]] →
  (∀ b2 : Nat, (Pre_size [[n2]] ∧
  (∀ n6 : Int, 0 ≤ n6 → n6 ≤ 18446744073709551615 →
  (Post_size [[n2]] [[n6]] →
  (Pre_wtimes [[n3, n4, n5], [n6]] ∧
  (∀ n7 : Int, 0 ≤ n7 → n7 ≤ 18446744073709551615 →
  (∀ n8 : Int, 0 ≤ n8 → n8 ≤ 18446744073709551615 →
  (∀ n9 : Int, 0 ≤ n9 → n9 ≤ 18446744073709551615 →
  (Post_wtimes [[n3, n4, n5], [n6]] [[n7, n8, n9]] →
  (Pre_whole [[b2i (!(t == (decide (n2 < 0)))), n7, n8, n9]] ∧
  (∀ n10 : Int, (-9223372036854775808) ≤ n10 → n10 ≤ 9223372036854775807 →
  (∀ n11 : Int, 0 ≤ n11 → n11 ≤ 18446744073709551615 →
  (∀ n12 : Int, 0 ≤ n12 → n12 ≤ 11 →
  (Post_whole [[b2i (!(t == (decide (n2 < 0)))), n7, n8, n9]] [[n10, n11], [n12]] →
  Post_wtms [[n, n1], [n2]] [[n10, n11], [n12]]))))))))))))))))))))))))))
theorem c_wtms : canCall Tryd.prog 66 = true := by kernel_rfl
theorem s_wtms : P_wtms = sat E (symTop Tryd.prog tab23 2000 66 ash_wtms sh_wtms) := by kernel_rfl
theorem pure_wtms (hV : Valid Tryd.prog tab23 E) (h : P_wtms) (args : List Value) (ha : shaFits ash_wtms args) (hp : E.pre 66 (args.map vints)) : Pure Tryd.prog 66 args.toArray fun v => sh_wtms.fits v ∧ E.post 66 (args.map vints) (vres v) := @top_sat Tryd.prog tab23 E hV 2000 66 ash_wtms sh_wtms (@Eq.mp _ _ s_wtms h) args ha hp
theorem step_wtms (hV : Valid Tryd.prog tab23 E) (h : P_wtms) : Valid Tryd.prog tab24 E := hV.add c_wtms (pure_wtms hV h)

/-- gouache/wides.Mul -/
def P_wmul : Prop :=
  (∀ n : Int, (-9223372036854775808) ≤ n → n ≤ 9223372036854775807 →
  (∀ n1 : Int, (-9223372036854775808) ≤ n1 → n1 ≤ 9223372036854775807 →
  (Pre_wmul [[n], [n1]] →
  (∀ b : Nat, (Pre_wof [[n]] ∧
  (∀ n2 : Int, (-9223372036854775808) ≤ n2 → n2 ≤ 9223372036854775807 →
  (∀ n3 : Int, 0 ≤ n3 → n3 ≤ 18446744073709551615 →
  (Post_wof [[n]] [[n2, n3]] →
  (Pre_wtms [[n2, n3], [n1]] ∧
  (∀ n4 : Int, (-9223372036854775808) ≤ n4 → n4 ≤ 9223372036854775807 →
  (∀ n5 : Int, 0 ≤ n5 → n5 ≤ 18446744073709551615 →
  (∀ n6 : Int, 0 ≤ n6 → n6 ≤ 11 →
  (Post_wtms [[n2, n3], [n1]] [[n4, n5], [n6]] →
  (∀ b1 : Nat, Post_wmul [[n], [n1]] [[n4, n5]]))))))))))))))
theorem c_wmul : canCall Tryd.prog 44 = true := by kernel_rfl
theorem s_wmul : P_wmul = sat E (symTop Tryd.prog tab24 2000 44 ash_wmul sh_wmul) := by kernel_rfl
theorem pure_wmul (hV : Valid Tryd.prog tab24 E) (h : P_wmul) (args : List Value) (ha : shaFits ash_wmul args) (hp : E.pre 44 (args.map vints)) : Pure Tryd.prog 44 args.toArray fun v => sh_wmul.fits v ∧ E.post 44 (args.map vints) (vres v) := @top_sat Tryd.prog tab24 E hV 2000 44 ash_wmul sh_wmul (@Eq.mp _ _ s_wmul h) args ha hp
theorem step_wmul (hV : Valid Tryd.prog tab24 E) (h : P_wmul) : Valid Tryd.prog tab25 E := hV.add c_wmul (pure_wmul hV h)

/-- (gouache/wides.words).divided -/
def P_wdivided : Prop :=
  (∀ n : Int, 0 ≤ n → n ≤ 18446744073709551615 →
  (∀ n1 : Int, 0 ≤ n1 → n1 ≤ 18446744073709551615 →
  (∀ n2 : Int, 0 ≤ n2 → n2 ≤ 18446744073709551615 →
  (∀ n3 : Int, 0 ≤ n3 → n3 ≤ 18446744073709551615 →
  (Pre_wdivided [[n, n1, n2], [n3]] →
  (∀ b : Nat, (∀ b1 : Nat, (Pre_div64 [[0], [n1], [n3]] ∧
  (∀ n4 : Int, 0 ≤ n4 → n4 ≤ 18446744073709551615 →
  (∀ n5 : Int, 0 ≤ n5 → n5 ≤ 18446744073709551615 →
  (Post_div64 [[0], [n1], [n3]] [[n4], [n5]] →
  (Pre_div64 [[n5], [n], [n3]] ∧
  (∀ n6 : Int, 0 ≤ n6 → n6 ≤ 18446744073709551615 →
  (∀ n7 : Int, 0 ≤ n7 → n7 ≤ 18446744073709551615 →
  (Post_div64 [[n5], [n], [n3]] [[n6], [n7]] →
  Post_wdivided [[n, n1, n2], [n3]] [[n6, n4, 0], [n7]])))))))))))))))
theorem c_wdivided : canCall Tryd.prog 78 = true := by kernel_rfl
theorem s_wdivided : P_wdivided = sat E (symTop Tryd.prog tab25 2000 78 ash_wdivided sh_wdivided) := by kernel_rfl
theorem pure_wdivided (hV : Valid Tryd.prog tab25 E) (h : P_wdivided) (args : List Value) (ha : shaFits ash_wdivided args) (hp : E.pre 78 (args.map vints)) : Pure Tryd.prog 78 args.toArray fun v => sh_wdivided.fits v ∧ E.post 78 (args.map vints) (vres v) := @top_sat Tryd.prog tab25 E hV 2000 78 ash_wdivided sh_wdivided (@Eq.mp _ _ s_wdivided h) args ha hp
theorem step_wdivided (hV : Valid Tryd.prog tab25 E) (h : P_wdivided) : Valid Tryd.prog tab26 E := hV.add c_wdivided (pure_wdivided hV h)

/-- gouache/wides.Floor -/
def P_wfloor : Prop :=
  (∀ n : Int, (-9223372036854775808) ≤ n → n ≤ 9223372036854775807 →
  (∀ n1 : Int, 0 ≤ n1 → n1 ≤ 18446744073709551615 →
  (∀ n2 : Int, (-9223372036854775808) ≤ n2 → n2 ≤ 9223372036854775807 →
  (Pre_wfloor [[n, n1], [n2]] →
  (∀ b : Nat, (∀ b1 : Nat, (((n2 < 1) →
    Post_wfloor [[n, n1], [n2]] [[0, 0], [0], [1]]) ∧
   (¬ (n2 < 1) →
    (Pre_part [[n, n1]] ∧
    (∀ t : Bool, (∀ n3 : Int, 0 ≤ n3 → n3 ≤ 18446744073709551615 →
    (∀ n4 : Int, 0 ≤ n4 → n4 ≤ 18446744073709551615 →
    (∀ n5 : Int, 0 ≤ n5 → n5 ≤ 18446744073709551615 →
    (Post_part [[n, n1]] [[b2i t, n3, n4, n5]] →
    (∀ b2 : Nat, (∀ n6 : Int, n6 = (IntKind.wrap .u64 n2) → 0 ≤ n6 → n6 ≤ 18446744073709551615 →
    (Pre_wdivided [[n3, n4, n5], [n6]] ∧
    (∀ n7 : Int, 0 ≤ n7 → n7 ≤ 18446744073709551615 →
    (∀ n8 : Int, 0 ≤ n8 → n8 ≤ 18446744073709551615 →
    (∀ n9 : Int, 0 ≤ n9 → n9 ≤ 18446744073709551615 →
    (∀ n10 : Int, 0 ≤ n10 → n10 ≤ 18446744073709551615 →
    (Post_wdivided [[n3, n4, n5], [n6]] [[n7, n8, n9], [n10]] →
    (∀ b3 : Nat, (Pre_whole [[b2i t, n7, n8, n9]] ∧
    (∀ n11 : Int, (-9223372036854775808) ≤ n11 → n11 ≤ 9223372036854775807 →
    (∀ n12 : Int, 0 ≤ n12 → n12 ≤ 18446744073709551615 →
    (∀ n13 : Int, 0 ≤ n13 → n13 ≤ 11 →
    (Post_whole [[b2i t, n7, n8, n9]] [[n11, n12], [n13]] →
    (((t = true) →
      (((0 < n10) →
        (Pre_wof [[1]] ∧
        (∀ n14 : Int, (-9223372036854775808) ≤ n14 → n14 ≤ 9223372036854775807 →
        (∀ n15 : Int, 0 ≤ n15 → n15 ≤ 18446744073709551615 →
        (Post_wof [[1]] [[n14, n15]] →
        (Pre_wsub [[n11, n12], [n14, n15]] ∧
        (∀ n16 : Int, (-9223372036854775808) ≤ n16 → n16 ≤ 9223372036854775807 →
        (∀ n17 : Int, 0 ≤ n17 → n17 ≤ 18446744073709551615 →
        (∀ n18 : Int, 0 ≤ n18 → n18 ≤ 11 →
        (Post_wsub [[n11, n12], [n14, n15]] [[n16, n17], [n18]] →
        (∀ n19 : Int, n19 = (IntKind.wrap .u64 ((IntKind.wrap .u64 n2) - n10)) → 0 ≤ n19 → n19 ≤ 18446744073709551615 →
        (∀ n20 : Int, n20 = (IntKind.wrap .i64 n19) → (-9223372036854775808) ≤ n20 → n20 ≤ 9223372036854775807 →
        Post_wfloor [[n, n1], [n2]] [[n16, n17], [n20], [0]])))))))))))) ∧
       (¬ (0 < n10) →
        (∀ n14 : Int, n14 = (IntKind.wrap .i64 n10) → (-9223372036854775808) ≤ n14 → n14 ≤ 9223372036854775807 →
        Post_wfloor [[n, n1], [n2]] [[n11, n12], [n14], [0]])))) ∧
     (¬ (t = true) →
      (∀ n14 : Int, n14 = (IntKind.wrap .i64 n10) → (-9223372036854775808) ≤ n14 → n14 ≤ 9223372036854775807 →
      Post_wfloor [[n, n1], [n2]] [[n11, n12], [n14], [0]])))))))))))))))))))))))))))))))
theorem c_wfloor : canCall Tryd.prog 63 = true := by kernel_rfl
theorem s_wfloor : P_wfloor = sat E (symTop Tryd.prog tab26 2000 63 ash_wfloor sh_wfloor) := by kernel_rfl
theorem pure_wfloor (hV : Valid Tryd.prog tab26 E) (h : P_wfloor) (args : List Value) (ha : shaFits ash_wfloor args) (hp : E.pre 63 (args.map vints)) : Pure Tryd.prog 63 args.toArray fun v => sh_wfloor.fits v ∧ E.post 63 (args.map vints) (vres v) := @top_sat Tryd.prog tab26 E hV 2000 63 ash_wfloor sh_wfloor (@Eq.mp _ _ s_wfloor h) args ha hp
theorem step_wfloor (hV : Valid Tryd.prog tab26 E) (h : P_wfloor) : Valid Tryd.prog tab27 E := hV.add c_wfloor (pure_wfloor hV h)

/-- gouache/wides.Near -/
def P_wnear : Prop :=
  (∀ n : Int, (-9223372036854775808) ≤ n → n ≤ 9223372036854775807 →
  (∀ n1 : Int, 0 ≤ n1 → n1 ≤ 18446744073709551615 →
  (∀ n2 : Int, (-9223372036854775808) ≤ n2 → n2 ≤ 9223372036854775807 →
  (Pre_wnear [[n, n1], [n2]] →
  (∀ b : Nat, (∀ b1 : Nat, (Pre_wfloor [[n, n1], [n2]] ∧
  (∀ n3 : Int, (-9223372036854775808) ≤ n3 → n3 ≤ 9223372036854775807 →
  (∀ n4 : Int, 0 ≤ n4 → n4 ≤ 18446744073709551615 →
  (∀ n5 : Int, (-9223372036854775808) ≤ n5 → n5 ≤ 9223372036854775807 →
  (∀ n6 : Int, 0 ≤ n6 → n6 ≤ 11 →
  (Post_wfloor [[n, n1], [n2]] [[n3, n4], [n5], [n6]] →
  (∀ b2 : Nat, (((n6 = 0) →
    ((((IntKind.wrap .i64 (n2 - n5)) ≤ n5) →
      (Pre_wof [[1]] ∧
      (∀ n7 : Int, (-9223372036854775808) ≤ n7 → n7 ≤ 9223372036854775807 →
      (∀ n8 : Int, 0 ≤ n8 → n8 ≤ 18446744073709551615 →
      (Post_wof [[1]] [[n7, n8]] →
      (Pre_wadd [[n3, n4], [n7, n8]] ∧
      (∀ n9 : Int, (-9223372036854775808) ≤ n9 → n9 ≤ 9223372036854775807 →
      (∀ n10 : Int, 0 ≤ n10 → n10 ≤ 18446744073709551615 →
      (∀ n11 : Int, 0 ≤ n11 → n11 ≤ 11 →
      (Post_wadd [[n3, n4], [n7, n8]] [[n9, n10], [n11]] →
      Post_wnear [[n, n1], [n2]] [[n9, n10], [n11]])))))))))) ∧
     (¬ ((IntKind.wrap .i64 (n2 - n5)) ≤ n5) →
      Post_wnear [[n, n1], [n2]] [[n3, n4], [n6]]))) ∧
   (¬ (n6 = 0) →
    Post_wnear [[n, n1], [n2]] [[n3, n4], [n6]])))))))))))))))
theorem c_wnear : canCall Tryd.prog 43 = true := by kernel_rfl
theorem s_wnear : P_wnear = sat E (symTop Tryd.prog tab27 2000 43 ash_wnear sh_wnear) := by kernel_rfl
theorem pure_wnear (hV : Valid Tryd.prog tab27 E) (h : P_wnear) (args : List Value) (ha : shaFits ash_wnear args) (hp : E.pre 43 (args.map vints)) : Pure Tryd.prog 43 args.toArray fun v => sh_wnear.fits v ∧ E.post 43 (args.map vints) (vres v) := @top_sat Tryd.prog tab27 E hV 2000 43 ash_wnear sh_wnear (@Eq.mp _ _ s_wnear h) args ha hp
theorem step_wnear (hV : Valid Tryd.prog tab27 E) (h : P_wnear) : Valid Tryd.prog tab28 E := hV.add c_wnear (pure_wnear hV h)

/-- gouache/wides.Int -/
def P_wint : Prop :=
  (∀ n : Int, (-9223372036854775808) ≤ n → n ≤ 9223372036854775807 →
  (∀ n1 : Int, 0 ≤ n1 → n1 ≤ 18446744073709551615 →
  (Pre_wint [[n, n1]] →
  (∀ b : Nat, (∀ n2 : Int, n2 = (IntKind.wrap .i64 n1) → (-9223372036854775808) ≤ n2 → n2 ≤ 9223372036854775807 →
  (Pre_wof [[n2]] ∧
  (∀ n3 : Int, (-9223372036854775808) ≤ n3 → n3 ≤ 9223372036854775807 →
  (∀ n4 : Int, 0 ≤ n4 → n4 ≤ 18446744073709551615 →
  (Post_wof [[n2]] [[n3, n4]] →
  ((((n = n3) ∧ (n1 = n4)) →
    Post_wint [[n, n1]] [[n2], [b2i true]]) ∧
   (¬ ((n = n3) ∧ (n1 = n4)) →
    Post_wint [[n, n1]] [[0], [b2i false]])))))))))))
theorem c_wint : canCall Tryd.prog 46 = true := by kernel_rfl
theorem s_wint : P_wint = sat E (symTop Tryd.prog tab28 2000 46 ash_wint sh_wint) := by kernel_rfl
theorem pure_wint (hV : Valid Tryd.prog tab28 E) (h : P_wint) (args : List Value) (ha : shaFits ash_wint args) (hp : E.pre 46 (args.map vints)) : Pure Tryd.prog 46 args.toArray fun v => sh_wint.fits v ∧ E.post 46 (args.map vints) (vres v) := @top_sat Tryd.prog tab28 E hV 2000 46 ash_wint sh_wint (@Eq.mp _ _ s_wint h) args ha hp
theorem step_wint (hV : Valid Tryd.prog tab28 E) (h : P_wint) : Valid Tryd.prog tab29 E := hV.add c_wint (pure_wint hV h)

/-- (gouache/gouacheref01.Num).zero -/
def P_zero : Prop :=
  (∀ t : Bool, (∀ n : Int, 0 ≤ n → n ≤ 65535 →
  (∀ n1 : Int, 0 ≤ n1 → n1 ≤ 65535 →
  (∀ n2 : Int, 0 ≤ n2 → n2 ≤ 65535 →
  (∀ n3 : Int, 0 ≤ n3 → n3 ≤ 65535 →
  (∀ n4 : Int, 0 ≤ n4 → n4 ≤ 65535 →
  (∀ n5 : Int, 0 ≤ n5 → n5 ≤ 65535 →
  (∀ n6 : Int, 0 ≤ n6 → n6 ≤ 65535 →
  (∀ n7 : Int, 0 ≤ n7 → n7 ≤ 65535 →
  (∀ n8 : Int, 0 ≤ n8 → n8 ≤ 65535 →
  (∀ n9 : Int, 0 ≤ n9 → n9 ≤ 65535 →
  (∀ n10 : Int, 0 ≤ n10 → n10 ≤ 65535 →
  (∀ n11 : Int, 0 ≤ n11 → n11 ≤ 65535 →
  (Pre_zero [[b2i t, n, n1, n2, n3, n4, n5, n6, n7, n8, n9, n10, n11]] →
  (∀ b : Nat, Post_zero [[b2i t, n, n1, n2, n3, n4, n5, n6, n7, n8, n9, n10, n11]] [[b2i ((n == 0) && ((n1 == 0) && ((n2 == 0) && ((n3 == 0) && ((n4 == 0) && ((n5 == 0) && ((n6 == 0) && ((n7 == 0) && ((n8 == 0) && ((n9 == 0) && ((n10 == 0) && (n11 == 0))))))))))))]])))))))))))))))
theorem c_zero : canCall Tryd.prog 69 = true := by kernel_rfl
theorem s_zero : P_zero = sat E (symTop Tryd.prog tab29 2000 69 ash_zero sh_zero) := by kernel_rfl
theorem pure_zero (hV : Valid Tryd.prog tab29 E) (h : P_zero) (args : List Value) (ha : shaFits ash_zero args) (hp : E.pre 69 (args.map vints)) : Pure Tryd.prog 69 args.toArray fun v => sh_zero.fits v ∧ E.post 69 (args.map vints) (vres v) := @top_sat Tryd.prog tab29 E hV 2000 69 ash_zero sh_zero (@Eq.mp _ _ s_zero h) args ha hp
theorem step_zero (hV : Valid Tryd.prog tab29 E) (h : P_zero) : Valid Tryd.prog tab30 E := hV.add c_zero (pure_zero hV h)

/-- gouache/gouacheref01.Of -/
def P_rof : Prop :=
  (∀ n : Int, (-9223372036854775808) ≤ n → n ≤ 9223372036854775807 →
  (Pre_rof [[n]] →
  (∀ b : Nat, (((n < 0) →
    (∀ n1 : Int, n1 = (IntKind.wrap .u64 n) → 0 ≤ n1 → n1 ≤ 18446744073709551615 →
    Post_rof [[n]] [[(-1), n1]])) ∧
   (¬ (n < 0) →
    (∀ n1 : Int, n1 = (IntKind.wrap .u64 n) → 0 ≤ n1 → n1 ≤ 18446744073709551615 →
    Post_rof [[n]] [[0, n1]]))))))
theorem c_rof : canCall Tryd.prog 52 = true := by kernel_rfl
theorem s_rof : P_rof = sat E (symTop Tryd.prog tab30 2000 52 ash_rof sh_rof) := by kernel_rfl
theorem pure_rof (hV : Valid Tryd.prog tab30 E) (h : P_rof) (args : List Value) (ha : shaFits ash_rof args) (hp : E.pre 52 (args.map vints)) : Pure Tryd.prog 52 args.toArray fun v => sh_rof.fits v ∧ E.post 52 (args.map vints) (vres v) := @top_sat Tryd.prog tab30 E hV 2000 52 ash_rof sh_rof (@Eq.mp _ _ s_rof h) args ha hp
theorem step_rof (hV : Valid Tryd.prog tab30 E) (h : P_rof) : Valid Tryd.prog tab31 E := hV.add c_rof (pure_rof hV h)

/-- gouache/gouacheref01.Small -/
def P_small : Prop :=
  (∀ n : Int, (-9223372036854775808) ≤ n → n ≤ 9223372036854775807 →
  (Pre_small [[n]] →
  (∀ b : Nat, (Pre_rof [[n]] ∧
  (∀ n1 : Int, (-9223372036854775808) ≤ n1 → n1 ≤ 9223372036854775807 →
  (∀ n2 : Int, 0 ≤ n2 → n2 ≤ 18446744073709551615 →
  (Post_rof [[n]] [[n1, n2]] →
  (Pre_read [[n1, n2]] ∧
  (∀ t : Bool, (∀ n3 : Int, 0 ≤ n3 → n3 ≤ 65535 →
  (∀ n4 : Int, 0 ≤ n4 → n4 ≤ 65535 →
  (∀ n5 : Int, 0 ≤ n5 → n5 ≤ 65535 →
  (∀ n6 : Int, 0 ≤ n6 → n6 ≤ 65535 →
  (∀ n7 : Int, 0 ≤ n7 → n7 ≤ 65535 →
  (∀ n8 : Int, 0 ≤ n8 → n8 ≤ 65535 →
  (∀ n9 : Int, 0 ≤ n9 → n9 ≤ 65535 →
  (∀ n10 : Int, 0 ≤ n10 → n10 ≤ 65535 →
  (∀ n11 : Int, 0 ≤ n11 → n11 ≤ 65535 →
  (∀ n12 : Int, 0 ≤ n12 → n12 ≤ 65535 →
  (∀ n13 : Int, 0 ≤ n13 → n13 ≤ 65535 →
  (∀ n14 : Int, 0 ≤ n14 → n14 ≤ 65535 →
  (Post_read [[n1, n2]] [[b2i t, n3, n4, n5, n6, n7, n8, n9, n10, n11, n12, n13, n14]] →
  Post_small [[n]] [[b2i t, n3, n4, n5, n6, n7, n8, n9, n10, n11, n12, n13, n14]]))))))))))))))))))))))
theorem c_small : canCall Tryd.prog 50 = true := by kernel_rfl
theorem s_small : P_small = sat E (symTop Tryd.prog tab31 2000 50 ash_small sh_small) := by kernel_rfl
theorem pure_small (hV : Valid Tryd.prog tab31 E) (h : P_small) (args : List Value) (ha : shaFits ash_small args) (hp : E.pre 50 (args.map vints)) : Pure Tryd.prog 50 args.toArray fun v => sh_small.fits v ∧ E.post 50 (args.map vints) (vres v) := @top_sat Tryd.prog tab31 E hV 2000 50 ash_small sh_small (@Eq.mp _ _ s_small h) args ha hp
theorem step_small (hV : Valid Tryd.prog tab31 E) (h : P_small) : Valid Tryd.prog tab32 E := hV.add c_small (pure_small hV h)

/-- gouache/gouacheref01.Tell -/
def P_tell : Prop :=
  (∀ t : Bool, (∀ n : Int, 0 ≤ n → n ≤ 65535 →
  (∀ n1 : Int, 0 ≤ n1 → n1 ≤ 65535 →
  (∀ n2 : Int, 0 ≤ n2 → n2 ≤ 65535 →
  (∀ n3 : Int, 0 ≤ n3 → n3 ≤ 65535 →
  (∀ n4 : Int, 0 ≤ n4 → n4 ≤ 65535 →
  (∀ n5 : Int, 0 ≤ n5 → n5 ≤ 65535 →
  (∀ n6 : Int, 0 ≤ n6 → n6 ≤ 65535 →
  (∀ n7 : Int, 0 ≤ n7 → n7 ≤ 65535 →
  (∀ n8 : Int, 0 ≤ n8 → n8 ≤ 65535 →
  (∀ n9 : Int, 0 ≤ n9 → n9 ≤ 65535 →
  (∀ n10 : Int, 0 ≤ n10 → n10 ≤ 65535 →
  (∀ n11 : Int, 0 ≤ n11 → n11 ≤ 65535 →
  (Pre_tell [[b2i t, n, n1, n2, n3, n4, n5, n6, n7, n8, n9, n10, n11]] →
  (∀ b : Nat, (∀ b1 : Nat, (∀ b2 : Nat, (Pre_compare [[n, n1, n2, n3, n4, n5, n6, n7, n8, n9, n10, n11], [0, 0, 0, 0, 0, 0, 0, 32768, 0, 0, 0, 0]] ∧
  (∀ n12 : Int, (-1) ≤ n12 → n12 ≤ 1 →
  (Post_compare [[n, n1, n2, n3, n4, n5, n6, n7, n8, n9, n10, n11], [0, 0, 0, 0, 0, 0, 0, 32768, 0, 0, 0, 0]] [[n12]] →
  (((0 < n12) →
    Post_tell [[b2i t, n, n1, n2, n3, n4, n5, n6, n7, n8, n9, n10, n11]] [[0, 0], [11]]) ∧
   (¬ (0 < n12) →
    (((n12 = 0) →
      (((¬ (t = true)) →
        Post_tell [[b2i t, n, n1, n2, n3, n4, n5, n6, n7, n8, n9, n10, n11]] [[0, 0], [11]]) ∧
       (¬ (¬ (t = true)) →
        (((t = true) →
          (Pre_zero [[b2i t, n, n1, n2, n3, n4, n5, n6, n7, n8, n9, n10, n11]] ∧
          (∀ t1 : Bool, (Post_zero [[b2i t, n, n1, n2, n3, n4, n5, n6, n7, n8, n9, n10, n11]] [[b2i t1]] →
          (((¬ (t1 = true)) →
            (Pre_less [[0, 0, 0, 0, 0, 0, 0, 0, 1, 0, 0, 0], [n, n1, n2, n3, n4, n5, n6, n7, n8, n9, n10, n11]] ∧
            (∀ n13 : Int, 0 ≤ n13 → n13 ≤ 65535 →
            (∀ n14 : Int, 0 ≤ n14 → n14 ≤ 65535 →
            (∀ n15 : Int, 0 ≤ n15 → n15 ≤ 65535 →
            (∀ n16 : Int, 0 ≤ n16 → n16 ≤ 65535 →
            (∀ n17 : Int, 0 ≤ n17 → n17 ≤ 65535 →
            (∀ n18 : Int, 0 ≤ n18 → n18 ≤ 65535 →
            (∀ n19 : Int, 0 ≤ n19 → n19 ≤ 65535 →
            (∀ n20 : Int, 0 ≤ n20 → n20 ≤ 65535 →
            (∀ n21 : Int, 0 ≤ n21 → n21 ≤ 65535 →
            (∀ n22 : Int, 0 ≤ n22 → n22 ≤ 65535 →
            (∀ n23 : Int, 0 ≤ n23 → n23 ≤ 65535 →
            (∀ n24 : Int, 0 ≤ n24 → n24 ≤ 65535 →
            (Post_less [[0, 0, 0, 0, 0, 0, 0, 0, 1, 0, 0, 0], [n, n1, n2, n3, n4, n5, n6, n7, n8, n9, n10, n11]] [[n13, n14, n15, n16, n17, n18, n19, n20, n21, n22, n23, n24]] →
            (∀ n25 : Int, n25 = ((n16 * 65536) + n15) → 0 ≤ n25 → n25 ≤ 4294967295 →
            (∀ n26 : Int, n26 = ((n20 * 65536) + n19) → 0 ≤ n26 → n26 ≤ 4294967295 →
            (∀ n27 : Int, n27 = ((n25 * 65536) + n14) → 0 ≤ n27 → n27 ≤ 281474976710655 →
            (∀ n28 : Int, n28 = ((n26 * 65536) + n18) → 0 ≤ n28 → n28 ≤ 281474976710655 →
            (∀ n29 : Int, n29 = ((n27 * 65536) + n13) → 0 ≤ n29 → n29 ≤ 18446744073709551615 →
            (∀ n30 : Int, n30 = ((n28 * 65536) + n17) → 0 ≤ n30 → n30 ≤ 18446744073709551615 →
            (∀ n31 : Int, n31 = (IntKind.wrap .i64 n30) → (-9223372036854775808) ≤ n31 → n31 ≤ 9223372036854775807 →
            Post_tell [[b2i t, n, n1, n2, n3, n4, n5, n6, n7, n8, n9, n10, n11]] [[n31, n29], [0]])))))))))))))))))))))) ∧
           (¬ (¬ (t1 = true)) →
            (∀ n13 : Int, n13 = ((n3 * 65536) + n2) → 0 ≤ n13 → n13 ≤ 4294967295 →
            (∀ n14 : Int, n14 = ((n7 * 65536) + n6) → 0 ≤ n14 → n14 ≤ 4294967295 →
            (∀ n15 : Int, n15 = ((n13 * 65536) + n1) → 0 ≤ n15 → n15 ≤ 281474976710655 →
            (∀ n16 : Int, n16 = ((n14 * 65536) + n5) → 0 ≤ n16 → n16 ≤ 281474976710655 →
            (∀ n17 : Int, n17 = ((n15 * 65536) + n) → 0 ≤ n17 → n17 ≤ 18446744073709551615 →
            (∀ n18 : Int, n18 = ((n16 * 65536) + n4) → 0 ≤ n18 → n18 ≤ 18446744073709551615 →
            (∀ n19 : Int, n19 = (IntKind.wrap .i64 n18) → (-9223372036854775808) ≤ n19 → n19 ≤ 9223372036854775807 →
            Post_tell [[b2i t, n, n1, n2, n3, n4, n5, n6, n7, n8, n9, n10, n11]] [[n19, n17], [0]]))))))))))))) ∧
         (¬ (t = true) →
          (∀ n13 : Int, n13 = ((n3 * 65536) + n2) → 0 ≤ n13 → n13 ≤ 4294967295 →
          (∀ n14 : Int, n14 = ((n7 * 65536) + n6) → 0 ≤ n14 → n14 ≤ 4294967295 →
          (∀ n15 : Int, n15 = ((n13 * 65536) + n1) → 0 ≤ n15 → n15 ≤ 281474976710655 →
          (∀ n16 : Int, n16 = ((n14 * 65536) + n5) → 0 ≤ n16 → n16 ≤ 281474976710655 →
          (∀ n17 : Int, n17 = ((n15 * 65536) + n) → 0 ≤ n17 → n17 ≤ 18446744073709551615 →
          (∀ n18 : Int, n18 = ((n16 * 65536) + n4) → 0 ≤ n18 → n18 ≤ 18446744073709551615 →
          (∀ n19 : Int, n19 = (IntKind.wrap .i64 n18) → (-9223372036854775808) ≤ n19 → n19 ≤ 9223372036854775807 →
          Post_tell [[b2i t, n, n1, n2, n3, n4, n5, n6, n7, n8, n9, n10, n11]] [[n19, n17], [0]])))))))))))) ∧
     (¬ (n12 = 0) →
      (((t = true) →
        (Pre_zero [[b2i t, n, n1, n2, n3, n4, n5, n6, n7, n8, n9, n10, n11]] ∧
        (∀ t1 : Bool, (Post_zero [[b2i t, n, n1, n2, n3, n4, n5, n6, n7, n8, n9, n10, n11]] [[b2i t1]] →
        (((¬ (t1 = true)) →
          (Pre_less [[0, 0, 0, 0, 0, 0, 0, 0, 1, 0, 0, 0], [n, n1, n2, n3, n4, n5, n6, n7, n8, n9, n10, n11]] ∧
          (∀ n13 : Int, 0 ≤ n13 → n13 ≤ 65535 →
          (∀ n14 : Int, 0 ≤ n14 → n14 ≤ 65535 →
          (∀ n15 : Int, 0 ≤ n15 → n15 ≤ 65535 →
          (∀ n16 : Int, 0 ≤ n16 → n16 ≤ 65535 →
          (∀ n17 : Int, 0 ≤ n17 → n17 ≤ 65535 →
          (∀ n18 : Int, 0 ≤ n18 → n18 ≤ 65535 →
          (∀ n19 : Int, 0 ≤ n19 → n19 ≤ 65535 →
          (∀ n20 : Int, 0 ≤ n20 → n20 ≤ 65535 →
          (∀ n21 : Int, 0 ≤ n21 → n21 ≤ 65535 →
          (∀ n22 : Int, 0 ≤ n22 → n22 ≤ 65535 →
          (∀ n23 : Int, 0 ≤ n23 → n23 ≤ 65535 →
          (∀ n24 : Int, 0 ≤ n24 → n24 ≤ 65535 →
          (Post_less [[0, 0, 0, 0, 0, 0, 0, 0, 1, 0, 0, 0], [n, n1, n2, n3, n4, n5, n6, n7, n8, n9, n10, n11]] [[n13, n14, n15, n16, n17, n18, n19, n20, n21, n22, n23, n24]] →
          (∀ n25 : Int, n25 = ((n16 * 65536) + n15) → 0 ≤ n25 → n25 ≤ 4294967295 →
          (∀ n26 : Int, n26 = ((n20 * 65536) + n19) → 0 ≤ n26 → n26 ≤ 4294967295 →
          (∀ n27 : Int, n27 = ((n25 * 65536) + n14) → 0 ≤ n27 → n27 ≤ 281474976710655 →
          (∀ n28 : Int, n28 = ((n26 * 65536) + n18) → 0 ≤ n28 → n28 ≤ 281474976710655 →
          (∀ n29 : Int, n29 = ((n27 * 65536) + n13) → 0 ≤ n29 → n29 ≤ 18446744073709551615 →
          (∀ n30 : Int, n30 = ((n28 * 65536) + n17) → 0 ≤ n30 → n30 ≤ 18446744073709551615 →
          (∀ n31 : Int, n31 = (IntKind.wrap .i64 n30) → (-9223372036854775808) ≤ n31 → n31 ≤ 9223372036854775807 →
          Post_tell [[b2i t, n, n1, n2, n3, n4, n5, n6, n7, n8, n9, n10, n11]] [[n31, n29], [0]])))))))))))))))))))))) ∧
         (¬ (¬ (t1 = true)) →
          (∀ n13 : Int, n13 = ((n3 * 65536) + n2) → 0 ≤ n13 → n13 ≤ 4294967295 →
          (∀ n14 : Int, n14 = ((n7 * 65536) + n6) → 0 ≤ n14 → n14 ≤ 4294967295 →
          (∀ n15 : Int, n15 = ((n13 * 65536) + n1) → 0 ≤ n15 → n15 ≤ 281474976710655 →
          (∀ n16 : Int, n16 = ((n14 * 65536) + n5) → 0 ≤ n16 → n16 ≤ 281474976710655 →
          (∀ n17 : Int, n17 = ((n15 * 65536) + n) → 0 ≤ n17 → n17 ≤ 18446744073709551615 →
          (∀ n18 : Int, n18 = ((n16 * 65536) + n4) → 0 ≤ n18 → n18 ≤ 18446744073709551615 →
          (∀ n19 : Int, n19 = (IntKind.wrap .i64 n18) → (-9223372036854775808) ≤ n19 → n19 ≤ 9223372036854775807 →
          Post_tell [[b2i t, n, n1, n2, n3, n4, n5, n6, n7, n8, n9, n10, n11]] [[n19, n17], [0]]))))))))))))) ∧
       (¬ (t = true) →
        (∀ n13 : Int, n13 = ((n3 * 65536) + n2) → 0 ≤ n13 → n13 ≤ 4294967295 →
        (∀ n14 : Int, n14 = ((n7 * 65536) + n6) → 0 ≤ n14 → n14 ≤ 4294967295 →
        (∀ n15 : Int, n15 = ((n13 * 65536) + n1) → 0 ≤ n15 → n15 ≤ 281474976710655 →
        (∀ n16 : Int, n16 = ((n14 * 65536) + n5) → 0 ≤ n16 → n16 ≤ 281474976710655 →
        (∀ n17 : Int, n17 = ((n15 * 65536) + n) → 0 ≤ n17 → n17 ≤ 18446744073709551615 →
        (∀ n18 : Int, n18 = ((n16 * 65536) + n4) → 0 ≤ n18 → n18 ≤ 18446744073709551615 →
        (∀ n19 : Int, n19 = (IntKind.wrap .i64 n18) → (-9223372036854775808) ≤ n19 → n19 ≤ 9223372036854775807 →
        Post_tell [[b2i t, n, n1, n2, n3, n4, n5, n6, n7, n8, n9, n10, n11]] [[n19, n17], [0]])))))))))))))))))))))))))))))))))
theorem c_tell : canCall Tryd.prog 47 = true := by kernel_rfl
theorem s_tell : P_tell = sat E (symTop Tryd.prog tab32 2000 47 ash_tell sh_tell) := by kernel_rfl
theorem pure_tell (hV : Valid Tryd.prog tab32 E) (h : P_tell) (args : List Value) (ha : shaFits ash_tell args) (hp : E.pre 47 (args.map vints)) : Pure Tryd.prog 47 args.toArray fun v => sh_tell.fits v ∧ E.post 47 (args.map vints) (vres v) := @top_sat Tryd.prog tab32 E hV 2000 47 ash_tell sh_tell (@Eq.mp _ _ s_tell h) args ha hp
theorem step_tell (hV : Valid Tryd.prog tab32 E) (h : P_tell) : Valid Tryd.prog tab33 E := hV.add c_tell (pure_tell hV h)

/-- gouache/gouacheref01.divided -/
def P_divided : Prop :=
  (∀ n : Int, 0 ≤ n → n ≤ 65535 →
  (∀ n1 : Int, 0 ≤ n1 → n1 ≤ 65535 →
  (∀ n2 : Int, 0 ≤ n2 → n2 ≤ 65535 →
  (∀ n3 : Int, 0 ≤ n3 → n3 ≤ 65535 →
  (∀ n4 : Int, 0 ≤ n4 → n4 ≤ 65535 →
  (∀ n5 : Int, 0 ≤ n5 → n5 ≤ 65535 →
  (∀ n6 : Int, 0 ≤ n6 → n6 ≤ 65535 →
  (∀ n7 : Int, 0 ≤ n7 → n7 ≤ 65535 →
  (∀ n8 : Int, 0 ≤ n8 → n8 ≤ 65535 →
  (∀ n9 : Int, 0 ≤ n9 → n9 ≤ 65535 →
  (∀ n10 : Int, 0 ≤ n10 → n10 ≤ 65535 →
  (∀ n11 : Int, 0 ≤ n11 → n11 ≤ 65535 →
  (∀ n12 : Int, 0 ≤ n12 → n12 ≤ 65535 →
  (∀ n13 : Int, 0 ≤ n13 → n13 ≤ 65535 →
  (∀ n14 : Int, 0 ≤ n14 → n14 ≤ 65535 →
  (∀ n15 : Int, 0 ≤ n15 → n15 ≤ 65535 →
  (∀ n16 : Int, 0 ≤ n16 → n16 ≤ 65535 →
  (∀ n17 : Int, 0 ≤ n17 → n17 ≤ 65535 →
  (∀ n18 : Int, 0 ≤ n18 → n18 ≤ 65535 →
  (∀ n19 : Int, 0 ≤ n19 → n19 ≤ 65535 →
  (∀ n20 : Int, 0 ≤ n20 → n20 ≤ 65535 →
  (∀ n21 : Int, 0 ≤ n21 → n21 ≤ 65535 →
  (∀ n22 : Int, 0 ≤ n22 → n22 ≤ 65535 →
  (∀ n23 : Int, 0 ≤ n23 → n23 ≤ 65535 →
  (Pre_divided [[n, n1, n2, n3, n4, n5, n6, n7, n8, n9, n10, n11], [n12, n13, n14, n15, n16, n17, n18, n19, n20, n21, n22, n23]] →
  (∀ b : Nat, (∀ b1 : Nat, (∀ b2 : Nat, (∀ b3 : Nat, (∀ b4 : Nat, (∀ b5 : Nat, (Inv_divided [n, n1, n2, n3, n4, n5, n6, n7, n8, n9, n10, n11, n12, n13, n14, n15, n16, n17, n18, n19, n20, n21, n22, n23] [191, 0, 0, 0, 0, 0, 0, 0, 0, 0, 0, 0, 0, 0, 0, 0, 0, 0, 0, 0, 0, 0, 0, 0, 0] ∧
  (∀ n24 : Int, (-1) ≤ n24 → n24 ≤ 191 →
  (∀ n25 : Int, 0 ≤ n25 → n25 ≤ 65535 →
  (∀ n26 : Int, 0 ≤ n26 → n26 ≤ 65535 →
  (∀ n27 : Int, 0 ≤ n27 → n27 ≤ 65535 →
  (∀ n28 : Int, 0 ≤ n28 → n28 ≤ 65535 →
  (∀ n29 : Int, 0 ≤ n29 → n29 ≤ 65535 →
  (∀ n30 : Int, 0 ≤ n30 → n30 ≤ 65535 →
  (∀ n31 : Int, 0 ≤ n31 → n31 ≤ 65535 →
  (∀ n32 : Int, 0 ≤ n32 → n32 ≤ 65535 →
  (∀ n33 : Int, 0 ≤ n33 → n33 ≤ 65535 →
  (∀ n34 : Int, 0 ≤ n34 → n34 ≤ 65535 →
  (∀ n35 : Int, 0 ≤ n35 → n35 ≤ 65535 →
  (∀ n36 : Int, 0 ≤ n36 → n36 ≤ 65535 →
  (∀ n37 : Int, 0 ≤ n37 → n37 ≤ 65535 →
  (∀ n38 : Int, 0 ≤ n38 → n38 ≤ 65535 →
  (∀ n39 : Int, 0 ≤ n39 → n39 ≤ 65535 →
  (∀ n40 : Int, 0 ≤ n40 → n40 ≤ 65535 →
  (∀ n41 : Int, 0 ≤ n41 → n41 ≤ 65535 →
  (∀ n42 : Int, 0 ≤ n42 → n42 ≤ 65535 →
  (∀ n43 : Int, 0 ≤ n43 → n43 ≤ 65535 →
  (∀ n44 : Int, 0 ≤ n44 → n44 ≤ 65535 →
  (∀ n45 : Int, 0 ≤ n45 → n45 ≤ 65535 →
  (∀ n46 : Int, 0 ≤ n46 → n46 ≤ 65535 →
  (∀ n47 : Int, 0 ≤ n47 → n47 ≤ 65535 →
  (∀ n48 : Int, 0 ≤ n48 → n48 ≤ 65535 →
  (Inv_divided [n, n1, n2, n3, n4, n5, n6, n7, n8, n9, n10, n11, n12, n13, n14, n15, n16, n17, n18, n19, n20, n21, n22, n23] [n24, n25, n26, n27, n28, n29, n30, n31, n32, n33, n34, n35, n36, n37, n38, n39, n40, n41, n42, n43, n44, n45, n46, n47, n48] →
  (∀ vs : List Value, vs.length = 34 →
  (((0 ≤ n24) →
    (Pre_plus [[n37, n38, n39, n40, n41, n42, n43, n44, n45, n46, n47, n48], [n37, n38, n39, n40, n41, n42, n43, n44, n45, n46, n47, n48]] ∧
    (∀ n49 : Int, 0 ≤ n49 → n49 ≤ 65535 →
    (∀ n50 : Int, 0 ≤ n50 → n50 ≤ 65535 →
    (∀ n51 : Int, 0 ≤ n51 → n51 ≤ 65535 →
    (∀ n52 : Int, 0 ≤ n52 → n52 ≤ 65535 →
    (∀ n53 : Int, 0 ≤ n53 → n53 ≤ 65535 →
    (∀ n54 : Int, 0 ≤ n54 → n54 ≤ 65535 →
    (∀ n55 : Int, 0 ≤ n55 → n55 ≤ 65535 →
    (∀ n56 : Int, 0 ≤ n56 → n56 ≤ 65535 →
    (∀ n57 : Int, 0 ≤ n57 → n57 ≤ 65535 →
    (∀ n58 : Int, 0 ≤ n58 → n58 ≤ 65535 →
    (∀ n59 : Int, 0 ≤ n59 → n59 ≤ 65535 →
    (∀ n60 : Int, 0 ≤ n60 → n60 ≤ 65535 →
    (Post_plus [[n37, n38, n39, n40, n41, n42, n43, n44, n45, n46, n47, n48], [n37, n38, n39, n40, n41, n42, n43, n44, n45, n46, n47, n48]] [[n49, n50, n51, n52, n53, n54, n55, n56, n57, n58, n59, n60]] →
    ((0 ≤ (n24.tdiv 16)) ∧
    (((n24.tdiv 16) < 12) ∧
    ((0 ≤ (n24.tmod 16)) ∧
    (∀ n61 : Int, n61 = (n24.tmod 16) → 0 ≤ n61 → n61 ≤ 191 →
    (∀ n62 : Int, n62 = (IntKind.wrap .i64 (n49 + ((shI .shr .i64 (if (n24.tdiv 16) = 0 then n else (if (n24.tdiv 16) = 1 then n1 else (if (n24.tdiv 16) = 2 then n2 else (if (n24.tdiv 16) = 3 then n3 else (if (n24.tdiv 16) = 4 then n4 else (if (n24.tdiv 16) = 5 then n5 else (if (n24.tdiv 16) = 6 then n6 else (if (n24.tdiv 16) = 7 then n7 else (if (n24.tdiv 16) = 8 then n8 else (if (n24.tdiv 16) = 9 then n9 else (if (n24.tdiv 16) = 10 then n10 else n11))))))))))) n61).tmod 2))) → (-9223372036854775808) ≤ n62 → n62 ≤ 9223372036854775807 →
    (Pre_plus [[n25, n26, n27, n28, n29, n30, n31, n32, n33, n34, n35, n36], [n25, n26, n27, n28, n29, n30, n31, n32, n33, n34, n35, n36]] ∧
    (∀ n63 : Int, 0 ≤ n63 → n63 ≤ 65535 →
    (∀ n64 : Int, 0 ≤ n64 → n64 ≤ 65535 →
    (∀ n65 : Int, 0 ≤ n65 → n65 ≤ 65535 →
    (∀ n66 : Int, 0 ≤ n66 → n66 ≤ 65535 →
    (∀ n67 : Int, 0 ≤ n67 → n67 ≤ 65535 →
    (∀ n68 : Int, 0 ≤ n68 → n68 ≤ 65535 →
    (∀ n69 : Int, 0 ≤ n69 → n69 ≤ 65535 →
    (∀ n70 : Int, 0 ≤ n70 → n70 ≤ 65535 →
    (∀ n71 : Int, 0 ≤ n71 → n71 ≤ 65535 →
    (∀ n72 : Int, 0 ≤ n72 → n72 ≤ 65535 →
    (∀ n73 : Int, 0 ≤ n73 → n73 ≤ 65535 →
    (∀ n74 : Int, 0 ≤ n74 → n74 ≤ 65535 →
    (Post_plus [[n25, n26, n27, n28, n29, n30, n31, n32, n33, n34, n35, n36], [n25, n26, n27, n28, n29, n30, n31, n32, n33, n34, n35, n36]] [[n63, n64, n65, n66, n67, n68, n69, n70, n71, n72, n73, n74]] →
    ((0 ≤ n62) ∧
    ((n62 ≤ 65535) ∧
    (∀ n75 : Int, n75 = n62 → 0 ≤ n75 → n75 ≤ 65535 →
    (Pre_compare [[n75, n50, n51, n52, n53, n54, n55, n56, n57, n58, n59, n60], [n12, n13, n14, n15, n16, n17, n18, n19, n20, n21, n22, n23]] ∧
    (∀ n76 : Int, (-1) ≤ n76 → n76 ≤ 1 →
    (Post_compare [[n75, n50, n51, n52, n53, n54, n55, n56, n57, n58, n59, n60], [n12, n13, n14, n15, n16, n17, n18, n19, n20, n21, n22, n23]] [[n76]] →
    (((0 ≤ n76) →
      ((0 ≤ n62) ∧
      ((n62 ≤ 65535) ∧
      (∀ n77 : Int, n77 = n62 → 0 ≤ n77 → n77 ≤ 65535 →
      (Pre_less [[n77, n50, n51, n52, n53, n54, n55, n56, n57, n58, n59, n60], [n12, n13, n14, n15, n16, n17, n18, n19, n20, n21, n22, n23]] ∧
      (∀ n78 : Int, 0 ≤ n78 → n78 ≤ 65535 →
      (∀ n79 : Int, 0 ≤ n79 → n79 ≤ 65535 →
      (∀ n80 : Int, 0 ≤ n80 → n80 ≤ 65535 →
      (∀ n81 : Int, 0 ≤ n81 → n81 ≤ 65535 →
      (∀ n82 : Int, 0 ≤ n82 → n82 ≤ 65535 →
      (∀ n83 : Int, 0 ≤ n83 → n83 ≤ 65535 →
      (∀ n84 : Int, 0 ≤ n84 → n84 ≤ 65535 →
      (∀ n85 : Int, 0 ≤ n85 → n85 ≤ 65535 →
      (∀ n86 : Int, 0 ≤ n86 → n86 ≤ 65535 →
      (∀ n87 : Int, 0 ≤ n87 → n87 ≤ 65535 →
      (∀ n88 : Int, 0 ≤ n88 → n88 ≤ 65535 →
      (∀ n89 : Int, 0 ≤ n89 → n89 ≤ 65535 →
      (Post_less [[n77, n50, n51, n52, n53, n54, n55, n56, n57, n58, n59, n60], [n12, n13, n14, n15, n16, n17, n18, n19, n20, n21, n22, n23]] [[n78, n79, n80, n81, n82, n83, n84, n85, n86, n87, n88, n89]] →
      (∀ n90 : Int, n90 = (n63 + 1) → 1 ≤ n90 → n90 ≤ 65536 →
      (∀ n91 : Int, n91 = (n24 - 1) → (-2) ≤ n91 → n91 ≤ 190 →
      (((-1) ≤ n91) ∧
      (∀ n92 : Int, n92 = n91 → (-1) ≤ n92 → n92 ≤ 191 →
      ((n90 ≤ 65535) ∧
      (∀ n93 : Int, n93 = n90 → 0 ≤ n93 → n93 ≤ 65535 →
      (Inv_divided [n, n1, n2, n3, n4, n5, n6, n7, n8, n9, n10, n11, n12, n13, n14, n15, n16, n17, n18, n19, n20, n21, n22, n23] [n92, n93, n64, n65, n66, n67, n68, n69, n70, n71, n72, n73, n74, n78, n79, n80, n81, n82, n83, n84, n85, n86, n87, n88, n89] ∧ Mea_divided [n, n1, n2, n3, n4, n5, n6, n7, n8, n9, n10, n11, n12, n13, n14, n15, n16, n17, n18, n19, n20, n21, n22, n23] [n92, n93, n64, n65, n66, n67, n68, n69, n70, n71, n72, n73, n74, n78, n79, n80, n81, n82, n83, n84, n85, n86, n87, n88, n89] < Mea_divided [n, n1, n2, n3, n4, n5, n6, n7, n8, n9, n10, n11, n12, n13, n14, n15, n16, n17, n18, n19, n20, n21, n22, n23] [n24, n25, n26, n27, n28, n29, n30, n31, n32, n33, n34, n35, n36, n37, n38, n39, n40, n41, n42, n43, n44, n45, n46, n47, n48]))))))))))))))))))))))))) ∧
     (¬ (0 ≤ n76) →
      (∀ n77 : Int, n77 = (n24 - 1) → (-2) ≤ n77 → n77 ≤ 190 →
      (((-1) ≤ n77) ∧
      (∀ n78 : Int, n78 = n77 → (-1) ≤ n78 → n78 ≤ 191 →
      ((0 ≤ n62) ∧
      ((n62 ≤ 65535) ∧
      (∀ n79 : Int, n79 = n62 → 0 ≤ n79 → n79 ≤ 65535 →
      (Inv_divided [n, n1, n2, n3, n4, n5, n6, n7, n8, n9, n10, n11, n12, n13, n14, n15, n16, n17, n18, n19, n20, n21, n22, n23] [n78, n63, n64, n65, n66, n67, n68, n69, n70, n71, n72, n73, n74, n79, n50, n51, n52, n53, n54, n55, n56, n57, n58, n59, n60] ∧ Mea_divided [n, n1, n2, n3, n4, n5, n6, n7, n8, n9, n10, n11, n12, n13, n14, n15, n16, n17, n18, n19, n20, n21, n22, n23] [n78, n63, n64, n65, n66, n67, n68, n69, n70, n71, n72, n73, n74, n79, n50, n51, n52, n53, n54, n55, n56, n57, n58, n59, n60] < Mea_divided [n, n1, n2, n3, n4, n5, n6, n7, n8, n9, n10, n11, n12, n13, n14, n15, n16, n17, n18, n19, n20, n21, n22, n23] [n24, n25, n26, n27, n28, n29, n30, n31, n32, n33, n34, n35, n36, n37, n38, n39, n40, n41, n42, n43, n44, n45, n46, n47, n48]))))))))))))))))))))))))))))))))))))))))))))))))) ∧
   (¬ (0 ≤ n24) →
    Post_divided [[n, n1, n2, n3, n4, n5, n6, n7, n8, n9, n10, n11], [n12, n13, n14, n15, n16, n17, n18, n19, n20, n21, n22, n23]] [[n25, n26, n27, n28, n29, n30, n31, n32, n33, n34, n35, n36], [n37, n38, n39, n40, n41, n42, n43, n44, n45, n46, n47, n48]])))))))))))))))))))))))))))))))))))))))))))))))))))))))))))))
theorem c_divided : canCall Tryd.prog 71 = true := by kernel_rfl
theorem s_divided : P_divided = sat E (symTop Tryd.prog tab33 2000 71 ash_divided sh_divided) := by kernel_rfl
theorem pure_divided (hV : Valid Tryd.prog tab33 E) (h : P_divided) (args : List Value) (ha : shaFits ash_divided args) (hp : E.pre 71 (args.map vints)) : Pure Tryd.prog 71 args.toArray fun v => sh_divided.fits v ∧ E.post 71 (args.map vints) (vres v) := @top_sat Tryd.prog tab33 E hV 2000 71 ash_divided sh_divided (@Eq.mp _ _ s_divided h) args ha hp
theorem step_divided (hV : Valid Tryd.prog tab33 E) (h : P_divided) : Valid Tryd.prog tab34 E := hV.add c_divided (pure_divided hV h)

/-- gouache/gouacheref01.Nearest -/
def P_nearest : Prop :=
  (∀ t : Bool, (∀ n : Int, 0 ≤ n → n ≤ 65535 →
  (∀ n1 : Int, 0 ≤ n1 → n1 ≤ 65535 →
  (∀ n2 : Int, 0 ≤ n2 → n2 ≤ 65535 →
  (∀ n3 : Int, 0 ≤ n3 → n3 ≤ 65535 →
  (∀ n4 : Int, 0 ≤ n4 → n4 ≤ 65535 →
  (∀ n5 : Int, 0 ≤ n5 → n5 ≤ 65535 →
  (∀ n6 : Int, 0 ≤ n6 → n6 ≤ 65535 →
  (∀ n7 : Int, 0 ≤ n7 → n7 ≤ 65535 →
  (∀ n8 : Int, 0 ≤ n8 → n8 ≤ 65535 →
  (∀ n9 : Int, 0 ≤ n9 → n9 ≤ 65535 →
  (∀ n10 : Int, 0 ≤ n10 → n10 ≤ 65535 →
  (∀ n11 : Int, 0 ≤ n11 → n11 ≤ 65535 →
  (∀ t1 : Bool, (∀ n12 : Int, 0 ≤ n12 → n12 ≤ 65535 →
  (∀ n13 : Int, 0 ≤ n13 → n13 ≤ 65535 →
  (∀ n14 : Int, 0 ≤ n14 → n14 ≤ 65535 →
  (∀ n15 : Int, 0 ≤ n15 → n15 ≤ 65535 →
  (∀ n16 : Int, 0 ≤ n16 → n16 ≤ 65535 →
  (∀ n17 : Int, 0 ≤ n17 → n17 ≤ 65535 →
  (∀ n18 : Int, 0 ≤ n18 → n18 ≤ 65535 →
  (∀ n19 : Int, 0 ≤ n19 → n19 ≤ 65535 →
  (∀ n20 : Int, 0 ≤ n20 → n20 ≤ 65535 →
  (∀ n21 : Int, 0 ≤ n21 → n21 ≤ 65535 →
  (∀ n22 : Int, 0 ≤ n22 → n22 ≤ 65535 →
  (∀ n23 : Int, 0 ≤ n23 → n23 ≤ 65535 →
  (Pre_nearest [[b2i t, n, n1, n2, n3, n4, n5, n6, n7, n8, n9, n10, n11], [b2i t1, n12, n13, n14, n15, n16, n17, n18, n19, n20, n21, n22, n23]] →
  (∀ b : Nat, (∀ b1 : Nat, (∀ b2 : Nat, (((t1 = true) →
    (Pre_minus [[b2i t, n, n1, n2, n3, n4, n5, n6, n7, n8, n9, n10, n11]] ∧
    (∀ t2 : Bool, (∀ n24 : Int, 0 ≤ n24 → n24 ≤ 65535 →
    (∀ n25 : Int, 0 ≤ n25 → n25 ≤ 65535 →
    (∀ n26 : Int, 0 ≤ n26 → n26 ≤ 65535 →
    (∀ n27 : Int, 0 ≤ n27 → n27 ≤ 65535 →
    (∀ n28 : Int, 0 ≤ n28 → n28 ≤ 65535 →
    (∀ n29 : Int, 0 ≤ n29 → n29 ≤ 65535 →
    (∀ n30 : Int, 0 ≤ n30 → n30 ≤ 65535 →
    (∀ n31 : Int, 0 ≤ n31 → n31 ≤ 65535 →
    (∀ n32 : Int, 0 ≤ n32 → n32 ≤ 65535 →
    (∀ n33 : Int, 0 ≤ n33 → n33 ≤ 65535 →
    (∀ n34 : Int, 0 ≤ n34 → n34 ≤ 65535 →
    (∀ n35 : Int, 0 ≤ n35 → n35 ≤ 65535 →
    (Post_minus [[b2i t, n, n1, n2, n3, n4, n5, n6, n7, n8, n9, n10, n11]] [[b2i t2, n24, n25, n26, n27, n28, n29, n30, n31, n32, n33, n34, n35]] →
    (Pre_minus [[b2i t1, n12, n13, n14, n15, n16, n17, n18, n19, n20, n21, n22, n23]] ∧
    (∀ t3 : Bool, (∀ n36 : Int, 0 ≤ n36 → n36 ≤ 65535 →
    (∀ n37 : Int, 0 ≤ n37 → n37 ≤ 65535 →
    (∀ n38 : Int, 0 ≤ n38 → n38 ≤ 65535 →
    (∀ n39 : Int, 0 ≤ n39 → n39 ≤ 65535 →
    (∀ n40 : Int, 0 ≤ n40 → n40 ≤ 65535 →
    (∀ n41 : Int, 0 ≤ n41 → n41 ≤ 65535 →
    (∀ n42 : Int, 0 ≤ n42 → n42 ≤ 65535 →
    (∀ n43 : Int, 0 ≤ n43 → n43 ≤ 65535 →
    (∀ n44 : Int, 0 ≤ n44 → n44 ≤ 65535 →
    (∀ n45 : Int, 0 ≤ n45 → n45 ≤ 65535 →
    (∀ n46 : Int, 0 ≤ n46 → n46 ≤ 65535 →
    (∀ n47 : Int, 0 ≤ n47 → n47 ≤ 65535 →
    (Post_minus [[b2i t1, n12, n13, n14, n15, n16, n17, n18, n19, n20, n21, n22, n23]] [[b2i t3, n36, n37, n38, n39, n40, n41, n42, n43, n44, n45, n46, n47]] →
    (Pre_sum [[b2i t2, n24, n25, n26, n27, n28, n29, n30, n31, n32, n33, n34, n35], [b2i t2, n24, n25, n26, n27, n28, n29, n30, n31, n32, n33, n34, n35]] ∧
    (∀ t4 : Bool, (∀ n48 : Int, 0 ≤ n48 → n48 ≤ 65535 →
    (∀ n49 : Int, 0 ≤ n49 → n49 ≤ 65535 →
    (∀ n50 : Int, 0 ≤ n50 → n50 ≤ 65535 →
    (∀ n51 : Int, 0 ≤ n51 → n51 ≤ 65535 →
    (∀ n52 : Int, 0 ≤ n52 → n52 ≤ 65535 →
    (∀ n53 : Int, 0 ≤ n53 → n53 ≤ 65535 →
    (∀ n54 : Int, 0 ≤ n54 → n54 ≤ 65535 →
    (∀ n55 : Int, 0 ≤ n55 → n55 ≤ 65535 →
    (∀ n56 : Int, 0 ≤ n56 → n56 ≤ 65535 →
    (∀ n57 : Int, 0 ≤ n57 → n57 ≤ 65535 →
    (∀ n58 : Int, 0 ≤ n58 → n58 ≤ 65535 →
    (∀ n59 : Int, 0 ≤ n59 → n59 ≤ 65535 →
    (Post_sum [[b2i t2, n24, n25, n26, n27, n28, n29, n30, n31, n32, n33, n34, n35], [b2i t2, n24, n25, n26, n27, n28, n29, n30, n31, n32, n33, n34, n35]] [[b2i t4, n48, n49, n50, n51, n52, n53, n54, n55, n56, n57, n58, n59]] →
    (Pre_sum [[b2i t4, n48, n49, n50, n51, n52, n53, n54, n55, n56, n57, n58, n59], [b2i t3, n36, n37, n38, n39, n40, n41, n42, n43, n44, n45, n46, n47]] ∧
    (∀ t5 : Bool, (∀ n60 : Int, 0 ≤ n60 → n60 ≤ 65535 →
    (∀ n61 : Int, 0 ≤ n61 → n61 ≤ 65535 →
    (∀ n62 : Int, 0 ≤ n62 → n62 ≤ 65535 →
    (∀ n63 : Int, 0 ≤ n63 → n63 ≤ 65535 →
    (∀ n64 : Int, 0 ≤ n64 → n64 ≤ 65535 →
    (∀ n65 : Int, 0 ≤ n65 → n65 ≤ 65535 →
    (∀ n66 : Int, 0 ≤ n66 → n66 ≤ 65535 →
    (∀ n67 : Int, 0 ≤ n67 → n67 ≤ 65535 →
    (∀ n68 : Int, 0 ≤ n68 → n68 ≤ 65535 →
    (∀ n69 : Int, 0 ≤ n69 → n69 ≤ 65535 →
    (∀ n70 : Int, 0 ≤ n70 → n70 ≤ 65535 →
    (∀ n71 : Int, 0 ≤ n71 → n71 ≤ 65535 →
    (Post_sum [[b2i t4, n48, n49, n50, n51, n52, n53, n54, n55, n56, n57, n58, n59], [b2i t3, n36, n37, n38, n39, n40, n41, n42, n43, n44, n45, n46, n47]] [[b2i t5, n60, n61, n62, n63, n64, n65, n66, n67, n68, n69, n70, n71]] →
    (∀ b3 : Nat, (Pre_plus [[n36, n37, n38, n39, n40, n41, n42, n43, n44, n45, n46, n47], [n36, n37, n38, n39, n40, n41, n42, n43, n44, n45, n46, n47]] ∧
    (∀ n72 : Int, 0 ≤ n72 → n72 ≤ 65535 →
    (∀ n73 : Int, 0 ≤ n73 → n73 ≤ 65535 →
    (∀ n74 : Int, 0 ≤ n74 → n74 ≤ 65535 →
    (∀ n75 : Int, 0 ≤ n75 → n75 ≤ 65535 →
    (∀ n76 : Int, 0 ≤ n76 → n76 ≤ 65535 →
    (∀ n77 : Int, 0 ≤ n77 → n77 ≤ 65535 →
    (∀ n78 : Int, 0 ≤ n78 → n78 ≤ 65535 →
    (∀ n79 : Int, 0 ≤ n79 → n79 ≤ 65535 →
    (∀ n80 : Int, 0 ≤ n80 → n80 ≤ 65535 →
    (∀ n81 : Int, 0 ≤ n81 → n81 ≤ 65535 →
    (∀ n82 : Int, 0 ≤ n82 → n82 ≤ 65535 →
    (∀ n83 : Int, 0 ≤ n83 → n83 ≤ 65535 →
    (Post_plus [[n36, n37, n38, n39, n40, n41, n42, n43, n44, n45, n46, n47], [n36, n37, n38, n39, n40, n41, n42, n43, n44, n45, n46, n47]] [[n72, n73, n74, n75, n76, n77, n78, n79, n80, n81, n82, n83]] →
    (Pre_divided [[n60, n61, n62, n63, n64, n65, n66, n67, n68, n69, n70, n71], [n72, n73, n74, n75, n76, n77, n78, n79, n80, n81, n82, n83]] ∧
    (∀ n84 : Int, 0 ≤ n84 → n84 ≤ 65535 →
    (∀ n85 : Int, 0 ≤ n85 → n85 ≤ 65535 →
    (∀ n86 : Int, 0 ≤ n86 → n86 ≤ 65535 →
    (∀ n87 : Int, 0 ≤ n87 → n87 ≤ 65535 →
    (∀ n88 : Int, 0 ≤ n88 → n88 ≤ 65535 →
    (∀ n89 : Int, 0 ≤ n89 → n89 ≤ 65535 →
    (∀ n90 : Int, 0 ≤ n90 → n90 ≤ 65535 →
    (∀ n91 : Int, 0 ≤ n91 → n91 ≤ 65535 →
    (∀ n92 : Int, 0 ≤ n92 → n92 ≤ 65535 →
    (∀ n93 : Int, 0 ≤ n93 → n93 ≤ 65535 →
    (∀ n94 : Int, 0 ≤ n94 → n94 ≤ 65535 →
    (∀ n95 : Int, 0 ≤ n95 → n95 ≤ 65535 →
    (∀ n96 : Int, 0 ≤ n96 → n96 ≤ 65535 →
    (∀ n97 : Int, 0 ≤ n97 → n97 ≤ 65535 →
    (∀ n98 : Int, 0 ≤ n98 → n98 ≤ 65535 →
    (∀ n99 : Int, 0 ≤ n99 → n99 ≤ 65535 →
    (∀ n100 : Int, 0 ≤ n100 → n100 ≤ 65535 →
    (∀ n101 : Int, 0 ≤ n101 → n101 ≤ 65535 →
    (∀ n102 : Int, 0 ≤ n102 → n102 ≤ 65535 →
    (∀ n103 : Int, 0 ≤ n103 → n103 ≤ 65535 →
    (∀ n104 : Int, 0 ≤ n104 → n104 ≤ 65535 →
    (∀ n105 : Int, 0 ≤ n105 → n105 ≤ 65535 →
    (∀ n106 : Int, 0 ≤ n106 → n106 ≤ 65535 →
    (∀ n107 : Int, 0 ≤ n107 → n107 ≤ 65535 →
    (Post_divided [[n60, n61, n62, n63, n64, n65, n66, n67, n68, n69, n70, n71], [n72, n73, n74, n75, n76, n77, n78, n79, n80, n81, n82, n83]] [[n84, n85, n86, n87, n88, n89, n90, n91, n92, n93, n94, n95], [n96, n97, n98, n99, n100, n101, n102, n103, n104, n105, n106, n107]] →
    (∀ b4 : Nat, (∀ b5 : Nat, (((t5 = true) →
      (((¬ ((n96 = 0) ∧ ((n97 = 0) ∧ ((n98 = 0) ∧ ((n99 = 0) ∧ ((n100 = 0) ∧ ((n101 = 0) ∧ ((n102 = 0) ∧ ((n103 = 0) ∧ ((n104 = 0) ∧ ((n105 = 0) ∧ ((n106 = 0) ∧ (n107 = 0))))))))))))) →
        (Pre_plus [[n84, n85, n86, n87, n88, n89, n90, n91, n92, n93, n94, n95], [1, 0, 0, 0, 0, 0, 0, 0, 0, 0, 0, 0]] ∧
        (∀ n108 : Int, 0 ≤ n108 → n108 ≤ 65535 →
        (∀ n109 : Int, 0 ≤ n109 → n109 ≤ 65535 →
        (∀ n110 : Int, 0 ≤ n110 → n110 ≤ 65535 →
        (∀ n111 : Int, 0 ≤ n111 → n111 ≤ 65535 →
        (∀ n112 : Int, 0 ≤ n112 → n112 ≤ 65535 →
        (∀ n113 : Int, 0 ≤ n113 → n113 ≤ 65535 →
        (∀ n114 : Int, 0 ≤ n114 → n114 ≤ 65535 →
        (∀ n115 : Int, 0 ≤ n115 → n115 ≤ 65535 →
        (∀ n116 : Int, 0 ≤ n116 → n116 ≤ 65535 →
        (∀ n117 : Int, 0 ≤ n117 → n117 ≤ 65535 →
        (∀ n118 : Int, 0 ≤ n118 → n118 ≤ 65535 →
        (∀ n119 : Int, 0 ≤ n119 → n119 ≤ 65535 →
        (Post_plus [[n84, n85, n86, n87, n88, n89, n90, n91, n92, n93, n94, n95], [1, 0, 0, 0, 0, 0, 0, 0, 0, 0, 0, 0]] [[n108, n109, n110, n111, n112, n113, n114, n115, n116, n117, n118, n119]] →
        Post_nearest [[b2i t, n, n1, n2, n3, n4, n5, n6, n7, n8, n9, n10, n11], [b2i t1, n12, n13, n14, n15, n16, n17, n18, n19, n20, n21, n22, n23]] [[b2i t5, n108, n109, n110, n111, n112, n113, n114, n115, n116, n117, n118, n119]]))))))))))))))) ∧
       (¬ (¬ ((n96 = 0) ∧ ((n97 = 0) ∧ ((n98 = 0) ∧ ((n99 = 0) ∧ ((n100 = 0) ∧ ((n101 = 0) ∧ ((n102 = 0) ∧ ((n103 = 0) ∧ ((n104 = 0) ∧ ((n105 = 0) ∧ ((n106 = 0) ∧ (n107 = 0))))))))))))) →
        Post_nearest [[b2i t, n, n1, n2, n3, n4, n5, n6, n7, n8, n9, n10, n11], [b2i t1, n12, n13, n14, n15, n16, n17, n18, n19, n20, n21, n22, n23]] [[b2i t5, n84, n85, n86, n87, n88, n89, n90, n91, n92, n93, n94, n95]]))) ∧
     (¬ (t5 = true) →
      Post_nearest [[b2i t, n, n1, n2, n3, n4, n5, n6, n7, n8, n9, n10, n11], [b2i t1, n12, n13, n14, n15, n16, n17, n18, n19, n20, n21, n22, n23]] [[b2i t5, n84, n85, n86, n87, n88, n89, n90, n91, n92, n93, n94, n95]])))))))))))))))))))))))))))))))))))))))))))))))))))))))))))))))))))))))))))))))))))))))))))))))))))))))))) ∧
   (¬ (t1 = true) →
    (Pre_sum [[b2i t, n, n1, n2, n3, n4, n5, n6, n7, n8, n9, n10, n11], [b2i t, n, n1, n2, n3, n4, n5, n6, n7, n8, n9, n10, n11]] ∧
    (∀ t2 : Bool, (∀ n24 : Int, 0 ≤ n24 → n24 ≤ 65535 →
    (∀ n25 : Int, 0 ≤ n25 → n25 ≤ 65535 →
    (∀ n26 : Int, 0 ≤ n26 → n26 ≤ 65535 →
    (∀ n27 : Int, 0 ≤ n27 → n27 ≤ 65535 →
    (∀ n28 : Int, 0 ≤ n28 → n28 ≤ 65535 →
    (∀ n29 : Int, 0 ≤ n29 → n29 ≤ 65535 →
    (∀ n30 : Int, 0 ≤ n30 → n30 ≤ 65535 →
    (∀ n31 : Int, 0 ≤ n31 → n31 ≤ 65535 →
    (∀ n32 : Int, 0 ≤ n32 → n32 ≤ 65535 →
    (∀ n33 : Int, 0 ≤ n33 → n33 ≤ 65535 →
    (∀ n34 : Int, 0 ≤ n34 → n34 ≤ 65535 →
    (∀ n35 : Int, 0 ≤ n35 → n35 ≤ 65535 →
    (Post_sum [[b2i t, n, n1, n2, n3, n4, n5, n6, n7, n8, n9, n10, n11], [b2i t, n, n1, n2, n3, n4, n5, n6, n7, n8, n9, n10, n11]] [[b2i t2, n24, n25, n26, n27, n28, n29, n30, n31, n32, n33, n34, n35]] →
    (Pre_sum [[b2i t2, n24, n25, n26, n27, n28, n29, n30, n31, n32, n33, n34, n35], [b2i t1, n12, n13, n14, n15, n16, n17, n18, n19, n20, n21, n22, n23]] ∧
    (∀ t3 : Bool, (∀ n36 : Int, 0 ≤ n36 → n36 ≤ 65535 →
    (∀ n37 : Int, 0 ≤ n37 → n37 ≤ 65535 →
    (∀ n38 : Int, 0 ≤ n38 → n38 ≤ 65535 →
    (∀ n39 : Int, 0 ≤ n39 → n39 ≤ 65535 →
    (∀ n40 : Int, 0 ≤ n40 → n40 ≤ 65535 →
    (∀ n41 : Int, 0 ≤ n41 → n41 ≤ 65535 →
    (∀ n42 : Int, 0 ≤ n42 → n42 ≤ 65535 →
    (∀ n43 : Int, 0 ≤ n43 → n43 ≤ 65535 →
    (∀ n44 : Int, 0 ≤ n44 → n44 ≤ 65535 →
    (∀ n45 : Int, 0 ≤ n45 → n45 ≤ 65535 →
    (∀ n46 : Int, 0 ≤ n46 → n46 ≤ 65535 →
    (∀ n47 : Int, 0 ≤ n47 → n47 ≤ 65535 →
    (Post_sum [[b2i t2, n24, n25, n26, n27, n28, n29, n30, n31, n32, n33, n34, n35], [b2i t1, n12, n13, n14, n15, n16, n17, n18, n19, n20, n21, n22, n23]] [[b2i t3, n36, n37, n38, n39, n40, n41, n42, n43, n44, n45, n46, n47]] →
    (∀ b3 : Nat, (Pre_plus [[n12, n13, n14, n15, n16, n17, n18, n19, n20, n21, n22, n23], [n12, n13, n14, n15, n16, n17, n18, n19, n20, n21, n22, n23]] ∧
    (∀ n48 : Int, 0 ≤ n48 → n48 ≤ 65535 →
    (∀ n49 : Int, 0 ≤ n49 → n49 ≤ 65535 →
    (∀ n50 : Int, 0 ≤ n50 → n50 ≤ 65535 →
    (∀ n51 : Int, 0 ≤ n51 → n51 ≤ 65535 →
    (∀ n52 : Int, 0 ≤ n52 → n52 ≤ 65535 →
    (∀ n53 : Int, 0 ≤ n53 → n53 ≤ 65535 →
    (∀ n54 : Int, 0 ≤ n54 → n54 ≤ 65535 →
    (∀ n55 : Int, 0 ≤ n55 → n55 ≤ 65535 →
    (∀ n56 : Int, 0 ≤ n56 → n56 ≤ 65535 →
    (∀ n57 : Int, 0 ≤ n57 → n57 ≤ 65535 →
    (∀ n58 : Int, 0 ≤ n58 → n58 ≤ 65535 →
    (∀ n59 : Int, 0 ≤ n59 → n59 ≤ 65535 →
    (Post_plus [[n12, n13, n14, n15, n16, n17, n18, n19, n20, n21, n22, n23], [n12, n13, n14, n15, n16, n17, n18, n19, n20, n21, n22, n23]] [[n48, n49, n50, n51, n52, n53, n54, n55, n56, n57, n58, n59]] →
    (Pre_divided [[n36, n37, n38, n39, n40, n41, n42, n43, n44, n45, n46, n47], [n48, n49, n50, n51, n52, n53, n54, n55, n56, n57, n58, n59]] ∧
    (∀ n60 : Int, 0 ≤ n60 → n60 ≤ 65535 →
    (∀ n61 : Int, 0 ≤ n61 → n61 ≤ 65535 →
    (∀ n62 : Int, 0 ≤ n62 → n62 ≤ 65535 →
    (∀ n63 : Int, 0 ≤ n63 → n63 ≤ 65535 →
    (∀ n64 : Int, 0 ≤ n64 → n64 ≤ 65535 →
    (∀ n65 : Int, 0 ≤ n65 → n65 ≤ 65535 →
    (∀ n66 : Int, 0 ≤ n66 → n66 ≤ 65535 →
    (∀ n67 : Int, 0 ≤ n67 → n67 ≤ 65535 →
    (∀ n68 : Int, 0 ≤ n68 → n68 ≤ 65535 →
    (∀ n69 : Int, 0 ≤ n69 → n69 ≤ 65535 →
    (∀ n70 : Int, 0 ≤ n70 → n70 ≤ 65535 →
    (∀ n71 : Int, 0 ≤ n71 → n71 ≤ 65535 →
    (∀ n72 : Int, 0 ≤ n72 → n72 ≤ 65535 →
    (∀ n73 : Int, 0 ≤ n73 → n73 ≤ 65535 →
    (∀ n74 : Int, 0 ≤ n74 → n74 ≤ 65535 →
    (∀ n75 : Int, 0 ≤ n75 → n75 ≤ 65535 →
    (∀ n76 : Int, 0 ≤ n76 → n76 ≤ 65535 →
    (∀ n77 : Int, 0 ≤ n77 → n77 ≤ 65535 →
    (∀ n78 : Int, 0 ≤ n78 → n78 ≤ 65535 →
    (∀ n79 : Int, 0 ≤ n79 → n79 ≤ 65535 →
    (∀ n80 : Int, 0 ≤ n80 → n80 ≤ 65535 →
    (∀ n81 : Int, 0 ≤ n81 → n81 ≤ 65535 →
    (∀ n82 : Int, 0 ≤ n82 → n82 ≤ 65535 →
    (∀ n83 : Int, 0 ≤ n83 → n83 ≤ 65535 →
    (Post_divided [[n36, n37, n38, n39, n40, n41, n42, n43, n44, n45, n46, n47], [n48, n49, n50, n51, n52, n53, n54, n55, n56, n57, n58, n59]] [[n60, n61, n62, n63, n64, n65, n66, n67, n68, n69, n70, n71], [n72, n73, n74, n75, n76, n77, n78, n79, n80, n81, n82, n83]] →
    (∀ b4 : Nat, (∀ b5 : Nat, (((t3 = true) →
      (((¬ ((n72 = 0) ∧ ((n73 = 0) ∧ ((n74 = 0) ∧ ((n75 = 0) ∧ ((n76 = 0) ∧ ((n77 = 0) ∧ ((n78 = 0) ∧ ((n79 = 0) ∧ ((n80 = 0) ∧ ((n81 = 0) ∧ ((n82 = 0) ∧ (n83 = 0))))))))))))) →
        (Pre_plus [[n60, n61, n62, n63, n64, n65, n66, n67, n68, n69, n70, n71], [1, 0, 0, 0, 0, 0, 0, 0, 0, 0, 0, 0]] ∧
        (∀ n84 : Int, 0 ≤ n84 → n84 ≤ 65535 →
        (∀ n85 : Int, 0 ≤ n85 → n85 ≤ 65535 →
        (∀ n86 : Int, 0 ≤ n86 → n86 ≤ 65535 →
        (∀ n87 : Int, 0 ≤ n87 → n87 ≤ 65535 →
        (∀ n88 : Int, 0 ≤ n88 → n88 ≤ 65535 →
        (∀ n89 : Int, 0 ≤ n89 → n89 ≤ 65535 →
        (∀ n90 : Int, 0 ≤ n90 → n90 ≤ 65535 →
        (∀ n91 : Int, 0 ≤ n91 → n91 ≤ 65535 →
        (∀ n92 : Int, 0 ≤ n92 → n92 ≤ 65535 →
        (∀ n93 : Int, 0 ≤ n93 → n93 ≤ 65535 →
        (∀ n94 : Int, 0 ≤ n94 → n94 ≤ 65535 →
        (∀ n95 : Int, 0 ≤ n95 → n95 ≤ 65535 →
        (Post_plus [[n60, n61, n62, n63, n64, n65, n66, n67, n68, n69, n70, n71], [1, 0, 0, 0, 0, 0, 0, 0, 0, 0, 0, 0]] [[n84, n85, n86, n87, n88, n89, n90, n91, n92, n93, n94, n95]] →
        Post_nearest [[b2i t, n, n1, n2, n3, n4, n5, n6, n7, n8, n9, n10, n11], [b2i t1, n12, n13, n14, n15, n16, n17, n18, n19, n20, n21, n22, n23]] [[b2i t3, n84, n85, n86, n87, n88, n89, n90, n91, n92, n93, n94, n95]]))))))))))))))) ∧
       (¬ (¬ ((n72 = 0) ∧ ((n73 = 0) ∧ ((n74 = 0) ∧ ((n75 = 0) ∧ ((n76 = 0) ∧ ((n77 = 0) ∧ ((n78 = 0) ∧ ((n79 = 0) ∧ ((n80 = 0) ∧ ((n81 = 0) ∧ ((n82 = 0) ∧ (n83 = 0))))))))))))) →
        Post_nearest [[b2i t, n, n1, n2, n3, n4, n5, n6, n7, n8, n9, n10, n11], [b2i t1, n12, n13, n14, n15, n16, n17, n18, n19, n20, n21, n22, n23]] [[b2i t3, n60, n61, n62, n63, n64, n65, n66, n67, n68, n69, n70, n71]]))) ∧
     (¬ (t3 = true) →
      Post_nearest [[b2i t, n, n1, n2, n3, n4, n5, n6, n7, n8, n9, n10, n11], [b2i t1, n12, n13, n14, n15, n16, n17, n18, n19, n20, n21, n22, n23]] [[b2i t3, n60, n61, n62, n63, n64, n65, n66, n67, n68, n69, n70, n71]])))))))))))))))))))))))))))))))))))))))))))))))))))))))))))))))))))))))))))))))))))))))))))))))))))))))))))
theorem c_nearest : canCall Tryd.prog 48 = true := by kernel_rfl
theorem s_nearest : P_nearest = sat E (symTop Tryd.prog tab34 2000 48 ash_nearest sh_nearest) := by kernel_rfl
theorem pure_nearest (hV : Valid Tryd.prog tab34 E) (h : P_nearest) (args : List Value) (ha : shaFits ash_nearest args) (hp : E.pre 48 (args.map vints)) : Pure Tryd.prog 48 args.toArray fun v => sh_nearest.fits v ∧ E.post 48 (args.map vints) (vres v) := @top_sat Tryd.prog tab34 E hV 2000 48 ash_nearest sh_nearest (@Eq.mp _ _ s_nearest h) args ha hp
theorem step_nearest (hV : Valid Tryd.prog tab34 E) (h : P_nearest) : Valid Tryd.prog tab35 E := hV.add c_nearest (pure_nearest hV h)

/-- gouache/gouacheref01.Cmp -/
def P_rcmp : Prop :=
  (∀ n : Int, (-9223372036854775808) ≤ n → n ≤ 9223372036854775807 →
  (∀ n1 : Int, 0 ≤ n1 → n1 ≤ 18446744073709551615 →
  (∀ n2 : Int, (-9223372036854775808) ≤ n2 → n2 ≤ 9223372036854775807 →
  (∀ n3 : Int, 0 ≤ n3 → n3 ≤ 18446744073709551615 →
  (Pre_rcmp [[n, n1], [n2, n3]] →
  (∀ b : Nat, (∀ b1 : Nat, (Pre_read [[n, n1]] ∧
  (∀ t : Bool, (∀ n4 : Int, 0 ≤ n4 → n4 ≤ 65535 →
  (∀ n5 : Int, 0 ≤ n5 → n5 ≤ 65535 →
  (∀ n6 : Int, 0 ≤ n6 → n6 ≤ 65535 →
  (∀ n7 : Int, 0 ≤ n7 → n7 ≤ 65535 →
  (∀ n8 : Int, 0 ≤ n8 → n8 ≤ 65535 →
  (∀ n9 : Int, 0 ≤ n9 → n9 ≤ 65535 →
  (∀ n10 : Int, 0 ≤ n10 → n10 ≤ 65535 →
  (∀ n11 : Int, 0 ≤ n11 → n11 ≤ 65535 →
  (∀ n12 : Int, 0 ≤ n12 → n12 ≤ 65535 →
  (∀ n13 : Int, 0 ≤ n13 → n13 ≤ 65535 →
  (∀ n14 : Int, 0 ≤ n14 → n14 ≤ 65535 →
  (∀ n15 : Int, 0 ≤ n15 → n15 ≤ 65535 →
  (Post_read [[n, n1]] [[b2i t, n4, n5, n6, n7, n8, n9, n10, n11, n12, n13, n14, n15]] →
  (Pre_read [[n2, n3]] ∧
  (∀ t1 : Bool, (∀ n16 : Int, 0 ≤ n16 → n16 ≤ 65535 →
  (∀ n17 : Int, 0 ≤ n17 → n17 ≤ 65535 →
  (∀ n18 : Int, 0 ≤ n18 → n18 ≤ 65535 →
  (∀ n19 : Int, 0 ≤ n19 → n19 ≤ 65535 →
  (∀ n20 : Int, 0 ≤ n20 → n20 ≤ 65535 →
  (∀ n21 : Int, 0 ≤ n21 → n21 ≤ 65535 →
  (∀ n22 : Int, 0 ≤ n22 → n22 ≤ 65535 →
  (∀ n23 : Int, 0 ≤ n23 → n23 ≤ 65535 →
  (∀ n24 : Int, 0 ≤ n24 → n24 ≤ 65535 →
  (∀ n25 : Int, 0 ≤ n25 → n25 ≤ 65535 →
  (∀ n26 : Int, 0 ≤ n26 → n26 ≤ 65535 →
  (∀ n27 : Int, 0 ≤ n27 → n27 ≤ 65535 →
  (Post_read [[n2, n3]] [[b2i t1, n16, n17, n18, n19, n20, n21, n22, n23, n24, n25, n26, n27]] →
  (Pre_minus [[b2i t1, n16, n17, n18, n19, n20, n21, n22, n23, n24, n25, n26, n27]] ∧
  (∀ t2 : Bool, (∀ n28 : Int, 0 ≤ n28 → n28 ≤ 65535 →
  (∀ n29 : Int, 0 ≤ n29 → n29 ≤ 65535 →
  (∀ n30 : Int, 0 ≤ n30 → n30 ≤ 65535 →
  (∀ n31 : Int, 0 ≤ n31 → n31 ≤ 65535 →
  (∀ n32 : Int, 0 ≤ n32 → n32 ≤ 65535 →
  (∀ n33 : Int, 0 ≤ n33 → n33 ≤ 65535 →
  (∀ n34 : Int, 0 ≤ n34 → n34 ≤ 65535 →
  (∀ n35 : Int, 0 ≤ n35 → n35 ≤ 65535 →
  (∀ n36 : Int, 0 ≤ n36 → n36 ≤ 65535 →
  (∀ n37 : Int, 0 ≤ n37 → n37 ≤ 65535 →
  (∀ n38 : Int, 0 ≤ n38 → n38 ≤ 65535 →
  (∀ n39 : Int, 0 ≤ n39 → n39 ≤ 65535 →
  (Post_minus [[b2i t1, n16, n17, n18, n19, n20, n21, n22, n23, n24, n25, n26, n27]] [[b2i t2, n28, n29, n30, n31, n32, n33, n34, n35, n36, n37, n38, n39]] →
  (Pre_sum [[b2i t, n4, n5, n6, n7, n8, n9, n10, n11, n12, n13, n14, n15], [b2i t2, n28, n29, n30, n31, n32, n33, n34, n35, n36, n37, n38, n39]] ∧
  (∀ t3 : Bool, (∀ n40 : Int, 0 ≤ n40 → n40 ≤ 65535 →
  (∀ n41 : Int, 0 ≤ n41 → n41 ≤ 65535 →
  (∀ n42 : Int, 0 ≤ n42 → n42 ≤ 65535 →
  (∀ n43 : Int, 0 ≤ n43 → n43 ≤ 65535 →
  (∀ n44 : Int, 0 ≤ n44 → n44 ≤ 65535 →
  (∀ n45 : Int, 0 ≤ n45 → n45 ≤ 65535 →
  (∀ n46 : Int, 0 ≤ n46 → n46 ≤ 65535 →
  (∀ n47 : Int, 0 ≤ n47 → n47 ≤ 65535 →
  (∀ n48 : Int, 0 ≤ n48 → n48 ≤ 65535 →
  (∀ n49 : Int, 0 ≤ n49 → n49 ≤ 65535 →
  (∀ n50 : Int, 0 ≤ n50 → n50 ≤ 65535 →
  (∀ n51 : Int, 0 ≤ n51 → n51 ≤ 65535 →
  (Post_sum [[b2i t, n4, n5, n6, n7, n8, n9, n10, n11, n12, n13, n14, n15], [b2i t2, n28, n29, n30, n31, n32, n33, n34, n35, n36, n37, n38, n39]] [[b2i t3, n40, n41, n42, n43, n44, n45, n46, n47, n48, n49, n50, n51]] →
  (∀ b2 : Nat, (Pre_zero [[b2i t3, n40, n41, n42, n43, n44, n45, n46, n47, n48, n49, n50, n51]] ∧
  (∀ t4 : Bool, (Post_zero [[b2i t3, n40, n41, n42, n43, n44, n45, n46, n47, n48, n49, n50, n51]] [[b2i t4]] →
  (((t4 = true) →
    Post_rcmp [[n, n1], [n2, n3]] [[0]]) ∧
   (¬ (t4 = true) →
    (((t3 = true) →
      Post_rcmp [[n, n1], [n2, n3]] [[(-1)]]) ∧
     (¬ (t3 = true) →
      Post_rcmp [[n, n1], [n2, n3]] [[1]])))))))))))))))))))))))))))))))))))))))))))))))))))))))))))))))))))))))))))
theorem c_rcmp : canCall Tryd.prog 55 = true := by kernel_rfl
theorem s_rcmp : P_rcmp = sat E (symTop Tryd.prog tab35 2000 55 ash_rcmp sh_rcmp) := by kernel_rfl
theorem pure_rcmp (hV : Valid Tryd.prog tab35 E) (h : P_rcmp) (args : List Value) (ha : shaFits ash_rcmp args) (hp : E.pre 55 (args.map vints)) : Pure Tryd.prog 55 args.toArray fun v => sh_rcmp.fits v ∧ E.post 55 (args.map vints) (vres v) := @top_sat Tryd.prog tab35 E hV 2000 55 ash_rcmp sh_rcmp (@Eq.mp _ _ s_rcmp h) args ha hp
theorem step_rcmp (hV : Valid Tryd.prog tab35 E) (h : P_rcmp) : Valid Tryd.prog tab36 E := hV.add c_rcmp (pure_rcmp hV h)

/-- gouache/gouacheref01.Int -/
def P_rint : Prop :=
  (∀ n : Int, (-9223372036854775808) ≤ n → n ≤ 9223372036854775807 →
  (∀ n1 : Int, 0 ≤ n1 → n1 ≤ 18446744073709551615 →
  (Pre_rint [[n, n1]] →
  (∀ b : Nat, (Pre_rof [[(-9223372036854775808)]] ∧
  (∀ n2 : Int, (-9223372036854775808) ≤ n2 → n2 ≤ 9223372036854775807 →
  (∀ n3 : Int, 0 ≤ n3 → n3 ≤ 18446744073709551615 →
  (Post_rof [[(-9223372036854775808)]] [[n2, n3]] →
  (Pre_rcmp [[n, n1], [n2, n3]] ∧
  (∀ n4 : Int, (-1) ≤ n4 → n4 ≤ 1 →
  (Post_rcmp [[n, n1], [n2, n3]] [[n4]] →
  (((n4 < 0) →
    Post_rint [[n, n1]] [[0], [b2i false]]) ∧
   (¬ (n4 < 0) →
    (Pre_rof [[9223372036854775807]] ∧
    (∀ n5 : Int, (-9223372036854775808) ≤ n5 → n5 ≤ 9223372036854775807 →
    (∀ n6 : Int, 0 ≤ n6 → n6 ≤ 18446744073709551615 →
    (Post_rof [[9223372036854775807]] [[n5, n6]] →
    (Pre_rcmp [[n, n1], [n5, n6]] ∧
    (∀ n7 : Int, (-1) ≤ n7 → n7 ≤ 1 →
    (Post_rcmp [[n, n1], [n5, n6]] [[n7]] →
    (((0 < n7) →
      Post_rint [[n, n1]] [[0], [b2i false]]) ∧
     (¬ (0 < n7) →
      (∀ n8 : Int, n8 = (IntKind.wrap .i64 n1) → (-9223372036854775808) ≤ n8 → n8 ≤ 9223372036854775807 →
      Post_rint [[n, n1]] [[n8], [b2i true]])))))))))))))))))))))))
theorem c_rint : canCall Tryd.prog 34 = true := by kernel_rfl
theorem s_rint : P_rint = sat E (symTop Tryd.prog tab36 2000 34 ash_rint sh_rint) := by kernel_rfl
theorem pure_rint (hV : Valid Tryd.prog tab36 E) (h : P_rint) (args : List Value) (ha : shaFits ash_rint args) (hp : E.pre 34 (args.map vints)) : Pure Tryd.prog 34 args.toArray fun v => sh_rint.fits v ∧ E.post 34 (args.map vints) (vres v) := @top_sat Tryd.prog tab36 E hV 2000 34 ash_rint sh_rint (@Eq.mp _ _ s_rint h) args ha hp
theorem step_rint (hV : Valid Tryd.prog tab36 E) (h : P_rint) : Valid Tryd.prog tab37 E := hV.add c_rint (pure_rint hV h)

/-- gouache/gouacheref01.Times -/
def P_rtms : Prop :=
  (∀ n : Int, (-9223372036854775808) ≤ n → n ≤ 9223372036854775807 →
  (∀ n1 : Int, 0 ≤ n1 → n1 ≤ 18446744073709551615 →
  (∀ n2 : Int, (-9223372036854775808) ≤ n2 → n2 ≤ 9223372036854775807 →
  (Pre_rtms [[n, n1], [n2]] →
  (∀ b : Nat, (∀ b1 : Nat, (Pre_read [[n, n1]] ∧
  (∀ t : Bool, (∀ n3 : Int, 0 ≤ n3 → n3 ≤ 65535 →
  (∀ n4 : Int, 0 ≤ n4 → n4 ≤ 65535 →
  (∀ n5 : Int, 0 ≤ n5 → n5 ≤ 65535 →
  (∀ n6 : Int, 0 ≤ n6 → n6 ≤ 65535 →
  (∀ n7 : Int, 0 ≤ n7 → n7 ≤ 65535 →
  (∀ n8 : Int, 0 ≤ n8 → n8 ≤ 65535 →
  (∀ n9 : Int, 0 ≤ n9 → n9 ≤ 65535 →
  (∀ n10 : Int, 0 ≤ n10 → n10 ≤ 65535 →
  (∀ n11 : Int, 0 ≤ n11 → n11 ≤ 65535 →
  (∀ n12 : Int, 0 ≤ n12 → n12 ≤ 65535 →
  (∀ n13 : Int, 0 ≤ n13 → n13 ≤ 65535 →
  (∀ n14 : Int, 0 ≤ n14 → n14 ≤ 65535 →
  (Post_read [[n, n1]] [[b2i t, n3, n4, n5, n6, n7, n8, n9, n10, n11, n12, n13, n14]] →
  (Pre_small [[n2]] ∧
  (∀ t1 : Bool, (∀ n15 : Int, 0 ≤ n15 → n15 ≤ 65535 →
  (∀ n16 : Int, 0 ≤ n16 → n16 ≤ 65535 →
  (∀ n17 : Int, 0 ≤ n17 → n17 ≤ 65535 →
  (∀ n18 : Int, 0 ≤ n18 → n18 ≤ 65535 →
  (∀ n19 : Int, 0 ≤ n19 → n19 ≤ 65535 →
  (∀ n20 : Int, 0 ≤ n20 → n20 ≤ 65535 →
  (∀ n21 : Int, 0 ≤ n21 → n21 ≤ 65535 →
  (∀ n22 : Int, 0 ≤ n22 → n22 ≤ 65535 →
  (∀ n23 : Int, 0 ≤ n23 → n23 ≤ 65535 →
  (∀ n24 : Int, 0 ≤ n24 → n24 ≤ 65535 →
  (∀ n25 : Int, 0 ≤ n25 → n25 ≤ 65535 →
  (∀ n26 : Int, 0 ≤ n26 → n26 ≤ 65535 →
  (Post_small [[n2]] [[b2i t1, n15, n16, n17, n18, n19, n20, n21, n22, n23, n24, n25, n26]] →
  (Pre_product [[b2i t, n3, n4, n5, n6, n7, n8, n9, n10, n11, n12, n13, n14], [b2i t1, n15, n16, n17, n18, n19, n20, n21, n22, n23, n24, n25, n26]] ∧
  (∀ t2 : Bool, (∀ n27 : Int, 0 ≤ n27 → n27 ≤ 65535 →
  (∀ n28 : Int, 0 ≤ n28 → n28 ≤ 65535 →
  (∀ n29 : Int, 0 ≤ n29 → n29 ≤ 65535 →
  (∀ n30 : Int, 0 ≤ n30 → n30 ≤ 65535 →
  (∀ n31 : Int, 0 ≤ n31 → n31 ≤ 65535 →
  (∀ n32 : Int, 0 ≤ n32 → n32 ≤ 65535 →
  (∀ n33 : Int, 0 ≤ n33 → n33 ≤ 65535 →
  (∀ n34 : Int, 0 ≤ n34 → n34 ≤ 65535 →
  (∀ n35 : Int, 0 ≤ n35 → n35 ≤ 65535 →
  (∀ n36 : Int, 0 ≤ n36 → n36 ≤ 65535 →
  (∀ n37 : Int, 0 ≤ n37 → n37 ≤ 65535 →
  (∀ n38 : Int, 0 ≤ n38 → n38 ≤ 65535 →
  (Post_product [[b2i t, n3, n4, n5, n6, n7, n8, n9, n10, n11, n12, n13, n14], [b2i t1, n15, n16, n17, n18, n19, n20, n21, n22, n23, n24, n25, n26]] [[b2i t2, n27, n28, n29, n30, n31, n32, n33, n34, n35, n36, n37, n38]] →
  (Pre_tell [[b2i t2, n27, n28, n29, n30, n31, n32, n33, n34, n35, n36, n37, n38]] ∧
  (∀ n39 : Int, (-9223372036854775808) ≤ n39 → n39 ≤ 9223372036854775807 →
  (∀ n40 : Int, 0 ≤ n40 → n40 ≤ 18446744073709551615 →
  (∀ n41 : Int, 0 ≤ n41 → n41 ≤ 11 →
  (Post_tell [[b2i t2, n27, n28, n29, n30, n31, n32, n33, n34, n35, n36, n37, n38]] [[n39, n40], [n41]] →
  Post_rtms [[n, n1], [n2]] [[n39, n40], [n41]]))))))))))))))))))))))))))))))))))))))))))))))))))))))))
theorem c_rtms : canCall Tryd.prog 51 = true := by kernel_rfl
theorem s_rtms : P_rtms = sat E (symTop Tryd.prog tab37 2000 51 ash_rtms sh_rtms) := by kernel_rfl
theorem pure_rtms (hV : Valid Tryd.prog tab37 E) (h : P_rtms) (args : List Value) (ha : shaFits ash_rtms args) (hp : E.pre 51 (args.map vints)) : Pure Tryd.prog 51 args.toArray fun v => sh_rtms.fits v ∧ E.post 51 (args.map vints) (vres v) := @top_sat Tryd.prog tab37 E hV 2000 51 ash_rtms sh_rtms (@Eq.mp _ _ s_rtms h) args ha hp
theorem step_rtms (hV : Valid Tryd.prog tab37 E) (h : P_rtms) : Valid Tryd.prog tab38 E := hV.add c_rtms (pure_rtms hV h)

/-- gouache/gouacheref01.Mul -/
def P_rmul : Prop :=
  (∀ n : Int, (-9223372036854775808) ≤ n → n ≤ 9223372036854775807 →
  (∀ n1 : Int, (-9223372036854775808) ≤ n1 → n1 ≤ 9223372036854775807 →
  (Pre_rmul [[n], [n1]] →
  (∀ b : Nat, (Pre_rof [[n]] ∧
  (∀ n2 : Int, (-9223372036854775808) ≤ n2 → n2 ≤ 9223372036854775807 →
  (∀ n3 : Int, 0 ≤ n3 → n3 ≤ 18446744073709551615 →
  (Post_rof [[n]] [[n2, n3]] →
  (Pre_rtms [[n2, n3], [n1]] ∧
  (∀ n4 : Int, (-9223372036854775808) ≤ n4 → n4 ≤ 9223372036854775807 →
  (∀ n5 : Int, 0 ≤ n5 → n5 ≤ 18446744073709551615 →
  (∀ n6 : Int, 0 ≤ n6 → n6 ≤ 11 →
  (Post_rtms [[n2, n3], [n1]] [[n4, n5], [n6]] →
  (∀ b1 : Nat, Post_rmul [[n], [n1]] [[n4, n5]]))))))))))))))
theorem c_rmul : canCall Tryd.prog 32 = true := by kernel_rfl
theorem s_rmul : P_rmul = sat E (symTop Tryd.prog tab38 2000 32 ash_rmul sh_rmul) := by kernel_rfl
theorem pure_rmul (hV : Valid Tryd.prog tab38 E) (h : P_rmul) (args : List Value) (ha : shaFits ash_rmul args) (hp : E.pre 32 (args.map vints)) : Pure Tryd.prog 32 args.toArray fun v => sh_rmul.fits v ∧ E.post 32 (args.map vints) (vres v) := @top_sat Tryd.prog tab38 E hV 2000 32 ash_rmul sh_rmul (@Eq.mp _ _ s_rmul h) args ha hp
theorem step_rmul (hV : Valid Tryd.prog tab38 E) (h : P_rmul) : Valid Tryd.prog tab39 E := hV.add c_rmul (pure_rmul hV h)

/-- gouache/gouacheref01.Floor -/
def P_rfloor : Prop :=
  (∀ n : Int, (-9223372036854775808) ≤ n → n ≤ 9223372036854775807 →
  (∀ n1 : Int, 0 ≤ n1 → n1 ≤ 18446744073709551615 →
  (∀ n2 : Int, (-9223372036854775808) ≤ n2 → n2 ≤ 9223372036854775807 →
  (Pre_rfloor [[n, n1], [n2]] →
  (∀ b : Nat, (∀ b1 : Nat, (((n2 < 1) →
    Post_rfloor [[n, n1], [n2]] [[0, 0], [0], [1]]) ∧
   (¬ (n2 < 1) →
    (Pre_read [[n, n1]] ∧
    (∀ t : Bool, (∀ n3 : Int, 0 ≤ n3 → n3 ≤ 65535 →
    (∀ n4 : Int, 0 ≤ n4 → n4 ≤ 65535 →
    (∀ n5 : Int, 0 ≤ n5 → n5 ≤ 65535 →
    (∀ n6 : Int, 0 ≤ n6 → n6 ≤ 65535 →
    (∀ n7 : Int, 0 ≤ n7 → n7 ≤ 65535 →
    (∀ n8 : Int, 0 ≤ n8 → n8 ≤ 65535 →
    (∀ n9 : Int, 0 ≤ n9 → n9 ≤ 65535 →
    (∀ n10 : Int, 0 ≤ n10 → n10 ≤ 65535 →
    (∀ n11 : Int, 0 ≤ n11 → n11 ≤ 65535 →
    (∀ n12 : Int, 0 ≤ n12 → n12 ≤ 65535 →
    (∀ n13 : Int, 0 ≤ n13 → n13 ≤ 65535 →
    (∀ n14 : Int, 0 ≤ n14 → n14 ≤ 65535 →
    (Post_read [[n, n1]] [[b2i t, n3, n4, n5, n6, n7, n8, n9, n10, n11, n12, n13, n14]] →
    (∀ b2 : Nat, (Pre_small [[n2]] ∧
    (∀ t1 : Bool, (∀ n15 : Int, 0 ≤ n15 → n15 ≤ 65535 →
    (∀ n16 : Int, 0 ≤ n16 → n16 ≤ 65535 →
    (∀ n17 : Int, 0 ≤ n17 → n17 ≤ 65535 →
    (∀ n18 : Int, 0 ≤ n18 → n18 ≤ 65535 →
    (∀ n19 : Int, 0 ≤ n19 → n19 ≤ 65535 →
    (∀ n20 : Int, 0 ≤ n20 → n20 ≤ 65535 →
    (∀ n21 : Int, 0 ≤ n21 → n21 ≤ 65535 →
    (∀ n22 : Int, 0 ≤ n22 → n22 ≤ 65535 →
    (∀ n23 : Int, 0 ≤ n23 → n23 ≤ 65535 →
    (∀ n24 : Int, 0 ≤ n24 → n24 ≤ 65535 →
    (∀ n25 : Int, 0 ≤ n25 → n25 ≤ 65535 →
    (∀ n26 : Int, 0 ≤ n26 → n26 ≤ 65535 →
    (Post_small [[n2]] [[b2i t1, n15, n16, n17, n18, n19, n20, n21, n22, n23, n24, n25, n26]] →
    (∀ b3 : Nat, (Pre_divided [[n3, n4, n5, n6, n7, n8, n9, n10, n11, n12, n13, n14], [n15, n16, n17, n18, n19, n20, n21, n22, n23, n24, n25, n26]] ∧
    (∀ n27 : Int, 0 ≤ n27 → n27 ≤ 65535 →
    (∀ n28 : Int, 0 ≤ n28 → n28 ≤ 65535 →
    (∀ n29 : Int, 0 ≤ n29 → n29 ≤ 65535 →
    (∀ n30 : Int, 0 ≤ n30 → n30 ≤ 65535 →
    (∀ n31 : Int, 0 ≤ n31 → n31 ≤ 65535 →
    (∀ n32 : Int, 0 ≤ n32 → n32 ≤ 65535 →
    (∀ n33 : Int, 0 ≤ n33 → n33 ≤ 65535 →
    (∀ n34 : Int, 0 ≤ n34 → n34 ≤ 65535 →
    (∀ n35 : Int, 0 ≤ n35 → n35 ≤ 65535 →
    (∀ n36 : Int, 0 ≤ n36 → n36 ≤ 65535 →
    (∀ n37 : Int, 0 ≤ n37 → n37 ≤ 65535 →
    (∀ n38 : Int, 0 ≤ n38 → n38 ≤ 65535 →
    (∀ n39 : Int, 0 ≤ n39 → n39 ≤ 65535 →
    (∀ n40 : Int, 0 ≤ n40 → n40 ≤ 65535 →
    (∀ n41 : Int, 0 ≤ n41 → n41 ≤ 65535 →
    (∀ n42 : Int, 0 ≤ n42 → n42 ≤ 65535 →
    (∀ n43 : Int, 0 ≤ n43 → n43 ≤ 65535 →
    (∀ n44 : Int, 0 ≤ n44 → n44 ≤ 65535 →
    (∀ n45 : Int, 0 ≤ n45 → n45 ≤ 65535 →
    (∀ n46 : Int, 0 ≤ n46 → n46 ≤ 65535 →
    (∀ n47 : Int, 0 ≤ n47 → n47 ≤ 65535 →
    (∀ n48 : Int, 0 ≤ n48 → n48 ≤ 65535 →
    (∀ n49 : Int, 0 ≤ n49 → n49 ≤ 65535 →
    (∀ n50 : Int, 0 ≤ n50 → n50 ≤ 65535 →
    (Post_divided [[n3, n4, n5, n6, n7, n8, n9, n10, n11, n12, n13, n14], [n15, n16, n17, n18, n19, n20, n21, n22, n23, n24, n25, n26]] [[n27, n28, n29, n30, n31, n32, n33, n34, n35, n36, n37, n38], [n39, n40, n41, n42, n43, n44, n45, n46, n47, n48, n49, n50]] →
    (∀ b4 : Nat, (∀ b5 : Nat, (((t = true) →
      (((¬ ((n39 = 0) ∧ ((n40 = 0) ∧ ((n41 = 0) ∧ ((n42 = 0) ∧ ((n43 = 0) ∧ ((n44 = 0) ∧ ((n45 = 0) ∧ ((n46 = 0) ∧ ((n47 = 0) ∧ ((n48 = 0) ∧ ((n49 = 0) ∧ (n50 = 0))))))))))))) →
        (Pre_plus [[n27, n28, n29, n30, n31, n32, n33, n34, n35, n36, n37, n38], [1, 0, 0, 0, 0, 0, 0, 0, 0, 0, 0, 0]] ∧
        (∀ n51 : Int, 0 ≤ n51 → n51 ≤ 65535 →
        (∀ n52 : Int, 0 ≤ n52 → n52 ≤ 65535 →
        (∀ n53 : Int, 0 ≤ n53 → n53 ≤ 65535 →
        (∀ n54 : Int, 0 ≤ n54 → n54 ≤ 65535 →
        (∀ n55 : Int, 0 ≤ n55 → n55 ≤ 65535 →
        (∀ n56 : Int, 0 ≤ n56 → n56 ≤ 65535 →
        (∀ n57 : Int, 0 ≤ n57 → n57 ≤ 65535 →
        (∀ n58 : Int, 0 ≤ n58 → n58 ≤ 65535 →
        (∀ n59 : Int, 0 ≤ n59 → n59 ≤ 65535 →
        (∀ n60 : Int, 0 ≤ n60 → n60 ≤ 65535 →
        (∀ n61 : Int, 0 ≤ n61 → n61 ≤ 65535 →
        (∀ n62 : Int, 0 ≤ n62 → n62 ≤ 65535 →
        (Post_plus [[n27, n28, n29, n30, n31, n32, n33, n34, n35, n36, n37, n38], [1, 0, 0, 0, 0, 0, 0, 0, 0, 0, 0, 0]] [[n51, n52, n53, n54, n55, n56, n57, n58, n59, n60, n61, n62]] →
        (Pre_less [[n15, n16, n17, n18, n19, n20, n21, n22, n23, n24, n25, n26], [n39, n40, n41, n42, n43, n44, n45, n46, n47, n48, n49, n50]] ∧
        (∀ n63 : Int, 0 ≤ n63 → n63 ≤ 65535 →
        (∀ n64 : Int, 0 ≤ n64 → n64 ≤ 65535 →
        (∀ n65 : Int, 0 ≤ n65 → n65 ≤ 65535 →
        (∀ n66 : Int, 0 ≤ n66 → n66 ≤ 65535 →
        (∀ n67 : Int, 0 ≤ n67 → n67 ≤ 65535 →
        (∀ n68 : Int, 0 ≤ n68 → n68 ≤ 65535 →
        (∀ n69 : Int, 0 ≤ n69 → n69 ≤ 65535 →
        (∀ n70 : Int, 0 ≤ n70 → n70 ≤ 65535 →
        (∀ n71 : Int, 0 ≤ n71 → n71 ≤ 65535 →
        (∀ n72 : Int, 0 ≤ n72 → n72 ≤ 65535 →
        (∀ n73 : Int, 0 ≤ n73 → n73 ≤ 65535 →
        (∀ n74 : Int, 0 ≤ n74 → n74 ≤ 65535 →
        (Post_less [[n15, n16, n17, n18, n19, n20, n21, n22, n23, n24, n25, n26], [n39, n40, n41, n42, n43, n44, n45, n46, n47, n48, n49, n50]] [[n63, n64, n65, n66, n67, n68, n69, n70, n71, n72, n73, n74]] →
        (Pre_tell [[b2i t, n51, n52, n53, n54, n55, n56, n57, n58, n59, n60, n61, n62]] ∧
        (∀ n75 : Int, (-9223372036854775808) ≤ n75 → n75 ≤ 9223372036854775807 →
        (∀ n76 : Int, 0 ≤ n76 → n76 ≤ 18446744073709551615 →
        (∀ n77 : Int, 0 ≤ n77 → n77 ≤ 11 →
        (Post_tell [[b2i t, n51, n52, n53, n54, n55, n56, n57, n58, n59, n60, n61, n62]] [[n75, n76], [n77]] →
        (∀ b6 : Nat, (Pre_tell [[b2i false, n63, n64, n65, n66, n67, n68, n69, n70, n71, n72, n73, n74]] ∧
        (∀ n78 : Int, (-9223372036854775808) ≤ n78 → n78 ≤ 9223372036854775807 →
        (∀ n79 : Int, 0 ≤ n79 → n79 ≤ 18446744073709551615 →
        (∀ n80 : Int, 0 ≤ n80 → n80 ≤ 11 →
        (Post_tell [[b2i false, n63, n64, n65, n66, n67, n68, n69, n70, n71, n72, n73, n74]] [[n78, n79], [n80]] →
        (∀ b7 : Nat, (∀ n81 : Int, n81 = (IntKind.wrap .i64 n79) → (-9223372036854775808) ≤ n81 → n81 ≤ 9223372036854775807 →
        Post_rfloor [[n, n1], [n2]] [[n75, n76], [n81], [0]])))))))))))))))))))))))))))))))))))))))))) ∧
       (¬ (¬ ((n39 = 0) ∧ ((n40 = 0) ∧ ((n41 = 0) ∧ ((n42 = 0) ∧ ((n43 = 0) ∧ ((n44 = 0) ∧ ((n45 = 0) ∧ ((n46 = 0) ∧ ((n47 = 0) ∧ ((n48 = 0) ∧ ((n49 = 0) ∧ (n50 = 0))))))))))))) →
        (Pre_tell [[b2i t, n27, n28, n29, n30, n31, n32, n33, n34, n35, n36, n37, n38]] ∧
        (∀ n51 : Int, (-9223372036854775808) ≤ n51 → n51 ≤ 9223372036854775807 →
        (∀ n52 : Int, 0 ≤ n52 → n52 ≤ 18446744073709551615 →
        (∀ n53 : Int, 0 ≤ n53 → n53 ≤ 11 →
        (Post_tell [[b2i t, n27, n28, n29, n30, n31, n32, n33, n34, n35, n36, n37, n38]] [[n51, n52], [n53]] →
        (∀ b6 : Nat, (Pre_tell [[b2i false, n39, n40, n41, n42, n43, n44, n45, n46, n47, n48, n49, n50]] ∧
        (∀ n54 : Int, (-9223372036854775808) ≤ n54 → n54 ≤ 9223372036854775807 →
        (∀ n55 : Int, 0 ≤ n55 → n55 ≤ 18446744073709551615 →
        (∀ n56 : Int, 0 ≤ n56 → n56 ≤ 11 →
        (Post_tell [[b2i false, n39, n40, n41, n42, n43, n44, n45, n46, n47, n48, n49, n50]] [[n54, n55], [n56]] →
        (∀ b7 : Nat, (∀ n57 : Int, n57 = (IntKind.wrap .i64 n55) → (-9223372036854775808) ≤ n57 → n57 ≤ 9223372036854775807 →
        Post_rfloor [[n, n1], [n2]] [[n51, n52], [n57], [0]])))))))))))))))) ∧
     (¬ (t = true) →
      (Pre_tell [[b2i t, n27, n28, n29, n30, n31, n32, n33, n34, n35, n36, n37, n38]] ∧
      (∀ n51 : Int, (-9223372036854775808) ≤ n51 → n51 ≤ 9223372036854775807 →
      (∀ n52 : Int, 0 ≤ n52 → n52 ≤ 18446744073709551615 →
      (∀ n53 : Int, 0 ≤ n53 → n53 ≤ 11 →
      (Post_tell [[b2i t, n27, n28, n29, n30, n31, n32, n33, n34, n35, n36, n37, n38]] [[n51, n52], [n53]] →
      (∀ b6 : Nat, (Pre_tell [[b2i false, n39, n40, n41, n42, n43, n44, n45, n46, n47, n48, n49, n50]] ∧
      (∀ n54 : Int, (-9223372036854775808) ≤ n54 → n54 ≤ 9223372036854775807 →
      (∀ n55 : Int, 0 ≤ n55 → n55 ≤ 18446744073709551615 →
      (∀ n56 : Int, 0 ≤ n56 → n56 ≤ 11 →
      (Post_tell [[b2i false, n39, n40, n41, n42, n43, n44, n45, n46, n47, n48, n49, n50]] [[n54, n55], [n56]] →
      (∀ b7 : Nat, (∀ n57 : Int, n57 = (IntKind.wrap .i64 n55) → (-9223372036854775808) ≤ n57 → n57 ≤ 9223372036854775807 →
      Post_rfloor [[n, n1], [n2]] [[n51, n52], [n57], [0]])))))))))))))))))))))))))))))))))))))))))))))))))))))))))))))))))))))))))))))))))))
theorem c_rfloor : canCall Tryd.prog 73 = true := by kernel_rfl
theorem s_rfloor : P_rfloor = sat E (symTop Tryd.prog tab39 2000 73 ash_rfloor sh_rfloor) := by kernel_rfl
theorem pure_rfloor (hV : Valid Tryd.prog tab39 E) (h : P_rfloor) (args : List Value) (ha : shaFits ash_rfloor args) (hp : E.pre 73 (args.map vints)) : Pure Tryd.prog 73 args.toArray fun v => sh_rfloor.fits v ∧ E.post 73 (args.map vints) (vres v) := @top_sat Tryd.prog tab39 E hV 2000 73 ash_rfloor sh_rfloor (@Eq.mp _ _ s_rfloor h) args ha hp
theorem step_rfloor (hV : Valid Tryd.prog tab39 E) (h : P_rfloor) : Valid Tryd.prog tab40 E := hV.add c_rfloor (pure_rfloor hV h)

/-- gouache/gouacheref01.Near -/
def P_rnear : Prop :=
  (∀ n : Int, (-9223372036854775808) ≤ n → n ≤ 9223372036854775807 →
  (∀ n1 : Int, 0 ≤ n1 → n1 ≤ 18446744073709551615 →
  (∀ n2 : Int, (-9223372036854775808) ≤ n2 → n2 ≤ 9223372036854775807 →
  (Pre_rnear [[n, n1], [n2]] →
  (∀ b : Nat, (∀ b1 : Nat, (((n2 < 1) →
    Post_rnear [[n, n1], [n2]] [[0, 0], [1]]) ∧
   (¬ (n2 < 1) →
    (Pre_read [[n, n1]] ∧
    (∀ t : Bool, (∀ n3 : Int, 0 ≤ n3 → n3 ≤ 65535 →
    (∀ n4 : Int, 0 ≤ n4 → n4 ≤ 65535 →
    (∀ n5 : Int, 0 ≤ n5 → n5 ≤ 65535 →
    (∀ n6 : Int, 0 ≤ n6 → n6 ≤ 65535 →
    (∀ n7 : Int, 0 ≤ n7 → n7 ≤ 65535 →
    (∀ n8 : Int, 0 ≤ n8 → n8 ≤ 65535 →
    (∀ n9 : Int, 0 ≤ n9 → n9 ≤ 65535 →
    (∀ n10 : Int, 0 ≤ n10 → n10 ≤ 65535 →
    (∀ n11 : Int, 0 ≤ n11 → n11 ≤ 65535 →
    (∀ n12 : Int, 0 ≤ n12 → n12 ≤ 65535 →
    (∀ n13 : Int, 0 ≤ n13 → n13 ≤ 65535 →
    (∀ n14 : Int, 0 ≤ n14 → n14 ≤ 65535 →
    (Post_read [[n, n1]] [[b2i t, n3, n4, n5, n6, n7, n8, n9, n10, n11, n12, n13, n14]] →
    (Pre_small [[n2]] ∧
    (∀ t1 : Bool, (∀ n15 : Int, 0 ≤ n15 → n15 ≤ 65535 →
    (∀ n16 : Int, 0 ≤ n16 → n16 ≤ 65535 →
    (∀ n17 : Int, 0 ≤ n17 → n17 ≤ 65535 →
    (∀ n18 : Int, 0 ≤ n18 → n18 ≤ 65535 →
    (∀ n19 : Int, 0 ≤ n19 → n19 ≤ 65535 →
    (∀ n20 : Int, 0 ≤ n20 → n20 ≤ 65535 →
    (∀ n21 : Int, 0 ≤ n21 → n21 ≤ 65535 →
    (∀ n22 : Int, 0 ≤ n22 → n22 ≤ 65535 →
    (∀ n23 : Int, 0 ≤ n23 → n23 ≤ 65535 →
    (∀ n24 : Int, 0 ≤ n24 → n24 ≤ 65535 →
    (∀ n25 : Int, 0 ≤ n25 → n25 ≤ 65535 →
    (∀ n26 : Int, 0 ≤ n26 → n26 ≤ 65535 →
    (Post_small [[n2]] [[b2i t1, n15, n16, n17, n18, n19, n20, n21, n22, n23, n24, n25, n26]] →
    (Pre_nearest [[b2i t, n3, n4, n5, n6, n7, n8, n9, n10, n11, n12, n13, n14], [b2i t1, n15, n16, n17, n18, n19, n20, n21, n22, n23, n24, n25, n26]] ∧
    (∀ t2 : Bool, (∀ n27 : Int, 0 ≤ n27 → n27 ≤ 65535 →
    (∀ n28 : Int, 0 ≤ n28 → n28 ≤ 65535 →
    (∀ n29 : Int, 0 ≤ n29 → n29 ≤ 65535 →
    (∀ n30 : Int, 0 ≤ n30 → n30 ≤ 65535 →
    (∀ n31 : Int, 0 ≤ n31 → n31 ≤ 65535 →
    (∀ n32 : Int, 0 ≤ n32 → n32 ≤ 65535 →
    (∀ n33 : Int, 0 ≤ n33 → n33 ≤ 65535 →
    (∀ n34 : Int, 0 ≤ n34 → n34 ≤ 65535 →
    (∀ n35 : Int, 0 ≤ n35 → n35 ≤ 65535 →
    (∀ n36 : Int, 0 ≤ n36 → n36 ≤ 65535 →
    (∀ n37 : Int, 0 ≤ n37 → n37 ≤ 65535 →
    (∀ n38 : Int, 0 ≤ n38 → n38 ≤ 65535 →
    (Post_nearest [[b2i t, n3, n4, n5, n6, n7, n8, n9, n10, n11, n12, n13, n14], [b2i t1, n15, n16, n17, n18, n19, n20, n21, n22, n23, n24, n25, n26]] [[b2i t2, n27, n28, n29, n30, n31, n32, n33, n34, n35, n36, n37, n38]] →
    (Pre_tell [[b2i t2, n27, n28, n29, n30, n31, n32, n33, n34, n35, n36, n37, n38]] ∧
    (∀ n39 : Int, (-9223372036854775808) ≤ n39 → n39 ≤ 9223372036854775807 →
    (∀ n40 : Int, 0 ≤ n40 → n40 ≤ 18446744073709551615 →
    (∀ n41 : Int, 0 ≤ n41 → n41 ≤ 11 →
    (Post_tell [[b2i t2, n27, n28, n29, n30, n31, n32, n33, n34, n35, n36, n37, n38]] [[n39, n40], [n41]] →
    Post_rnear [[n, n1], [n2]] [[n39, n40], [n41]]))))))))))))))))))))))))))))))))))))))))))))))))))))))))))
theorem c_rnear : canCall Tryd.prog 31 = true := by kernel_rfl
theorem s_rnear : P_rnear = sat E (symTop Tryd.prog tab40 2000 31 ash_rnear sh_rnear) := by kernel_rfl
theorem pure_rnear (hV : Valid Tryd.prog tab40 E) (h : P_rnear) (args : List Value) (ha : shaFits ash_rnear args) (hp : E.pre 31 (args.map vints)) : Pure Tryd.prog 31 args.toArray fun v => sh_rnear.fits v ∧ E.post 31 (args.map vints) (vres v) := @top_sat Tryd.prog tab40 E hV 2000 31 ash_rnear sh_rnear (@Eq.mp _ _ s_rnear h) args ha hp
theorem step_rnear (hV : Valid Tryd.prog tab40 E) (h : P_rnear) : Valid Tryd.prog tab41 E := hV.add c_rnear (pure_rnear hV h)

/-- gouache/roots.wide$1 -/
def P_wide1 : Prop :=
  (∀ n : Int, 0 ≤ n → n ≤ 18446744073709551615 →
  (Pre_wide1 [[n]] →
  (∀ b : Nat, (Pre_mul64 [[n], [n]] ∧
  (∀ n1 : Int, 0 ≤ n1 → n1 ≤ 18446744073709551615 →
  (∀ n2 : Int, 0 ≤ n2 → n2 ≤ 18446744073709551615 →
  (Post_mul64 [[n], [n]] [[n1], [n2]] →
  Post_wide1 [[n]] [[n1, n2]])))))))
theorem c_wide1 : canCall Tryd.prog 96 = true := by kernel_rfl
theorem s_wide1 : P_wide1 = sat E (symTop Tryd.prog tab41 2000 96 ash_wide1 sh_wide1) := by kernel_rfl
theorem pure_wide1 (hV : Valid Tryd.prog tab41 E) (h : P_wide1) (args : List Value) (ha : shaFits ash_wide1 args) (hp : E.pre 96 (args.map vints)) : Pure Tryd.prog 96 args.toArray fun v => sh_wide1.fits v ∧ E.post 96 (args.map vints) (vres v) := @top_sat Tryd.prog tab41 E hV 2000 96 ash_wide1 sh_wide1 (@Eq.mp _ _ s_wide1 h) args ha hp
theorem step_wide1 (hV : Valid Tryd.prog tab41 E) (h : P_wide1) : Valid Tryd.prog tab42 E := hV.add c_wide1 (pure_wide1 hV h)

/-- gouache/roots.wide$2 -/
def P_wide2 : Prop :=
  (∀ n : Int, 0 ≤ n → n ≤ 18446744073709551615 →
  (∀ n1 : Int, 0 ≤ n1 → n1 ≤ 18446744073709551615 →
  (∀ n2 : Int, 0 ≤ n2 → n2 ≤ 18446744073709551615 →
  (∀ n3 : Int, 0 ≤ n3 → n3 ≤ 18446744073709551615 →
  (Pre_wide2 [[n, n1], [n2, n3]] →
  (∀ b : Nat, (∀ b1 : Nat, (((n2 < n) →
    Post_wide2 [[n, n1], [n2, n3]] [[b2i true]]) ∧
   (¬ (n2 < n) →
    (((n = n2) →
      Post_wide2 [[n, n1], [n2, n3]] [[b2i (decide (n3 < n1))]]) ∧
     (¬ (n = n2) →
      Post_wide2 [[n, n1], [n2, n3]] [[b2i false]])))))))))))
theorem c_wide2 : canCall Tryd.prog 97 = true := by kernel_rfl
theorem s_wide2 : P_wide2 = sat E (symTop Tryd.prog tab42 2000 97 ash_wide2 sh_wide2) := by kernel_rfl
theorem pure_wide2 (hV : Valid Tryd.prog tab42 E) (h : P_wide2) (args : List Value) (ha : shaFits ash_wide2 args) (hp : E.pre 97 (args.map vints)) : Pure Tryd.prog 97 args.toArray fun v => sh_wide2.fits v ∧ E.post 97 (args.map vints) (vres v) := @top_sat Tryd.prog tab42 E hV 2000 97 ash_wide2 sh_wide2 (@Eq.mp _ _ s_wide2 h) args ha hp
theorem step_wide2 (hV : Valid Tryd.prog tab42 E) (h : P_wide2) : Valid Tryd.prog tab43 E := hV.add c_wide2 (pure_wide2 hV h)

/-- gouache/roots.root[gouache/roots.pair] -/
def P_rootwide : Prop :=
  (∀ n : Int, 0 ≤ n → n ≤ 18446744073709551615 →
  (∀ n1 : Int, 0 ≤ n1 → n1 ≤ 18446744073709551615 →
  (Pre_rootwide [[n, n1], [64], [0, 0]] →
  (∀ b : Nat, (∀ b1 : Nat, (Inv_rootwide [n, n1, 64] [0, 0] ∧
  (∀ n2 : Int, 0 ≤ n2 → n2 ≤ 18446744073709551615 →
  (∀ n3 : Int, 0 ≤ n3 → n3 ≤ 64 →
  (Inv_rootwide [n, n1, 64] [n2, n3] →
  (∀ vs : List Value, vs.length = 24 →
  (((n3 < 64) →
    ((0 ≤ (63 - n3)) ∧
    (∀ n4 : Int, n4 = (63 - n3) → 0 ≤ n4 → n4 ≤ 63 →
    (∀ n5 : Int, n5 = (bitsI .or .u64 n2 (shI .shl .u64 1 n4)) → 0 ≤ n5 → n5 ≤ 18446744073709551615 →
    (Pre_wide1 [[n5]] ∧
    (∀ n6 : Int, 0 ≤ n6 → n6 ≤ 18446744073709551615 →
    (∀ n7 : Int, 0 ≤ n7 → n7 ≤ 18446744073709551615 →
    (Post_wide1 [[n5]] [[n6, n7]] →
    (Pre_wide2 [[n6, n7], [n, n1]] ∧
    (∀ t : Bool, (Post_wide2 [[n6, n7], [n, n1]] [[b2i t]] →
    (((¬ (t = true)) →
      (((n3 + 1) ≤ 64) ∧
      (∀ n8 : Int, n8 = (n3 + 1) → 0 ≤ n8 → n8 ≤ 64 →
      (Inv_rootwide [n, n1, 64] [n5, n8] ∧ Mea_rootwide [n, n1, 64] [n5, n8] < Mea_rootwide [n, n1, 64] [n2, n3])))) ∧
     (¬ (¬ (t = true)) →
      (((n3 + 1) ≤ 64) ∧
      (∀ n8 : Int, n8 = (n3 + 1) → 0 ≤ n8 → n8 ≤ 64 →
      (Inv_rootwide [n, n1, 64] [n2, n8] ∧ Mea_rootwide [n, n1, 64] [n2, n8] < Mea_rootwide [n, n1, 64] [n2, n3])))))))))))))))) ∧
   (¬ (n3 < 64) →
    Post_rootwide [[n, n1], [64], [0, 0]] [[n2]]))))))))))))
theorem c_rootwide : canCall Tryd.prog 87 = true := by kernel_rfl
theorem s_rootwide : P_rootwide = sat E (symTop Tryd.prog tab43 2000 87 ash_rootwide sh_rootwide) := by kernel_rfl
theorem pure_rootwide (hV : Valid Tryd.prog tab43 E) (h : P_rootwide) (args : List Value) (ha : shaFits ash_rootwide args) (hp : E.pre 87 (args.map vints)) : Pure Tryd.prog 87 args.toArray fun v => sh_rootwide.fits v ∧ E.post 87 (args.map vints) (vres v) := @top_sat Tryd.prog tab43 E hV 2000 87 ash_rootwide sh_rootwide (@Eq.mp _ _ s_rootwide h) args ha hp
theorem step_rootwide (hV : Valid Tryd.prog tab43 E) (h : P_rootwide) : Valid Tryd.prog tab44 E := hV.add c_rootwide (pure_rootwide hV h)

/-- gouache/roots.wide -/
def P_mkwide : Prop :=
  (Pre_mkwide [] →
  (∀ b : Nat, Post_mkwide [] [[0, 0]]))
theorem c_mkwide : canCall Tryd.prog 88 = true := by kernel_rfl
theorem s_mkwide : P_mkwide = sat E (symTop Tryd.prog tab44 2000 88 ash_mkwide sh_mkwide) := by kernel_rfl
theorem pure_mkwide (hV : Valid Tryd.prog tab44 E) (h : P_mkwide) (args : List Value) (ha : shaFits ash_mkwide args) (hp : E.pre 88 (args.map vints)) : Pure Tryd.prog 88 args.toArray fun v => sh_mkwide.fits v ∧ E.post 88 (args.map vints) (vres v) := @top_sat Tryd.prog tab44 E hV 2000 88 ash_mkwide sh_mkwide (@Eq.mp _ _ s_mkwide h) args ha hp
theorem step_mkwide (hV : Valid Tryd.prog tab44 E) (h : P_mkwide) : Valid Tryd.prog tab45 E := hV.add c_mkwide (pure_mkwide hV h)

/-- gouache/roots.RootWide -/
def P_rootWide : Prop :=
  (∀ n : Int, (-9223372036854775808) ≤ n → n ≤ 9223372036854775807 →
  (∀ n1 : Int, 0 ≤ n1 → n1 ≤ 18446744073709551615 →
  (Pre_rootWide [[n, n1]] →
  (∀ b : Nat, (Pre_wof [[0]] ∧
  (∀ n2 : Int, (-9223372036854775808) ≤ n2 → n2 ≤ 9223372036854775807 →
  (∀ n3 : Int, 0 ≤ n3 → n3 ≤ 18446744073709551615 →
  (Post_wof [[0]] [[n2, n3]] →
  (Pre_wcmp [[n, n1], [n2, n3]] ∧
  (∀ n4 : Int, (-1) ≤ n4 → n4 ≤ 1 →
  (Post_wcmp [[n, n1], [n2, n3]] [[n4]] →
  (((n4 < 0) →
    Post_rootWide [[n, n1]] [[0], [1]]) ∧
   (¬ (n4 < 0) →
    (Pre_mkwide [] ∧
    (Post_mkwide [] [[0, 0]] →
    (∀ n5 : Int, n5 = (IntKind.wrap .u64 n) → 0 ≤ n5 → n5 ≤ 18446744073709551615 →
    (Pre_rootwide [[n5, n1], [64], [0, 0]] ∧
    (∀ n6 : Int, 0 ≤ n6 → n6 ≤ 18446744073709551615 →
    (Post_rootwide [[n5, n1], [64], [0, 0]] [[n6]] →
    Post_rootWide [[n, n1]] [[n6], [0]])))))))))))))))))))
theorem c_rootWide : canCall Tryd.prog 76 = true := by kernel_rfl
theorem s_rootWide : P_rootWide = sat E (symTop Tryd.prog tab45 2000 76 ash_rootWide sh_rootWide) := by kernel_rfl
theorem pure_rootWide (hV : Valid Tryd.prog tab45 E) (h : P_rootWide) (args : List Value) (ha : shaFits ash_rootWide args) (hp : E.pre 76 (args.map vints)) : Pure Tryd.prog 76 args.toArray fun v => sh_rootWide.fits v ∧ E.post 76 (args.map vints) (vres v) := @top_sat Tryd.prog tab45 E hV 2000 76 ash_rootWide sh_rootWide (@Eq.mp _ _ s_rootWide h) args ha hp
theorem step_rootWide (hV : Valid Tryd.prog tab45 E) (h : P_rootWide) : Valid Tryd.prog tab46 E := hV.add c_rootWide (pure_rootWide hV h)

/-- gouache/roots.Log -/
def P_log : Prop :=
  (∀ n : Int, 0 ≤ n → n ≤ 18446744073709551615 →
  (Pre_log [[n]] →
  (Pre_len64 [[n]] ∧
  (∀ n1 : Int, 0 ≤ n1 → n1 ≤ 64 →
  (Post_len64 [[n]] [[n1]] →
  (∀ n2 : Int, n2 = (n1 - 1) → (-1) ≤ n2 → n2 ≤ 63 →
  Post_log [[n]] [[n2]]))))))
theorem c_log : canCall Tryd.prog 67 = true := by kernel_rfl
theorem s_log : P_log = sat E (symTop Tryd.prog tab46 2000 67 ash_log sh_log) := by kernel_rfl
theorem pure_log (hV : Valid Tryd.prog tab46 E) (h : P_log) (args : List Value) (ha : shaFits ash_log args) (hp : E.pre 67 (args.map vints)) : Pure Tryd.prog 67 args.toArray fun v => sh_log.fits v ∧ E.post 67 (args.map vints) (vres v) := @top_sat Tryd.prog tab46 E hV 2000 67 ash_log sh_log (@Eq.mp _ _ s_log h) args ha hp
theorem step_log (hV : Valid Tryd.prog tab46 E) (h : P_log) : Valid Tryd.prog tab47 E := hV.add c_log (pure_log hV h)

/-- gouache/gouacheref03.num -/
def P_rnum : Prop :=
  (∀ n : Int, 0 ≤ n → n ≤ 18446744073709551615 →
  (Pre_rnum [[n]] →
  (∀ b : Nat, (Pre_read [[0, n]] ∧
  (∀ t : Bool, (∀ n1 : Int, 0 ≤ n1 → n1 ≤ 65535 →
  (∀ n2 : Int, 0 ≤ n2 → n2 ≤ 65535 →
  (∀ n3 : Int, 0 ≤ n3 → n3 ≤ 65535 →
  (∀ n4 : Int, 0 ≤ n4 → n4 ≤ 65535 →
  (∀ n5 : Int, 0 ≤ n5 → n5 ≤ 65535 →
  (∀ n6 : Int, 0 ≤ n6 → n6 ≤ 65535 →
  (∀ n7 : Int, 0 ≤ n7 → n7 ≤ 65535 →
  (∀ n8 : Int, 0 ≤ n8 → n8 ≤ 65535 →
  (∀ n9 : Int, 0 ≤ n9 → n9 ≤ 65535 →
  (∀ n10 : Int, 0 ≤ n10 → n10 ≤ 65535 →
  (∀ n11 : Int, 0 ≤ n11 → n11 ≤ 65535 →
  (∀ n12 : Int, 0 ≤ n12 → n12 ≤ 65535 →
  (Post_read [[0, n]] [[b2i t, n1, n2, n3, n4, n5, n6, n7, n8, n9, n10, n11, n12]] →
  Post_rnum [[n]] [[b2i t, n1, n2, n3, n4, n5, n6, n7, n8, n9, n10, n11, n12]]))))))))))))))))))
theorem c_rnum : canCall Tryd.prog 92 = true := by kernel_rfl
theorem s_rnum : P_rnum = sat E (symTop Tryd.prog tab47 2000 92 ash_rnum sh_rnum) := by kernel_rfl
theorem pure_rnum (hV : Valid Tryd.prog tab47 E) (h : P_rnum) (args : List Value) (ha : shaFits ash_rnum args) (hp : E.pre 92 (args.map vints)) : Pure Tryd.prog 92 args.toArray fun v => sh_rnum.fits v ∧ E.post 92 (args.map vints) (vres v) := @top_sat Tryd.prog tab47 E hV 2000 92 ash_rnum sh_rnum (@Eq.mp _ _ s_rnum h) args ha hp
theorem step_rnum (hV : Valid Tryd.prog tab47 E) (h : P_rnum) : Valid Tryd.prog tab48 E := hV.add c_rnum (pure_rnum hV h)

/-- gouache/gouacheref03.root -/
def P_rroot : Prop :=
  (∀ t : Bool, (∀ n : Int, 0 ≤ n → n ≤ 65535 →
  (∀ n1 : Int, 0 ≤ n1 → n1 ≤ 65535 →
  (∀ n2 : Int, 0 ≤ n2 → n2 ≤ 65535 →
  (∀ n3 : Int, 0 ≤ n3 → n3 ≤ 65535 →
  (∀ n4 : Int, 0 ≤ n4 → n4 ≤ 65535 →
  (∀ n5 : Int, 0 ≤ n5 → n5 ≤ 65535 →
  (∀ n6 : Int, 0 ≤ n6 → n6 ≤ 65535 →
  (∀ n7 : Int, 0 ≤ n7 → n7 ≤ 65535 →
  (∀ n8 : Int, 0 ≤ n8 → n8 ≤ 65535 →
  (∀ n9 : Int, 0 ≤ n9 → n9 ≤ 65535 →
  (∀ n10 : Int, 0 ≤ n10 → n10 ≤ 65535 →
  (∀ n11 : Int, 0 ≤ n11 → n11 ≤ 65535 →
  (Pre_rroot [[b2i t, n, n1, n2, n3, n4, n5, n6, n7, n8, n9, n10, n11]] →
  (∀ b : Nat, (Inv_rroot [b2i t, n, n1, n2, n3, n4, n5, n6, n7, n8, n9, n10, n11] [0, 18446744073709551615] ∧
  (∀ n12 : Int, 0 ≤ n12 → n12 ≤ 18446744073709551615 →
  (∀ n13 : Int, 0 ≤ n13 → n13 ≤ 18446744073709551615 →
  (Inv_rroot [b2i t, n, n1, n2, n3, n4, n5, n6, n7, n8, n9, n10, n11] [n12, n13] →
  (∀ vs : List Value, vs.length = 27 →
  (((n12 < n13) →
    (∀ n14 : Int, n14 = (IntKind.wrap .u64 ((IntKind.wrap .u64 (n12 + ((IntKind.wrap .u64 (n13 - n12)) / 2))) + ((IntKind.wrap .u64 (n13 - n12)) % 2))) → 0 ≤ n14 → n14 ≤ 18446744073709551615 →
    (Pre_rnum [[n14]] ∧
    (∀ t1 : Bool, (∀ n15 : Int, 0 ≤ n15 → n15 ≤ 65535 →
    (∀ n16 : Int, 0 ≤ n16 → n16 ≤ 65535 →
    (∀ n17 : Int, 0 ≤ n17 → n17 ≤ 65535 →
    (∀ n18 : Int, 0 ≤ n18 → n18 ≤ 65535 →
    (∀ n19 : Int, 0 ≤ n19 → n19 ≤ 65535 →
    (∀ n20 : Int, 0 ≤ n20 → n20 ≤ 65535 →
    (∀ n21 : Int, 0 ≤ n21 → n21 ≤ 65535 →
    (∀ n22 : Int, 0 ≤ n22 → n22 ≤ 65535 →
    (∀ n23 : Int, 0 ≤ n23 → n23 ≤ 65535 →
    (∀ n24 : Int, 0 ≤ n24 → n24 ≤ 65535 →
    (∀ n25 : Int, 0 ≤ n25 → n25 ≤ 65535 →
    (∀ n26 : Int, 0 ≤ n26 → n26 ≤ 65535 →
    (Post_rnum [[n14]] [[b2i t1, n15, n16, n17, n18, n19, n20, n21, n22, n23, n24, n25, n26]] →
    (Pre_rnum [[n14]] ∧
    (∀ t2 : Bool, (∀ n27 : Int, 0 ≤ n27 → n27 ≤ 65535 →
    (∀ n28 : Int, 0 ≤ n28 → n28 ≤ 65535 →
    (∀ n29 : Int, 0 ≤ n29 → n29 ≤ 65535 →
    (∀ n30 : Int, 0 ≤ n30 → n30 ≤ 65535 →
    (∀ n31 : Int, 0 ≤ n31 → n31 ≤ 65535 →
    (∀ n32 : Int, 0 ≤ n32 → n32 ≤ 65535 →
    (∀ n33 : Int, 0 ≤ n33 → n33 ≤ 65535 →
    (∀ n34 : Int, 0 ≤ n34 → n34 ≤ 65535 →
    (∀ n35 : Int, 0 ≤ n35 → n35 ≤ 65535 →
    (∀ n36 : Int, 0 ≤ n36 → n36 ≤ 65535 →
    (∀ n37 : Int, 0 ≤ n37 → n37 ≤ 65535 →
    (∀ n38 : Int, 0 ≤ n38 → n38 ≤ 65535 →
    (Post_rnum [[n14]] [[b2i t2, n27, n28, n29, n30, n31, n32, n33, n34, n35, n36, n37, n38]] →
    (Pre_product [[b2i t1, n15, n16, n17, n18, n19, n20, n21, n22, n23, n24, n25, n26], [b2i t2, n27, n28, n29, n30, n31, n32, n33, n34, n35, n36, n37, n38]] ∧
    (∀ t3 : Bool, (∀ n39 : Int, 0 ≤ n39 → n39 ≤ 65535 →
    (∀ n40 : Int, 0 ≤ n40 → n40 ≤ 65535 →
    (∀ n41 : Int, 0 ≤ n41 → n41 ≤ 65535 →
    (∀ n42 : Int, 0 ≤ n42 → n42 ≤ 65535 →
    (∀ n43 : Int, 0 ≤ n43 → n43 ≤ 65535 →
    (∀ n44 : Int, 0 ≤ n44 → n44 ≤ 65535 →
    (∀ n45 : Int, 0 ≤ n45 → n45 ≤ 65535 →
    (∀ n46 : Int, 0 ≤ n46 → n46 ≤ 65535 →
    (∀ n47 : Int, 0 ≤ n47 → n47 ≤ 65535 →
    (∀ n48 : Int, 0 ≤ n48 → n48 ≤ 65535 →
    (∀ n49 : Int, 0 ≤ n49 → n49 ≤ 65535 →
    (∀ n50 : Int, 0 ≤ n50 → n50 ≤ 65535 →
    (Post_product [[b2i t1, n15, n16, n17, n18, n19, n20, n21, n22, n23, n24, n25, n26], [b2i t2, n27, n28, n29, n30, n31, n32, n33, n34, n35, n36, n37, n38]] [[b2i t3, n39, n40, n41, n42, n43, n44, n45, n46, n47, n48, n49, n50]] →
    (Pre_above [[b2i t3, n39, n40, n41, n42, n43, n44, n45, n46, n47, n48, n49, n50], [b2i t, n, n1, n2, n3, n4, n5, n6, n7, n8, n9, n10, n11]] ∧
    (∀ t4 : Bool, (Post_above [[b2i t3, n39, n40, n41, n42, n43, n44, n45, n46, n47, n48, n49, n50], [b2i t, n, n1, n2, n3, n4, n5, n6, n7, n8, n9, n10, n11]] [[b2i t4]] →
    (((t4 = true) →
      (∀ n51 : Int, n51 = (IntKind.wrap .u64 (n14 - 1)) → 0 ≤ n51 → n51 ≤ 18446744073709551615 →
      (Inv_rroot [b2i t, n, n1, n2, n3, n4, n5, n6, n7, n8, n9, n10, n11] [n12, n51] ∧ Mea_rroot [b2i t, n, n1, n2, n3, n4, n5, n6, n7, n8, n9, n10, n11] [n12, n51] < Mea_rroot [b2i t, n, n1, n2, n3, n4, n5, n6, n7, n8, n9, n10, n11] [n12, n13]))) ∧
     (¬ (t4 = true) →
      (Inv_rroot [b2i t, n, n1, n2, n3, n4, n5, n6, n7, n8, n9, n10, n11] [n14, n13] ∧ Mea_rroot [b2i t, n, n1, n2, n3, n4, n5, n6, n7, n8, n9, n10, n11] [n14, n13] < Mea_rroot [b2i t, n, n1, n2, n3, n4, n5, n6, n7, n8, n9, n10, n11] [n12, n13]))))))))))))))))))))))))))))))))))))))))))))))))))))) ∧
   (¬ (n12 < n13) →
    Post_rroot [[b2i t, n, n1, n2, n3, n4, n5, n6, n7, n8, n9, n10, n11]] [[n12]]))))))))))))))))))))))
theorem c_rroot : canCall Tryd.prog 85 = true := by kernel_rfl
theorem s_rroot : P_rroot = sat E (symTop Tryd.prog tab48 2000 85 ash_rroot sh_rroot) := by kernel_rfl
theorem pure_rroot (hV : Valid Tryd.prog tab48 E) (h : P_rroot) (args : List Value) (ha : shaFits ash_rroot args) (hp : E.pre 85 (args.map vints)) : Pure Tryd.prog 85 args.toArray fun v => sh_rroot.fits v ∧ E.post 85 (args.map vints) (vres v) := @top_sat Tryd.prog tab48 E hV 2000 85 ash_rroot sh_rroot (@Eq.mp _ _ s_rroot h) args ha hp
theorem step_rroot (hV : Valid Tryd.prog tab48 E) (h : P_rroot) : Valid Tryd.prog tab49 E := hV.add c_rroot (pure_rroot hV h)

/-- gouache/gouacheref03.RootWide -/
def P_rRootWide : Prop :=
  (∀ n : Int, (-9223372036854775808) ≤ n → n ≤ 9223372036854775807 →
  (∀ n1 : Int, 0 ≤ n1 → n1 ≤ 18446744073709551615 →
  (Pre_rRootWide [[n, n1]] →
  (∀ b : Nat, (((n < 0) →
    Post_rRootWide [[n, n1]] [[0], [1]]) ∧
   (¬ (n < 0) →
    (Pre_read [[n, n1]] ∧
    (∀ t : Bool, (∀ n2 : Int, 0 ≤ n2 → n2 ≤ 65535 →
    (∀ n3 : Int, 0 ≤ n3 → n3 ≤ 65535 →
    (∀ n4 : Int, 0 ≤ n4 → n4 ≤ 65535 →
    (∀ n5 : Int, 0 ≤ n5 → n5 ≤ 65535 →
    (∀ n6 : Int, 0 ≤ n6 → n6 ≤ 65535 →
    (∀ n7 : Int, 0 ≤ n7 → n7 ≤ 65535 →
    (∀ n8 : Int, 0 ≤ n8 → n8 ≤ 65535 →
    (∀ n9 : Int, 0 ≤ n9 → n9 ≤ 65535 →
    (∀ n10 : Int, 0 ≤ n10 → n10 ≤ 65535 →
    (∀ n11 : Int, 0 ≤ n11 → n11 ≤ 65535 →
    (∀ n12 : Int, 0 ≤ n12 → n12 ≤ 65535 →
    (∀ n13 : Int, 0 ≤ n13 → n13 ≤ 65535 →
    (Post_read [[n, n1]] [[b2i t, n2, n3, n4, n5, n6, n7, n8, n9, n10, n11, n12, n13]] →
    (Pre_rroot [[b2i t, n2, n3, n4, n5, n6, n7, n8, n9, n10, n11, n12, n13]] ∧
    (∀ n14 : Int, 0 ≤ n14 → n14 ≤ 18446744073709551615 →
    (Post_rroot [[b2i t, n2, n3, n4, n5, n6, n7, n8, n9, n10, n11, n12, n13]] [[n14]] →
    Post_rRootWide [[n, n1]] [[n14], [0]]))))))))))))))))))))))))
theorem c_rRootWide : canCall Tryd.prog 74 = true := by kernel_rfl
theorem s_rRootWide : P_rRootWide = sat E (symTop Tryd.prog tab49 2000 74 ash_rRootWide sh_rRootWide) := by kernel_rfl
theorem pure_rRootWide (hV : Valid Tryd.prog tab49 E) (h : P_rRootWide) (args : List Value) (ha : shaFits ash_rRootWide args) (hp : E.pre 74 (args.map vints)) : Pure Tryd.prog 74 args.toArray fun v => sh_rRootWide.fits v ∧ E.post 74 (args.map vints) (vres v) := @top_sat Tryd.prog tab49 E hV 2000 74 ash_rRootWide sh_rRootWide (@Eq.mp _ _ s_rRootWide h) args ha hp
theorem step_rRootWide (hV : Valid Tryd.prog tab49 E) (h : P_rRootWide) : Valid Tryd.prog tab50 E := hV.add c_rRootWide (pure_rRootWide hV h)

/-- gouache/gouacheref03.Log -/
def P_rLog : Prop :=
  (∀ n : Int, 0 ≤ n → n ≤ 18446744073709551615 →
  (Pre_rLog [[n]] →
  (Inv_rLog [n] [n, (-1)] ∧
  (∀ n1 : Int, 0 ≤ n1 → n1 ≤ 18446744073709551615 →
  (∀ n2 : Int, (-1) ≤ n2 → n2 ≤ 63 →
  (Inv_rLog [n] [n1, n2] →
  (∀ vs : List Value, vs.length = 8 →
  (((0 < n1) →
    (∀ n3 : Int, n3 = (n1 / 2) → 0 ≤ n3 → n3 ≤ 9223372036854775807 →
    (∀ n4 : Int, n4 = (n2 + 1) → 0 ≤ n4 → n4 ≤ 64 →
    ((n4 ≤ 63) ∧
    (∀ n5 : Int, n5 = n4 → (-1) ≤ n5 → n5 ≤ 63 →
    (Inv_rLog [n] [n3, n5] ∧ Mea_rLog [n] [n3, n5] < Mea_rLog [n] [n1, n2])))))) ∧
   (¬ (0 < n1) →
    Post_rLog [[n]] [[n2]])))))))))
theorem c_rLog : canCall Tryd.prog 53 = true := by kernel_rfl
theorem s_rLog : P_rLog = sat E (symTop Tryd.prog tab50 2000 53 ash_rLog sh_rLog) := by kernel_rfl
theorem pure_rLog (hV : Valid Tryd.prog tab50 E) (h : P_rLog) (args : List Value) (ha : shaFits ash_rLog args) (hp : E.pre 53 (args.map vints)) : Pure Tryd.prog 53 args.toArray fun v => sh_rLog.fits v ∧ E.post 53 (args.map vints) (vres v) := @top_sat Tryd.prog tab50 E hV 2000 53 ash_rLog sh_rLog (@Eq.mp _ _ s_rLog h) args ha hp
theorem step_rLog (hV : Valid Tryd.prog tab50 E) (h : P_rLog) : Valid Tryd.prog tab51 E := hV.add c_rLog (pure_rLog hV h)

/-- gouache/fixeds.Sat -/
def P_sat : Prop :=
  (∀ n : Int, (-9223372036854775808) ≤ n → n ≤ 9223372036854775807 →
  (Pre_sat [[n]] →
  (∀ n1 : Int, n1 = (max (-2147483648) (min 2147483647 n)) → (-2147483648) ≤ n1 → n1 ≤ 2147483647 →
  Post_sat [[n]] [[n1]])))
theorem c_sat : canCall Tryd.prog 19 = true := by kernel_rfl
theorem s_sat : P_sat = sat E (symTop Tryd.prog tab51 2000 19 ash_sat sh_sat) := by kernel_rfl
theorem pure_sat (hV : Valid Tryd.prog tab51 E) (h : P_sat) (args : List Value) (ha : shaFits ash_sat args) (hp : E.pre 19 (args.map vints)) : Pure Tryd.prog 19 args.toArray fun v => sh_sat.fits v ∧ E.post 19 (args.map vints) (vres v) := @top_sat Tryd.prog tab51 E hV 2000 19 ash_sat sh_sat (@Eq.mp _ _ s_sat h) args ha hp
theorem step_sat (hV : Valid Tryd.prog tab51 E) (h : P_sat) : Valid Tryd.prog tab52 E := hV.add c_sat (pure_sat hV h)

/-- gouache/powers.made -/
def P_pmade : Prop :=
  (Pre_pmade [] →
  (∀ b : Nat, (∀ b1 : Nat, (Pre_rootWide [[2305843009213693952, 0]] ∧
  (∀ n : Int, 0 ≤ n → n ≤ 18446744073709551615 →
  (∀ n1 : Int, (-9223372036854775808) ≤ n1 → n1 ≤ 9223372036854775807 →
  (Post_rootWide [[2305843009213693952, 0]] [[n], [n1]] →
  (∀ n2 : Int, n2 = (n / 4) → 0 ≤ n2 → n2 ≤ 4611686018427387903 →
  (∀ n3 : Int, n3 = (IntKind.wrap .u64 (n * 4611686018427387904)) → 0 ≤ n3 → n3 ≤ 18446744073709551615 →
  (Pre_rootWide [[n2, n3]] ∧
  (∀ n4 : Int, 0 ≤ n4 → n4 ≤ 18446744073709551615 →
  (∀ n5 : Int, (-9223372036854775808) ≤ n5 → n5 ≤ 9223372036854775807 →
  (Post_rootWide [[n2, n3]] [[n4], [n5]] →
  (∀ n6 : Int, n6 = (n4 / 4) → 0 ≤ n6 → n6 ≤ 4611686018427387903 →
  (∀ n7 : Int, n7 = (IntKind.wrap .u64 (n4 * 4611686018427387904)) → 0 ≤ n7 → n7 ≤ 18446744073709551615 →
  (Pre_rootWide [[n6, n7]] ∧
  (∀ n8 : Int, 0 ≤ n8 → n8 ≤ 18446744073709551615 →
  (∀ n9 : Int, (-9223372036854775808) ≤ n9 → n9 ≤ 9223372036854775807 →
  (Post_rootWide [[n6, n7]] [[n8], [n9]] →
  (∀ n10 : Int, n10 = (n8 / 4) → 0 ≤ n10 → n10 ≤ 4611686018427387903 →
  (∀ n11 : Int, n11 = (IntKind.wrap .u64 (n8 * 4611686018427387904)) → 0 ≤ n11 → n11 ≤ 18446744073709551615 →
  (Pre_rootWide [[n10, n11]] ∧
  (∀ n12 : Int, 0 ≤ n12 → n12 ≤ 18446744073709551615 →
  (∀ n13 : Int, (-9223372036854775808) ≤ n13 → n13 ≤ 9223372036854775807 →
  (Post_rootWide [[n10, n11]] [[n12], [n13]] →
  (∀ n14 : Int, n14 = (n12 / 4) → 0 ≤ n14 → n14 ≤ 4611686018427387903 →
  (∀ n15 : Int, n15 = (IntKind.wrap .u64 (n12 * 4611686018427387904)) → 0 ≤ n15 → n15 ≤ 18446744073709551615 →
  (Pre_rootWide [[n14, n15]] ∧
  (∀ n16 : Int, 0 ≤ n16 → n16 ≤ 18446744073709551615 →
  (∀ n17 : Int, (-9223372036854775808) ≤ n17 → n17 ≤ 9223372036854775807 →
  (Post_rootWide [[n14, n15]] [[n16], [n17]] →
  (∀ n18 : Int, n18 = (n16 / 4) → 0 ≤ n18 → n18 ≤ 4611686018427387903 →
  (∀ n19 : Int, n19 = (IntKind.wrap .u64 (n16 * 4611686018427387904)) → 0 ≤ n19 → n19 ≤ 18446744073709551615 →
  (Pre_rootWide [[n18, n19]] ∧
  (∀ n20 : Int, 0 ≤ n20 → n20 ≤ 18446744073709551615 →
  (∀ n21 : Int, (-9223372036854775808) ≤ n21 → n21 ≤ 9223372036854775807 →
  (Post_rootWide [[n18, n19]] [[n20], [n21]] →
  (∀ n22 : Int, n22 = (n20 / 4) → 0 ≤ n22 → n22 ≤ 4611686018427387903 →
  (∀ n23 : Int, n23 = (IntKind.wrap .u64 (n20 * 4611686018427387904)) → 0 ≤ n23 → n23 ≤ 18446744073709551615 →
  (Pre_rootWide [[n22, n23]] ∧
  (∀ n24 : Int, 0 ≤ n24 → n24 ≤ 18446744073709551615 →
  (∀ n25 : Int, (-9223372036854775808) ≤ n25 → n25 ≤ 9223372036854775807 →
  (Post_rootWide [[n22, n23]] [[n24], [n25]] →
  (∀ n26 : Int, n26 = (n24 / 4) → 0 ≤ n26 → n26 ≤ 4611686018427387903 →
  (∀ n27 : Int, n27 = (IntKind.wrap .u64 (n24 * 4611686018427387904)) → 0 ≤ n27 → n27 ≤ 18446744073709551615 →
  (Pre_rootWide [[n26, n27]] ∧
  (∀ n28 : Int, 0 ≤ n28 → n28 ≤ 18446744073709551615 →
  (∀ n29 : Int, (-9223372036854775808) ≤ n29 → n29 ≤ 9223372036854775807 →
  (Post_rootWide [[n26, n27]] [[n28], [n29]] →
  (∀ n30 : Int, n30 = (n28 / 4) → 0 ≤ n30 → n30 ≤ 4611686018427387903 →
  (∀ n31 : Int, n31 = (IntKind.wrap .u64 (n28 * 4611686018427387904)) → 0 ≤ n31 → n31 ≤ 18446744073709551615 →
  (Pre_rootWide [[n30, n31]] ∧
  (∀ n32 : Int, 0 ≤ n32 → n32 ≤ 18446744073709551615 →
  (∀ n33 : Int, (-9223372036854775808) ≤ n33 → n33 ≤ 9223372036854775807 →
  (Post_rootWide [[n30, n31]] [[n32], [n33]] →
  (∀ n34 : Int, n34 = (n32 / 4) → 0 ≤ n34 → n34 ≤ 4611686018427387903 →
  (∀ n35 : Int, n35 = (IntKind.wrap .u64 (n32 * 4611686018427387904)) → 0 ≤ n35 → n35 ≤ 18446744073709551615 →
  (Pre_rootWide [[n34, n35]] ∧
  (∀ n36 : Int, 0 ≤ n36 → n36 ≤ 18446744073709551615 →
  (∀ n37 : Int, (-9223372036854775808) ≤ n37 → n37 ≤ 9223372036854775807 →
  (Post_rootWide [[n34, n35]] [[n36], [n37]] →
  (∀ n38 : Int, n38 = (n36 / 4) → 0 ≤ n38 → n38 ≤ 4611686018427387903 →
  (∀ n39 : Int, n39 = (IntKind.wrap .u64 (n36 * 4611686018427387904)) → 0 ≤ n39 → n39 ≤ 18446744073709551615 →
  (Pre_rootWide [[n38, n39]] ∧
  (∀ n40 : Int, 0 ≤ n40 → n40 ≤ 18446744073709551615 →
  (∀ n41 : Int, (-9223372036854775808) ≤ n41 → n41 ≤ 9223372036854775807 →
  (Post_rootWide [[n38, n39]] [[n40], [n41]] →
  (∀ n42 : Int, n42 = (n40 / 4) → 0 ≤ n42 → n42 ≤ 4611686018427387903 →
  (∀ n43 : Int, n43 = (IntKind.wrap .u64 (n40 * 4611686018427387904)) → 0 ≤ n43 → n43 ≤ 18446744073709551615 →
  (Pre_rootWide [[n42, n43]] ∧
  (∀ n44 : Int, 0 ≤ n44 → n44 ≤ 18446744073709551615 →
  (∀ n45 : Int, (-9223372036854775808) ≤ n45 → n45 ≤ 9223372036854775807 →
  (Post_rootWide [[n42, n43]] [[n44], [n45]] →
  (∀ n46 : Int, n46 = (n44 / 4) → 0 ≤ n46 → n46 ≤ 4611686018427387903 →
  (∀ n47 : Int, n47 = (IntKind.wrap .u64 (n44 * 4611686018427387904)) → 0 ≤ n47 → n47 ≤ 18446744073709551615 →
  (Pre_rootWide [[n46, n47]] ∧
  (∀ n48 : Int, 0 ≤ n48 → n48 ≤ 18446744073709551615 →
  (∀ n49 : Int, (-9223372036854775808) ≤ n49 → n49 ≤ 9223372036854775807 →
  (Post_rootWide [[n46, n47]] [[n48], [n49]] →
  (∀ n50 : Int, n50 = (n48 / 4) → 0 ≤ n50 → n50 ≤ 4611686018427387903 →
  (∀ n51 : Int, n51 = (IntKind.wrap .u64 (n48 * 4611686018427387904)) → 0 ≤ n51 → n51 ≤ 18446744073709551615 →
  (Pre_rootWide [[n50, n51]] ∧
  (∀ n52 : Int, 0 ≤ n52 → n52 ≤ 18446744073709551615 →
  (∀ n53 : Int, (-9223372036854775808) ≤ n53 → n53 ≤ 9223372036854775807 →
  (Post_rootWide [[n50, n51]] [[n52], [n53]] →
  (∀ n54 : Int, n54 = (n52 / 4) → 0 ≤ n54 → n54 ≤ 4611686018427387903 →
  (∀ n55 : Int, n55 = (IntKind.wrap .u64 (n52 * 4611686018427387904)) → 0 ≤ n55 → n55 ≤ 18446744073709551615 →
  (Pre_rootWide [[n54, n55]] ∧
  (∀ n56 : Int, 0 ≤ n56 → n56 ≤ 18446744073709551615 →
  (∀ n57 : Int, (-9223372036854775808) ≤ n57 → n57 ≤ 9223372036854775807 →
  (Post_rootWide [[n54, n55]] [[n56], [n57]] →
  (∀ n58 : Int, n58 = (n56 / 4) → 0 ≤ n58 → n58 ≤ 4611686018427387903 →
  (∀ n59 : Int, n59 = (IntKind.wrap .u64 (n56 * 4611686018427387904)) → 0 ≤ n59 → n59 ≤ 18446744073709551615 →
  (Pre_rootWide [[n58, n59]] ∧
  (∀ n60 : Int, 0 ≤ n60 → n60 ≤ 18446744073709551615 →
  (∀ n61 : Int, (-9223372036854775808) ≤ n61 → n61 ≤ 9223372036854775807 →
  (Post_rootWide [[n58, n59]] [[n60], [n61]] →
  (∀ n62 : Int, n62 = (n60 / 4) → 0 ≤ n62 → n62 ≤ 4611686018427387903 →
  (∀ n63 : Int, n63 = (IntKind.wrap .u64 (n60 * 4611686018427387904)) → 0 ≤ n63 → n63 ≤ 18446744073709551615 →
  (Pre_rootWide [[n62, n63]] ∧
  (∀ n64 : Int, 0 ≤ n64 → n64 ≤ 18446744073709551615 →
  (∀ n65 : Int, (-9223372036854775808) ≤ n65 → n65 ≤ 9223372036854775807 →
  (Post_rootWide [[n62, n63]] [[n64], [n65]] →
  (∀ n66 : Int, n66 = (n64 / 4) → 0 ≤ n66 → n66 ≤ 4611686018427387903 →
  (∀ n67 : Int, n67 = (IntKind.wrap .u64 (n64 * 4611686018427387904)) → 0 ≤ n67 → n67 ≤ 18446744073709551615 →
  (Pre_rootWide [[n66, n67]] ∧
  (∀ n68 : Int, 0 ≤ n68 → n68 ≤ 18446744073709551615 →
  (∀ n69 : Int, (-9223372036854775808) ≤ n69 → n69 ≤ 9223372036854775807 →
  (Post_rootWide [[n66, n67]] [[n68], [n69]] →
  (∀ n70 : Int, n70 = (n68 / 4) → 0 ≤ n70 → n70 ≤ 4611686018427387903 →
  (∀ n71 : Int, n71 = (IntKind.wrap .u64 (n68 * 4611686018427387904)) → 0 ≤ n71 → n71 ≤ 18446744073709551615 →
  (Pre_rootWide [[n70, n71]] ∧
  (∀ n72 : Int, 0 ≤ n72 → n72 ≤ 18446744073709551615 →
  (∀ n73 : Int, (-9223372036854775808) ≤ n73 → n73 ≤ 9223372036854775807 →
  (Post_rootWide [[n70, n71]] [[n72], [n73]] →
  (∀ n74 : Int, n74 = (n72 / 4) → 0 ≤ n74 → n74 ≤ 4611686018427387903 →
  (∀ n75 : Int, n75 = (IntKind.wrap .u64 (n72 * 4611686018427387904)) → 0 ≤ n75 → n75 ≤ 18446744073709551615 →
  (Pre_rootWide [[n74, n75]] ∧
  (∀ n76 : Int, 0 ≤ n76 → n76 ≤ 18446744073709551615 →
  (∀ n77 : Int, (-9223372036854775808) ≤ n77 → n77 ≤ 9223372036854775807 →
  (Post_rootWide [[n74, n75]] [[n76], [n77]] →
  (∀ n78 : Int, n78 = (n76 / 4) → 0 ≤ n78 → n78 ≤ 4611686018427387903 →
  (∀ n79 : Int, n79 = (IntKind.wrap .u64 (n76 * 4611686018427387904)) → 0 ≤ n79 → n79 ≤ 18446744073709551615 →
  (Pre_rootWide [[n78, n79]] ∧
  (∀ n80 : Int, 0 ≤ n80 → n80 ≤ 18446744073709551615 →
  (∀ n81 : Int, (-9223372036854775808) ≤ n81 → n81 ≤ 9223372036854775807 →
  (Post_rootWide [[n78, n79]] [[n80], [n81]] →
  (∀ n82 : Int, n82 = (n80 / 4) → 0 ≤ n82 → n82 ≤ 4611686018427387903 →
  (∀ n83 : Int, n83 = (IntKind.wrap .u64 (n80 * 4611686018427387904)) → 0 ≤ n83 → n83 ≤ 18446744073709551615 →
  (Pre_rootWide [[n82, n83]] ∧
  (∀ n84 : Int, 0 ≤ n84 → n84 ≤ 18446744073709551615 →
  (∀ n85 : Int, (-9223372036854775808) ≤ n85 → n85 ≤ 9223372036854775807 →
  (Post_rootWide [[n82, n83]] [[n84], [n85]] →
  (∀ n86 : Int, n86 = (n84 / 4) → 0 ≤ n86 → n86 ≤ 4611686018427387903 →
  (∀ n87 : Int, n87 = (IntKind.wrap .u64 (n84 * 4611686018427387904)) → 0 ≤ n87 → n87 ≤ 18446744073709551615 →
  (Pre_rootWide [[n86, n87]] ∧
  (∀ n88 : Int, 0 ≤ n88 → n88 ≤ 18446744073709551615 →
  (∀ n89 : Int, (-9223372036854775808) ≤ n89 → n89 ≤ 9223372036854775807 →
  (Post_rootWide [[n86, n87]] [[n88], [n89]] →
  (∀ n90 : Int, n90 = (n88 / 4) → 0 ≤ n90 → n90 ≤ 4611686018427387903 →
  (∀ n91 : Int, n91 = (IntKind.wrap .u64 (n88 * 4611686018427387904)) → 0 ≤ n91 → n91 ≤ 18446744073709551615 →
  (Pre_rootWide [[n90, n91]] ∧
  (∀ n92 : Int, 0 ≤ n92 → n92 ≤ 18446744073709551615 →
  (∀ n93 : Int, (-9223372036854775808) ≤ n93 → n93 ≤ 9223372036854775807 →
  (Post_rootWide [[n90, n91]] [[n92], [n93]] →
  (∀ n94 : Int, n94 = (n92 / 4) → 0 ≤ n94 → n94 ≤ 4611686018427387903 →
  (∀ n95 : Int, n95 = (IntKind.wrap .u64 (n92 * 4611686018427387904)) → 0 ≤ n95 → n95 ≤ 18446744073709551615 →
  (Pre_rootWide [[n94, n95]] ∧
  (∀ n96 : Int, 0 ≤ n96 → n96 ≤ 18446744073709551615 →
  (∀ n97 : Int, (-9223372036854775808) ≤ n97 → n97 ≤ 9223372036854775807 →
  (Post_rootWide [[n94, n95]] [[n96], [n97]] →
  (∀ n98 : Int, n98 = (n96 / 4) → 0 ≤ n98 → n98 ≤ 4611686018427387903 →
  (∀ n99 : Int, n99 = (IntKind.wrap .u64 (n96 * 4611686018427387904)) → 0 ≤ n99 → n99 ≤ 18446744073709551615 →
  (Pre_rootWide [[n98, n99]] ∧
  (∀ n100 : Int, 0 ≤ n100 → n100 ≤ 18446744073709551615 →
  (∀ n101 : Int, (-9223372036854775808) ≤ n101 → n101 ≤ 9223372036854775807 →
  (Post_rootWide [[n98, n99]] [[n100], [n101]] →
  (∀ n102 : Int, n102 = (n100 / 4) → 0 ≤ n102 → n102 ≤ 4611686018427387903 →
  (∀ n103 : Int, n103 = (IntKind.wrap .u64 (n100 * 4611686018427387904)) → 0 ≤ n103 → n103 ≤ 18446744073709551615 →
  (Pre_rootWide [[n102, n103]] ∧
  (∀ n104 : Int, 0 ≤ n104 → n104 ≤ 18446744073709551615 →
  (∀ n105 : Int, (-9223372036854775808) ≤ n105 → n105 ≤ 9223372036854775807 →
  (Post_rootWide [[n102, n103]] [[n104], [n105]] →
  (∀ n106 : Int, n106 = (n104 / 4) → 0 ≤ n106 → n106 ≤ 4611686018427387903 →
  (∀ n107 : Int, n107 = (IntKind.wrap .u64 (n104 * 4611686018427387904)) → 0 ≤ n107 → n107 ≤ 18446744073709551615 →
  (Pre_rootWide [[n106, n107]] ∧
  (∀ n108 : Int, 0 ≤ n108 → n108 ≤ 18446744073709551615 →
  (∀ n109 : Int, (-9223372036854775808) ≤ n109 → n109 ≤ 9223372036854775807 →
  (Post_rootWide [[n106, n107]] [[n108], [n109]] →
  (∀ n110 : Int, n110 = (n108 / 4) → 0 ≤ n110 → n110 ≤ 4611686018427387903 →
  (∀ n111 : Int, n111 = (IntKind.wrap .u64 (n108 * 4611686018427387904)) → 0 ≤ n111 → n111 ≤ 18446744073709551615 →
  (Pre_rootWide [[n110, n111]] ∧
  (∀ n112 : Int, 0 ≤ n112 → n112 ≤ 18446744073709551615 →
  (∀ n113 : Int, (-9223372036854775808) ≤ n113 → n113 ≤ 9223372036854775807 →
  (Post_rootWide [[n110, n111]] [[n112], [n113]] →
  (∀ n114 : Int, n114 = (n112 / 4) → 0 ≤ n114 → n114 ≤ 4611686018427387903 →
  (∀ n115 : Int, n115 = (IntKind.wrap .u64 (n112 * 4611686018427387904)) → 0 ≤ n115 → n115 ≤ 18446744073709551615 →
  (Pre_rootWide [[n114, n115]] ∧
  (∀ n116 : Int, 0 ≤ n116 → n116 ≤ 18446744073709551615 →
  (∀ n117 : Int, (-9223372036854775808) ≤ n117 → n117 ≤ 9223372036854775807 →
  (Post_rootWide [[n114, n115]] [[n116], [n117]] →
  (∀ n118 : Int, n118 = (n116 / 4) → 0 ≤ n118 → n118 ≤ 4611686018427387903 →
  (∀ n119 : Int, n119 = (IntKind.wrap .u64 (n116 * 4611686018427387904)) → 0 ≤ n119 → n119 ≤ 18446744073709551615 →
  (Pre_rootWide [[n118, n119]] ∧
  (∀ n120 : Int, 0 ≤ n120 → n120 ≤ 18446744073709551615 →
  (∀ n121 : Int, (-9223372036854775808) ≤ n121 → n121 ≤ 9223372036854775807 →
  (Post_rootWide [[n118, n119]] [[n120], [n121]] →
  (∀ n122 : Int, n122 = (n120 / 4) → 0 ≤ n122 → n122 ≤ 4611686018427387903 →
  (∀ n123 : Int, n123 = (IntKind.wrap .u64 (n120 * 4611686018427387904)) → 0 ≤ n123 → n123 ≤ 18446744073709551615 →
  (Pre_rootWide [[n122, n123]] ∧
  (∀ n124 : Int, 0 ≤ n124 → n124 ≤ 18446744073709551615 →
  (∀ n125 : Int, (-9223372036854775808) ≤ n125 → n125 ≤ 9223372036854775807 →
  (Post_rootWide [[n122, n123]] [[n124], [n125]] →
  ((6521908912666391106 ≤ n) ∧
  ((n ≤ 6521908912666391106) ∧
  (∀ n126 : Int, n126 = n → 6521908912666391106 ≤ n126 → n126 ≤ 6521908912666391106 →
  ((5484249825272419511 ≤ n4) ∧
  ((n4 ≤ 5484249825272419511) ∧
  (∀ n127 : Int, n127 = n4 → 5484249825272419511 ≤ n127 → n127 ≤ 5484249825272419511 →
  ((5029079263719320435 ≤ n8) ∧
  ((n8 ≤ 5029079263719320435) ∧
  (∀ n128 : Int, n128 = n8 → 5029079263719320435 ≤ n128 → n128 ≤ 5029079263719320435 →
  ((4815862801830788490 ≤ n12) ∧
  ((n12 ≤ 4815862801830788490) ∧
  (∀ n129 : Int, n129 = n12 → 4815862801830788490 ≤ n129 → n129 ≤ 4815862801830788490 →
  ((4712668792719003883 ≤ n16) ∧
  ((n16 ≤ 4712668792719003883) ∧
  (∀ n130 : Int, n130 = n16 → 4712668792719003883 ≤ n130 → n130 ≤ 4712668792719003883 →
  ((4661903986662671289 ≤ n20) ∧
  ((n20 ≤ 4661903986662671289) ∧
  (∀ n131 : Int, n131 = n20 → 4661903986662671289 ≤ n131 → n131 ≤ 4661903986662671289 →
  ((4636727017470743989 ≤ n24) ∧
  ((n24 ≤ 4636727017470743989) ∧
  (∀ n132 : Int, n132 = n24 → 4636727017470743989 ≤ n132 → n132 ≤ 4636727017470743989 →
  ((4624189567668517719 ≤ n28) ∧
  ((n28 ≤ 4624189567668517719) ∧
  (∀ n133 : Int, n133 = n28 → 4624189567668517719 ≤ n133 → n133 ≤ 4624189567668517719 →
  ((4617933561212708775 ≤ n32) ∧
  ((n32 ≤ 4617933561212708775) ∧
  (∀ n134 : Int, n134 = n32 → 4617933561212708775 ≤ n134 → n134 ≤ 4617933561212708775 →
  ((4614808732577250067 ≤ n36) ∧
  ((n36 ≤ 4614808732577250067) ∧
  (∀ n135 : Int, n135 = n36 → 4614808732577250067 ≤ n135 → n135 ≤ 4614808732577250067 →
  ((4613247111281068007 ≤ n40) ∧
  ((n40 ≤ 4613247111281068007) ∧
  (∀ n136 : Int, n136 = n40 → 4613247111281068007 ≤ n136 → n136 ≤ 4613247111281068007 →
  ((4612466498810092973 ≤ n44) ∧
  ((n44 ≤ 4612466498810092973) ∧
  (∀ n137 : Int, n137 = n44 → 4612466498810092973 ≤ n137 → n137 ≤ 4612466498810092973 →
  ((4612076242109103706 ≤ n48) ∧
  ((n48 ≤ 4612076242109103706) ∧
  (∀ n138 : Int, n138 = n48 → 4612076242109103706 ≤ n138 → n138 ≤ 4612076242109103706 →
  ((4611881126141011235 ≤ n52) ∧
  ((n52 ≤ 4611881126141011235) ∧
  (∀ n139 : Int, n139 = n52 → 4611881126141011235 ≤ n139 → n139 ≤ 4611881126141011235 →
  ((4611783571252412753 ≤ n56) ∧
  ((n56 ≤ 4611783571252412753) ∧
  (∀ n140 : Int, n140 = n56 → 4611783571252412753 ≤ n140 → n140 ≤ 4611783571252412753 →
  ((4611734794581956352 ≤ n60) ∧
  ((n60 ≤ 4611734794581956352) ∧
  (∀ n141 : Int, n141 = n60 → 4611734794581956352 ≤ n141 → n141 ≤ 4611734794581956352 →
  ((4611710406440186475 ≤ n64) ∧
  ((n64 ≤ 4611710406440186475) ∧
  (∀ n142 : Int, n142 = n64 → 4611710406440186475 ≤ n142 → n142 ≤ 4611710406440186475 →
  ((4611698212417665818 ≤ n68) ∧
  ((n68 ≤ 4611698212417665818) ∧
  (∀ n143 : Int, n143 = n68 → 4611698212417665818 ≤ n143 → n143 ≤ 4611698212417665818 →
  ((4611692115418496523 ≤ n72) ∧
  ((n72 ≤ 4611692115418496523) ∧
  (∀ n144 : Int, n144 = n72 → 4611692115418496523 ≤ n144 → n144 ≤ 4611692115418496523 →
  ((4611689066921934629 ≤ n76) ∧
  ((n76 ≤ 4611689066921934629) ∧
  (∀ n145 : Int, n145 = n76 → 4611689066921934629 ≤ n145 → n145 ≤ 4611689066921934629 →
  ((4611687542674409370 ≤ n80) ∧
  ((n80 ≤ 4611687542674409370) ∧
  (∀ n146 : Int, n146 = n80 → 4611687542674409370 ≤ n146 → n146 ≤ 4611687542674409370 →
  ((4611686780550835663 ≤ n84) ∧
  ((n84 ≤ 4611686780550835663) ∧
  (∀ n147 : Int, n147 = n84 → 4611686780550835663 ≤ n147 → n147 ≤ 4611686780550835663 →
  ((4611686399489096040 ≤ n88) ∧
  ((n88 ≤ 4611686399489096040) ∧
  (∀ n148 : Int, n148 = n88 → 4611686399489096040 ≤ n148 → n148 ≤ 4611686399489096040 →
  ((4611686208958238036 ≤ n92) ∧
  ((n92 ≤ 4611686208958238036) ∧
  (∀ n149 : Int, n149 = n92 → 4611686208958238036 ≤ n149 → n149 ≤ 4611686208958238036 →
  ((4611686113692811986 ≤ n96) ∧
  ((n96 ≤ 4611686113692811986) ∧
  (∀ n150 : Int, n150 = n96 → 4611686113692811986 ≤ n150 → n150 ≤ 4611686113692811986 →
  ((4611686066060099699 ≤ n100) ∧
  ((n100 ≤ 4611686066060099699) ∧
  (∀ n151 : Int, n151 = n100 → 4611686066060099699 ≤ n151 → n151 ≤ 4611686066060099699 →
  ((4611686042243743740 ≤ n104) ∧
  ((n104 ≤ 4611686042243743740) ∧
  (∀ n152 : Int, n152 = n104 → 4611686042243743740 ≤ n152 → n152 ≤ 4611686042243743740 →
  ((4611686030335565806 ≤ n108) ∧
  ((n108 ≤ 4611686030335565806) ∧
  (∀ n153 : Int, n153 = n108 → 4611686030335565806 ≤ n153 → n153 ≤ 4611686030335565806 →
  ((4611686024381476851 ≤ n112) ∧
  ((n112 ≤ 4611686024381476851) ∧
  (∀ n154 : Int, n154 = n112 → 4611686024381476851 ≤ n154 → n154 ≤ 4611686024381476851 →
  ((4611686021404432376 ≤ n116) ∧
  ((n116 ≤ 4611686021404432376) ∧
  (∀ n155 : Int, n155 = n116 → 4611686021404432376 ≤ n155 → n155 ≤ 4611686021404432376 →
  ((4611686019915910139 ≤ n120) ∧
  ((n120 ≤ 4611686019915910139) ∧
  (∀ n156 : Int, n156 = n120 → 4611686019915910139 ≤ n156 → n156 ≤ 4611686019915910139 →
  ((4611686019171649021 ≤ n124) ∧
  ((n124 ≤ 4611686019171649021) ∧
  (∀ n157 : Int, n157 = n124 → 4611686019171649021 ≤ n157 → n157 ≤ 4611686019171649021 →
  Post_pmade [] [[0, n126, n127, n128, n129, n130, n131, n132, n133, n134, n135, n136, n137, n138, n139, n140, n141, n142, n143, n144, n145, n146, n147, n148, n149, n150, n151, n152, n153, n154, n155, n156, n157]])))))))))))))))))))))))))))))))))))))))))))))))))))))))))))))))))))))))))))))))))))))))))))))))))))))))))))))))))))))))))))))))))))))))))))))))))))))))))))))))))))))))))))))))))))))))))))))))))))))))))))))))))))))))))))))))))))))))))))))))))))))))))))))))))))))))))))))))))))))))))))))))))
theorem c_pmade : canCall Tryd.prog 41 = true := by kernel_rfl
theorem s_pmade : P_pmade = sat E (symTop Tryd.prog tab52 2000 41 ash_pmade sh_pmade) := by kernel_rfl
theorem pure_pmade (hV : Valid Tryd.prog tab52 E) (h : P_pmade) (args : List Value) (ha : shaFits ash_pmade args) (hp : E.pre 41 (args.map vints)) : Pure Tryd.prog 41 args.toArray fun v => sh_pmade.fits v ∧ E.post 41 (args.map vints) (vres v) := @top_sat Tryd.prog tab52 E hV 2000 41 ash_pmade sh_pmade (@Eq.mp _ _ s_pmade h) args ha hp
theorem step_pmade (hV : Valid Tryd.prog tab52 E) (h : P_pmade) : Valid Tryd.prog tab53 E := hV.add c_pmade (pure_pmade hV h)

/-- gouache/powers.times -/
def P_ptimes : Prop :=
  (∀ n : Int, 0 ≤ n → n ≤ 18446744073709551615 →
  (∀ n1 : Int, 0 ≤ n1 → n1 ≤ 18446744073709551615 →
  (Pre_ptimes [[n], [n1]] →
  (Pre_mul64 [[n], [n1]] ∧
  (∀ n2 : Int, 0 ≤ n2 → n2 ≤ 18446744073709551615 →
  (∀ n3 : Int, 0 ≤ n3 → n3 ≤ 18446744073709551615 →
  (Post_mul64 [[n], [n1]] [[n2], [n3]] →
  (∀ n4 : Int, n4 = (bitsI .or .u64 (IntKind.wrap .u64 (n2 * 4)) (n3 / 4611686018427387904)) → 0 ≤ n4 → n4 ≤ 18446744073709551615 →
  Post_ptimes [[n], [n1]] [[n4]]))))))))
theorem c_ptimes : canCall Tryd.prog 42 = true := by kernel_rfl
theorem s_ptimes : P_ptimes = sat E (symTop Tryd.prog tab53 2000 42 ash_ptimes sh_ptimes) := by kernel_rfl
theorem pure_ptimes (hV : Valid Tryd.prog tab53 E) (h : P_ptimes) (args : List Value) (ha : shaFits ash_ptimes args) (hp : E.pre 42 (args.map vints)) : Pure Tryd.prog 42 args.toArray fun v => sh_ptimes.fits v ∧ E.post 42 (args.map vints) (vres v) := @top_sat Tryd.prog tab53 E hV 2000 42 ash_ptimes sh_ptimes (@Eq.mp _ _ s_ptimes h) args ha hp
theorem step_ptimes (hV : Valid Tryd.prog tab53 E) (h : P_ptimes) : Valid Tryd.prog tab54 E := hV.add c_ptimes (pure_ptimes hV h)

/-- gouache/powers.power -/
def P_power : Prop :=
  (∀ n : Int, (-9223372036854775808) ≤ n → n ≤ 9223372036854775807 →
  (Pre_power [[n]] →
  (∀ n1 : Int, n1 = (n / 4294967296) → (-2147483648) ≤ n1 → n1 ≤ 2147483647 →
  (((15 ≤ n1) →
    Post_power [[n]] [[2147483648]]) ∧
   (¬ (15 ≤ n1) →
    (∀ n2 : Int, n2 = (46 - n1) → (-2147483601) ≤ n2 → n2 ≤ 2147483694 →
    (((63 < n2) →
      Post_power [[n]] [[0]]) ∧
     (¬ (63 < n2) →
      (Pre_pmade [] ∧
      (Post_pmade [] [[0, 6521908912666391106, 5484249825272419511, 5029079263719320435, 4815862801830788490, 4712668792719003883, 4661903986662671289, 4636727017470743989, 4624189567668517719, 4617933561212708775, 4614808732577250067, 4613247111281068007, 4612466498810092973, 4612076242109103706, 4611881126141011235, 4611783571252412753, 4611734794581956352, 4611710406440186475, 4611698212417665818, 4611692115418496523, 4611689066921934629, 4611687542674409370, 4611686780550835663, 4611686399489096040, 4611686208958238036, 4611686113692811986, 4611686066060099699, 4611686042243743740, 4611686030335565806, 4611686024381476851, 4611686021404432376, 4611686019915910139, 4611686019171649021]] →
      (∀ b : Nat, (Inv_pw [n] [0, 4611686018427387904] ∧
      (∀ n3 : Int, 0 ≤ n3 → n3 ≤ 33 →
      (∀ n4 : Int, 4611686018427387904 ≤ n4 → n4 ≤ 9223372036854775808 →
      (Inv_pw [n] [n3, n4] →
      (∀ vs : List Value, vs.length = 26 →
      (((n3 < 33) →
        (((n3 = 0) →
          (((n3 + 1) ≤ 33) ∧
          (∀ n5 : Int, n5 = (n3 + 1) → 0 ≤ n5 → n5 ≤ 33 →
          (Inv_pw [n] [n5, n4] ∧ Mea_pw [n] [n5, n4] < Mea_pw [n] [n3, n4])))) ∧
         (¬ (n3 = 0) →
          ((((IntKind.wrap .u64 ((IntKind.wrap .u64 n) * 4294967296)) = 0) →
            ((0 ≤ (n2 - 1)) ∧
            (∀ n5 : Int, n5 = (n2 - 1) → 0 ≤ n5 → n5 ≤ 2147483693 →
            (∀ n6 : Int, n6 = (min ((IntKind.wrap .u64 ((shI .shr .u64 n4 n5) + 1)) / 2) 2147483648) → 0 ≤ n6 → n6 ≤ 2147483648 →
            Post_power [[n]] [[n6]])))) ∧
           (¬ ((IntKind.wrap .u64 ((IntKind.wrap .u64 n) * 4294967296)) = 0) →
            ((0 ≤ (32 - n3)) ∧
            (∀ n5 : Int, n5 = (32 - n3) → 0 ≤ n5 → n5 ≤ 32 →
            ((((bitsI .and .i64 (shI .shr .i64 n n5) 1) = 1) →
              ((n3 < 33) ∧
              (∀ n6 : Int, n6 = (tP.getD (Int.toNat n3) 0) → 0 ≤ n6 → n6 ≤ 6521908912666391106 →
              (Pre_ptimes [[n4], [n6]] ∧
              (∀ n7 : Int, 0 ≤ n7 → n7 ≤ 18446744073709551615 →
              (Post_ptimes [[n4], [n6]] [[n7]] →
              (((n3 + 1) ≤ 33) ∧
              (∀ n8 : Int, n8 = (n3 + 1) → 0 ≤ n8 → n8 ≤ 33 →
              ((4611686018427387904 ≤ n7) ∧
              ((n7 ≤ 9223372036854775808) ∧
              (∀ n9 : Int, n9 = n7 → 4611686018427387904 ≤ n9 → n9 ≤ 9223372036854775808 →
              (Inv_pw [n] [n8, n9] ∧ Mea_pw [n] [n8, n9] < Mea_pw [n] [n3, n4])))))))))))) ∧
             (¬ ((bitsI .and .i64 (shI .shr .i64 n n5) 1) = 1) →
              (((n3 + 1) ≤ 33) ∧
              (∀ n6 : Int, n6 = (n3 + 1) → 0 ≤ n6 → n6 ≤ 33 →
              (Inv_pw [n] [n6, n4] ∧ Mea_pw [n] [n6, n4] < Mea_pw [n] [n3, n4])))))))))))) ∧
       (¬ (n3 < 33) →
        ((0 ≤ (n2 - 1)) ∧
        (∀ n5 : Int, n5 = (n2 - 1) → 0 ≤ n5 → n5 ≤ 2147483693 →
        (∀ n6 : Int, n6 = (min ((IntKind.wrap .u64 ((shI .shr .u64 n4 n5) + 1)) / 2) 2147483648) → 0 ≤ n6 → n6 ≤ 2147483648 →
        Post_power [[n]] [[n6]])))))))))))))))))))))
theorem c_power : canCall Tryd.prog 28 = true := by kernel_rfl
theorem s_power : P_power = sat E (symTop Tryd.prog tab54 2000 28 ash_power sh_power) := by kernel_rfl
theorem pure_power (hV : Valid Tryd.prog tab54 E) (h : P_power) (args : List Value) (ha : shaFits ash_power args) (hp : E.pre 28 (args.map vints)) : Pure Tryd.prog 28 args.toArray fun v => sh_power.fits v ∧ E.post 28 (args.map vints) (vres v) := @top_sat Tryd.prog tab54 E hV 2000 28 ash_power sh_power (@Eq.mp _ _ s_power h) args ha hp
theorem step_power (hV : Valid Tryd.prog tab54 E) (h : P_power) : Valid Tryd.prog tab55 E := hV.add c_power (pure_power hV h)


end Go.Proofs.YtogcbmadcgjljaaDoor.Sx
