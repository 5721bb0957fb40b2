/-
  What each function comes to, part 2. Printed by a program of our own.
-/
import Derived.Test.YtdocimmchckjiaaRxh
set_option maxRecDepth 1000000
set_option linter.all false
namespace Go.Proofs.Ytdocimmchckjiaa.Sx
open Go Go.RowKit

/-- gouache/gouachelaw01.WidesProducts -/
def P_lproducts : Prop :=
  (∀ n : Int, (-9223372036854775808) ≤ n → n ≤ 9223372036854775807 →
  (∀ n1 : Int, (-9223372036854775808) ≤ n1 → n1 ≤ 9223372036854775807 →
  (∀ n2 : Int, (-9223372036854775808) ≤ n2 → n2 ≤ 9223372036854775807 →
  (Pre_lproducts [[n], [n1], [n2]] →
  (((0 < n2) →
    ((((IntKind.wrap .i64 (9223372036854775807 - n2)) < n1) →
      (Pre_lives [] ∧
      (∀ t : Bool, (Post_lives [] [[b2i t]] →
      Post_lproducts [[n], [n1], [n2]] [[b2i t]])))) ∧
     (¬ ((IntKind.wrap .i64 (9223372036854775807 - n2)) < n1) →
      (((n2 < 0) →
        (((n1 < (IntKind.wrap .i64 ((-9223372036854775808) - n2))) →
          (Pre_lives [] ∧
          (∀ t : Bool, (Post_lives [] [[b2i t]] →
          Post_lproducts [[n], [n1], [n2]] [[b2i t]])))) ∧
         (¬ (n1 < (IntKind.wrap .i64 ((-9223372036854775808) - n2))) →
          (Pre_wmul [[n], [n1]] ∧
          (∀ n3 : Int, (-9223372036854775808) ≤ n3 → n3 ≤ 9223372036854775807 →
          (∀ n4 : Int, 0 ≤ n4 → n4 ≤ 18446744073709551615 →
          (Post_wmul [[n], [n1]] [[n3, n4]] →
          (Pre_wmul [[n], [n2]] ∧
          (∀ n5 : Int, (-9223372036854775808) ≤ n5 → n5 ≤ 9223372036854775807 →
          (∀ n6 : Int, 0 ≤ n6 → n6 ≤ 18446744073709551615 →
          (Post_wmul [[n], [n2]] [[n5, n6]] →
          (Pre_wadd [[n3, n4], [n5, n6]] ∧
          (∀ n7 : Int, (-9223372036854775808) ≤ n7 → n7 ≤ 9223372036854775807 →
          (∀ n8 : Int, 0 ≤ n8 → n8 ≤ 18446744073709551615 →
          (∀ n9 : Int, 0 ≤ n9 → n9 ≤ 11 →
          (Post_wadd [[n3, n4], [n5, n6]] [[n7, n8], [n9]] →
          (∀ b : Nat, (Pre_wof [[0]] ∧
          (∀ n10 : Int, (-9223372036854775808) ≤ n10 → n10 ≤ 9223372036854775807 →
          (∀ n11 : Int, 0 ≤ n11 → n11 ≤ 18446744073709551615 →
          (Post_wof [[0]] [[n10, n11]] →
          (Pre_wmul [[n], [n1]] ∧
          (∀ n12 : Int, (-9223372036854775808) ≤ n12 → n12 ≤ 9223372036854775807 →
          (∀ n13 : Int, 0 ≤ n13 → n13 ≤ 18446744073709551615 →
          (Post_wmul [[n], [n1]] [[n12, n13]] →
          (Pre_wsub [[n10, n11], [n12, n13]] ∧
          (∀ n14 : Int, (-9223372036854775808) ≤ n14 → n14 ≤ 9223372036854775807 →
          (∀ n15 : Int, 0 ≤ n15 → n15 ≤ 18446744073709551615 →
          (∀ n16 : Int, 0 ≤ n16 → n16 ≤ 11 →
          (Post_wsub [[n10, n11], [n12, n13]] [[n14, n15], [n16]] →
          (∀ b1 : Nat, (Pre_wof [[n]] ∧
          (∀ n17 : Int, (-9223372036854775808) ≤ n17 → n17 ≤ 9223372036854775807 →
          (∀ n18 : Int, 0 ≤ n18 → n18 ≤ 18446744073709551615 →
          (Post_wof [[n]] [[n17, n18]] →
          (Pre_wtms [[n17, n18], [n1]] ∧
          (∀ n19 : Int, (-9223372036854775808) ≤ n19 → n19 ≤ 9223372036854775807 →
          (∀ n20 : Int, 0 ≤ n20 → n20 ≤ 18446744073709551615 →
          (∀ n21 : Int, 0 ≤ n21 → n21 ≤ 11 →
          (Post_wtms [[n17, n18], [n1]] [[n19, n20], [n21]] →
          (∀ b2 : Nat, (Pre_wadd [[n19, n20], [n19, n20]] ∧
          (∀ n22 : Int, (-9223372036854775808) ≤ n22 → n22 ≤ 9223372036854775807 →
          (∀ n23 : Int, 0 ≤ n23 → n23 ≤ 18446744073709551615 →
          (∀ n24 : Int, 0 ≤ n24 → n24 ≤ 11 →
          (Post_wadd [[n19, n20], [n19, n20]] [[n22, n23], [n24]] →
          (∀ b3 : Nat, (Pre_wtms [[n19, n20], [2]] ∧
          (∀ n25 : Int, (-9223372036854775808) ≤ n25 → n25 ≤ 9223372036854775807 →
          (∀ n26 : Int, 0 ≤ n26 → n26 ≤ 18446744073709551615 →
          (∀ n27 : Int, 0 ≤ n27 → n27 ≤ 11 →
          (Post_wtms [[n19, n20], [2]] [[n25, n26], [n27]] →
          (∀ b4 : Nat, (((n1 = (-9223372036854775808)) →
            (∀ n28 : Int, n28 = (IntKind.wrap .i64 (n1 + n2)) → (-9223372036854775808) ≤ n28 → n28 ≤ 9223372036854775807 →
            (Pre_wmul [[n], [n28]] ∧
            (∀ n29 : Int, (-9223372036854775808) ≤ n29 → n29 ≤ 9223372036854775807 →
            (∀ n30 : Int, 0 ≤ n30 → n30 ≤ 18446744073709551615 →
            (Post_wmul [[n], [n28]] [[n29, n30]] →
            ((((n7 = n29) ∧ (n8 = n30)) →
              (((n9 = 0) →
                (Pre_lives [] ∧
                (∀ t : Bool, (Post_lives [] [[b2i t]] →
                Post_lproducts [[n], [n1], [n2]] [[b2i t]])))) ∧
               (¬ (n9 = 0) →
                Post_lproducts [[n], [n1], [n2]] [[b2i false]]))) ∧
             (¬ ((n7 = n29) ∧ (n8 = n30)) →
              Post_lproducts [[n], [n1], [n2]] [[b2i false]])))))))) ∧
           (¬ (n1 = (-9223372036854775808)) →
            (∀ n28 : Int, n28 = (IntKind.wrap .i64 (n1 + n2)) → (-9223372036854775808) ≤ n28 → n28 ≤ 9223372036854775807 →
            (Pre_wmul [[n], [n28]] ∧
            (∀ n29 : Int, (-9223372036854775808) ≤ n29 → n29 ≤ 9223372036854775807 →
            (∀ n30 : Int, 0 ≤ n30 → n30 ≤ 18446744073709551615 →
            (Post_wmul [[n], [n28]] [[n29, n30]] →
            ((((n7 = n29) ∧ (n8 = n30)) →
              (((n9 = 0) →
                (∀ n31 : Int, n31 = (IntKind.wrap .i64 (0 - n1)) → (-9223372036854775808) ≤ n31 → n31 ≤ 9223372036854775807 →
                (Pre_wmul [[n], [n31]] ∧
                (∀ n32 : Int, (-9223372036854775808) ≤ n32 → n32 ≤ 9223372036854775807 →
                (∀ n33 : Int, 0 ≤ n33 → n33 ≤ 18446744073709551615 →
                (Post_wmul [[n], [n31]] [[n32, n33]] →
                ((((n14 = n32) ∧ (n15 = n33)) →
                  (((n16 = 0) →
                    (Pre_wmul [[n], [n1]] ∧
                    (∀ n34 : Int, (-9223372036854775808) ≤ n34 → n34 ≤ 9223372036854775807 →
                    (∀ n35 : Int, 0 ≤ n35 → n35 ≤ 18446744073709551615 →
                    (Post_wmul [[n], [n1]] [[n34, n35]] →
                    ((((n19 = n34) ∧ (n20 = n35)) →
                      (((n21 = 0) →
                        ((((n22 = n25) ∧ (n23 = n26)) →
                          (((n24 = n27) →
                            (Pre_lives [] ∧
                            (∀ t : Bool, (Post_lives [] [[b2i t]] →
                            Post_lproducts [[n], [n1], [n2]] [[b2i t]])))) ∧
                           (¬ (n24 = n27) →
                            Post_lproducts [[n], [n1], [n2]] [[b2i false]]))) ∧
                         (¬ ((n22 = n25) ∧ (n23 = n26)) →
                          Post_lproducts [[n], [n1], [n2]] [[b2i false]]))) ∧
                       (¬ (n21 = 0) →
                        Post_lproducts [[n], [n1], [n2]] [[b2i false]]))) ∧
                     (¬ ((n19 = n34) ∧ (n20 = n35)) →
                      Post_lproducts [[n], [n1], [n2]] [[b2i false]]))))))) ∧
                   (¬ (n16 = 0) →
                    Post_lproducts [[n], [n1], [n2]] [[b2i false]]))) ∧
                 (¬ ((n14 = n32) ∧ (n15 = n33)) →
                  Post_lproducts [[n], [n1], [n2]] [[b2i false]])))))))) ∧
               (¬ (n9 = 0) →
                Post_lproducts [[n], [n1], [n2]] [[b2i false]]))) ∧
             (¬ ((n7 = n29) ∧ (n8 = n30)) →
              Post_lproducts [[n], [n1], [n2]] [[b2i false]])))))))))))))))))))))))))))))))))))))))))))))))))))))))))))))) ∧
       (¬ (n2 < 0) →
        (Pre_wmul [[n], [n1]] ∧
        (∀ n3 : Int, (-9223372036854775808) ≤ n3 → n3 ≤ 9223372036854775807 →
        (∀ n4 : Int, 0 ≤ n4 → n4 ≤ 18446744073709551615 →
        (Post_wmul [[n], [n1]] [[n3, n4]] →
        (Pre_wmul [[n], [n2]] ∧
        (∀ n5 : Int, (-9223372036854775808) ≤ n5 → n5 ≤ 9223372036854775807 →
        (∀ n6 : Int, 0 ≤ n6 → n6 ≤ 18446744073709551615 →
        (Post_wmul [[n], [n2]] [[n5, n6]] →
        (Pre_wadd [[n3, n4], [n5, n6]] ∧
        (∀ n7 : Int, (-9223372036854775808) ≤ n7 → n7 ≤ 9223372036854775807 →
        (∀ n8 : Int, 0 ≤ n8 → n8 ≤ 18446744073709551615 →
        (∀ n9 : Int, 0 ≤ n9 → n9 ≤ 11 →
        (Post_wadd [[n3, n4], [n5, n6]] [[n7, n8], [n9]] →
        (∀ b : Nat, (Pre_wof [[0]] ∧
        (∀ n10 : Int, (-9223372036854775808) ≤ n10 → n10 ≤ 9223372036854775807 →
        (∀ n11 : Int, 0 ≤ n11 → n11 ≤ 18446744073709551615 →
        (Post_wof [[0]] [[n10, n11]] →
        (Pre_wmul [[n], [n1]] ∧
        (∀ n12 : Int, (-9223372036854775808) ≤ n12 → n12 ≤ 9223372036854775807 →
        (∀ n13 : Int, 0 ≤ n13 → n13 ≤ 18446744073709551615 →
        (Post_wmul [[n], [n1]] [[n12, n13]] →
        (Pre_wsub [[n10, n11], [n12, n13]] ∧
        (∀ n14 : Int, (-9223372036854775808) ≤ n14 → n14 ≤ 9223372036854775807 →
        (∀ n15 : Int, 0 ≤ n15 → n15 ≤ 18446744073709551615 →
        (∀ n16 : Int, 0 ≤ n16 → n16 ≤ 11 →
        (Post_wsub [[n10, n11], [n12, n13]] [[n14, n15], [n16]] →
        (∀ b1 : Nat, (Pre_wof [[n]] ∧
        (∀ n17 : Int, (-9223372036854775808) ≤ n17 → n17 ≤ 9223372036854775807 →
        (∀ n18 : Int, 0 ≤ n18 → n18 ≤ 18446744073709551615 →
        (Post_wof [[n]] [[n17, n18]] →
        (Pre_wtms [[n17, n18], [n1]] ∧
        (∀ n19 : Int, (-9223372036854775808) ≤ n19 → n19 ≤ 9223372036854775807 →
        (∀ n20 : Int, 0 ≤ n20 → n20 ≤ 18446744073709551615 →
        (∀ n21 : Int, 0 ≤ n21 → n21 ≤ 11 →
        (Post_wtms [[n17, n18], [n1]] [[n19, n20], [n21]] →
        (∀ b2 : Nat, (Pre_wadd [[n19, n20], [n19, n20]] ∧
        (∀ n22 : Int, (-9223372036854775808) ≤ n22 → n22 ≤ 9223372036854775807 →
        (∀ n23 : Int, 0 ≤ n23 → n23 ≤ 18446744073709551615 →
        (∀ n24 : Int, 0 ≤ n24 → n24 ≤ 11 →
        (Post_wadd [[n19, n20], [n19, n20]] [[n22, n23], [n24]] →
        (∀ b3 : Nat, (Pre_wtms [[n19, n20], [2]] ∧
        (∀ n25 : Int, (-9223372036854775808) ≤ n25 → n25 ≤ 9223372036854775807 →
        (∀ n26 : Int, 0 ≤ n26 → n26 ≤ 18446744073709551615 →
        (∀ n27 : Int, 0 ≤ n27 → n27 ≤ 11 →
        (Post_wtms [[n19, n20], [2]] [[n25, n26], [n27]] →
        (∀ b4 : Nat, (((n1 = (-9223372036854775808)) →
          (∀ n28 : Int, n28 = (IntKind.wrap .i64 (n1 + n2)) → (-9223372036854775808) ≤ n28 → n28 ≤ 9223372036854775807 →
          (Pre_wmul [[n], [n28]] ∧
          (∀ n29 : Int, (-9223372036854775808) ≤ n29 → n29 ≤ 9223372036854775807 →
          (∀ n30 : Int, 0 ≤ n30 → n30 ≤ 18446744073709551615 →
          (Post_wmul [[n], [n28]] [[n29, n30]] →
          ((((n7 = n29) ∧ (n8 = n30)) →
            (((n9 = 0) →
              (Pre_lives [] ∧
              (∀ t : Bool, (Post_lives [] [[b2i t]] →
              Post_lproducts [[n], [n1], [n2]] [[b2i t]])))) ∧
             (¬ (n9 = 0) →
              Post_lproducts [[n], [n1], [n2]] [[b2i false]]))) ∧
           (¬ ((n7 = n29) ∧ (n8 = n30)) →
            Post_lproducts [[n], [n1], [n2]] [[b2i false]])))))))) ∧
         (¬ (n1 = (-9223372036854775808)) →
          (∀ n28 : Int, n28 = (IntKind.wrap .i64 (n1 + n2)) → (-9223372036854775808) ≤ n28 → n28 ≤ 9223372036854775807 →
          (Pre_wmul [[n], [n28]] ∧
          (∀ n29 : Int, (-9223372036854775808) ≤ n29 → n29 ≤ 9223372036854775807 →
          (∀ n30 : Int, 0 ≤ n30 → n30 ≤ 18446744073709551615 →
          (Post_wmul [[n], [n28]] [[n29, n30]] →
          ((((n7 = n29) ∧ (n8 = n30)) →
            (((n9 = 0) →
              (∀ n31 : Int, n31 = (IntKind.wrap .i64 (0 - n1)) → (-9223372036854775808) ≤ n31 → n31 ≤ 9223372036854775807 →
              (Pre_wmul [[n], [n31]] ∧
              (∀ n32 : Int, (-9223372036854775808) ≤ n32 → n32 ≤ 9223372036854775807 →
              (∀ n33 : Int, 0 ≤ n33 → n33 ≤ 18446744073709551615 →
              (Post_wmul [[n], [n31]] [[n32, n33]] →
              ((((n14 = n32) ∧ (n15 = n33)) →
                (((n16 = 0) →
                  (Pre_wmul [[n], [n1]] ∧
                  (∀ n34 : Int, (-9223372036854775808) ≤ n34 → n34 ≤ 9223372036854775807 →
                  (∀ n35 : Int, 0 ≤ n35 → n35 ≤ 18446744073709551615 →
                  (Post_wmul [[n], [n1]] [[n34, n35]] →
                  ((((n19 = n34) ∧ (n20 = n35)) →
                    (((n21 = 0) →
                      ((((n22 = n25) ∧ (n23 = n26)) →
                        (((n24 = n27) →
                          (Pre_lives [] ∧
                          (∀ t : Bool, (Post_lives [] [[b2i t]] →
                          Post_lproducts [[n], [n1], [n2]] [[b2i t]])))) ∧
                         (¬ (n24 = n27) →
                          Post_lproducts [[n], [n1], [n2]] [[b2i false]]))) ∧
                       (¬ ((n22 = n25) ∧ (n23 = n26)) →
                        Post_lproducts [[n], [n1], [n2]] [[b2i false]]))) ∧
                     (¬ (n21 = 0) →
                      Post_lproducts [[n], [n1], [n2]] [[b2i false]]))) ∧
                   (¬ ((n19 = n34) ∧ (n20 = n35)) →
                    Post_lproducts [[n], [n1], [n2]] [[b2i false]]))))))) ∧
                 (¬ (n16 = 0) →
                  Post_lproducts [[n], [n1], [n2]] [[b2i false]]))) ∧
               (¬ ((n14 = n32) ∧ (n15 = n33)) →
                Post_lproducts [[n], [n1], [n2]] [[b2i false]])))))))) ∧
             (¬ (n9 = 0) →
              Post_lproducts [[n], [n1], [n2]] [[b2i false]]))) ∧
           (¬ ((n7 = n29) ∧ (n8 = n30)) →
            Post_lproducts [[n], [n1], [n2]] [[b2i false]])))))))))))))))))))))))))))))))))))))))))))))))))))))))))))))))) ∧
   (¬ (0 < n2) →
    (((n2 < 0) →
      (((n1 < (IntKind.wrap .i64 ((-9223372036854775808) - n2))) →
        (Pre_lives [] ∧
        (∀ t : Bool, (Post_lives [] [[b2i t]] →
        Post_lproducts [[n], [n1], [n2]] [[b2i t]])))) ∧
       (¬ (n1 < (IntKind.wrap .i64 ((-9223372036854775808) - n2))) →
        (Pre_wmul [[n], [n1]] ∧
        (∀ n3 : Int, (-9223372036854775808) ≤ n3 → n3 ≤ 9223372036854775807 →
        (∀ n4 : Int, 0 ≤ n4 → n4 ≤ 18446744073709551615 →
        (Post_wmul [[n], [n1]] [[n3, n4]] →
        (Pre_wmul [[n], [n2]] ∧
        (∀ n5 : Int, (-9223372036854775808) ≤ n5 → n5 ≤ 9223372036854775807 →
        (∀ n6 : Int, 0 ≤ n6 → n6 ≤ 18446744073709551615 →
        (Post_wmul [[n], [n2]] [[n5, n6]] →
        (Pre_wadd [[n3, n4], [n5, n6]] ∧
        (∀ n7 : Int, (-9223372036854775808) ≤ n7 → n7 ≤ 9223372036854775807 →
        (∀ n8 : Int, 0 ≤ n8 → n8 ≤ 18446744073709551615 →
        (∀ n9 : Int, 0 ≤ n9 → n9 ≤ 11 →
        (Post_wadd [[n3, n4], [n5, n6]] [[n7, n8], [n9]] →
        (∀ b : Nat, (Pre_wof [[0]] ∧
        (∀ n10 : Int, (-9223372036854775808) ≤ n10 → n10 ≤ 9223372036854775807 →
        (∀ n11 : Int, 0 ≤ n11 → n11 ≤ 18446744073709551615 →
        (Post_wof [[0]] [[n10, n11]] →
        (Pre_wmul [[n], [n1]] ∧
        (∀ n12 : Int, (-9223372036854775808) ≤ n12 → n12 ≤ 9223372036854775807 →
        (∀ n13 : Int, 0 ≤ n13 → n13 ≤ 18446744073709551615 →
        (Post_wmul [[n], [n1]] [[n12, n13]] →
        (Pre_wsub [[n10, n11], [n12, n13]] ∧
        (∀ n14 : Int, (-9223372036854775808) ≤ n14 → n14 ≤ 9223372036854775807 →
        (∀ n15 : Int, 0 ≤ n15 → n15 ≤ 18446744073709551615 →
        (∀ n16 : Int, 0 ≤ n16 → n16 ≤ 11 →
        (Post_wsub [[n10, n11], [n12, n13]] [[n14, n15], [n16]] →
        (∀ b1 : Nat, (Pre_wof [[n]] ∧
        (∀ n17 : Int, (-9223372036854775808) ≤ n17 → n17 ≤ 9223372036854775807 →
        (∀ n18 : Int, 0 ≤ n18 → n18 ≤ 18446744073709551615 →
        (Post_wof [[n]] [[n17, n18]] →
        (Pre_wtms [[n17, n18], [n1]] ∧
        (∀ n19 : Int, (-9223372036854775808) ≤ n19 → n19 ≤ 9223372036854775807 →
        (∀ n20 : Int, 0 ≤ n20 → n20 ≤ 18446744073709551615 →
        (∀ n21 : Int, 0 ≤ n21 → n21 ≤ 11 →
        (Post_wtms [[n17, n18], [n1]] [[n19, n20], [n21]] →
        (∀ b2 : Nat, (Pre_wadd [[n19, n20], [n19, n20]] ∧
        (∀ n22 : Int, (-9223372036854775808) ≤ n22 → n22 ≤ 9223372036854775807 →
        (∀ n23 : Int, 0 ≤ n23 → n23 ≤ 18446744073709551615 →
        (∀ n24 : Int, 0 ≤ n24 → n24 ≤ 11 →
        (Post_wadd [[n19, n20], [n19, n20]] [[n22, n23], [n24]] →
        (∀ b3 : Nat, (Pre_wtms [[n19, n20], [2]] ∧
        (∀ n25 : Int, (-9223372036854775808) ≤ n25 → n25 ≤ 9223372036854775807 →
        (∀ n26 : Int, 0 ≤ n26 → n26 ≤ 18446744073709551615 →
        (∀ n27 : Int, 0 ≤ n27 → n27 ≤ 11 →
        (Post_wtms [[n19, n20], [2]] [[n25, n26], [n27]] →
        (∀ b4 : Nat, (((n1 = (-9223372036854775808)) →
          (∀ n28 : Int, n28 = (IntKind.wrap .i64 (n1 + n2)) → (-9223372036854775808) ≤ n28 → n28 ≤ 9223372036854775807 →
          (Pre_wmul [[n], [n28]] ∧
          (∀ n29 : Int, (-9223372036854775808) ≤ n29 → n29 ≤ 9223372036854775807 →
          (∀ n30 : Int, 0 ≤ n30 → n30 ≤ 18446744073709551615 →
          (Post_wmul [[n], [n28]] [[n29, n30]] →
          ((((n7 = n29) ∧ (n8 = n30)) →
            (((n9 = 0) →
              (Pre_lives [] ∧
              (∀ t : Bool, (Post_lives [] [[b2i t]] →
              Post_lproducts [[n], [n1], [n2]] [[b2i t]])))) ∧
             (¬ (n9 = 0) →
              Post_lproducts [[n], [n1], [n2]] [[b2i false]]))) ∧
           (¬ ((n7 = n29) ∧ (n8 = n30)) →
            Post_lproducts [[n], [n1], [n2]] [[b2i false]])))))))) ∧
         (¬ (n1 = (-9223372036854775808)) →
          (∀ n28 : Int, n28 = (IntKind.wrap .i64 (n1 + n2)) → (-9223372036854775808) ≤ n28 → n28 ≤ 9223372036854775807 →
          (Pre_wmul [[n], [n28]] ∧
          (∀ n29 : Int, (-9223372036854775808) ≤ n29 → n29 ≤ 9223372036854775807 →
          (∀ n30 : Int, 0 ≤ n30 → n30 ≤ 18446744073709551615 →
          (Post_wmul [[n], [n28]] [[n29, n30]] →
          ((((n7 = n29) ∧ (n8 = n30)) →
            (((n9 = 0) →
              (∀ n31 : Int, n31 = (IntKind.wrap .i64 (0 - n1)) → (-9223372036854775808) ≤ n31 → n31 ≤ 9223372036854775807 →
              (Pre_wmul [[n], [n31]] ∧
              (∀ n32 : Int, (-9223372036854775808) ≤ n32 → n32 ≤ 9223372036854775807 →
              (∀ n33 : Int, 0 ≤ n33 → n33 ≤ 18446744073709551615 →
              (Post_wmul [[n], [n31]] [[n32, n33]] →
              ((((n14 = n32) ∧ (n15 = n33)) →
                (((n16 = 0) →
                  (Pre_wmul [[n], [n1]] ∧
                  (∀ n34 : Int, (-9223372036854775808) ≤ n34 → n34 ≤ 9223372036854775807 →
                  (∀ n35 : Int, 0 ≤ n35 → n35 ≤ 18446744073709551615 →
                  (Post_wmul [[n], [n1]] [[n34, n35]] →
                  ((((n19 = n34) ∧ (n20 = n35)) →
                    (((n21 = 0) →
                      ((((n22 = n25) ∧ (n23 = n26)) →
                        (((n24 = n27) →
                          (Pre_lives [] ∧
                          (∀ t : Bool, (Post_lives [] [[b2i t]] →
                          Post_lproducts [[n], [n1], [n2]] [[b2i t]])))) ∧
                         (¬ (n24 = n27) →
                          Post_lproducts [[n], [n1], [n2]] [[b2i false]]))) ∧
                       (¬ ((n22 = n25) ∧ (n23 = n26)) →
                        Post_lproducts [[n], [n1], [n2]] [[b2i false]]))) ∧
                     (¬ (n21 = 0) →
                      Post_lproducts [[n], [n1], [n2]] [[b2i false]]))) ∧
                   (¬ ((n19 = n34) ∧ (n20 = n35)) →
                    Post_lproducts [[n], [n1], [n2]] [[b2i false]]))))))) ∧
                 (¬ (n16 = 0) →
                  Post_lproducts [[n], [n1], [n2]] [[b2i false]]))) ∧
               (¬ ((n14 = n32) ∧ (n15 = n33)) →
                Post_lproducts [[n], [n1], [n2]] [[b2i false]])))))))) ∧
             (¬ (n9 = 0) →
              Post_lproducts [[n], [n1], [n2]] [[b2i false]]))) ∧
           (¬ ((n7 = n29) ∧ (n8 = n30)) →
            Post_lproducts [[n], [n1], [n2]] [[b2i false]])))))))))))))))))))))))))))))))))))))))))))))))))))))))))))))) ∧
     (¬ (n2 < 0) →
      (Pre_wmul [[n], [n1]] ∧
      (∀ n3 : Int, (-9223372036854775808) ≤ n3 → n3 ≤ 9223372036854775807 →
      (∀ n4 : Int, 0 ≤ n4 → n4 ≤ 18446744073709551615 →
      (Post_wmul [[n], [n1]] [[n3, n4]] →
      (Pre_wmul [[n], [n2]] ∧
      (∀ n5 : Int, (-9223372036854775808) ≤ n5 → n5 ≤ 9223372036854775807 →
      (∀ n6 : Int, 0 ≤ n6 → n6 ≤ 18446744073709551615 →
      (Post_wmul [[n], [n2]] [[n5, n6]] →
      (Pre_wadd [[n3, n4], [n5, n6]] ∧
      (∀ n7 : Int, (-9223372036854775808) ≤ n7 → n7 ≤ 9223372036854775807 →
      (∀ n8 : Int, 0 ≤ n8 → n8 ≤ 18446744073709551615 →
      (∀ n9 : Int, 0 ≤ n9 → n9 ≤ 11 →
      (Post_wadd [[n3, n4], [n5, n6]] [[n7, n8], [n9]] →
      (∀ b : Nat, (Pre_wof [[0]] ∧
      (∀ n10 : Int, (-9223372036854775808) ≤ n10 → n10 ≤ 9223372036854775807 →
      (∀ n11 : Int, 0 ≤ n11 → n11 ≤ 18446744073709551615 →
      (Post_wof [[0]] [[n10, n11]] →
      (Pre_wmul [[n], [n1]] ∧
      (∀ n12 : Int, (-9223372036854775808) ≤ n12 → n12 ≤ 9223372036854775807 →
      (∀ n13 : Int, 0 ≤ n13 → n13 ≤ 18446744073709551615 →
      (Post_wmul [[n], [n1]] [[n12, n13]] →
      (Pre_wsub [[n10, n11], [n12, n13]] ∧
      (∀ n14 : Int, (-9223372036854775808) ≤ n14 → n14 ≤ 9223372036854775807 →
      (∀ n15 : Int, 0 ≤ n15 → n15 ≤ 18446744073709551615 →
      (∀ n16 : Int, 0 ≤ n16 → n16 ≤ 11 →
      (Post_wsub [[n10, n11], [n12, n13]] [[n14, n15], [n16]] →
      (∀ b1 : Nat, (Pre_wof [[n]] ∧
      (∀ n17 : Int, (-9223372036854775808) ≤ n17 → n17 ≤ 9223372036854775807 →
      (∀ n18 : Int, 0 ≤ n18 → n18 ≤ 18446744073709551615 →
      (Post_wof [[n]] [[n17, n18]] →
      (Pre_wtms [[n17, n18], [n1]] ∧
      (∀ n19 : Int, (-9223372036854775808) ≤ n19 → n19 ≤ 9223372036854775807 →
      (∀ n20 : Int, 0 ≤ n20 → n20 ≤ 18446744073709551615 →
      (∀ n21 : Int, 0 ≤ n21 → n21 ≤ 11 →
      (Post_wtms [[n17, n18], [n1]] [[n19, n20], [n21]] →
      (∀ b2 : Nat, (Pre_wadd [[n19, n20], [n19, n20]] ∧
      (∀ n22 : Int, (-9223372036854775808) ≤ n22 → n22 ≤ 9223372036854775807 →
      (∀ n23 : Int, 0 ≤ n23 → n23 ≤ 18446744073709551615 →
      (∀ n24 : Int, 0 ≤ n24 → n24 ≤ 11 →
      (Post_wadd [[n19, n20], [n19, n20]] [[n22, n23], [n24]] →
      (∀ b3 : Nat, (Pre_wtms [[n19, n20], [2]] ∧
      (∀ n25 : Int, (-9223372036854775808) ≤ n25 → n25 ≤ 9223372036854775807 →
      (∀ n26 : Int, 0 ≤ n26 → n26 ≤ 18446744073709551615 →
      (∀ n27 : Int, 0 ≤ n27 → n27 ≤ 11 →
      (Post_wtms [[n19, n20], [2]] [[n25, n26], [n27]] →
      (∀ b4 : Nat, (((n1 = (-9223372036854775808)) →
        (∀ n28 : Int, n28 = (IntKind.wrap .i64 (n1 + n2)) → (-9223372036854775808) ≤ n28 → n28 ≤ 9223372036854775807 →
        (Pre_wmul [[n], [n28]] ∧
        (∀ n29 : Int, (-9223372036854775808) ≤ n29 → n29 ≤ 9223372036854775807 →
        (∀ n30 : Int, 0 ≤ n30 → n30 ≤ 18446744073709551615 →
        (Post_wmul [[n], [n28]] [[n29, n30]] →
        ((((n7 = n29) ∧ (n8 = n30)) →
          (((n9 = 0) →
            (Pre_lives [] ∧
            (∀ t : Bool, (Post_lives [] [[b2i t]] →
            Post_lproducts [[n], [n1], [n2]] [[b2i t]])))) ∧
           (¬ (n9 = 0) →
            Post_lproducts [[n], [n1], [n2]] [[b2i false]]))) ∧
         (¬ ((n7 = n29) ∧ (n8 = n30)) →
          Post_lproducts [[n], [n1], [n2]] [[b2i false]])))))))) ∧
       (¬ (n1 = (-9223372036854775808)) →
        (∀ n28 : Int, n28 = (IntKind.wrap .i64 (n1 + n2)) → (-9223372036854775808) ≤ n28 → n28 ≤ 9223372036854775807 →
        (Pre_wmul [[n], [n28]] ∧
        (∀ n29 : Int, (-9223372036854775808) ≤ n29 → n29 ≤ 9223372036854775807 →
        (∀ n30 : Int, 0 ≤ n30 → n30 ≤ 18446744073709551615 →
        (Post_wmul [[n], [n28]] [[n29, n30]] →
        ((((n7 = n29) ∧ (n8 = n30)) →
          (((n9 = 0) →
            (∀ n31 : Int, n31 = (IntKind.wrap .i64 (0 - n1)) → (-9223372036854775808) ≤ n31 → n31 ≤ 9223372036854775807 →
            (Pre_wmul [[n], [n31]] ∧
            (∀ n32 : Int, (-9223372036854775808) ≤ n32 → n32 ≤ 9223372036854775807 →
            (∀ n33 : Int, 0 ≤ n33 → n33 ≤ 18446744073709551615 →
            (Post_wmul [[n], [n31]] [[n32, n33]] →
            ((((n14 = n32) ∧ (n15 = n33)) →
              (((n16 = 0) →
                (Pre_wmul [[n], [n1]] ∧
                (∀ n34 : Int, (-9223372036854775808) ≤ n34 → n34 ≤ 9223372036854775807 →
                (∀ n35 : Int, 0 ≤ n35 → n35 ≤ 18446744073709551615 →
                (Post_wmul [[n], [n1]] [[n34, n35]] →
                ((((n19 = n34) ∧ (n20 = n35)) →
                  (((n21 = 0) →
                    ((((n22 = n25) ∧ (n23 = n26)) →
                      (((n24 = n27) →
                        (Pre_lives [] ∧
                        (∀ t : Bool, (Post_lives [] [[b2i t]] →
                        Post_lproducts [[n], [n1], [n2]] [[b2i t]])))) ∧
                       (¬ (n24 = n27) →
                        Post_lproducts [[n], [n1], [n2]] [[b2i false]]))) ∧
                     (¬ ((n22 = n25) ∧ (n23 = n26)) →
                      Post_lproducts [[n], [n1], [n2]] [[b2i false]]))) ∧
                   (¬ (n21 = 0) →
                    Post_lproducts [[n], [n1], [n2]] [[b2i false]]))) ∧
                 (¬ ((n19 = n34) ∧ (n20 = n35)) →
                  Post_lproducts [[n], [n1], [n2]] [[b2i false]]))))))) ∧
               (¬ (n16 = 0) →
                Post_lproducts [[n], [n1], [n2]] [[b2i false]]))) ∧
             (¬ ((n14 = n32) ∧ (n15 = n33)) →
              Post_lproducts [[n], [n1], [n2]] [[b2i false]])))))))) ∧
           (¬ (n9 = 0) →
            Post_lproducts [[n], [n1], [n2]] [[b2i false]]))) ∧
         (¬ ((n7 = n29) ∧ (n8 = n30)) →
          Post_lproducts [[n], [n1], [n2]] [[b2i false]])))))))))))))))))))))))))))))))))))))))))))))))))))))))))))))))))))
theorem c_lproducts : canCall Try.prog 4 = true := by kernel_rfl
theorem s_lproducts : P_lproducts = sat E (symTop Try.prog tab44 2000 4 ash_lproducts sh_lproducts) := by kernel_rfl
theorem pure_lproducts (hV : Valid Try.prog tab44 E) (h : P_lproducts) (args : List Value) (ha : shaFits ash_lproducts args) (hp : E.pre 4 (args.map vints)) : Pure Try.prog 4 args.toArray fun v => sh_lproducts.fits v ∧ E.post 4 (args.map vints) (vres v) := @top_sat Try.prog tab44 E hV 2000 4 ash_lproducts sh_lproducts (@Eq.mp _ _ s_lproducts h) args ha hp
/-- gouache/gouachelaw01.WidesFloors -/
def P_lfloors : Prop :=
  (∀ n : Int, (-9223372036854775808) ≤ n → n ≤ 9223372036854775807 →
  (∀ n1 : Int, 0 ≤ n1 → n1 ≤ 18446744073709551615 →
  (∀ n2 : Int, (-9223372036854775808) ≤ n2 → n2 ≤ 9223372036854775807 →
  (Pre_lfloors [[n, n1], [n2]] →
  (∀ b : Nat, (Pre_wfloor [[n, n1], [n2]] ∧
  (∀ n3 : Int, (-9223372036854775808) ≤ n3 → n3 ≤ 9223372036854775807 →
  (∀ n4 : Int, 0 ≤ n4 → n4 ≤ 18446744073709551615 →
  (∀ n5 : Int, (-9223372036854775808) ≤ n5 → n5 ≤ 9223372036854775807 →
  (∀ n6 : Int, 0 ≤ n6 → n6 ≤ 11 →
  (Post_wfloor [[n, n1], [n2]] [[n3, n4], [n5], [n6]] →
  (∀ b1 : Nat, (Pre_wnear [[n, n1], [n2]] ∧
  (∀ n7 : Int, (-9223372036854775808) ≤ n7 → n7 ≤ 9223372036854775807 →
  (∀ n8 : Int, 0 ≤ n8 → n8 ≤ 18446744073709551615 →
  (∀ n9 : Int, 0 ≤ n9 → n9 ≤ 11 →
  (Post_wnear [[n, n1], [n2]] [[n7, n8], [n9]] →
  (∀ b2 : Nat, (((n2 < 1) →
    ((((n3 = 0) ∧ (n4 = 0)) →
      (((n5 = 0) →
        (((n6 = 1) →
          ((((n7 = 0) ∧ (n8 = 0)) →
            (((n9 = 1) →
              (Pre_lives [] ∧
              (∀ t : Bool, (Post_lives [] [[b2i t]] →
              Post_lfloors [[n, n1], [n2]] [[b2i t]])))) ∧
             (¬ (n9 = 1) →
              Post_lfloors [[n, n1], [n2]] [[b2i false]]))) ∧
           (¬ ((n7 = 0) ∧ (n8 = 0)) →
            Post_lfloors [[n, n1], [n2]] [[b2i false]]))) ∧
         (¬ (n6 = 1) →
          Post_lfloors [[n, n1], [n2]] [[b2i false]]))) ∧
       (¬ (n5 = 0) →
        Post_lfloors [[n, n1], [n2]] [[b2i false]]))) ∧
     (¬ ((n3 = 0) ∧ (n4 = 0)) →
      Post_lfloors [[n, n1], [n2]] [[b2i false]]))) ∧
   (¬ (n2 < 1) →
    (Pre_wof [[1]] ∧
    (∀ n10 : Int, (-9223372036854775808) ≤ n10 → n10 ≤ 9223372036854775807 →
    (∀ n11 : Int, 0 ≤ n11 → n11 ≤ 18446744073709551615 →
    (Post_wof [[1]] [[n10, n11]] →
    (Pre_wadd [[n3, n4], [n10, n11]] ∧
    (∀ n12 : Int, (-9223372036854775808) ≤ n12 → n12 ≤ 9223372036854775807 →
    (∀ n13 : Int, 0 ≤ n13 → n13 ≤ 18446744073709551615 →
    (∀ n14 : Int, 0 ≤ n14 → n14 ≤ 11 →
    (Post_wadd [[n3, n4], [n10, n11]] [[n12, n13], [n14]] →
    (∀ b3 : Nat, (Pre_wtms [[n3, n4], [n2]] ∧
    (∀ n15 : Int, (-9223372036854775808) ≤ n15 → n15 ≤ 9223372036854775807 →
    (∀ n16 : Int, 0 ≤ n16 → n16 ≤ 18446744073709551615 →
    (∀ n17 : Int, 0 ≤ n17 → n17 ≤ 11 →
    (Post_wtms [[n3, n4], [n2]] [[n15, n16], [n17]] →
    (∀ b4 : Nat, (Pre_wsub [[n, n1], [n15, n16]] ∧
    (∀ n18 : Int, (-9223372036854775808) ≤ n18 → n18 ≤ 9223372036854775807 →
    (∀ n19 : Int, 0 ≤ n19 → n19 ≤ 18446744073709551615 →
    (∀ n20 : Int, 0 ≤ n20 → n20 ≤ 11 →
    (Post_wsub [[n, n1], [n15, n16]] [[n18, n19], [n20]] →
    (∀ b5 : Nat, (((¬ (n17 = 0)) →
      (Pre_wtms [[n12, n13], [n2]] ∧
      (∀ n21 : Int, (-9223372036854775808) ≤ n21 → n21 ≤ 9223372036854775807 →
      (∀ n22 : Int, 0 ≤ n22 → n22 ≤ 18446744073709551615 →
      (∀ n23 : Int, 0 ≤ n23 → n23 ≤ 11 →
      (Post_wtms [[n12, n13], [n2]] [[n21, n22], [n23]] →
      (Pre_wsub [[n21, n22], [n, n1]] ∧
      (∀ n24 : Int, (-9223372036854775808) ≤ n24 → n24 ≤ 9223372036854775807 →
      (∀ n25 : Int, 0 ≤ n25 → n25 ≤ 18446744073709551615 →
      (∀ n26 : Int, 0 ≤ n26 → n26 ≤ 11 →
      (Post_wsub [[n21, n22], [n, n1]] [[n24, n25], [n26]] →
      (Pre_wof [[n2]] ∧
      (∀ n27 : Int, (-9223372036854775808) ≤ n27 → n27 ≤ 9223372036854775807 →
      (∀ n28 : Int, 0 ≤ n28 → n28 ≤ 18446744073709551615 →
      (Post_wof [[n2]] [[n27, n28]] →
      (Pre_wsub [[n27, n28], [n24, n25]] ∧
      (∀ n29 : Int, (-9223372036854775808) ≤ n29 → n29 ≤ 9223372036854775807 →
      (∀ n30 : Int, 0 ≤ n30 → n30 ≤ 18446744073709551615 →
      (∀ n31 : Int, 0 ≤ n31 → n31 ≤ 11 →
      (Post_wsub [[n27, n28], [n24, n25]] [[n29, n30], [n31]] →
      (((n5 < 0) →
        Post_lfloors [[n, n1], [n2]] [[b2i false]]) ∧
       (¬ (n5 < 0) →
        (((n2 ≤ n5) →
          Post_lfloors [[n, n1], [n2]] [[b2i false]]) ∧
         (¬ (n2 ≤ n5) →
          (((¬ (n23 = 0)) →
            Post_lfloors [[n, n1], [n2]] [[b2i false]]) ∧
           (¬ (¬ (n23 = 0)) →
            (((¬ (n31 = 0)) →
              Post_lfloors [[n, n1], [n2]] [[b2i false]]) ∧
             (¬ (¬ (n31 = 0)) →
              (Pre_wof [[n5]] ∧
              (∀ n32 : Int, (-9223372036854775808) ≤ n32 → n32 ≤ 9223372036854775807 →
              (∀ n33 : Int, 0 ≤ n33 → n33 ≤ 18446744073709551615 →
              (Post_wof [[n5]] [[n32, n33]] →
              (((¬ ((n29 = n32) ∧ (n30 = n33))) →
                Post_lfloors [[n, n1], [n2]] [[b2i false]]) ∧
               (¬ (¬ ((n29 = n32) ∧ (n30 = n33))) →
                (((¬ (n6 = 0)) →
                  Post_lfloors [[n, n1], [n2]] [[b2i false]]) ∧
                 (¬ (¬ (n6 = 0)) →
                  (((¬ (n9 = 0)) →
                    Post_lfloors [[n, n1], [n2]] [[b2i false]]) ∧
                   (¬ (¬ (n9 = 0)) →
                    (((n5 < (IntKind.wrap .i64 (n2 - n5))) →
                      ((((n7 = n3) ∧ (n8 = n4)) →
                        (Pre_lives [] ∧
                        (∀ t : Bool, (Post_lives [] [[b2i t]] →
                        Post_lfloors [[n, n1], [n2]] [[b2i t]])))) ∧
                       (¬ ((n7 = n3) ∧ (n8 = n4)) →
                        Post_lfloors [[n, n1], [n2]] [[b2i false]]))) ∧
                     (¬ (n5 < (IntKind.wrap .i64 (n2 - n5))) →
                      ((((n7 = n12) ∧ (n8 = n13)) →
                        (((n14 = 0) →
                          (Pre_lives [] ∧
                          (∀ t : Bool, (Post_lives [] [[b2i t]] →
                          Post_lfloors [[n, n1], [n2]] [[b2i t]])))) ∧
                         (¬ (n14 = 0) →
                          Post_lfloors [[n, n1], [n2]] [[b2i false]]))) ∧
                       (¬ ((n7 = n12) ∧ (n8 = n13)) →
                        Post_lfloors [[n, n1], [n2]] [[b2i false]])))))))))))))))))))))))))))))))))))))))))) ∧
     (¬ (¬ (n17 = 0)) →
      (((n5 < 0) →
        Post_lfloors [[n, n1], [n2]] [[b2i false]]) ∧
       (¬ (n5 < 0) →
        (((n2 ≤ n5) →
          Post_lfloors [[n, n1], [n2]] [[b2i false]]) ∧
         (¬ (n2 ≤ n5) →
          (((¬ (n17 = 0)) →
            Post_lfloors [[n, n1], [n2]] [[b2i false]]) ∧
           (¬ (¬ (n17 = 0)) →
            (((¬ (n20 = 0)) →
              Post_lfloors [[n, n1], [n2]] [[b2i false]]) ∧
             (¬ (¬ (n20 = 0)) →
              (Pre_wof [[n5]] ∧
              (∀ n21 : Int, (-9223372036854775808) ≤ n21 → n21 ≤ 9223372036854775807 →
              (∀ n22 : Int, 0 ≤ n22 → n22 ≤ 18446744073709551615 →
              (Post_wof [[n5]] [[n21, n22]] →
              (((¬ ((n18 = n21) ∧ (n19 = n22))) →
                Post_lfloors [[n, n1], [n2]] [[b2i false]]) ∧
               (¬ (¬ ((n18 = n21) ∧ (n19 = n22))) →
                (((¬ (n6 = 0)) →
                  Post_lfloors [[n, n1], [n2]] [[b2i false]]) ∧
                 (¬ (¬ (n6 = 0)) →
                  (((¬ (n9 = 0)) →
                    Post_lfloors [[n, n1], [n2]] [[b2i false]]) ∧
                   (¬ (¬ (n9 = 0)) →
                    (((n5 < (IntKind.wrap .i64 (n2 - n5))) →
                      ((((n7 = n3) ∧ (n8 = n4)) →
                        (Pre_lives [] ∧
                        (∀ t : Bool, (Post_lives [] [[b2i t]] →
                        Post_lfloors [[n, n1], [n2]] [[b2i t]])))) ∧
                       (¬ ((n7 = n3) ∧ (n8 = n4)) →
                        Post_lfloors [[n, n1], [n2]] [[b2i false]]))) ∧
                     (¬ (n5 < (IntKind.wrap .i64 (n2 - n5))) →
                      ((((n7 = n12) ∧ (n8 = n13)) →
                        (((n14 = 0) →
                          (Pre_lives [] ∧
                          (∀ t : Bool, (Post_lives [] [[b2i t]] →
                          Post_lfloors [[n, n1], [n2]] [[b2i t]])))) ∧
                         (¬ (n14 = 0) →
                          Post_lfloors [[n, n1], [n2]] [[b2i false]]))) ∧
                       (¬ ((n7 = n12) ∧ (n8 = n13)) →
                        Post_lfloors [[n, n1], [n2]] [[b2i false]]))))))))))))))))))))))))))))))))))))))))))))))))))))))))))))))))))
theorem c_lfloors : canCall Try.prog 5 = true := by kernel_rfl
theorem s_lfloors : P_lfloors = sat E (symTop Try.prog tab44 2000 5 ash_lfloors sh_lfloors) := by kernel_rfl
theorem pure_lfloors (hV : Valid Try.prog tab44 E) (h : P_lfloors) (args : List Value) (ha : shaFits ash_lfloors args) (hp : E.pre 5 (args.map vints)) : Pure Try.prog 5 args.toArray fun v => sh_lfloors.fits v ∧ E.post 5 (args.map vints) (vres v) := @top_sat Try.prog tab44 E hV 2000 5 ash_lfloors sh_lfloors (@Eq.mp _ _ s_lfloors h) args ha hp
/-- gouache/gouachelaw01.WidesHalves -/
def P_lhalves : Prop :=
  (∀ n : Int, (-9223372036854775808) ≤ n → n ≤ 9223372036854775807 →
  (∀ n1 : Int, 0 ≤ n1 → n1 ≤ 18446744073709551615 →
  (∀ n2 : Int, (-2147483648) ≤ n2 → n2 ≤ 2147483647 →
  (∀ n3 : Int, (-2147483648) ≤ n3 → n3 ≤ 2147483647 →
  (Pre_lhalves [[n, n1], [n2], [n3]] →
  (∀ b : Nat, (Pre_wfloor [[n, n1], [1]] ∧
  (∀ n4 : Int, (-9223372036854775808) ≤ n4 → n4 ≤ 9223372036854775807 →
  (∀ n5 : Int, 0 ≤ n5 → n5 ≤ 18446744073709551615 →
  (∀ n6 : Int, (-9223372036854775808) ≤ n6 → n6 ≤ 9223372036854775807 →
  (∀ n7 : Int, 0 ≤ n7 → n7 ≤ 11 →
  (Post_wfloor [[n, n1], [1]] [[n4, n5], [n6], [n7]] →
  (∀ b1 : Nat, (((¬ ((n4 = n) ∧ (n5 = n1))) →
    Post_lhalves [[n, n1], [n2], [n3]] [[b2i false]]) ∧
   (¬ (¬ ((n4 = n) ∧ (n5 = n1))) →
    (((¬ (n6 = 0)) →
      Post_lhalves [[n, n1], [n2], [n3]] [[b2i false]]) ∧
     (¬ (¬ (n6 = 0)) →
      (((¬ (n7 = 0)) →
        Post_lhalves [[n, n1], [n2], [n3]] [[b2i false]]) ∧
       (¬ (¬ (n7 = 0)) →
        (((n2 < 1) →
          (Pre_lives [] ∧
          (∀ t : Bool, (Post_lives [] [[b2i t]] →
          Post_lhalves [[n, n1], [n2], [n3]] [[b2i t]])))) ∧
         (¬ (n2 < 1) →
          (((n3 < 1) →
            (Pre_lives [] ∧
            (∀ t : Bool, (Post_lives [] [[b2i t]] →
            Post_lhalves [[n, n1], [n2], [n3]] [[b2i t]])))) ∧
           (¬ (n3 < 1) →
            (Pre_wfloor [[n, n1], [n2]] ∧
            (∀ n8 : Int, (-9223372036854775808) ≤ n8 → n8 ≤ 9223372036854775807 →
            (∀ n9 : Int, 0 ≤ n9 → n9 ≤ 18446744073709551615 →
            (∀ n10 : Int, (-9223372036854775808) ≤ n10 → n10 ≤ 9223372036854775807 →
            (∀ n11 : Int, 0 ≤ n11 → n11 ≤ 11 →
            (Post_wfloor [[n, n1], [n2]] [[n8, n9], [n10], [n11]] →
            (∀ b2 : Nat, (Pre_wfloor [[n8, n9], [n3]] ∧
            (∀ n12 : Int, (-9223372036854775808) ≤ n12 → n12 ≤ 9223372036854775807 →
            (∀ n13 : Int, 0 ≤ n13 → n13 ≤ 18446744073709551615 →
            (∀ n14 : Int, (-9223372036854775808) ≤ n14 → n14 ≤ 9223372036854775807 →
            (∀ n15 : Int, 0 ≤ n15 → n15 ≤ 11 →
            (Post_wfloor [[n8, n9], [n3]] [[n12, n13], [n14], [n15]] →
            (∀ b3 : Nat, (∀ n16 : Int, n16 = (n2 * n3) → (-4611686016279904256) ≤ n16 → n16 ≤ 4611686018427387904 →
            (Pre_wfloor [[n, n1], [n16]] ∧
            (∀ n17 : Int, (-9223372036854775808) ≤ n17 → n17 ≤ 9223372036854775807 →
            (∀ n18 : Int, 0 ≤ n18 → n18 ≤ 18446744073709551615 →
            (∀ n19 : Int, (-9223372036854775808) ≤ n19 → n19 ≤ 9223372036854775807 →
            (∀ n20 : Int, 0 ≤ n20 → n20 ≤ 11 →
            (Post_wfloor [[n, n1], [n16]] [[n17, n18], [n19], [n20]] →
            (∀ b4 : Nat, (((n11 = 0) →
              (((n15 = 0) →
                (((n20 = 0) →
                  ((((n12 = n17) ∧ (n13 = n18)) →
                    (Pre_lives [] ∧
                    (∀ t : Bool, (Post_lives [] [[b2i t]] →
                    Post_lhalves [[n, n1], [n2], [n3]] [[b2i t]])))) ∧
                   (¬ ((n12 = n17) ∧ (n13 = n18)) →
                    Post_lhalves [[n, n1], [n2], [n3]] [[b2i false]]))) ∧
                 (¬ (n20 = 0) →
                  Post_lhalves [[n, n1], [n2], [n3]] [[b2i false]]))) ∧
               (¬ (n15 = 0) →
                Post_lhalves [[n, n1], [n2], [n3]] [[b2i false]]))) ∧
             (¬ (n11 = 0) →
              Post_lhalves [[n, n1], [n2], [n3]] [[b2i false]])))))))))))))))))))))))))))))))))))))))))))))))
theorem c_lhalves : canCall Try.prog 6 = true := by kernel_rfl
theorem s_lhalves : P_lhalves = sat E (symTop Try.prog tab44 2000 6 ash_lhalves sh_lhalves) := by kernel_rfl
theorem pure_lhalves (hV : Valid Try.prog tab44 E) (h : P_lhalves) (args : List Value) (ha : shaFits ash_lhalves args) (hp : E.pre 6 (args.map vints)) : Pure Try.prog 6 args.toArray fun v => sh_lhalves.fits v ∧ E.post 6 (args.map vints) (vres v) := @top_sat Try.prog tab44 E hV 2000 6 ash_lhalves sh_lhalves (@Eq.mp _ _ s_lhalves h) args ha hp
/-- gouache/gouachelaw01.WidesReckoned -/
def P_lreckoned : Prop :=
  (∀ n : Int, (-9223372036854775808) ≤ n → n ≤ 9223372036854775807 →
  (∀ n1 : Int, 0 ≤ n1 → n1 ≤ 18446744073709551615 →
  (∀ n2 : Int, (-9223372036854775808) ≤ n2 → n2 ≤ 9223372036854775807 →
  (∀ n3 : Int, 0 ≤ n3 → n3 ≤ 18446744073709551615 →
  (∀ n4 : Int, (-9223372036854775808) ≤ n4 → n4 ≤ 9223372036854775807 →
  (∀ n5 : Int, (-9223372036854775808) ≤ n5 → n5 ≤ 9223372036854775807 →
  (Pre_lreckoned [[n, n1, n2, n3, n4, n5]] →
  (∀ b : Nat, (Pre_wadd [[n, n1], [n2, n3]] ∧
  (∀ n6 : Int, (-9223372036854775808) ≤ n6 → n6 ≤ 9223372036854775807 →
  (∀ n7 : Int, 0 ≤ n7 → n7 ≤ 18446744073709551615 →
  (∀ n8 : Int, 0 ≤ n8 → n8 ≤ 11 →
  (Post_wadd [[n, n1], [n2, n3]] [[n6, n7], [n8]] →
  (∀ b1 : Nat, (Pre_radd [[n, n1], [n2, n3]] ∧
  (∀ n9 : Int, (-9223372036854775808) ≤ n9 → n9 ≤ 9223372036854775807 →
  (∀ n10 : Int, 0 ≤ n10 → n10 ≤ 18446744073709551615 →
  (∀ n11 : Int, 0 ≤ n11 → n11 ≤ 11 →
  (Post_radd [[n, n1], [n2, n3]] [[n9, n10], [n11]] →
  (∀ b2 : Nat, (Pre_wsub [[n, n1], [n2, n3]] ∧
  (∀ n12 : Int, (-9223372036854775808) ≤ n12 → n12 ≤ 9223372036854775807 →
  (∀ n13 : Int, 0 ≤ n13 → n13 ≤ 18446744073709551615 →
  (∀ n14 : Int, 0 ≤ n14 → n14 ≤ 11 →
  (Post_wsub [[n, n1], [n2, n3]] [[n12, n13], [n14]] →
  (∀ b3 : Nat, (Pre_rsub [[n, n1], [n2, n3]] ∧
  (∀ n15 : Int, (-9223372036854775808) ≤ n15 → n15 ≤ 9223372036854775807 →
  (∀ n16 : Int, 0 ≤ n16 → n16 ≤ 18446744073709551615 →
  (∀ n17 : Int, 0 ≤ n17 → n17 ≤ 11 →
  (Post_rsub [[n, n1], [n2, n3]] [[n15, n16], [n17]] →
  (∀ b4 : Nat, (((¬ ((n6 = n9) ∧ (n7 = n10))) →
    Post_lreckoned [[n, n1, n2, n3, n4, n5]] [[b2i false]]) ∧
   (¬ (¬ ((n6 = n9) ∧ (n7 = n10))) →
    (((¬ (n8 = n11)) →
      Post_lreckoned [[n, n1, n2, n3, n4, n5]] [[b2i false]]) ∧
     (¬ (¬ (n8 = n11)) →
      (((¬ ((n12 = n15) ∧ (n13 = n16))) →
        Post_lreckoned [[n, n1, n2, n3, n4, n5]] [[b2i false]]) ∧
       (¬ (¬ ((n12 = n15) ∧ (n13 = n16))) →
        (((¬ (n14 = n17)) →
          Post_lreckoned [[n, n1, n2, n3, n4, n5]] [[b2i false]]) ∧
         (¬ (¬ (n14 = n17)) →
          (Pre_wcmp [[n, n1], [n2, n3]] ∧
          (∀ n18 : Int, (-1) ≤ n18 → n18 ≤ 1 →
          (Post_wcmp [[n, n1], [n2, n3]] [[n18]] →
          (Pre_rcmp [[n, n1], [n2, n3]] ∧
          (∀ n19 : Int, (-1) ≤ n19 → n19 ≤ 1 →
          (Post_rcmp [[n, n1], [n2, n3]] [[n19]] →
          (((¬ (n18 = n19)) →
            Post_lreckoned [[n, n1, n2, n3, n4, n5]] [[b2i false]]) ∧
           (¬ (¬ (n18 = n19)) →
            (Pre_wtms [[n, n1], [n5]] ∧
            (∀ n20 : Int, (-9223372036854775808) ≤ n20 → n20 ≤ 9223372036854775807 →
            (∀ n21 : Int, 0 ≤ n21 → n21 ≤ 18446744073709551615 →
            (∀ n22 : Int, 0 ≤ n22 → n22 ≤ 11 →
            (Post_wtms [[n, n1], [n5]] [[n20, n21], [n22]] →
            (Pre_rtms [[n, n1], [n5]] ∧
            (∀ n23 : Int, (-9223372036854775808) ≤ n23 → n23 ≤ 9223372036854775807 →
            (∀ n24 : Int, 0 ≤ n24 → n24 ≤ 18446744073709551615 →
            (∀ n25 : Int, 0 ≤ n25 → n25 ≤ 11 →
            (Post_rtms [[n, n1], [n5]] [[n23, n24], [n25]] →
            (Pre_wnear [[n, n1], [n5]] ∧
            (∀ n26 : Int, (-9223372036854775808) ≤ n26 → n26 ≤ 9223372036854775807 →
            (∀ n27 : Int, 0 ≤ n27 → n27 ≤ 18446744073709551615 →
            (∀ n28 : Int, 0 ≤ n28 → n28 ≤ 11 →
            (Post_wnear [[n, n1], [n5]] [[n26, n27], [n28]] →
            (Pre_rnear [[n, n1], [n5]] ∧
            (∀ n29 : Int, (-9223372036854775808) ≤ n29 → n29 ≤ 9223372036854775807 →
            (∀ n30 : Int, 0 ≤ n30 → n30 ≤ 18446744073709551615 →
            (∀ n31 : Int, 0 ≤ n31 → n31 ≤ 11 →
            (Post_rnear [[n, n1], [n5]] [[n29, n30], [n31]] →
            (((¬ ((n20 = n23) ∧ (n21 = n24))) →
              Post_lreckoned [[n, n1, n2, n3, n4, n5]] [[b2i false]]) ∧
             (¬ (¬ ((n20 = n23) ∧ (n21 = n24))) →
              (((¬ (n22 = n25)) →
                Post_lreckoned [[n, n1, n2, n3, n4, n5]] [[b2i false]]) ∧
               (¬ (¬ (n22 = n25)) →
                (((¬ ((n26 = n29) ∧ (n27 = n30))) →
                  Post_lreckoned [[n, n1, n2, n3, n4, n5]] [[b2i false]]) ∧
                 (¬ (¬ ((n26 = n29) ∧ (n27 = n30))) →
                  (((¬ (n28 = n31)) →
                    Post_lreckoned [[n, n1, n2, n3, n4, n5]] [[b2i false]]) ∧
                   (¬ (¬ (n28 = n31)) →
                    (Pre_wmul [[n4], [n5]] ∧
                    (∀ n32 : Int, (-9223372036854775808) ≤ n32 → n32 ≤ 9223372036854775807 →
                    (∀ n33 : Int, 0 ≤ n33 → n33 ≤ 18446744073709551615 →
                    (Post_wmul [[n4], [n5]] [[n32, n33]] →
                    (Pre_rmul [[n4], [n5]] ∧
                    (∀ n34 : Int, (-9223372036854775808) ≤ n34 → n34 ≤ 9223372036854775807 →
                    (∀ n35 : Int, 0 ≤ n35 → n35 ≤ 18446744073709551615 →
                    (Post_rmul [[n4], [n5]] [[n34, n35]] →
                    (((¬ ((n32 = n34) ∧ (n33 = n35))) →
                      Post_lreckoned [[n, n1, n2, n3, n4, n5]] [[b2i false]]) ∧
                     (¬ (¬ ((n32 = n34) ∧ (n33 = n35))) →
                      (Pre_wof [[n5]] ∧
                      (∀ n36 : Int, (-9223372036854775808) ≤ n36 → n36 ≤ 9223372036854775807 →
                      (∀ n37 : Int, 0 ≤ n37 → n37 ≤ 18446744073709551615 →
                      (Post_wof [[n5]] [[n36, n37]] →
                      (Pre_rof [[n5]] ∧
                      (∀ n38 : Int, (-9223372036854775808) ≤ n38 → n38 ≤ 9223372036854775807 →
                      (∀ n39 : Int, 0 ≤ n39 → n39 ≤ 18446744073709551615 →
                      (Post_rof [[n5]] [[n38, n39]] →
                      (((¬ ((n36 = n38) ∧ (n37 = n39))) →
                        Post_lreckoned [[n, n1, n2, n3, n4, n5]] [[b2i false]]) ∧
                       (¬ (¬ ((n36 = n38) ∧ (n37 = n39))) →
                        (Pre_wfloor [[n, n1], [n5]] ∧
                        (∀ n40 : Int, (-9223372036854775808) ≤ n40 → n40 ≤ 9223372036854775807 →
                        (∀ n41 : Int, 0 ≤ n41 → n41 ≤ 18446744073709551615 →
                        (∀ n42 : Int, (-9223372036854775808) ≤ n42 → n42 ≤ 9223372036854775807 →
                        (∀ n43 : Int, 0 ≤ n43 → n43 ≤ 11 →
                        (Post_wfloor [[n, n1], [n5]] [[n40, n41], [n42], [n43]] →
                        (∀ b5 : Nat, (Pre_rfloor [[n, n1], [n5]] ∧
                        (∀ n44 : Int, (-9223372036854775808) ≤ n44 → n44 ≤ 9223372036854775807 →
                        (∀ n45 : Int, 0 ≤ n45 → n45 ≤ 18446744073709551615 →
                        (∀ n46 : Int, (-9223372036854775808) ≤ n46 → n46 ≤ 9223372036854775807 →
                        (∀ n47 : Int, 0 ≤ n47 → n47 ≤ 11 →
                        (Post_rfloor [[n, n1], [n5]] [[n44, n45], [n46], [n47]] →
                        (∀ b6 : Nat, (Pre_wint [[n, n1]] ∧
                        (∀ n48 : Int, (-9223372036854775808) ≤ n48 → n48 ≤ 9223372036854775807 →
                        (∀ t : Bool, (Post_wint [[n, n1]] [[n48], [b2i t]] →
                        (Pre_rint [[n, n1]] ∧
                        (∀ n49 : Int, (-9223372036854775808) ≤ n49 → n49 ≤ 9223372036854775807 →
                        (∀ t1 : Bool, (Post_rint [[n, n1]] [[n49], [b2i t1]] →
                        ((((n40 = n44) ∧ (n41 = n45)) →
                          (((n42 = n46) →
                            (((n43 = n47) →
                              (((n48 = n49) →
                                ((((t = true) ↔ (t1 = true)) →
                                  (Pre_lives [] ∧
                                  (∀ t2 : Bool, (Post_lives [] [[b2i t2]] →
                                  Post_lreckoned [[n, n1, n2, n3, n4, n5]] [[b2i t2]])))) ∧
                                 (¬ ((t = true) ↔ (t1 = true)) →
                                  Post_lreckoned [[n, n1, n2, n3, n4, n5]] [[b2i false]]))) ∧
                               (¬ (n48 = n49) →
                                Post_lreckoned [[n, n1, n2, n3, n4, n5]] [[b2i false]]))) ∧
                             (¬ (n43 = n47) →
                              Post_lreckoned [[n, n1, n2, n3, n4, n5]] [[b2i false]]))) ∧
                           (¬ (n42 = n46) →
                            Post_lreckoned [[n, n1, n2, n3, n4, n5]] [[b2i false]]))) ∧
                         (¬ ((n40 = n44) ∧ (n41 = n45)) →
                          Post_lreckoned [[n, n1, n2, n3, n4, n5]] [[b2i false]]))))))))))))))))))))))))))))))))))))))))))))))))))))))))))))))))))))))))))))))))))))))))))))))))))))))))))))))))))))))))
theorem c_lreckoned : canCall Try.prog 7 = true := by kernel_rfl
theorem s_lreckoned : P_lreckoned = sat E (symTop Try.prog tab44 2000 7 ash_lreckoned sh_lreckoned) := by kernel_rfl
theorem pure_lreckoned (hV : Valid Try.prog tab44 E) (h : P_lreckoned) (args : List Value) (ha : shaFits ash_lreckoned args) (hp : E.pre 7 (args.map vints)) : Pure Try.prog 7 args.toArray fun v => sh_lreckoned.fits v ∧ E.post 7 (args.map vints) (vres v) := @top_sat Try.prog tab44 E hV 2000 7 ash_lreckoned sh_lreckoned (@Eq.mp _ _ s_lreckoned h) args ha hp
/-- gouache/gouachelaw01.WidesOrder -/
def P_lorder : Prop :=
  (∀ n : Int, (-9223372036854775808) ≤ n → n ≤ 9223372036854775807 →
  (∀ n1 : Int, 0 ≤ n1 → n1 ≤ 18446744073709551615 →
  (∀ n2 : Int, (-9223372036854775808) ≤ n2 → n2 ≤ 9223372036854775807 →
  (∀ n3 : Int, 0 ≤ n3 → n3 ≤ 18446744073709551615 →
  (∀ n4 : Int, (-9223372036854775808) ≤ n4 → n4 ≤ 9223372036854775807 →
  (∀ n5 : Int, 0 ≤ n5 → n5 ≤ 18446744073709551615 →
  (Pre_lorder [[n, n1, n2, n3, n4, n5]] →
  (∀ b : Nat, (Pre_wcmp [[n, n1], [n2, n3]] ∧
  (∀ n6 : Int, (-1) ≤ n6 → n6 ≤ 1 →
  (Post_wcmp [[n, n1], [n2, n3]] [[n6]] →
  (Pre_wcmp [[n2, n3], [n4, n5]] ∧
  (∀ n7 : Int, (-1) ≤ n7 → n7 ≤ 1 →
  (Post_wcmp [[n2, n3], [n4, n5]] [[n7]] →
  (Pre_wcmp [[n2, n3], [n, n1]] ∧
  (∀ n8 : Int, (-1) ≤ n8 → n8 ≤ 1 →
  (Post_wcmp [[n2, n3], [n, n1]] [[n8]] →
  (((¬ (n6 = (0 - n8))) →
    Post_lorder [[n, n1, n2, n3, n4, n5]] [[b2i false]]) ∧
   (¬ (¬ (n6 = (0 - n8))) →
    (((¬ ((n6 = 0) ↔ ((n = n2) ∧ (n1 = n3)))) →
      Post_lorder [[n, n1, n2, n3, n4, n5]] [[b2i false]]) ∧
     (¬ (¬ ((n6 = 0) ↔ ((n = n2) ∧ (n1 = n3)))) →
      (Pre_wsub [[n, n1], [n2, n3]] ∧
      (∀ n9 : Int, (-9223372036854775808) ≤ n9 → n9 ≤ 9223372036854775807 →
      (∀ n10 : Int, 0 ≤ n10 → n10 ≤ 18446744073709551615 →
      (∀ n11 : Int, 0 ≤ n11 → n11 ≤ 11 →
      (Post_wsub [[n, n1], [n2, n3]] [[n9, n10], [n11]] →
      (∀ b1 : Nat, (((n11 = 0) →
        (Pre_wof [[0]] ∧
        (∀ n12 : Int, (-9223372036854775808) ≤ n12 → n12 ≤ 9223372036854775807 →
        (∀ n13 : Int, 0 ≤ n13 → n13 ≤ 18446744073709551615 →
        (Post_wof [[0]] [[n12, n13]] →
        (Pre_wcmp [[n9, n10], [n12, n13]] ∧
        (∀ n14 : Int, (-1) ≤ n14 → n14 ≤ 1 →
        (Post_wcmp [[n9, n10], [n12, n13]] [[n14]] →
        (((¬ (n14 = n6)) →
          Post_lorder [[n, n1, n2, n3, n4, n5]] [[b2i false]]) ∧
         (¬ (¬ (n14 = n6)) →
          (((n6 = n7) →
            (((¬ (n6 = 0)) →
              (Pre_wcmp [[n, n1], [n4, n5]] ∧
              (∀ n15 : Int, (-1) ≤ n15 → n15 ≤ 1 →
              (Post_wcmp [[n, n1], [n4, n5]] [[n15]] →
              (((¬ (n15 = n6)) →
                Post_lorder [[n, n1, n2, n3, n4, n5]] [[b2i false]]) ∧
               (¬ (¬ (n15 = n6)) →
                (Pre_wadd [[n, n1], [n4, n5]] ∧
                (∀ n16 : Int, (-9223372036854775808) ≤ n16 → n16 ≤ 9223372036854775807 →
                (∀ n17 : Int, 0 ≤ n17 → n17 ≤ 18446744073709551615 →
                (∀ n18 : Int, 0 ≤ n18 → n18 ≤ 11 →
                (Post_wadd [[n, n1], [n4, n5]] [[n16, n17], [n18]] →
                (∀ b2 : Nat, (Pre_wadd [[n2, n3], [n4, n5]] ∧
                (∀ n19 : Int, (-9223372036854775808) ≤ n19 → n19 ≤ 9223372036854775807 →
                (∀ n20 : Int, 0 ≤ n20 → n20 ≤ 18446744073709551615 →
                (∀ n21 : Int, 0 ≤ n21 → n21 ≤ 11 →
                (Post_wadd [[n2, n3], [n4, n5]] [[n19, n20], [n21]] →
                (∀ b3 : Nat, (((¬ (n18 = 0)) →
                  (Pre_lives [] ∧
                  (∀ t : Bool, (Post_lives [] [[b2i t]] →
                  Post_lorder [[n, n1, n2, n3, n4, n5]] [[b2i t]])))) ∧
                 (¬ (¬ (n18 = 0)) →
                  (((¬ (n21 = 0)) →
                    (Pre_lives [] ∧
                    (∀ t : Bool, (Post_lives [] [[b2i t]] →
                    Post_lorder [[n, n1, n2, n3, n4, n5]] [[b2i t]])))) ∧
                   (¬ (¬ (n21 = 0)) →
                    (Pre_wcmp [[n16, n17], [n19, n20]] ∧
                    (∀ n22 : Int, (-1) ≤ n22 → n22 ≤ 1 →
                    (Post_wcmp [[n16, n17], [n19, n20]] [[n22]] →
                    (((n22 = n6) →
                      (Pre_lives [] ∧
                      (∀ t : Bool, (Post_lives [] [[b2i t]] →
                      Post_lorder [[n, n1, n2, n3, n4, n5]] [[b2i t]])))) ∧
                     (¬ (n22 = n6) →
                      Post_lorder [[n, n1, n2, n3, n4, n5]] [[b2i false]]))))))))))))))))))))))))))) ∧
             (¬ (¬ (n6 = 0)) →
              (Pre_wadd [[n, n1], [n4, n5]] ∧
              (∀ n15 : Int, (-9223372036854775808) ≤ n15 → n15 ≤ 9223372036854775807 →
              (∀ n16 : Int, 0 ≤ n16 → n16 ≤ 18446744073709551615 →
              (∀ n17 : Int, 0 ≤ n17 → n17 ≤ 11 →
              (Post_wadd [[n, n1], [n4, n5]] [[n15, n16], [n17]] →
              (∀ b2 : Nat, (Pre_wadd [[n2, n3], [n4, n5]] ∧
              (∀ n18 : Int, (-9223372036854775808) ≤ n18 → n18 ≤ 9223372036854775807 →
              (∀ n19 : Int, 0 ≤ n19 → n19 ≤ 18446744073709551615 →
              (∀ n20 : Int, 0 ≤ n20 → n20 ≤ 11 →
              (Post_wadd [[n2, n3], [n4, n5]] [[n18, n19], [n20]] →
              (∀ b3 : Nat, (((¬ (n17 = 0)) →
                (Pre_lives [] ∧
                (∀ t : Bool, (Post_lives [] [[b2i t]] →
                Post_lorder [[n, n1, n2, n3, n4, n5]] [[b2i t]])))) ∧
               (¬ (¬ (n17 = 0)) →
                (((¬ (n20 = 0)) →
                  (Pre_lives [] ∧
                  (∀ t : Bool, (Post_lives [] [[b2i t]] →
                  Post_lorder [[n, n1, n2, n3, n4, n5]] [[b2i t]])))) ∧
                 (¬ (¬ (n20 = 0)) →
                  (Pre_wcmp [[n15, n16], [n18, n19]] ∧
                  (∀ n21 : Int, (-1) ≤ n21 → n21 ≤ 1 →
                  (Post_wcmp [[n15, n16], [n18, n19]] [[n21]] →
                  (((n21 = n6) →
                    (Pre_lives [] ∧
                    (∀ t : Bool, (Post_lives [] [[b2i t]] →
                    Post_lorder [[n, n1, n2, n3, n4, n5]] [[b2i t]])))) ∧
                   (¬ (n21 = n6) →
                    Post_lorder [[n, n1, n2, n3, n4, n5]] [[b2i false]])))))))))))))))))))))))) ∧
           (¬ (n6 = n7) →
            (Pre_wadd [[n, n1], [n4, n5]] ∧
            (∀ n15 : Int, (-9223372036854775808) ≤ n15 → n15 ≤ 9223372036854775807 →
            (∀ n16 : Int, 0 ≤ n16 → n16 ≤ 18446744073709551615 →
            (∀ n17 : Int, 0 ≤ n17 → n17 ≤ 11 →
            (Post_wadd [[n, n1], [n4, n5]] [[n15, n16], [n17]] →
            (∀ b2 : Nat, (Pre_wadd [[n2, n3], [n4, n5]] ∧
            (∀ n18 : Int, (-9223372036854775808) ≤ n18 → n18 ≤ 9223372036854775807 →
            (∀ n19 : Int, 0 ≤ n19 → n19 ≤ 18446744073709551615 →
            (∀ n20 : Int, 0 ≤ n20 → n20 ≤ 11 →
            (Post_wadd [[n2, n3], [n4, n5]] [[n18, n19], [n20]] →
            (∀ b3 : Nat, (((¬ (n17 = 0)) →
              (Pre_lives [] ∧
              (∀ t : Bool, (Post_lives [] [[b2i t]] →
              Post_lorder [[n, n1, n2, n3, n4, n5]] [[b2i t]])))) ∧
             (¬ (¬ (n17 = 0)) →
              (((¬ (n20 = 0)) →
                (Pre_lives [] ∧
                (∀ t : Bool, (Post_lives [] [[b2i t]] →
                Post_lorder [[n, n1, n2, n3, n4, n5]] [[b2i t]])))) ∧
               (¬ (¬ (n20 = 0)) →
                (Pre_wcmp [[n15, n16], [n18, n19]] ∧
                (∀ n21 : Int, (-1) ≤ n21 → n21 ≤ 1 →
                (Post_wcmp [[n15, n16], [n18, n19]] [[n21]] →
                (((n21 = n6) →
                  (Pre_lives [] ∧
                  (∀ t : Bool, (Post_lives [] [[b2i t]] →
                  Post_lorder [[n, n1, n2, n3, n4, n5]] [[b2i t]])))) ∧
                 (¬ (n21 = n6) →
                  Post_lorder [[n, n1, n2, n3, n4, n5]] [[b2i false]]))))))))))))))))))))))))))))))))) ∧
       (¬ (n11 = 0) →
        (((n6 = n7) →
          (((¬ (n6 = 0)) →
            (Pre_wcmp [[n, n1], [n4, n5]] ∧
            (∀ n12 : Int, (-1) ≤ n12 → n12 ≤ 1 →
            (Post_wcmp [[n, n1], [n4, n5]] [[n12]] →
            (((¬ (n12 = n6)) →
              Post_lorder [[n, n1, n2, n3, n4, n5]] [[b2i false]]) ∧
             (¬ (¬ (n12 = n6)) →
              (Pre_wadd [[n, n1], [n4, n5]] ∧
              (∀ n13 : Int, (-9223372036854775808) ≤ n13 → n13 ≤ 9223372036854775807 →
              (∀ n14 : Int, 0 ≤ n14 → n14 ≤ 18446744073709551615 →
              (∀ n15 : Int, 0 ≤ n15 → n15 ≤ 11 →
              (Post_wadd [[n, n1], [n4, n5]] [[n13, n14], [n15]] →
              (∀ b2 : Nat, (Pre_wadd [[n2, n3], [n4, n5]] ∧
              (∀ n16 : Int, (-9223372036854775808) ≤ n16 → n16 ≤ 9223372036854775807 →
              (∀ n17 : Int, 0 ≤ n17 → n17 ≤ 18446744073709551615 →
              (∀ n18 : Int, 0 ≤ n18 → n18 ≤ 11 →
              (Post_wadd [[n2, n3], [n4, n5]] [[n16, n17], [n18]] →
              (∀ b3 : Nat, (((¬ (n15 = 0)) →
                (Pre_lives [] ∧
                (∀ t : Bool, (Post_lives [] [[b2i t]] →
                Post_lorder [[n, n1, n2, n3, n4, n5]] [[b2i t]])))) ∧
               (¬ (¬ (n15 = 0)) →
                (((¬ (n18 = 0)) →
                  (Pre_lives [] ∧
                  (∀ t : Bool, (Post_lives [] [[b2i t]] →
                  Post_lorder [[n, n1, n2, n3, n4, n5]] [[b2i t]])))) ∧
                 (¬ (¬ (n18 = 0)) →
                  (Pre_wcmp [[n13, n14], [n16, n17]] ∧
                  (∀ n19 : Int, (-1) ≤ n19 → n19 ≤ 1 →
                  (Post_wcmp [[n13, n14], [n16, n17]] [[n19]] →
                  (((n19 = n6) →
                    (Pre_lives [] ∧
                    (∀ t : Bool, (Post_lives [] [[b2i t]] →
                    Post_lorder [[n, n1, n2, n3, n4, n5]] [[b2i t]])))) ∧
                   (¬ (n19 = n6) →
                    Post_lorder [[n, n1, n2, n3, n4, n5]] [[b2i false]]))))))))))))))))))))))))))) ∧
           (¬ (¬ (n6 = 0)) →
            (Pre_wadd [[n, n1], [n4, n5]] ∧
            (∀ n12 : Int, (-9223372036854775808) ≤ n12 → n12 ≤ 9223372036854775807 →
            (∀ n13 : Int, 0 ≤ n13 → n13 ≤ 18446744073709551615 →
            (∀ n14 : Int, 0 ≤ n14 → n14 ≤ 11 →
            (Post_wadd [[n, n1], [n4, n5]] [[n12, n13], [n14]] →
            (∀ b2 : Nat, (Pre_wadd [[n2, n3], [n4, n5]] ∧
            (∀ n15 : Int, (-9223372036854775808) ≤ n15 → n15 ≤ 9223372036854775807 →
            (∀ n16 : Int, 0 ≤ n16 → n16 ≤ 18446744073709551615 →
            (∀ n17 : Int, 0 ≤ n17 → n17 ≤ 11 →
            (Post_wadd [[n2, n3], [n4, n5]] [[n15, n16], [n17]] →
            (∀ b3 : Nat, (((¬ (n14 = 0)) →
              (Pre_lives [] ∧
              (∀ t : Bool, (Post_lives [] [[b2i t]] →
              Post_lorder [[n, n1, n2, n3, n4, n5]] [[b2i t]])))) ∧
             (¬ (¬ (n14 = 0)) →
              (((¬ (n17 = 0)) →
                (Pre_lives [] ∧
                (∀ t : Bool, (Post_lives [] [[b2i t]] →
                Post_lorder [[n, n1, n2, n3, n4, n5]] [[b2i t]])))) ∧
               (¬ (¬ (n17 = 0)) →
                (Pre_wcmp [[n12, n13], [n15, n16]] ∧
                (∀ n18 : Int, (-1) ≤ n18 → n18 ≤ 1 →
                (Post_wcmp [[n12, n13], [n15, n16]] [[n18]] →
                (((n18 = n6) →
                  (Pre_lives [] ∧
                  (∀ t : Bool, (Post_lives [] [[b2i t]] →
                  Post_lorder [[n, n1, n2, n3, n4, n5]] [[b2i t]])))) ∧
                 (¬ (n18 = n6) →
                  Post_lorder [[n, n1, n2, n3, n4, n5]] [[b2i false]])))))))))))))))))))))))) ∧
         (¬ (n6 = n7) →
          (Pre_wadd [[n, n1], [n4, n5]] ∧
          (∀ n12 : Int, (-9223372036854775808) ≤ n12 → n12 ≤ 9223372036854775807 →
          (∀ n13 : Int, 0 ≤ n13 → n13 ≤ 18446744073709551615 →
          (∀ n14 : Int, 0 ≤ n14 → n14 ≤ 11 →
          (Post_wadd [[n, n1], [n4, n5]] [[n12, n13], [n14]] →
          (∀ b2 : Nat, (Pre_wadd [[n2, n3], [n4, n5]] ∧
          (∀ n15 : Int, (-9223372036854775808) ≤ n15 → n15 ≤ 9223372036854775807 →
          (∀ n16 : Int, 0 ≤ n16 → n16 ≤ 18446744073709551615 →
          (∀ n17 : Int, 0 ≤ n17 → n17 ≤ 11 →
          (Post_wadd [[n2, n3], [n4, n5]] [[n15, n16], [n17]] →
          (∀ b3 : Nat, (((¬ (n14 = 0)) →
            (Pre_lives [] ∧
            (∀ t : Bool, (Post_lives [] [[b2i t]] →
            Post_lorder [[n, n1, n2, n3, n4, n5]] [[b2i t]])))) ∧
           (¬ (¬ (n14 = 0)) →
            (((¬ (n17 = 0)) →
              (Pre_lives [] ∧
              (∀ t : Bool, (Post_lives [] [[b2i t]] →
              Post_lorder [[n, n1, n2, n3, n4, n5]] [[b2i t]])))) ∧
             (¬ (¬ (n17 = 0)) →
              (Pre_wcmp [[n12, n13], [n15, n16]] ∧
              (∀ n18 : Int, (-1) ≤ n18 → n18 ≤ 1 →
              (Post_wcmp [[n12, n13], [n15, n16]] [[n18]] →
              (((n18 = n6) →
                (Pre_lives [] ∧
                (∀ t : Bool, (Post_lives [] [[b2i t]] →
                Post_lorder [[n, n1, n2, n3, n4, n5]] [[b2i t]])))) ∧
               (¬ (n18 = n6) →
                Post_lorder [[n, n1, n2, n3, n4, n5]] [[b2i false]]))))))))))))))))))))))))))))))))))))))))))))))))))))
theorem c_lorder : canCall Try.prog 8 = true := by kernel_rfl
theorem s_lorder : P_lorder = sat E (symTop Try.prog tab44 2000 8 ash_lorder sh_lorder) := by kernel_rfl
theorem pure_lorder (hV : Valid Try.prog tab44 E) (h : P_lorder) (args : List Value) (ha : shaFits ash_lorder args) (hp : E.pre 8 (args.map vints)) : Pure Try.prog 8 args.toArray fun v => sh_lorder.fits v ∧ E.post 8 (args.map vints) (vres v) := @top_sat Try.prog tab44 E hV 2000 8 ash_lorder sh_lorder (@Eq.mp _ _ s_lorder h) args ha hp
/-- gouache/gouachelaw01.WidesNarrow -/
def P_lnarrow : Prop :=
  (∀ n : Int, (-9223372036854775808) ≤ n → n ≤ 9223372036854775807 →
  (∀ n1 : Int, 0 ≤ n1 → n1 ≤ 18446744073709551615 →
  (∀ n2 : Int, (-9223372036854775808) ≤ n2 → n2 ≤ 9223372036854775807 →
  (Pre_lnarrow [[n, n1], [n2]] →
  (∀ b : Nat, (Pre_wof [[n2]] ∧
  (∀ n3 : Int, (-9223372036854775808) ≤ n3 → n3 ≤ 9223372036854775807 →
  (∀ n4 : Int, 0 ≤ n4 → n4 ≤ 18446744073709551615 →
  (Post_wof [[n2]] [[n3, n4]] →
  (Pre_wint [[n3, n4]] ∧
  (∀ n5 : Int, (-9223372036854775808) ≤ n5 → n5 ≤ 9223372036854775807 →
  (∀ t : Bool, (Post_wint [[n3, n4]] [[n5], [b2i t]] →
  (((¬ (n5 = n2)) →
    Post_lnarrow [[n, n1], [n2]] [[b2i false]]) ∧
   (¬ (¬ (n5 = n2)) →
    (((¬ (t = true)) →
      Post_lnarrow [[n, n1], [n2]] [[b2i false]]) ∧
     (¬ (¬ (t = true)) →
      (Pre_wint [[n, n1]] ∧
      (∀ n6 : Int, (-9223372036854775808) ≤ n6 → n6 ≤ 9223372036854775807 →
      (∀ t1 : Bool, (Post_wint [[n, n1]] [[n6], [b2i t1]] →
      (Pre_wof [[(-9223372036854775808)]] ∧
      (∀ n7 : Int, (-9223372036854775808) ≤ n7 → n7 ≤ 9223372036854775807 →
      (∀ n8 : Int, 0 ≤ n8 → n8 ≤ 18446744073709551615 →
      (Post_wof [[(-9223372036854775808)]] [[n7, n8]] →
      (Pre_wcmp [[n, n1], [n7, n8]] ∧
      (∀ n9 : Int, (-1) ≤ n9 → n9 ≤ 1 →
      (Post_wcmp [[n, n1], [n7, n8]] [[n9]] →
      (((0 ≤ n9) →
        (Pre_wof [[9223372036854775807]] ∧
        (∀ n10 : Int, (-9223372036854775808) ≤ n10 → n10 ≤ 9223372036854775807 →
        (∀ n11 : Int, 0 ≤ n11 → n11 ≤ 18446744073709551615 →
        (Post_wof [[9223372036854775807]] [[n10, n11]] →
        (Pre_wcmp [[n, n1], [n10, n11]] ∧
        (∀ n12 : Int, (-1) ≤ n12 → n12 ≤ 1 →
        (Post_wcmp [[n, n1], [n10, n11]] [[n12]] →
        ((((t1 = true) ↔ (n12 ≤ 0)) →
          (((t1 = true) →
            (Pre_wof [[n6]] ∧
            (∀ n13 : Int, (-9223372036854775808) ≤ n13 → n13 ≤ 9223372036854775807 →
            (∀ n14 : Int, 0 ≤ n14 → n14 ≤ 18446744073709551615 →
            (Post_wof [[n6]] [[n13, n14]] →
            ((((n13 = n) ∧ (n14 = n1)) →
              (Pre_lives [] ∧
              (∀ t2 : Bool, (Post_lives [] [[b2i t2]] →
              Post_lnarrow [[n, n1], [n2]] [[b2i t2]])))) ∧
             (¬ ((n13 = n) ∧ (n14 = n1)) →
              (((¬ (t1 = true)) →
                (((n6 = 0) →
                  (Pre_lives [] ∧
                  (∀ t2 : Bool, (Post_lives [] [[b2i t2]] →
                  Post_lnarrow [[n, n1], [n2]] [[b2i t2]])))) ∧
                 (¬ (n6 = 0) →
                  Post_lnarrow [[n, n1], [n2]] [[b2i false]]))) ∧
               (¬ (¬ (t1 = true)) →
                Post_lnarrow [[n, n1], [n2]] [[b2i false]]))))))))) ∧
           (¬ (t1 = true) →
            (((¬ (t1 = true)) →
              (((n6 = 0) →
                (Pre_lives [] ∧
                (∀ t2 : Bool, (Post_lives [] [[b2i t2]] →
                Post_lnarrow [[n, n1], [n2]] [[b2i t2]])))) ∧
               (¬ (n6 = 0) →
                Post_lnarrow [[n, n1], [n2]] [[b2i false]]))) ∧
             (¬ (¬ (t1 = true)) →
              Post_lnarrow [[n, n1], [n2]] [[b2i false]]))))) ∧
         (¬ ((t1 = true) ↔ (n12 ≤ 0)) →
          Post_lnarrow [[n, n1], [n2]] [[b2i false]])))))))))) ∧
       (¬ (0 ≤ n9) →
        (((¬ (t1 = true)) →
          (((t1 = true) →
            (Pre_wof [[n6]] ∧
            (∀ n10 : Int, (-9223372036854775808) ≤ n10 → n10 ≤ 9223372036854775807 →
            (∀ n11 : Int, 0 ≤ n11 → n11 ≤ 18446744073709551615 →
            (Post_wof [[n6]] [[n10, n11]] →
            ((((n10 = n) ∧ (n11 = n1)) →
              (Pre_lives [] ∧
              (∀ t2 : Bool, (Post_lives [] [[b2i t2]] →
              Post_lnarrow [[n, n1], [n2]] [[b2i t2]])))) ∧
             (¬ ((n10 = n) ∧ (n11 = n1)) →
              (((¬ (t1 = true)) →
                (((n6 = 0) →
                  (Pre_lives [] ∧
                  (∀ t2 : Bool, (Post_lives [] [[b2i t2]] →
                  Post_lnarrow [[n, n1], [n2]] [[b2i t2]])))) ∧
                 (¬ (n6 = 0) →
                  Post_lnarrow [[n, n1], [n2]] [[b2i false]]))) ∧
               (¬ (¬ (t1 = true)) →
                Post_lnarrow [[n, n1], [n2]] [[b2i false]]))))))))) ∧
           (¬ (t1 = true) →
            (((¬ (t1 = true)) →
              (((n6 = 0) →
                (Pre_lives [] ∧
                (∀ t2 : Bool, (Post_lives [] [[b2i t2]] →
                Post_lnarrow [[n, n1], [n2]] [[b2i t2]])))) ∧
               (¬ (n6 = 0) →
                Post_lnarrow [[n, n1], [n2]] [[b2i false]]))) ∧
             (¬ (¬ (t1 = true)) →
              Post_lnarrow [[n, n1], [n2]] [[b2i false]]))))) ∧
         (¬ (¬ (t1 = true)) →
          Post_lnarrow [[n, n1], [n2]] [[b2i false]]))))))))))))))))))))))))))))))))
theorem c_lnarrow : canCall Try.prog 9 = true := by kernel_rfl
theorem s_lnarrow : P_lnarrow = sat E (symTop Try.prog tab44 2000 9 ash_lnarrow sh_lnarrow) := by kernel_rfl
theorem pure_lnarrow (hV : Valid Try.prog tab44 E) (h : P_lnarrow) (args : List Value) (ha : shaFits ash_lnarrow args) (hp : E.pre 9 (args.map vints)) : Pure Try.prog 9 args.toArray fun v => sh_lnarrow.fits v ∧ E.post 9 (args.map vints) (vres v) := @top_sat Try.prog tab44 E hV 2000 9 ash_lnarrow sh_lnarrow (@Eq.mp _ _ s_lnarrow h) args ha hp

end Go.Proofs.Ytdocimmchckjiaa.Sx
