/-
  What each function comes to, part 2. Printed by a program of our own.
-/
import Derived.Test.YtopeebkkfomdaaaRxh
set_option maxRecDepth 1000000
set_option linter.all false
namespace Go.Proofs.Ytopeebkkfomdaaa.Sx
open Go Go.RowKit

/-- gouache/gouachelaw07.DecodesBoth -/
def P_lboth : Prop :=
  (∀ n : Int, 0 ≤ n → n ≤ 4294967295 →
  (∀ n1 : Int, (-9223372036854775808) ≤ n1 → n1 ≤ 9223372036854775807 →
  (∀ n2 : Int, (-2147483648) ≤ n2 → n2 ≤ 2147483647 →
  (∀ n3 : Int, (-2147483648) ≤ n3 → n3 ≤ 2147483647 →
  (∀ n4 : Int, (-2147483648) ≤ n4 → n4 ≤ 2147483647 →
  (Pre_lboth [[n, n1, n2, n3, n4]] →
  (∀ b : Nat, (Pre_lgreatest [[n1]] ∧
  (∀ n5 : Int, 0 ≤ n5 → n5 ≤ 4294967295 →
  (∀ t : Bool, (Post_lgreatest [[n1]] [[n5], [b2i t]] →
  (((¬ (t = true)) →
    (Pre_lives [] ∧
    (∀ t1 : Bool, (Post_lives [] [[b2i t1]] →
    Post_lboth [[n, n1, n2, n3, n4]] [[b2i t1]])))) ∧
   (¬ (¬ (t = true)) →
    (((n5 < n) →
      (Pre_lives [] ∧
      (∀ t1 : Bool, (Post_lives [] [[b2i t1]] →
      Post_lboth [[n, n1, n2, n3, n4]] [[b2i t1]])))) ∧
     (¬ (n5 < n) →
      (Pre_value [[n], [n1], [n2, n3]] ∧
      (∀ n6 : Int, (-9223372036854775808) ≤ n6 → n6 ≤ 9223372036854775807 →
      (∀ n7 : Int, 0 ≤ n7 → n7 ≤ 18446744073709551615 →
      (∀ n8 : Int, (-9223372036854775808) ≤ n8 → n8 ≤ 9223372036854775807 →
      (∀ n9 : Int, 0 ≤ n9 → n9 ≤ 15 →
      (Post_value [[n], [n1], [n2, n3]] [[n6, n7, n8], [n9]] →
      (∀ b1 : Nat, (∀ n10 : Int, n10 = (IntKind.wrap .u32 (n5 - n)) → 0 ≤ n10 → n10 ≤ 4294967295 →
      (Pre_value [[n10], [n1], [n2, n3]] ∧
      (∀ n11 : Int, (-9223372036854775808) ≤ n11 → n11 ≤ 9223372036854775807 →
      (∀ n12 : Int, 0 ≤ n12 → n12 ≤ 18446744073709551615 →
      (∀ n13 : Int, (-9223372036854775808) ≤ n13 → n13 ≤ 9223372036854775807 →
      (∀ n14 : Int, 0 ≤ n14 → n14 ≤ 15 →
      (Post_value [[n10], [n1], [n2, n3]] [[n11, n12, n13], [n14]] →
      (∀ b2 : Nat, (∀ n15 : Int, n15 = (IntKind.wrap .u32 (n5 - n)) → 0 ≤ n15 → n15 ≤ 4294967295 →
      (Pre_value [[n15], [n1], [n3, n2]] ∧
      (∀ n16 : Int, (-9223372036854775808) ≤ n16 → n16 ≤ 9223372036854775807 →
      (∀ n17 : Int, 0 ≤ n17 → n17 ≤ 18446744073709551615 →
      (∀ n18 : Int, (-9223372036854775808) ≤ n18 → n18 ≤ 9223372036854775807 →
      (∀ n19 : Int, 0 ≤ n19 → n19 ≤ 15 →
      (Post_value [[n15], [n1], [n3, n2]] [[n16, n17, n18], [n19]] →
      (∀ b3 : Nat, (Pre_wadd [[n6, n7], [n11, n12]] ∧
      (∀ n20 : Int, (-9223372036854775808) ≤ n20 → n20 ≤ 9223372036854775807 →
      (∀ n21 : Int, 0 ≤ n21 → n21 ≤ 18446744073709551615 →
      (∀ n22 : Int, 0 ≤ n22 → n22 ≤ 11 →
      (Post_wadd [[n6, n7], [n11, n12]] [[n20, n21], [n22]] →
      (∀ b4 : Nat, (((n9 = 0) →
        (((n14 = 0) →
          (((n19 = 0) →
            (((n22 = 0) →
              (∀ n23 : Int, n23 = (n2 + n3) → (-4294967296) ≤ n23 → n23 ≤ 4294967294 →
              (Pre_wmul [[n23], [n5]] ∧
              (∀ n24 : Int, (-9223372036854775808) ≤ n24 → n24 ≤ 9223372036854775807 →
              (∀ n25 : Int, 0 ≤ n25 → n25 ≤ 18446744073709551615 →
              (Post_wmul [[n23], [n5]] [[n24, n25]] →
              ((((n20 = n24) ∧ (n21 = n25)) →
                (((((n6 = n16) ∧ (n7 = n17)) ∧ (n8 = n18)) →
                  (Pre_lives [] ∧
                  (∀ t1 : Bool, (Post_lives [] [[b2i t1]] →
                  Post_lboth [[n, n1, n2, n3, n4]] [[b2i t1]])))) ∧
                 (¬ (((n6 = n16) ∧ (n7 = n17)) ∧ (n8 = n18)) →
                  Post_lboth [[n, n1, n2, n3, n4]] [[b2i false]]))) ∧
               (¬ ((n20 = n24) ∧ (n21 = n25)) →
                Post_lboth [[n, n1, n2, n3, n4]] [[b2i false]])))))))) ∧
             (¬ (n22 = 0) →
              Post_lboth [[n, n1, n2, n3, n4]] [[b2i false]]))) ∧
           (¬ (n19 = 0) →
            Post_lboth [[n, n1, n2, n3, n4]] [[b2i false]]))) ∧
         (¬ (n14 = 0) →
          Post_lboth [[n, n1, n2, n3, n4]] [[b2i false]]))) ∧
       (¬ (n9 = 0) →
        Post_lboth [[n, n1, n2, n3, n4]] [[b2i false]]))))))))))))))))))))))))))))))))))))))))))))))
theorem c_lboth : canCall Try.prog 5 = true := by kernel_rfl
theorem s_lboth : P_lboth = sat E (symTop Try.prog tab52 2000 5 ash_lboth sh_lboth) := by kernel_rfl
theorem pure_lboth (hV : Valid Try.prog tab52 E) (h : P_lboth) (args : List Value) (ha : shaFits ash_lboth args) (hp : E.pre 5 (args.map vints)) : Pure Try.prog 5 args.toArray fun v => sh_lboth.fits v ∧ E.post 5 (args.map vints) (vres v) := @top_sat Try.prog tab52 E hV 2000 5 ash_lboth sh_lboth (@Eq.mp _ _ s_lboth h) args ha hp
/-- gouache/gouachelaw07.DecodesRise -/
def P_lrise : Prop :=
  (∀ n : Int, 0 ≤ n → n ≤ 4294967295 →
  (∀ n1 : Int, (-9223372036854775808) ≤ n1 → n1 ≤ 9223372036854775807 →
  (∀ n2 : Int, (-2147483648) ≤ n2 → n2 ≤ 2147483647 →
  (∀ n3 : Int, (-2147483648) ≤ n3 → n3 ≤ 2147483647 →
  (∀ n4 : Int, (-2147483648) ≤ n4 → n4 ≤ 2147483647 →
  (∀ n5 : Int, 0 ≤ n5 → n5 ≤ 4294967295 →
  (∀ n6 : Int, (-2147483648) ≤ n6 → n6 ≤ 2147483647 →
  (Pre_lrise [[n, n1, n2, n3, n4], [n5], [n6]] →
  (∀ b : Nat, (Pre_lgreatest [[n1]] ∧
  (∀ n7 : Int, 0 ≤ n7 → n7 ≤ 4294967295 →
  (∀ t : Bool, (Post_lgreatest [[n1]] [[n7], [b2i t]] →
  (((¬ (t = true)) →
    (Pre_lives [] ∧
    (∀ t1 : Bool, (Post_lives [] [[b2i t1]] →
    Post_lrise [[n, n1, n2, n3, n4], [n5], [n6]] [[b2i t1]])))) ∧
   (¬ (¬ (t = true)) →
    (((n7 < n) →
      (Pre_lives [] ∧
      (∀ t1 : Bool, (Post_lives [] [[b2i t1]] →
      Post_lrise [[n, n1, n2, n3, n4], [n5], [n6]] [[b2i t1]])))) ∧
     (¬ (n7 < n) →
      (((n7 < n5) →
        (Pre_lives [] ∧
        (∀ t1 : Bool, (Post_lives [] [[b2i t1]] →
        Post_lrise [[n, n1, n2, n3, n4], [n5], [n6]] [[b2i t1]])))) ∧
       (¬ (n7 < n5) →
        (((n2 = n3) →
          (Pre_lives [] ∧
          (∀ t1 : Bool, (Post_lives [] [[b2i t1]] →
          Post_lrise [[n, n1, n2, n3, n4], [n5], [n6]] [[b2i t1]])))) ∧
         (¬ (n2 = n3) →
          (∀ n8 : Int, n8 = (min n n5) → 0 ≤ n8 → n8 ≤ 4294967295 →
          (Pre_value [[n8], [n1], [n2, n3]] ∧
          (∀ n9 : Int, (-9223372036854775808) ≤ n9 → n9 ≤ 9223372036854775807 →
          (∀ n10 : Int, 0 ≤ n10 → n10 ≤ 18446744073709551615 →
          (∀ n11 : Int, (-9223372036854775808) ≤ n11 → n11 ≤ 9223372036854775807 →
          (∀ n12 : Int, 0 ≤ n12 → n12 ≤ 15 →
          (Post_value [[n8], [n1], [n2, n3]] [[n9, n10, n11], [n12]] →
          (∀ b1 : Nat, (∀ n13 : Int, n13 = (max n n5) → 0 ≤ n13 → n13 ≤ 4294967295 →
          (Pre_value [[n13], [n1], [n2, n3]] ∧
          (∀ n14 : Int, (-9223372036854775808) ≤ n14 → n14 ≤ 9223372036854775807 →
          (∀ n15 : Int, 0 ≤ n15 → n15 ≤ 18446744073709551615 →
          (∀ n16 : Int, (-9223372036854775808) ≤ n16 → n16 ≤ 9223372036854775807 →
          (∀ n17 : Int, 0 ≤ n17 → n17 ≤ 15 →
          (Post_value [[n13], [n1], [n2, n3]] [[n14, n15, n16], [n17]] →
          (∀ b2 : Nat, (((¬ (n12 = 0)) →
            Post_lrise [[n, n1, n2, n3, n4], [n5], [n6]] [[b2i false]]) ∧
           (¬ (¬ (n12 = 0)) →
            (((¬ (n17 = 0)) →
              Post_lrise [[n, n1, n2, n3, n4], [n5], [n6]] [[b2i false]]) ∧
             (¬ (¬ (n17 = 0)) →
              (((n3 < n2) →
                (((n = n5) →
                  (∀ n18 : Int, n18 = (min n4 n6) → (-2147483648) ≤ n18 → n18 ≤ 2147483647 →
                  (Pre_raw [[n18], [n1], [n2, n3]] ∧
                  (∀ n19 : Int, 0 ≤ n19 → n19 ≤ 4294967295 →
                  (∀ n20 : Int, 0 ≤ n20 → n20 ≤ 15 →
                  (Post_raw [[n18], [n1], [n2, n3]] [[n19], [n20]] →
                  (∀ n21 : Int, n21 = (max n4 n6) → (-2147483648) ≤ n21 → n21 ≤ 2147483647 →
                  (Pre_raw [[n21], [n1], [n2, n3]] ∧
                  (∀ n22 : Int, 0 ≤ n22 → n22 ≤ 4294967295 →
                  (∀ n23 : Int, 0 ≤ n23 → n23 ≤ 15 →
                  (Post_raw [[n21], [n1], [n2, n3]] [[n22], [n23]] →
                  (Pre_wcmp [[n9, n10], [n14, n15]] ∧
                  (∀ n24 : Int, (-1) ≤ n24 → n24 ≤ 1 →
                  (Post_wcmp [[n9, n10], [n14, n15]] [[n24]] →
                  (((n24 = 0) →
                    (((n20 = 0) →
                      (((n23 = 0) →
                        (((n19 = n22) →
                          (Pre_lives [] ∧
                          (∀ t1 : Bool, (Post_lives [] [[b2i t1]] →
                          Post_lrise [[n, n1, n2, n3, n4], [n5], [n6]] [[b2i t1]])))) ∧
                         (¬ (n19 = n22) →
                          ((((n19 < n22) ↔ (n2 < n3)) →
                            (Pre_lives [] ∧
                            (∀ t1 : Bool, (Post_lives [] [[b2i t1]] →
                            Post_lrise [[n, n1, n2, n3, n4], [n5], [n6]] [[b2i t1]])))) ∧
                           (¬ ((n19 < n22) ↔ (n2 < n3)) →
                            Post_lrise [[n, n1, n2, n3, n4], [n5], [n6]] [[b2i false]]))))) ∧
                       (¬ (n23 = 0) →
                        Post_lrise [[n, n1, n2, n3, n4], [n5], [n6]] [[b2i false]]))) ∧
                     (¬ (n20 = 0) →
                      Post_lrise [[n, n1, n2, n3, n4], [n5], [n6]] [[b2i false]]))) ∧
                   (¬ (n24 = 0) →
                    Post_lrise [[n, n1, n2, n3, n4], [n5], [n6]] [[b2i false]])))))))))))))))) ∧
                 (¬ (n = n5) →
                  (∀ n18 : Int, n18 = (min n4 n6) → (-2147483648) ≤ n18 → n18 ≤ 2147483647 →
                  (Pre_raw [[n18], [n1], [n2, n3]] ∧
                  (∀ n19 : Int, 0 ≤ n19 → n19 ≤ 4294967295 →
                  (∀ n20 : Int, 0 ≤ n20 → n20 ≤ 15 →
                  (Post_raw [[n18], [n1], [n2, n3]] [[n19], [n20]] →
                  (∀ n21 : Int, n21 = (max n4 n6) → (-2147483648) ≤ n21 → n21 ≤ 2147483647 →
                  (Pre_raw [[n21], [n1], [n2, n3]] ∧
                  (∀ n22 : Int, 0 ≤ n22 → n22 ≤ 4294967295 →
                  (∀ n23 : Int, 0 ≤ n23 → n23 ≤ 15 →
                  (Post_raw [[n21], [n1], [n2, n3]] [[n22], [n23]] →
                  (Pre_wcmp [[n9, n10], [n14, n15]] ∧
                  (∀ n24 : Int, (-1) ≤ n24 → n24 ≤ 1 →
                  (Post_wcmp [[n9, n10], [n14, n15]] [[n24]] →
                  (((n24 = 1) →
                    (((n20 = 0) →
                      (((n23 = 0) →
                        (((n19 = n22) →
                          (Pre_lives [] ∧
                          (∀ t1 : Bool, (Post_lives [] [[b2i t1]] →
                          Post_lrise [[n, n1, n2, n3, n4], [n5], [n6]] [[b2i t1]])))) ∧
                         (¬ (n19 = n22) →
                          ((((n19 < n22) ↔ (n2 < n3)) →
                            (Pre_lives [] ∧
                            (∀ t1 : Bool, (Post_lives [] [[b2i t1]] →
                            Post_lrise [[n, n1, n2, n3, n4], [n5], [n6]] [[b2i t1]])))) ∧
                           (¬ ((n19 < n22) ↔ (n2 < n3)) →
                            Post_lrise [[n, n1, n2, n3, n4], [n5], [n6]] [[b2i false]]))))) ∧
                       (¬ (n23 = 0) →
                        Post_lrise [[n, n1, n2, n3, n4], [n5], [n6]] [[b2i false]]))) ∧
                     (¬ (n20 = 0) →
                      Post_lrise [[n, n1, n2, n3, n4], [n5], [n6]] [[b2i false]]))) ∧
                   (¬ (n24 = 1) →
                    Post_lrise [[n, n1, n2, n3, n4], [n5], [n6]] [[b2i false]])))))))))))))))))) ∧
               (¬ (n3 < n2) →
                (((n = n5) →
                  (∀ n18 : Int, n18 = (min n4 n6) → (-2147483648) ≤ n18 → n18 ≤ 2147483647 →
                  (Pre_raw [[n18], [n1], [n2, n3]] ∧
                  (∀ n19 : Int, 0 ≤ n19 → n19 ≤ 4294967295 →
                  (∀ n20 : Int, 0 ≤ n20 → n20 ≤ 15 →
                  (Post_raw [[n18], [n1], [n2, n3]] [[n19], [n20]] →
                  (∀ n21 : Int, n21 = (max n4 n6) → (-2147483648) ≤ n21 → n21 ≤ 2147483647 →
                  (Pre_raw [[n21], [n1], [n2, n3]] ∧
                  (∀ n22 : Int, 0 ≤ n22 → n22 ≤ 4294967295 →
                  (∀ n23 : Int, 0 ≤ n23 → n23 ≤ 15 →
                  (Post_raw [[n21], [n1], [n2, n3]] [[n22], [n23]] →
                  (Pre_wcmp [[n9, n10], [n14, n15]] ∧
                  (∀ n24 : Int, (-1) ≤ n24 → n24 ≤ 1 →
                  (Post_wcmp [[n9, n10], [n14, n15]] [[n24]] →
                  (((n24 = 0) →
                    (((n20 = 0) →
                      (((n23 = 0) →
                        (((n19 = n22) →
                          (Pre_lives [] ∧
                          (∀ t1 : Bool, (Post_lives [] [[b2i t1]] →
                          Post_lrise [[n, n1, n2, n3, n4], [n5], [n6]] [[b2i t1]])))) ∧
                         (¬ (n19 = n22) →
                          ((((n19 < n22) ↔ (n2 < n3)) →
                            (Pre_lives [] ∧
                            (∀ t1 : Bool, (Post_lives [] [[b2i t1]] →
                            Post_lrise [[n, n1, n2, n3, n4], [n5], [n6]] [[b2i t1]])))) ∧
                           (¬ ((n19 < n22) ↔ (n2 < n3)) →
                            Post_lrise [[n, n1, n2, n3, n4], [n5], [n6]] [[b2i false]]))))) ∧
                       (¬ (n23 = 0) →
                        Post_lrise [[n, n1, n2, n3, n4], [n5], [n6]] [[b2i false]]))) ∧
                     (¬ (n20 = 0) →
                      Post_lrise [[n, n1, n2, n3, n4], [n5], [n6]] [[b2i false]]))) ∧
                   (¬ (n24 = 0) →
                    Post_lrise [[n, n1, n2, n3, n4], [n5], [n6]] [[b2i false]])))))))))))))))) ∧
                 (¬ (n = n5) →
                  (∀ n18 : Int, n18 = (min n4 n6) → (-2147483648) ≤ n18 → n18 ≤ 2147483647 →
                  (Pre_raw [[n18], [n1], [n2, n3]] ∧
                  (∀ n19 : Int, 0 ≤ n19 → n19 ≤ 4294967295 →
                  (∀ n20 : Int, 0 ≤ n20 → n20 ≤ 15 →
                  (Post_raw [[n18], [n1], [n2, n3]] [[n19], [n20]] →
                  (∀ n21 : Int, n21 = (max n4 n6) → (-2147483648) ≤ n21 → n21 ≤ 2147483647 →
                  (Pre_raw [[n21], [n1], [n2, n3]] ∧
                  (∀ n22 : Int, 0 ≤ n22 → n22 ≤ 4294967295 →
                  (∀ n23 : Int, 0 ≤ n23 → n23 ≤ 15 →
                  (Post_raw [[n21], [n1], [n2, n3]] [[n22], [n23]] →
                  (Pre_wcmp [[n9, n10], [n14, n15]] ∧
                  (∀ n24 : Int, (-1) ≤ n24 → n24 ≤ 1 →
                  (Post_wcmp [[n9, n10], [n14, n15]] [[n24]] →
                  (((n24 = (-1)) →
                    (((n20 = 0) →
                      (((n23 = 0) →
                        (((n19 = n22) →
                          (Pre_lives [] ∧
                          (∀ t1 : Bool, (Post_lives [] [[b2i t1]] →
                          Post_lrise [[n, n1, n2, n3, n4], [n5], [n6]] [[b2i t1]])))) ∧
                         (¬ (n19 = n22) →
                          ((((n19 < n22) ↔ (n2 < n3)) →
                            (Pre_lives [] ∧
                            (∀ t1 : Bool, (Post_lives [] [[b2i t1]] →
                            Post_lrise [[n, n1, n2, n3, n4], [n5], [n6]] [[b2i t1]])))) ∧
                           (¬ ((n19 < n22) ↔ (n2 < n3)) →
                            Post_lrise [[n, n1, n2, n3, n4], [n5], [n6]] [[b2i false]]))))) ∧
                       (¬ (n23 = 0) →
                        Post_lrise [[n, n1, n2, n3, n4], [n5], [n6]] [[b2i false]]))) ∧
                     (¬ (n20 = 0) →
                      Post_lrise [[n, n1, n2, n3, n4], [n5], [n6]] [[b2i false]]))) ∧
                   (¬ (n24 = (-1)) →
                    Post_lrise [[n, n1, n2, n3, n4], [n5], [n6]] [[b2i false]]))))))))))))))))))))))))))))))))))))))))))))))))))))))))))))
theorem c_lrise : canCall Try.prog 7 = true := by kernel_rfl
theorem s_lrise : P_lrise = sat E (symTop Try.prog tab52 2000 7 ash_lrise sh_lrise) := by kernel_rfl
theorem pure_lrise (hV : Valid Try.prog tab52 E) (h : P_lrise) (args : List Value) (ha : shaFits ash_lrise args) (hp : E.pre 7 (args.map vints)) : Pure Try.prog 7 args.toArray fun v => sh_lrise.fits v ∧ E.post 7 (args.map vints) (vres v) := @top_sat Try.prog tab52 E hV 2000 7 ash_lrise sh_lrise (@Eq.mp _ _ s_lrise h) args ha hp
/-- gouache/gouachelaw07.DecodesBack -/
def P_lback : Prop :=
  (∀ n : Int, 0 ≤ n → n ≤ 4294967295 →
  (∀ n1 : Int, (-9223372036854775808) ≤ n1 → n1 ≤ 9223372036854775807 →
  (∀ n2 : Int, (-2147483648) ≤ n2 → n2 ≤ 2147483647 →
  (∀ n3 : Int, (-2147483648) ≤ n3 → n3 ≤ 2147483647 →
  (∀ n4 : Int, (-2147483648) ≤ n4 → n4 ≤ 2147483647 →
  (Pre_lback [[n, n1, n2, n3, n4]] →
  (∀ b : Nat, (Pre_lgreatest [[n1]] ∧
  (∀ n5 : Int, 0 ≤ n5 → n5 ≤ 4294967295 →
  (∀ t : Bool, (Post_lgreatest [[n1]] [[n5], [b2i t]] →
  (((¬ (t = true)) →
    (Pre_lives [] ∧
    (∀ t1 : Bool, (Post_lives [] [[b2i t1]] →
    Post_lback [[n, n1, n2, n3, n4]] [[b2i t1]])))) ∧
   (¬ (¬ (t = true)) →
    (((n5 < n) →
      (Pre_lives [] ∧
      (∀ t1 : Bool, (Post_lives [] [[b2i t1]] →
      Post_lback [[n, n1, n2, n3, n4]] [[b2i t1]])))) ∧
     (¬ (n5 < n) →
      (((n2 = n3) →
        (Pre_lives [] ∧
        (∀ t1 : Bool, (Post_lives [] [[b2i t1]] →
        Post_lback [[n, n1, n2, n3, n4]] [[b2i t1]])))) ∧
       (¬ (n2 = n3) →
        (Pre_raw [[n2], [n1], [n2, n3]] ∧
        (∀ n6 : Int, 0 ≤ n6 → n6 ≤ 4294967295 →
        (∀ n7 : Int, 0 ≤ n7 → n7 ≤ 15 →
        (Post_raw [[n2], [n1], [n2, n3]] [[n6], [n7]] →
        (Pre_raw [[n3], [n1], [n2, n3]] ∧
        (∀ n8 : Int, 0 ≤ n8 → n8 ≤ 4294967295 →
        (∀ n9 : Int, 0 ≤ n9 → n9 ≤ 15 →
        (Post_raw [[n3], [n1], [n2, n3]] [[n8], [n9]] →
        (((¬ (n6 = 0)) →
          Post_lback [[n, n1, n2, n3, n4]] [[b2i false]]) ∧
         (¬ (¬ (n6 = 0)) →
          (((¬ (n8 = n5)) →
            Post_lback [[n, n1, n2, n3, n4]] [[b2i false]]) ∧
           (¬ (¬ (n8 = n5)) →
            (((¬ (n7 = 0)) →
              Post_lback [[n, n1, n2, n3, n4]] [[b2i false]]) ∧
             (¬ (¬ (n7 = 0)) →
              (((¬ (n9 = 0)) →
                Post_lback [[n, n1, n2, n3, n4]] [[b2i false]]) ∧
               (¬ (¬ (n9 = 0)) →
                (Pre_raw [[n4], [n1], [n2, n3]] ∧
                (∀ n10 : Int, 0 ≤ n10 → n10 ≤ 4294967295 →
                (∀ n11 : Int, 0 ≤ n11 → n11 ≤ 15 →
                (Post_raw [[n4], [n1], [n2, n3]] [[n10], [n11]] →
                (((n2 < n3) →
                  (((n4 ≤ n2) →
                    (((n3 ≤ n4) →
                      (((¬ (n11 = 0)) →
                        Post_lback [[n, n1, n2, n3, n4]] [[b2i false]]) ∧
                       (¬ (¬ (n11 = 0)) →
                        (((n5 < n10) →
                          Post_lback [[n, n1, n2, n3, n4]] [[b2i false]]) ∧
                         (¬ (n5 < n10) →
                          (((¬ (n10 = 0)) →
                            Post_lback [[n, n1, n2, n3, n4]] [[b2i false]]) ∧
                           (¬ (¬ (n10 = 0)) →
                            (((¬ (n10 = n5)) →
                              Post_lback [[n, n1, n2, n3, n4]] [[b2i false]]) ∧
                             (¬ (¬ (n10 = n5)) →
                              (∀ n12 : Int, n12 = (n3 - n2) → (-4294967295) ≤ n12 → n12 ≤ 4294967295 →
                              ((((max n12 (0 - n12)) ≤ n5) →
                                (Pre_lives [] ∧
                                (∀ t1 : Bool, (Post_lives [] [[b2i t1]] →
                                Post_lback [[n, n1, n2, n3, n4]] [[b2i t1]])))) ∧
                               (¬ ((max n12 (0 - n12)) ≤ n5) →
                                (Pre_value [[n], [n1], [n2, n3]] ∧
                                (∀ n13 : Int, (-9223372036854775808) ≤ n13 → n13 ≤ 9223372036854775807 →
                                (∀ n14 : Int, 0 ≤ n14 → n14 ≤ 18446744073709551615 →
                                (∀ n15 : Int, (-9223372036854775808) ≤ n15 → n15 ≤ 9223372036854775807 →
                                (∀ n16 : Int, 0 ≤ n16 → n16 ≤ 15 →
                                (Post_value [[n], [n1], [n2, n3]] [[n13, n14, n15], [n16]] →
                                (∀ b1 : Nat, (Pre_dnear [[n13, n14, n15]] ∧
                                (∀ n17 : Int, (-2147483648) ≤ n17 → n17 ≤ 2147483647 →
                                (Post_dnear [[n13, n14, n15]] [[n17]] →
                                (Pre_raw [[n17], [n1], [n2, n3]] ∧
                                (∀ n18 : Int, 0 ≤ n18 → n18 ≤ 4294967295 →
                                (∀ n19 : Int, 0 ≤ n19 → n19 ≤ 15 →
                                (Post_raw [[n17], [n1], [n2, n3]] [[n18], [n19]] →
                                (((n16 = 0) →
                                  (((n18 = n) →
                                    (((n19 = 0) →
                                      (Pre_lives [] ∧
                                      (∀ t1 : Bool, (Post_lives [] [[b2i t1]] →
                                      Post_lback [[n, n1, n2, n3, n4]] [[b2i t1]])))) ∧
                                     (¬ (n19 = 0) →
                                      Post_lback [[n, n1, n2, n3, n4]] [[b2i false]]))) ∧
                                   (¬ (n18 = n) →
                                    Post_lback [[n, n1, n2, n3, n4]] [[b2i false]]))) ∧
                                 (¬ (n16 = 0) →
                                  Post_lback [[n, n1, n2, n3, n4]] [[b2i false]])))))))))))))))))))))))))))) ∧
                     (¬ (n3 ≤ n4) →
                      (((¬ (n11 = 0)) →
                        Post_lback [[n, n1, n2, n3, n4]] [[b2i false]]) ∧
                       (¬ (¬ (n11 = 0)) →
                        (((n5 < n10) →
                          Post_lback [[n, n1, n2, n3, n4]] [[b2i false]]) ∧
                         (¬ (n5 < n10) →
                          (((¬ (n10 = 0)) →
                            Post_lback [[n, n1, n2, n3, n4]] [[b2i false]]) ∧
                           (¬ (¬ (n10 = 0)) →
                            (∀ n12 : Int, n12 = (n3 - n2) → (-4294967295) ≤ n12 → n12 ≤ 4294967295 →
                            ((((max n12 (0 - n12)) ≤ n5) →
                              (Pre_lives [] ∧
                              (∀ t1 : Bool, (Post_lives [] [[b2i t1]] →
                              Post_lback [[n, n1, n2, n3, n4]] [[b2i t1]])))) ∧
                             (¬ ((max n12 (0 - n12)) ≤ n5) →
                              (Pre_value [[n], [n1], [n2, n3]] ∧
                              (∀ n13 : Int, (-9223372036854775808) ≤ n13 → n13 ≤ 9223372036854775807 →
                              (∀ n14 : Int, 0 ≤ n14 → n14 ≤ 18446744073709551615 →
                              (∀ n15 : Int, (-9223372036854775808) ≤ n15 → n15 ≤ 9223372036854775807 →
                              (∀ n16 : Int, 0 ≤ n16 → n16 ≤ 15 →
                              (Post_value [[n], [n1], [n2, n3]] [[n13, n14, n15], [n16]] →
                              (∀ b1 : Nat, (Pre_dnear [[n13, n14, n15]] ∧
                              (∀ n17 : Int, (-2147483648) ≤ n17 → n17 ≤ 2147483647 →
                              (Post_dnear [[n13, n14, n15]] [[n17]] →
                              (Pre_raw [[n17], [n1], [n2, n3]] ∧
                              (∀ n18 : Int, 0 ≤ n18 → n18 ≤ 4294967295 →
                              (∀ n19 : Int, 0 ≤ n19 → n19 ≤ 15 →
                              (Post_raw [[n17], [n1], [n2, n3]] [[n18], [n19]] →
                              (((n16 = 0) →
                                (((n18 = n) →
                                  (((n19 = 0) →
                                    (Pre_lives [] ∧
                                    (∀ t1 : Bool, (Post_lives [] [[b2i t1]] →
                                    Post_lback [[n, n1, n2, n3, n4]] [[b2i t1]])))) ∧
                                   (¬ (n19 = 0) →
                                    Post_lback [[n, n1, n2, n3, n4]] [[b2i false]]))) ∧
                                 (¬ (n18 = n) →
                                  Post_lback [[n, n1, n2, n3, n4]] [[b2i false]]))) ∧
                               (¬ (n16 = 0) →
                                Post_lback [[n, n1, n2, n3, n4]] [[b2i false]])))))))))))))))))))))))))))) ∧
                   (¬ (n4 ≤ n2) →
                    (((n3 ≤ n4) →
                      (((¬ (n11 = 0)) →
                        Post_lback [[n, n1, n2, n3, n4]] [[b2i false]]) ∧
                       (¬ (¬ (n11 = 0)) →
                        (((n5 < n10) →
                          Post_lback [[n, n1, n2, n3, n4]] [[b2i false]]) ∧
                         (¬ (n5 < n10) →
                          (((¬ (n10 = n5)) →
                            Post_lback [[n, n1, n2, n3, n4]] [[b2i false]]) ∧
                           (¬ (¬ (n10 = n5)) →
                            (∀ n12 : Int, n12 = (n3 - n2) → (-4294967295) ≤ n12 → n12 ≤ 4294967295 →
                            ((((max n12 (0 - n12)) ≤ n5) →
                              (Pre_lives [] ∧
                              (∀ t1 : Bool, (Post_lives [] [[b2i t1]] →
                              Post_lback [[n, n1, n2, n3, n4]] [[b2i t1]])))) ∧
                             (¬ ((max n12 (0 - n12)) ≤ n5) →
                              (Pre_value [[n], [n1], [n2, n3]] ∧
                              (∀ n13 : Int, (-9223372036854775808) ≤ n13 → n13 ≤ 9223372036854775807 →
                              (∀ n14 : Int, 0 ≤ n14 → n14 ≤ 18446744073709551615 →
                              (∀ n15 : Int, (-9223372036854775808) ≤ n15 → n15 ≤ 9223372036854775807 →
                              (∀ n16 : Int, 0 ≤ n16 → n16 ≤ 15 →
                              (Post_value [[n], [n1], [n2, n3]] [[n13, n14, n15], [n16]] →
                              (∀ b1 : Nat, (Pre_dnear [[n13, n14, n15]] ∧
                              (∀ n17 : Int, (-2147483648) ≤ n17 → n17 ≤ 2147483647 →
                              (Post_dnear [[n13, n14, n15]] [[n17]] →
                              (Pre_raw [[n17], [n1], [n2, n3]] ∧
                              (∀ n18 : Int, 0 ≤ n18 → n18 ≤ 4294967295 →
                              (∀ n19 : Int, 0 ≤ n19 → n19 ≤ 15 →
                              (Post_raw [[n17], [n1], [n2, n3]] [[n18], [n19]] →
                              (((n16 = 0) →
                                (((n18 = n) →
                                  (((n19 = 0) →
                                    (Pre_lives [] ∧
                                    (∀ t1 : Bool, (Post_lives [] [[b2i t1]] →
                                    Post_lback [[n, n1, n2, n3, n4]] [[b2i t1]])))) ∧
                                   (¬ (n19 = 0) →
                                    Post_lback [[n, n1, n2, n3, n4]] [[b2i false]]))) ∧
                                 (¬ (n18 = n) →
                                  Post_lback [[n, n1, n2, n3, n4]] [[b2i false]]))) ∧
                               (¬ (n16 = 0) →
                                Post_lback [[n, n1, n2, n3, n4]] [[b2i false]])))))))))))))))))))))))))) ∧
                     (¬ (n3 ≤ n4) →
                      (((¬ (n11 = 0)) →
                        Post_lback [[n, n1, n2, n3, n4]] [[b2i false]]) ∧
                       (¬ (¬ (n11 = 0)) →
                        (((n5 < n10) →
                          Post_lback [[n, n1, n2, n3, n4]] [[b2i false]]) ∧
                         (¬ (n5 < n10) →
                          (∀ n12 : Int, n12 = (n3 - n2) → (-4294967295) ≤ n12 → n12 ≤ 4294967295 →
                          ((((max n12 (0 - n12)) ≤ n5) →
                            (Pre_lives [] ∧
                            (∀ t1 : Bool, (Post_lives [] [[b2i t1]] →
                            Post_lback [[n, n1, n2, n3, n4]] [[b2i t1]])))) ∧
                           (¬ ((max n12 (0 - n12)) ≤ n5) →
                            (Pre_value [[n], [n1], [n2, n3]] ∧
                            (∀ n13 : Int, (-9223372036854775808) ≤ n13 → n13 ≤ 9223372036854775807 →
                            (∀ n14 : Int, 0 ≤ n14 → n14 ≤ 18446744073709551615 →
                            (∀ n15 : Int, (-9223372036854775808) ≤ n15 → n15 ≤ 9223372036854775807 →
                            (∀ n16 : Int, 0 ≤ n16 → n16 ≤ 15 →
                            (Post_value [[n], [n1], [n2, n3]] [[n13, n14, n15], [n16]] →
                            (∀ b1 : Nat, (Pre_dnear [[n13, n14, n15]] ∧
                            (∀ n17 : Int, (-2147483648) ≤ n17 → n17 ≤ 2147483647 →
                            (Post_dnear [[n13, n14, n15]] [[n17]] →
                            (Pre_raw [[n17], [n1], [n2, n3]] ∧
                            (∀ n18 : Int, 0 ≤ n18 → n18 ≤ 4294967295 →
                            (∀ n19 : Int, 0 ≤ n19 → n19 ≤ 15 →
                            (Post_raw [[n17], [n1], [n2, n3]] [[n18], [n19]] →
                            (((n16 = 0) →
                              (((n18 = n) →
                                (((n19 = 0) →
                                  (Pre_lives [] ∧
                                  (∀ t1 : Bool, (Post_lives [] [[b2i t1]] →
                                  Post_lback [[n, n1, n2, n3, n4]] [[b2i t1]])))) ∧
                                 (¬ (n19 = 0) →
                                  Post_lback [[n, n1, n2, n3, n4]] [[b2i false]]))) ∧
                               (¬ (n18 = n) →
                                Post_lback [[n, n1, n2, n3, n4]] [[b2i false]]))) ∧
                             (¬ (n16 = 0) →
                              Post_lback [[n, n1, n2, n3, n4]] [[b2i false]])))))))))))))))))))))))))))) ∧
                 (¬ (n2 < n3) →
                  (((n2 ≤ n4) →
                    (((n4 ≤ n3) →
                      (((¬ (n11 = 0)) →
                        Post_lback [[n, n1, n2, n3, n4]] [[b2i false]]) ∧
                       (¬ (¬ (n11 = 0)) →
                        (((n5 < n10) →
                          Post_lback [[n, n1, n2, n3, n4]] [[b2i false]]) ∧
                         (¬ (n5 < n10) →
                          (((¬ (n10 = 0)) →
                            Post_lback [[n, n1, n2, n3, n4]] [[b2i false]]) ∧
                           (¬ (¬ (n10 = 0)) →
                            (((¬ (n10 = n5)) →
                              Post_lback [[n, n1, n2, n3, n4]] [[b2i false]]) ∧
                             (¬ (¬ (n10 = n5)) →
                              (∀ n12 : Int, n12 = (n3 - n2) → (-4294967295) ≤ n12 → n12 ≤ 4294967295 →
                              ((((max n12 (0 - n12)) ≤ n5) →
                                (Pre_lives [] ∧
                                (∀ t1 : Bool, (Post_lives [] [[b2i t1]] →
                                Post_lback [[n, n1, n2, n3, n4]] [[b2i t1]])))) ∧
                               (¬ ((max n12 (0 - n12)) ≤ n5) →
                                (Pre_value [[n], [n1], [n2, n3]] ∧
                                (∀ n13 : Int, (-9223372036854775808) ≤ n13 → n13 ≤ 9223372036854775807 →
                                (∀ n14 : Int, 0 ≤ n14 → n14 ≤ 18446744073709551615 →
                                (∀ n15 : Int, (-9223372036854775808) ≤ n15 → n15 ≤ 9223372036854775807 →
                                (∀ n16 : Int, 0 ≤ n16 → n16 ≤ 15 →
                                (Post_value [[n], [n1], [n2, n3]] [[n13, n14, n15], [n16]] →
                                (∀ b1 : Nat, (Pre_dnear [[n13, n14, n15]] ∧
                                (∀ n17 : Int, (-2147483648) ≤ n17 → n17 ≤ 2147483647 →
                                (Post_dnear [[n13, n14, n15]] [[n17]] →
                                (Pre_raw [[n17], [n1], [n2, n3]] ∧
                                (∀ n18 : Int, 0 ≤ n18 → n18 ≤ 4294967295 →
                                (∀ n19 : Int, 0 ≤ n19 → n19 ≤ 15 →
                                (Post_raw [[n17], [n1], [n2, n3]] [[n18], [n19]] →
                                (((n16 = 0) →
                                  (((n18 = n) →
                                    (((n19 = 0) →
                                      (Pre_lives [] ∧
                                      (∀ t1 : Bool, (Post_lives [] [[b2i t1]] →
                                      Post_lback [[n, n1, n2, n3, n4]] [[b2i t1]])))) ∧
                                     (¬ (n19 = 0) →
                                      Post_lback [[n, n1, n2, n3, n4]] [[b2i false]]))) ∧
                                   (¬ (n18 = n) →
                                    Post_lback [[n, n1, n2, n3, n4]] [[b2i false]]))) ∧
                                 (¬ (n16 = 0) →
                                  Post_lback [[n, n1, n2, n3, n4]] [[b2i false]])))))))))))))))))))))))))))) ∧
                     (¬ (n4 ≤ n3) →
                      (((¬ (n11 = 0)) →
                        Post_lback [[n, n1, n2, n3, n4]] [[b2i false]]) ∧
                       (¬ (¬ (n11 = 0)) →
                        (((n5 < n10) →
                          Post_lback [[n, n1, n2, n3, n4]] [[b2i false]]) ∧
                         (¬ (n5 < n10) →
                          (((¬ (n10 = 0)) →
                            Post_lback [[n, n1, n2, n3, n4]] [[b2i false]]) ∧
                           (¬ (¬ (n10 = 0)) →
                            (∀ n12 : Int, n12 = (n3 - n2) → (-4294967295) ≤ n12 → n12 ≤ 4294967295 →
                            ((((max n12 (0 - n12)) ≤ n5) →
                              (Pre_lives [] ∧
                              (∀ t1 : Bool, (Post_lives [] [[b2i t1]] →
                              Post_lback [[n, n1, n2, n3, n4]] [[b2i t1]])))) ∧
                             (¬ ((max n12 (0 - n12)) ≤ n5) →
                              (Pre_value [[n], [n1], [n2, n3]] ∧
                              (∀ n13 : Int, (-9223372036854775808) ≤ n13 → n13 ≤ 9223372036854775807 →
                              (∀ n14 : Int, 0 ≤ n14 → n14 ≤ 18446744073709551615 →
                              (∀ n15 : Int, (-9223372036854775808) ≤ n15 → n15 ≤ 9223372036854775807 →
                              (∀ n16 : Int, 0 ≤ n16 → n16 ≤ 15 →
                              (Post_value [[n], [n1], [n2, n3]] [[n13, n14, n15], [n16]] →
                              (∀ b1 : Nat, (Pre_dnear [[n13, n14, n15]] ∧
                              (∀ n17 : Int, (-2147483648) ≤ n17 → n17 ≤ 2147483647 →
                              (Post_dnear [[n13, n14, n15]] [[n17]] →
                              (Pre_raw [[n17], [n1], [n2, n3]] ∧
                              (∀ n18 : Int, 0 ≤ n18 → n18 ≤ 4294967295 →
                              (∀ n19 : Int, 0 ≤ n19 → n19 ≤ 15 →
                              (Post_raw [[n17], [n1], [n2, n3]] [[n18], [n19]] →
                              (((n16 = 0) →
                                (((n18 = n) →
                                  (((n19 = 0) →
                                    (Pre_lives [] ∧
                                    (∀ t1 : Bool, (Post_lives [] [[b2i t1]] →
                                    Post_lback [[n, n1, n2, n3, n4]] [[b2i t1]])))) ∧
                                   (¬ (n19 = 0) →
                                    Post_lback [[n, n1, n2, n3, n4]] [[b2i false]]))) ∧
                                 (¬ (n18 = n) →
                                  Post_lback [[n, n1, n2, n3, n4]] [[b2i false]]))) ∧
                               (¬ (n16 = 0) →
                                Post_lback [[n, n1, n2, n3, n4]] [[b2i false]])))))))))))))))))))))))))))) ∧
                   (¬ (n2 ≤ n4) →
                    (((n4 ≤ n3) →
                      (((¬ (n11 = 0)) →
                        Post_lback [[n, n1, n2, n3, n4]] [[b2i false]]) ∧
                       (¬ (¬ (n11 = 0)) →
                        (((n5 < n10) →
                          Post_lback [[n, n1, n2, n3, n4]] [[b2i false]]) ∧
                         (¬ (n5 < n10) →
                          (((¬ (n10 = n5)) →
                            Post_lback [[n, n1, n2, n3, n4]] [[b2i false]]) ∧
                           (¬ (¬ (n10 = n5)) →
                            (∀ n12 : Int, n12 = (n3 - n2) → (-4294967295) ≤ n12 → n12 ≤ 4294967295 →
                            ((((max n12 (0 - n12)) ≤ n5) →
                              (Pre_lives [] ∧
                              (∀ t1 : Bool, (Post_lives [] [[b2i t1]] →
                              Post_lback [[n, n1, n2, n3, n4]] [[b2i t1]])))) ∧
                             (¬ ((max n12 (0 - n12)) ≤ n5) →
                              (Pre_value [[n], [n1], [n2, n3]] ∧
                              (∀ n13 : Int, (-9223372036854775808) ≤ n13 → n13 ≤ 9223372036854775807 →
                              (∀ n14 : Int, 0 ≤ n14 → n14 ≤ 18446744073709551615 →
                              (∀ n15 : Int, (-9223372036854775808) ≤ n15 → n15 ≤ 9223372036854775807 →
                              (∀ n16 : Int, 0 ≤ n16 → n16 ≤ 15 →
                              (Post_value [[n], [n1], [n2, n3]] [[n13, n14, n15], [n16]] →
                              (∀ b1 : Nat, (Pre_dnear [[n13, n14, n15]] ∧
                              (∀ n17 : Int, (-2147483648) ≤ n17 → n17 ≤ 2147483647 →
                              (Post_dnear [[n13, n14, n15]] [[n17]] →
                              (Pre_raw [[n17], [n1], [n2, n3]] ∧
                              (∀ n18 : Int, 0 ≤ n18 → n18 ≤ 4294967295 →
                              (∀ n19 : Int, 0 ≤ n19 → n19 ≤ 15 →
                              (Post_raw [[n17], [n1], [n2, n3]] [[n18], [n19]] →
                              (((n16 = 0) →
                                (((n18 = n) →
                                  (((n19 = 0) →
                                    (Pre_lives [] ∧
                                    (∀ t1 : Bool, (Post_lives [] [[b2i t1]] →
                                    Post_lback [[n, n1, n2, n3, n4]] [[b2i t1]])))) ∧
                                   (¬ (n19 = 0) →
                                    Post_lback [[n, n1, n2, n3, n4]] [[b2i false]]))) ∧
                                 (¬ (n18 = n) →
                                  Post_lback [[n, n1, n2, n3, n4]] [[b2i false]]))) ∧
                               (¬ (n16 = 0) →
                                Post_lback [[n, n1, n2, n3, n4]] [[b2i false]])))))))))))))))))))))))))) ∧
                     (¬ (n4 ≤ n3) →
                      (((¬ (n11 = 0)) →
                        Post_lback [[n, n1, n2, n3, n4]] [[b2i false]]) ∧
                       (¬ (¬ (n11 = 0)) →
                        (((n5 < n10) →
                          Post_lback [[n, n1, n2, n3, n4]] [[b2i false]]) ∧
                         (¬ (n5 < n10) →
                          (∀ n12 : Int, n12 = (n3 - n2) → (-4294967295) ≤ n12 → n12 ≤ 4294967295 →
                          ((((max n12 (0 - n12)) ≤ n5) →
                            (Pre_lives [] ∧
                            (∀ t1 : Bool, (Post_lives [] [[b2i t1]] →
                            Post_lback [[n, n1, n2, n3, n4]] [[b2i t1]])))) ∧
                           (¬ ((max n12 (0 - n12)) ≤ n5) →
                            (Pre_value [[n], [n1], [n2, n3]] ∧
                            (∀ n13 : Int, (-9223372036854775808) ≤ n13 → n13 ≤ 9223372036854775807 →
                            (∀ n14 : Int, 0 ≤ n14 → n14 ≤ 18446744073709551615 →
                            (∀ n15 : Int, (-9223372036854775808) ≤ n15 → n15 ≤ 9223372036854775807 →
                            (∀ n16 : Int, 0 ≤ n16 → n16 ≤ 15 →
                            (Post_value [[n], [n1], [n2, n3]] [[n13, n14, n15], [n16]] →
                            (∀ b1 : Nat, (Pre_dnear [[n13, n14, n15]] ∧
                            (∀ n17 : Int, (-2147483648) ≤ n17 → n17 ≤ 2147483647 →
                            (Post_dnear [[n13, n14, n15]] [[n17]] →
                            (Pre_raw [[n17], [n1], [n2, n3]] ∧
                            (∀ n18 : Int, 0 ≤ n18 → n18 ≤ 4294967295 →
                            (∀ n19 : Int, 0 ≤ n19 → n19 ≤ 15 →
                            (Post_raw [[n17], [n1], [n2, n3]] [[n18], [n19]] →
                            (((n16 = 0) →
                              (((n18 = n) →
                                (((n19 = 0) →
                                  (Pre_lives [] ∧
                                  (∀ t1 : Bool, (Post_lives [] [[b2i t1]] →
                                  Post_lback [[n, n1, n2, n3, n4]] [[b2i t1]])))) ∧
                                 (¬ (n19 = 0) →
                                  Post_lback [[n, n1, n2, n3, n4]] [[b2i false]]))) ∧
                               (¬ (n18 = n) →
                                Post_lback [[n, n1, n2, n3, n4]] [[b2i false]]))) ∧
                             (¬ (n16 = 0) →
                              Post_lback [[n, n1, n2, n3, n4]] [[b2i false]]))))))))))))))))))))))))))))))))))))))))))))))))))))))))))))))))))
theorem c_lback : canCall Try.prog 6 = true := by kernel_rfl
theorem s_lback : P_lback = sat E (symTop Try.prog tab52 2000 6 ash_lback sh_lback) := by kernel_rfl
theorem pure_lback (hV : Valid Try.prog tab52 E) (h : P_lback) (args : List Value) (ha : shaFits ash_lback args) (hp : E.pre 6 (args.map vints)) : Pure Try.prog 6 args.toArray fun v => sh_lback.fits v ∧ E.post 6 (args.map vints) (vres v) := @top_sat Try.prog tab52 E hV 2000 6 ash_lback sh_lback (@Eq.mp _ _ s_lback h) args ha hp

end Go.Proofs.Ytopeebkkfomdaaa.Sx
