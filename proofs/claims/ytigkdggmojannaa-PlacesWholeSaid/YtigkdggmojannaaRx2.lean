/-
  What each function comes to, part 2. Printed by a program of our own.
-/
import Derived.Test.YtigkdggmojannaaRxh
set_option maxRecDepth 1000000
set_option linter.all false
namespace Go.Proofs.Ytigkdggmojannaa.Sx
open Go Go.RowKit

/-- gouache/gouachelaw20.PlacesTurned -/
def P_lturned : Prop :=
  (∀ n : Int, (-2147483648) ≤ n → n ≤ 2147483647 →
  (∀ n1 : Int, (-2147483648) ≤ n1 → n1 ≤ 2147483647 →
  (∀ n2 : Int, (-2147483648) ≤ n2 → n2 ≤ 2147483647 →
  (∀ n3 : Int, (-2147483648) ≤ n3 → n3 ≤ 2147483647 →
  (∀ n4 : Int, (-2147483648) ≤ n4 → n4 ≤ 2147483647 →
  (∀ n5 : Int, (-2147483648) ≤ n5 → n5 ≤ 2147483647 →
  (∀ n6 : Int, (-9223372036854775808) ≤ n6 → n6 ≤ 9223372036854775807 →
  (∀ n7 : Int, 0 ≤ n7 → n7 ≤ 18446744073709551615 →
  (∀ n8 : Int, (-9223372036854775808) ≤ n8 → n8 ≤ 9223372036854775807 →
  (∀ n9 : Int, (-9223372036854775808) ≤ n9 → n9 ≤ 9223372036854775807 →
  (∀ n10 : Int, 0 ≤ n10 → n10 ≤ 18446744073709551615 →
  (∀ n11 : Int, (-9223372036854775808) ≤ n11 → n11 ≤ 9223372036854775807 →
  (Pre_lturned [[n, n1, n2, n3, n4, n5, n6, n7, n8, n9, n10, n11]] →
  (∀ b : Nat, (∀ b1 : Nat, (Pre_psnap [[n, n1, n2, n3, n4, n5], [n6, n7, n8], [n9, n10, n11]] ∧
  (∀ n12 : Int, (-9223372036854775808) ≤ n12 → n12 ≤ 9223372036854775807 →
  (∀ n13 : Int, (-9223372036854775808) ≤ n13 → n13 ≤ 9223372036854775807 →
  (∀ n14 : Int, 0 ≤ n14 → n14 ≤ 15 →
  (Post_psnap [[n, n1, n2, n3, n4, n5], [n6, n7, n8], [n9, n10, n11]] [[n12, n13], [n14]] →
  (∀ b2 : Nat, (Pre_psnap [[n1, n, n3, n2, n5, n4], [n6, n7, n8], [n9, n10, n11]] ∧
  (∀ n15 : Int, (-9223372036854775808) ≤ n15 → n15 ≤ 9223372036854775807 →
  (∀ n16 : Int, (-9223372036854775808) ≤ n16 → n16 ≤ 9223372036854775807 →
  (∀ n17 : Int, 0 ≤ n17 → n17 ≤ 15 →
  (Post_psnap [[n1, n, n3, n2, n5, n4], [n6, n7, n8], [n9, n10, n11]] [[n15, n16], [n17]] →
  (∀ b3 : Nat, (Pre_psnap [[n2, n3, n, n1, n4, n5], [n9, n10, n11], [n6, n7, n8]] ∧
  (∀ n18 : Int, (-9223372036854775808) ≤ n18 → n18 ≤ 9223372036854775807 →
  (∀ n19 : Int, (-9223372036854775808) ≤ n19 → n19 ≤ 9223372036854775807 →
  (∀ n20 : Int, 0 ≤ n20 → n20 ≤ 15 →
  (Post_psnap [[n2, n3, n, n1, n4, n5], [n9, n10, n11], [n6, n7, n8]] [[n18, n19], [n20]] →
  (∀ b4 : Nat, (((n14 = n17) →
    (((n14 = n20) →
      ((((n12 = n18) ∧ (n13 = n19)) →
        ((((n15 = n13) ∧ (n16 = n12)) →
          (Pre_lives [] ∧
          (∀ t : Bool, (Post_lives [] [[b2i t]] →
          Post_lturned [[n, n1, n2, n3, n4, n5, n6, n7, n8, n9, n10, n11]] [[b2i t]])))) ∧
         (¬ ((n15 = n13) ∧ (n16 = n12)) →
          Post_lturned [[n, n1, n2, n3, n4, n5, n6, n7, n8, n9, n10, n11]] [[b2i false]]))) ∧
       (¬ ((n12 = n18) ∧ (n13 = n19)) →
        Post_lturned [[n, n1, n2, n3, n4, n5, n6, n7, n8, n9, n10, n11]] [[b2i false]]))) ∧
     (¬ (n14 = n20) →
      Post_lturned [[n, n1, n2, n3, n4, n5, n6, n7, n8, n9, n10, n11]] [[b2i false]]))) ∧
   (¬ (n14 = n17) →
    Post_lturned [[n, n1, n2, n3, n4, n5, n6, n7, n8, n9, n10, n11]] [[b2i false]])))))))))))))))))))))))))))))))))))
theorem c_lturned : canCall Try.prog 6 = true := by kernel_rfl
theorem s_lturned : P_lturned = sat E (symTop Try.prog tab48 2000 6 ash_lturned sh_lturned) := by kernel_rfl
theorem pure_lturned (hV : Valid Try.prog tab48 E) (h : P_lturned) (args : List Value) (ha : shaFits ash_lturned args) (hp : E.pre 6 (args.map vints)) : Pure Try.prog 6 args.toArray fun v => sh_lturned.fits v ∧ E.post 6 (args.map vints) (vres v) := @top_sat Try.prog tab48 E hV 2000 6 ash_lturned sh_lturned (@Eq.mp _ _ s_lturned h) args ha hp
/-- gouache/gouachelaw20.PlacesWhole -/
def P_lwhole : Prop :=
  (∀ n : Int, (-2147483648) ≤ n → n ≤ 2147483647 →
  (∀ n1 : Int, (-2147483648) ≤ n1 → n1 ≤ 2147483647 →
  (Pre_lwhole [[n], [n1]] →
  (∀ b : Nat, (∀ n2 : Int, n2 = (n * 65536) → (-140737488355328) ≤ n2 → n2 ≤ 140737488289792 →
  (Pre_lwholeN [[n2]] ∧
  (∀ n3 : Int, (-9223372036854775808) ≤ n3 → n3 ≤ 9223372036854775807 →
  (∀ n4 : Int, 0 ≤ n4 → n4 ≤ 18446744073709551615 →
  (∀ n5 : Int, (-9223372036854775808) ≤ n5 → n5 ≤ 9223372036854775807 →
  (Post_lwholeN [[n2]] [[n3, n4, n5]] →
  (∀ n6 : Int, n6 = (n1 * 65536) → (-140737488355328) ≤ n6 → n6 ≤ 140737488289792 →
  (Pre_lwholeN [[n6]] ∧
  (∀ n7 : Int, (-9223372036854775808) ≤ n7 → n7 ≤ 9223372036854775807 →
  (∀ n8 : Int, 0 ≤ n8 → n8 ≤ 18446744073709551615 →
  (∀ n9 : Int, (-9223372036854775808) ≤ n9 → n9 ≤ 9223372036854775807 →
  (Post_lwholeN [[n6]] [[n7, n8, n9]] →
  (Pre_psnap [[65536, 0, 0, 65536, 0, 0], [n3, n4, n5], [n7, n8, n9]] ∧
  (∀ n10 : Int, (-9223372036854775808) ≤ n10 → n10 ≤ 9223372036854775807 →
  (∀ n11 : Int, (-9223372036854775808) ≤ n11 → n11 ≤ 9223372036854775807 →
  (∀ n12 : Int, 0 ≤ n12 → n12 ≤ 15 →
  (Post_psnap [[65536, 0, 0, 65536, 0, 0], [n3, n4, n5], [n7, n8, n9]] [[n10, n11], [n12]] →
  (∀ b1 : Nat, (∀ n13 : Int, n13 = (n * 65536) → (-140737488355328) ≤ n13 → n13 ≤ 140737488289792 →
  (Pre_lwholeN [[n13]] ∧
  (∀ n14 : Int, (-9223372036854775808) ≤ n14 → n14 ≤ 9223372036854775807 →
  (∀ n15 : Int, 0 ≤ n15 → n15 ≤ 18446744073709551615 →
  (∀ n16 : Int, (-9223372036854775808) ≤ n16 → n16 ≤ 9223372036854775807 →
  (Post_lwholeN [[n13]] [[n14, n15, n16]] →
  (∀ n17 : Int, n17 = (n1 * 65536) → (-140737488355328) ≤ n17 → n17 ≤ 140737488289792 →
  (Pre_lwholeN [[n17]] ∧
  (∀ n18 : Int, (-9223372036854775808) ≤ n18 → n18 ≤ 9223372036854775807 →
  (∀ n19 : Int, 0 ≤ n19 → n19 ≤ 18446744073709551615 →
  (∀ n20 : Int, (-9223372036854775808) ≤ n20 → n20 ≤ 9223372036854775807 →
  (Post_lwholeN [[n17]] [[n18, n19, n20]] →
  (Pre_pplace [[65536, 0, 0, 65536, 0, 0], [n14, n15, n16], [n18, n19, n20]] ∧
  (∀ n21 : Int, (-9223372036854775808) ≤ n21 → n21 ≤ 9223372036854775807 →
  (∀ n22 : Int, (-9223372036854775808) ≤ n22 → n22 ≤ 9223372036854775807 →
  (∀ n23 : Int, 0 ≤ n23 → n23 ≤ 15 →
  (Post_pplace [[65536, 0, 0, 65536, 0, 0], [n14, n15, n16], [n18, n19, n20]] [[n21, n22], [n23]] →
  (∀ b2 : Nat, (((1048576 < (max (max (max n (0 - n)) n1) (0 - n1))) →
    (((n12 = 8) →
      (((n23 = 8) →
        (Pre_lives [] ∧
        (∀ t : Bool, (Post_lives [] [[b2i t]] →
        Post_lwhole [[n], [n1]] [[b2i t]])))) ∧
       (¬ (n23 = 8) →
        Post_lwhole [[n], [n1]] [[b2i false]]))) ∧
     (¬ (n12 = 8) →
      Post_lwhole [[n], [n1]] [[b2i false]]))) ∧
   (¬ (1048576 < (max (max (max n (0 - n)) n1) (0 - n1))) →
    (((n12 = 0) →
      (((n23 = 0) →
        ((((n10 = (256 * n)) ∧ (n11 = (256 * n1))) →
          ((((n21 = (65536 * n)) ∧ (n22 = (65536 * n1))) →
            (Pre_lives [] ∧
            (∀ t : Bool, (Post_lives [] [[b2i t]] →
            Post_lwhole [[n], [n1]] [[b2i t]])))) ∧
           (¬ ((n21 = (65536 * n)) ∧ (n22 = (65536 * n1))) →
            Post_lwhole [[n], [n1]] [[b2i false]]))) ∧
         (¬ ((n10 = (256 * n)) ∧ (n11 = (256 * n1))) →
          Post_lwhole [[n], [n1]] [[b2i false]]))) ∧
       (¬ (n23 = 0) →
        Post_lwhole [[n], [n1]] [[b2i false]]))) ∧
     (¬ (n12 = 0) →
      Post_lwhole [[n], [n1]] [[b2i false]]))))))))))))))))))))))))))))))))))))))))))))
theorem c_lwhole : canCall Try.prog 7 = true := by kernel_rfl
theorem s_lwhole : P_lwhole = sat E (symTop Try.prog tab48 2000 7 ash_lwhole sh_lwhole) := by kernel_rfl
theorem pure_lwhole (hV : Valid Try.prog tab48 E) (h : P_lwhole) (args : List Value) (ha : shaFits ash_lwhole args) (hp : E.pre 7 (args.map vints)) : Pure Try.prog 7 args.toArray fun v => sh_lwhole.fits v ∧ E.post 7 (args.map vints) (vres v) := @top_sat Try.prog tab48 E hV 2000 7 ash_lwhole sh_lwhole (@Eq.mp _ _ s_lwhole h) args ha hp

end Go.Proofs.Ytigkdggmojannaa.Sx
