/-
  Plain laws of nets, part b: the functions.
-/
import Derived.Test.YtndfeckmfhiniaaGreatDoorNa
set_option linter.all false
set_option maxRecDepth 100000
namespace Go.Proofs.YtndfeckmfhiniaaGreatDoor.Sx
open Go Go.RowKit

theorem p_lcheck : P_lcheck := by
  unfold P_lcheck
  intro n l_n u_n
  intro n1 l_n1 u_n1
  intro n2 l_n2 u_n2
  intro n3 l_n3 u_n3
  intro n4 l_n4 u_n4
  intro n5 l_n5 u_n5
  intro n6 l_n6 u_n6
  intro n7 l_n7 u_n7
  intro n8 l_n8 u_n8
  intro n9 l_n9 u_n9
  intro n10 l_n10 u_n10
  intro n11 l_n11 u_n11
  intro n12 l_n12 u_n12
  intro n13 l_n13 u_n13
  intro n14 l_n14 u_n14
  intro n15 l_n15 u_n15
  intro n16 l_n16 u_n16
  intro n17 l_n17 u_n17
  intro hpre
  replace hpre : True := hpre
  intro b
  refine ⟨fun c0 => ?_, fun c0 => ?_⟩
  · refine ⟨fun c1 => ?_, fun c1 => ?_⟩
    · refine ⟨by omega, ?_⟩
      intro n18 e_n18 l_n18 u_n18
      refine ⟨fun c2 => ?_, fun c2 => ?_⟩
      · refine ⟨fun c3 => ?_, fun c3 => ?_⟩
        · refine ⟨fun c4 => ?_, fun c4 => ?_⟩
          · refine ⟨by omega, ?_⟩
            intro n19 e_n19 l_n19 u_n19
            refine ⟨fun c5 => ?_, fun c5 => ?_⟩
            · refine ⟨fun c6 => ?_, fun c6 => ?_⟩
              · refine ⟨fun c7 => ?_, fun c7 => ?_⟩
                · refine ⟨fun c8 => ?_, fun c8 => ?_⟩
                  · refine ⟨fun c9 => ?_, fun c9 => ?_⟩
                    · show ((lay8 n n1 n2 n3 n4 n5 → (4 : Int) = 0) ∧ (¬ lay8 n n1 n2 n3 n4 n5 → (4 : Int) = 4))
                      first
                        | (refine ⟨fun hh => ?_, fun _ => rfl⟩
                           obtain ⟨z1, z2, z3, z4, z5, z6, z7⟩ := hh
                           have b1 := inCo_b z2
                           have b2 := inCm_b z3
                           have b3 := fun y => inFl_b (z7 y)
                           first
                             | (exfalso; omega)
                             | exact absurd ((co_at e_n18 (by omega) (by omega)).2 z2) (by assumption)
                             | exact absurd ((cm_at e_n19 (by omega) (by omega)).2 z3) (by assumption)
                             | exact absurd ((fl_at e_n20 (by omega) (by omega)).2 (z7 (by omega))) (by assumption))
                        | exact ⟨fun _ => rfl, fun hh => absurd (by unfold lay8; exact ⟨by omega, (co_at e_n18 (by omega) (by omega)).1 (by assumption), (cm_at e_n19 (by omega) (by omega)).1 (by assumption), by omega, by omega, fun _ => by omega, fun _ => (fl_at e_n20 (by omega) (by omega)).1 (Classical.not_not.1 (by assumption))⟩) hh⟩
                        | exact ⟨fun _ => rfl, fun hh => absurd (by unfold lay8; exact ⟨by omega, (co_at e_n18 (by omega) (by omega)).1 (by assumption), (cm_at e_n19 (by omega) (by omega)).1 (by assumption), by omega, by omega, fun _ => by omega, fun y => absurd (by assumption) y⟩) hh⟩
                    · show ((lay8 n n1 n2 n3 n4 n5 → (0 : Int) = 0) ∧ (¬ lay8 n n1 n2 n3 n4 n5 → (0 : Int) = 4))
                      first
                        | (refine ⟨fun hh => ?_, fun _ => rfl⟩
                           obtain ⟨z1, z2, z3, z4, z5, z6, z7⟩ := hh
                           have b1 := inCo_b z2
                           have b2 := inCm_b z3
                           have b3 := fun y => inFl_b (z7 y)
                           first
                             | (exfalso; omega)
                             | exact absurd ((co_at e_n18 (by omega) (by omega)).2 z2) (by assumption)
                             | exact absurd ((cm_at e_n19 (by omega) (by omega)).2 z3) (by assumption)
                             | exact absurd ((fl_at e_n20 (by omega) (by omega)).2 (z7 (by omega))) (by assumption))
                        | exact ⟨fun _ => rfl, fun hh => absurd (by unfold lay8; exact ⟨by omega, (co_at e_n18 (by omega) (by omega)).1 (by assumption), (cm_at e_n19 (by omega) (by omega)).1 (by assumption), by omega, by omega, fun _ => by omega, fun _ => (fl_at e_n20 (by omega) (by omega)).1 (Classical.not_not.1 (by assumption))⟩) hh⟩
                        | exact ⟨fun _ => rfl, fun hh => absurd (by unfold lay8; exact ⟨by omega, (co_at e_n18 (by omega) (by omega)).1 (by assumption), (cm_at e_n19 (by omega) (by omega)).1 (by assumption), by omega, by omega, fun _ => by omega, fun y => absurd (by assumption) y⟩) hh⟩
                  · show ((lay8 n n1 n2 n3 n4 n5 → (4 : Int) = 0) ∧ (¬ lay8 n n1 n2 n3 n4 n5 → (4 : Int) = 4))
                    first
                      | (refine ⟨fun hh => ?_, fun _ => rfl⟩
                         obtain ⟨z1, z2, z3, z4, z5, z6, z7⟩ := hh
                         have b1 := inCo_b z2
                         have b2 := inCm_b z3
                         have b3 := fun y => inFl_b (z7 y)
                         first
                           | (exfalso; omega)
                           | exact absurd ((co_at e_n18 (by omega) (by omega)).2 z2) (by assumption)
                           | exact absurd ((cm_at e_n19 (by omega) (by omega)).2 z3) (by assumption)
                           | exact absurd ((fl_at e_n20 (by omega) (by omega)).2 (z7 (by omega))) (by assumption))
                      | exact ⟨fun _ => rfl, fun hh => absurd (by unfold lay8; exact ⟨by omega, (co_at e_n18 (by omega) (by omega)).1 (by assumption), (cm_at e_n19 (by omega) (by omega)).1 (by assumption), by omega, by omega, fun _ => by omega, fun _ => (fl_at e_n20 (by omega) (by omega)).1 (Classical.not_not.1 (by assumption))⟩) hh⟩
                      | exact ⟨fun _ => rfl, fun hh => absurd (by unfold lay8; exact ⟨by omega, (co_at e_n18 (by omega) (by omega)).1 (by assumption), (cm_at e_n19 (by omega) (by omega)).1 (by assumption), by omega, by omega, fun _ => by omega, fun y => absurd (by assumption) y⟩) hh⟩
                · refine ⟨fun c8 => ?_, fun c8 => ?_⟩
                  · refine ⟨fun c9 => ?_, fun c9 => ?_⟩
                    · refine ⟨fun c10 => ?_, fun c10 => ?_⟩
                      · refine ⟨fun c11 => ?_, fun c11 => ?_⟩
                        · refine ⟨by omega, ?_⟩
                          intro n20 e_n20 l_n20 u_n20
                          refine ⟨fun c12 => ?_, fun c12 => ?_⟩
                          · show ((lay8 n n1 n2 n3 n4 n5 → (4 : Int) = 0) ∧ (¬ lay8 n n1 n2 n3 n4 n5 → (4 : Int) = 4))
                            first
                              | (refine ⟨fun hh => ?_, fun _ => rfl⟩
                                 obtain ⟨z1, z2, z3, z4, z5, z6, z7⟩ := hh
                                 have b1 := inCo_b z2
                                 have b2 := inCm_b z3
                                 have b3 := fun y => inFl_b (z7 y)
                                 first
                                   | (exfalso; omega)
                                   | exact absurd ((co_at e_n18 (by omega) (by omega)).2 z2) (by assumption)
                                   | exact absurd ((cm_at e_n19 (by omega) (by omega)).2 z3) (by assumption)
                                   | exact absurd ((fl_at e_n20 (by omega) (by omega)).2 (z7 (by omega))) (by assumption))
                              | exact ⟨fun _ => rfl, fun hh => absurd (by unfold lay8; exact ⟨by omega, (co_at e_n18 (by omega) (by omega)).1 (by assumption), (cm_at e_n19 (by omega) (by omega)).1 (by assumption), by omega, by omega, fun _ => by omega, fun _ => (fl_at e_n20 (by omega) (by omega)).1 (Classical.not_not.1 (by assumption))⟩) hh⟩
                              | exact ⟨fun _ => rfl, fun hh => absurd (by unfold lay8; exact ⟨by omega, (co_at e_n18 (by omega) (by omega)).1 (by assumption), (cm_at e_n19 (by omega) (by omega)).1 (by assumption), by omega, by omega, fun _ => by omega, fun y => absurd (by assumption) y⟩) hh⟩
                          · show ((lay8 n n1 n2 n3 n4 n5 → (0 : Int) = 0) ∧ (¬ lay8 n n1 n2 n3 n4 n5 → (0 : Int) = 4))
                            first
                              | (refine ⟨fun hh => ?_, fun _ => rfl⟩
                                 obtain ⟨z1, z2, z3, z4, z5, z6, z7⟩ := hh
                                 have b1 := inCo_b z2
                                 have b2 := inCm_b z3
                                 have b3 := fun y => inFl_b (z7 y)
                                 first
                                   | (exfalso; omega)
                                   | exact absurd ((co_at e_n18 (by omega) (by omega)).2 z2) (by assumption)
                                   | exact absurd ((cm_at e_n19 (by omega) (by omega)).2 z3) (by assumption)
                                   | exact absurd ((fl_at e_n20 (by omega) (by omega)).2 (z7 (by omega))) (by assumption))
                              | exact ⟨fun _ => rfl, fun hh => absurd (by unfold lay8; exact ⟨by omega, (co_at e_n18 (by omega) (by omega)).1 (by assumption), (cm_at e_n19 (by omega) (by omega)).1 (by assumption), by omega, by omega, fun _ => by omega, fun _ => (fl_at e_n20 (by omega) (by omega)).1 (Classical.not_not.1 (by assumption))⟩) hh⟩
                              | exact ⟨fun _ => rfl, fun hh => absurd (by unfold lay8; exact ⟨by omega, (co_at e_n18 (by omega) (by omega)).1 (by assumption), (cm_at e_n19 (by omega) (by omega)).1 (by assumption), by omega, by omega, fun _ => by omega, fun y => absurd (by assumption) y⟩) hh⟩
                        · show ((lay8 n n1 n2 n3 n4 n5 → (4 : Int) = 0) ∧ (¬ lay8 n n1 n2 n3 n4 n5 → (4 : Int) = 4))
                          first
                            | (refine ⟨fun hh => ?_, fun _ => rfl⟩
                               obtain ⟨z1, z2, z3, z4, z5, z6, z7⟩ := hh
                               have b1 := inCo_b z2
                               have b2 := inCm_b z3
                               have b3 := fun y => inFl_b (z7 y)
                               first
                                 | (exfalso; omega)
                                 | exact absurd ((co_at e_n18 (by omega) (by omega)).2 z2) (by assumption)
                                 | exact absurd ((cm_at e_n19 (by omega) (by omega)).2 z3) (by assumption)
                                 | exact absurd ((fl_at e_n20 (by omega) (by omega)).2 (z7 (by omega))) (by assumption))
                            | exact ⟨fun _ => rfl, fun hh => absurd (by unfold lay8; exact ⟨by omega, (co_at e_n18 (by omega) (by omega)).1 (by assumption), (cm_at e_n19 (by omega) (by omega)).1 (by assumption), by omega, by omega, fun _ => by omega, fun _ => (fl_at e_n20 (by omega) (by omega)).1 (Classical.not_not.1 (by assumption))⟩) hh⟩
                            | exact ⟨fun _ => rfl, fun hh => absurd (by unfold lay8; exact ⟨by omega, (co_at e_n18 (by omega) (by omega)).1 (by assumption), (cm_at e_n19 (by omega) (by omega)).1 (by assumption), by omega, by omega, fun _ => by omega, fun y => absurd (by assumption) y⟩) hh⟩
                      · show ((lay8 n n1 n2 n3 n4 n5 → (4 : Int) = 0) ∧ (¬ lay8 n n1 n2 n3 n4 n5 → (4 : Int) = 4))
                        first
                          | (refine ⟨fun hh => ?_, fun _ => rfl⟩
                             obtain ⟨z1, z2, z3, z4, z5, z6, z7⟩ := hh
                             have b1 := inCo_b z2
                             have b2 := inCm_b z3
                             have b3 := fun y => inFl_b (z7 y)
                             first
                               | (exfalso; omega)
                               | exact absurd ((co_at e_n18 (by omega) (by omega)).2 z2) (by assumption)
                               | exact absurd ((cm_at e_n19 (by omega) (by omega)).2 z3) (by assumption)
                               | exact absurd ((fl_at e_n20 (by omega) (by omega)).2 (z7 (by omega))) (by assumption))
                          | exact ⟨fun _ => rfl, fun hh => absurd (by unfold lay8; exact ⟨by omega, (co_at e_n18 (by omega) (by omega)).1 (by assumption), (cm_at e_n19 (by omega) (by omega)).1 (by assumption), by omega, by omega, fun _ => by omega, fun _ => (fl_at e_n20 (by omega) (by omega)).1 (Classical.not_not.1 (by assumption))⟩) hh⟩
                          | exact ⟨fun _ => rfl, fun hh => absurd (by unfold lay8; exact ⟨by omega, (co_at e_n18 (by omega) (by omega)).1 (by assumption), (cm_at e_n19 (by omega) (by omega)).1 (by assumption), by omega, by omega, fun _ => by omega, fun y => absurd (by assumption) y⟩) hh⟩
                    · show ((lay8 n n1 n2 n3 n4 n5 → (4 : Int) = 0) ∧ (¬ lay8 n n1 n2 n3 n4 n5 → (4 : Int) = 4))
                      first
                        | (refine ⟨fun hh => ?_, fun _ => rfl⟩
                           obtain ⟨z1, z2, z3, z4, z5, z6, z7⟩ := hh
                           have b1 := inCo_b z2
                           have b2 := inCm_b z3
                           have b3 := fun y => inFl_b (z7 y)
                           first
                             | (exfalso; omega)
                             | exact absurd ((co_at e_n18 (by omega) (by omega)).2 z2) (by assumption)
                             | exact absurd ((cm_at e_n19 (by omega) (by omega)).2 z3) (by assumption)
                             | exact absurd ((fl_at e_n20 (by omega) (by omega)).2 (z7 (by omega))) (by assumption))
                        | exact ⟨fun _ => rfl, fun hh => absurd (by unfold lay8; exact ⟨by omega, (co_at e_n18 (by omega) (by omega)).1 (by assumption), (cm_at e_n19 (by omega) (by omega)).1 (by assumption), by omega, by omega, fun _ => by omega, fun _ => (fl_at e_n20 (by omega) (by omega)).1 (Classical.not_not.1 (by assumption))⟩) hh⟩
                        | exact ⟨fun _ => rfl, fun hh => absurd (by unfold lay8; exact ⟨by omega, (co_at e_n18 (by omega) (by omega)).1 (by assumption), (cm_at e_n19 (by omega) (by omega)).1 (by assumption), by omega, by omega, fun _ => by omega, fun y => absurd (by assumption) y⟩) hh⟩
                  · refine ⟨fun c9 => ?_, fun c9 => ?_⟩
                    · refine ⟨fun c10 => ?_, fun c10 => ?_⟩
                      · refine ⟨fun c11 => ?_, fun c11 => ?_⟩
                        · refine ⟨fun c12 => ?_, fun c12 => ?_⟩
                          · refine ⟨by omega, ?_⟩
                            intro n20 e_n20 l_n20 u_n20
                            refine ⟨fun c13 => ?_, fun c13 => ?_⟩
                            · show ((lay8 n n1 n2 n3 n4 n5 → (4 : Int) = 0) ∧ (¬ lay8 n n1 n2 n3 n4 n5 → (4 : Int) = 4))
                              first
                                | (refine ⟨fun hh => ?_, fun _ => rfl⟩
                                   obtain ⟨z1, z2, z3, z4, z5, z6, z7⟩ := hh
                                   have b1 := inCo_b z2
                                   have b2 := inCm_b z3
                                   have b3 := fun y => inFl_b (z7 y)
                                   first
                                     | (exfalso; omega)
                                     | exact absurd ((co_at e_n18 (by omega) (by omega)).2 z2) (by assumption)
                                     | exact absurd ((cm_at e_n19 (by omega) (by omega)).2 z3) (by assumption)
                                     | exact absurd ((fl_at e_n20 (by omega) (by omega)).2 (z7 (by omega))) (by assumption))
                                | exact ⟨fun _ => rfl, fun hh => absurd (by unfold lay8; exact ⟨by omega, (co_at e_n18 (by omega) (by omega)).1 (by assumption), (cm_at e_n19 (by omega) (by omega)).1 (by assumption), by omega, by omega, fun _ => by omega, fun _ => (fl_at e_n20 (by omega) (by omega)).1 (Classical.not_not.1 (by assumption))⟩) hh⟩
                                | exact ⟨fun _ => rfl, fun hh => absurd (by unfold lay8; exact ⟨by omega, (co_at e_n18 (by omega) (by omega)).1 (by assumption), (cm_at e_n19 (by omega) (by omega)).1 (by assumption), by omega, by omega, fun _ => by omega, fun y => absurd (by assumption) y⟩) hh⟩
                            · show ((lay8 n n1 n2 n3 n4 n5 → (0 : Int) = 0) ∧ (¬ lay8 n n1 n2 n3 n4 n5 → (0 : Int) = 4))
                              first
                                | (refine ⟨fun hh => ?_, fun _ => rfl⟩
                                   obtain ⟨z1, z2, z3, z4, z5, z6, z7⟩ := hh
                                   have b1 := inCo_b z2
                                   have b2 := inCm_b z3
                                   have b3 := fun y => inFl_b (z7 y)
                                   first
                                     | (exfalso; omega)
                                     | exact absurd ((co_at e_n18 (by omega) (by omega)).2 z2) (by assumption)
                                     | exact absurd ((cm_at e_n19 (by omega) (by omega)).2 z3) (by assumption)
                                     | exact absurd ((fl_at e_n20 (by omega) (by omega)).2 (z7 (by omega))) (by assumption))
                                | exact ⟨fun _ => rfl, fun hh => absurd (by unfold lay8; exact ⟨by omega, (co_at e_n18 (by omega) (by omega)).1 (by assumption), (cm_at e_n19 (by omega) (by omega)).1 (by assumption), by omega, by omega, fun _ => by omega, fun _ => (fl_at e_n20 (by omega) (by omega)).1 (Classical.not_not.1 (by assumption))⟩) hh⟩
                                | exact ⟨fun _ => rfl, fun hh => absurd (by unfold lay8; exact ⟨by omega, (co_at e_n18 (by omega) (by omega)).1 (by assumption), (cm_at e_n19 (by omega) (by omega)).1 (by assumption), by omega, by omega, fun _ => by omega, fun y => absurd (by assumption) y⟩) hh⟩
                          · show ((lay8 n n1 n2 n3 n4 n5 → (4 : Int) = 0) ∧ (¬ lay8 n n1 n2 n3 n4 n5 → (4 : Int) = 4))
                            first
                              | (refine ⟨fun hh => ?_, fun _ => rfl⟩
                                 obtain ⟨z1, z2, z3, z4, z5, z6, z7⟩ := hh
                                 have b1 := inCo_b z2
                                 have b2 := inCm_b z3
                                 have b3 := fun y => inFl_b (z7 y)
                                 first
                                   | (exfalso; omega)
                                   | exact absurd ((co_at e_n18 (by omega) (by omega)).2 z2) (by assumption)
                                   | exact absurd ((cm_at e_n19 (by omega) (by omega)).2 z3) (by assumption)
                                   | exact absurd ((fl_at e_n20 (by omega) (by omega)).2 (z7 (by omega))) (by assumption))
                              | exact ⟨fun _ => rfl, fun hh => absurd (by unfold lay8; exact ⟨by omega, (co_at e_n18 (by omega) (by omega)).1 (by assumption), (cm_at e_n19 (by omega) (by omega)).1 (by assumption), by omega, by omega, fun _ => by omega, fun _ => (fl_at e_n20 (by omega) (by omega)).1 (Classical.not_not.1 (by assumption))⟩) hh⟩
                              | exact ⟨fun _ => rfl, fun hh => absurd (by unfold lay8; exact ⟨by omega, (co_at e_n18 (by omega) (by omega)).1 (by assumption), (cm_at e_n19 (by omega) (by omega)).1 (by assumption), by omega, by omega, fun _ => by omega, fun y => absurd (by assumption) y⟩) hh⟩
                        · show ((lay8 n n1 n2 n3 n4 n5 → (4 : Int) = 0) ∧ (¬ lay8 n n1 n2 n3 n4 n5 → (4 : Int) = 4))
                          first
                            | (refine ⟨fun hh => ?_, fun _ => rfl⟩
                               obtain ⟨z1, z2, z3, z4, z5, z6, z7⟩ := hh
                               have b1 := inCo_b z2
                               have b2 := inCm_b z3
                               have b3 := fun y => inFl_b (z7 y)
                               first
                                 | (exfalso; omega)
                                 | exact absurd ((co_at e_n18 (by omega) (by omega)).2 z2) (by assumption)
                                 | exact absurd ((cm_at e_n19 (by omega) (by omega)).2 z3) (by assumption)
                                 | exact absurd ((fl_at e_n20 (by omega) (by omega)).2 (z7 (by omega))) (by assumption))
                            | exact ⟨fun _ => rfl, fun hh => absurd (by unfold lay8; exact ⟨by omega, (co_at e_n18 (by omega) (by omega)).1 (by assumption), (cm_at e_n19 (by omega) (by omega)).1 (by assumption), by omega, by omega, fun _ => by omega, fun _ => (fl_at e_n20 (by omega) (by omega)).1 (Classical.not_not.1 (by assumption))⟩) hh⟩
                            | exact ⟨fun _ => rfl, fun hh => absurd (by unfold lay8; exact ⟨by omega, (co_at e_n18 (by omega) (by omega)).1 (by assumption), (cm_at e_n19 (by omega) (by omega)).1 (by assumption), by omega, by omega, fun _ => by omega, fun y => absurd (by assumption) y⟩) hh⟩
                      · show ((lay8 n n1 n2 n3 n4 n5 → (4 : Int) = 0) ∧ (¬ lay8 n n1 n2 n3 n4 n5 → (4 : Int) = 4))
                        first
                          | (refine ⟨fun hh => ?_, fun _ => rfl⟩
                             obtain ⟨z1, z2, z3, z4, z5, z6, z7⟩ := hh
                             have b1 := inCo_b z2
                             have b2 := inCm_b z3
                             have b3 := fun y => inFl_b (z7 y)
                             first
                               | (exfalso; omega)
                               | exact absurd ((co_at e_n18 (by omega) (by omega)).2 z2) (by assumption)
                               | exact absurd ((cm_at e_n19 (by omega) (by omega)).2 z3) (by assumption)
                               | exact absurd ((fl_at e_n20 (by omega) (by omega)).2 (z7 (by omega))) (by assumption))
                          | exact ⟨fun _ => rfl, fun hh => absurd (by unfold lay8; exact ⟨by omega, (co_at e_n18 (by omega) (by omega)).1 (by assumption), (cm_at e_n19 (by omega) (by omega)).1 (by assumption), by omega, by omega, fun _ => by omega, fun _ => (fl_at e_n20 (by omega) (by omega)).1 (Classical.not_not.1 (by assumption))⟩) hh⟩
                          | exact ⟨fun _ => rfl, fun hh => absurd (by unfold lay8; exact ⟨by omega, (co_at e_n18 (by omega) (by omega)).1 (by assumption), (cm_at e_n19 (by omega) (by omega)).1 (by assumption), by omega, by omega, fun _ => by omega, fun y => absurd (by assumption) y⟩) hh⟩
                    · refine ⟨fun c10 => ?_, fun c10 => ?_⟩
                      · refine ⟨fun c11 => ?_, fun c11 => ?_⟩
                        · refine ⟨fun c12 => ?_, fun c12 => ?_⟩
                          · refine ⟨fun c13 => ?_, fun c13 => ?_⟩
                            · refine ⟨by omega, ?_⟩
                              intro n20 e_n20 l_n20 u_n20
                              refine ⟨fun c14 => ?_, fun c14 => ?_⟩
                              · show ((lay8 n n1 n2 n3 n4 n5 → (4 : Int) = 0) ∧ (¬ lay8 n n1 n2 n3 n4 n5 → (4 : Int) = 4))
                                first
                                  | (refine ⟨fun hh => ?_, fun _ => rfl⟩
                                     obtain ⟨z1, z2, z3, z4, z5, z6, z7⟩ := hh
                                     have b1 := inCo_b z2
                                     have b2 := inCm_b z3
                                     have b3 := fun y => inFl_b (z7 y)
                                     first
                                       | (exfalso; omega)
                                       | exact absurd ((co_at e_n18 (by omega) (by omega)).2 z2) (by assumption)
                                       | exact absurd ((cm_at e_n19 (by omega) (by omega)).2 z3) (by assumption)
                                       | exact absurd ((fl_at e_n20 (by omega) (by omega)).2 (z7 (by omega))) (by assumption))
                                  | exact ⟨fun _ => rfl, fun hh => absurd (by unfold lay8; exact ⟨by omega, (co_at e_n18 (by omega) (by omega)).1 (by assumption), (cm_at e_n19 (by omega) (by omega)).1 (by assumption), by omega, by omega, fun _ => by omega, fun _ => (fl_at e_n20 (by omega) (by omega)).1 (Classical.not_not.1 (by assumption))⟩) hh⟩
                                  | exact ⟨fun _ => rfl, fun hh => absurd (by unfold lay8; exact ⟨by omega, (co_at e_n18 (by omega) (by omega)).1 (by assumption), (cm_at e_n19 (by omega) (by omega)).1 (by assumption), by omega, by omega, fun _ => by omega, fun y => absurd (by assumption) y⟩) hh⟩
                              · show ((lay8 n n1 n2 n3 n4 n5 → (0 : Int) = 0) ∧ (¬ lay8 n n1 n2 n3 n4 n5 → (0 : Int) = 4))
                                first
                                  | (refine ⟨fun hh => ?_, fun _ => rfl⟩
                                     obtain ⟨z1, z2, z3, z4, z5, z6, z7⟩ := hh
                                     have b1 := inCo_b z2
                                     have b2 := inCm_b z3
                                     have b3 := fun y => inFl_b (z7 y)
                                     first
                                       | (exfalso; omega)
                                       | exact absurd ((co_at e_n18 (by omega) (by omega)).2 z2) (by assumption)
                                       | exact absurd ((cm_at e_n19 (by omega) (by omega)).2 z3) (by assumption)
                                       | exact absurd ((fl_at e_n20 (by omega) (by omega)).2 (z7 (by omega))) (by assumption))
                                  | exact ⟨fun _ => rfl, fun hh => absurd (by unfold lay8; exact ⟨by omega, (co_at e_n18 (by omega) (by omega)).1 (by assumption), (cm_at e_n19 (by omega) (by omega)).1 (by assumption), by omega, by omega, fun _ => by omega, fun _ => (fl_at e_n20 (by omega) (by omega)).1 (Classical.not_not.1 (by assumption))⟩) hh⟩
                                  | exact ⟨fun _ => rfl, fun hh => absurd (by unfold lay8; exact ⟨by omega, (co_at e_n18 (by omega) (by omega)).1 (by assumption), (cm_at e_n19 (by omega) (by omega)).1 (by assumption), by omega, by omega, fun _ => by omega, fun y => absurd (by assumption) y⟩) hh⟩
                            · show ((lay8 n n1 n2 n3 n4 n5 → (4 : Int) = 0) ∧ (¬ lay8 n n1 n2 n3 n4 n5 → (4 : Int) = 4))
                              first
                                | (refine ⟨fun hh => ?_, fun _ => rfl⟩
                                   obtain ⟨z1, z2, z3, z4, z5, z6, z7⟩ := hh
                                   have b1 := inCo_b z2
                                   have b2 := inCm_b z3
                                   have b3 := fun y => inFl_b (z7 y)
                                   first
                                     | (exfalso; omega)
                                     | exact absurd ((co_at e_n18 (by omega) (by omega)).2 z2) (by assumption)
                                     | exact absurd ((cm_at e_n19 (by omega) (by omega)).2 z3) (by assumption)
                                     | exact absurd ((fl_at e_n20 (by omega) (by omega)).2 (z7 (by omega))) (by assumption))
                                | exact ⟨fun _ => rfl, fun hh => absurd (by unfold lay8; exact ⟨by omega, (co_at e_n18 (by omega) (by omega)).1 (by assumption), (cm_at e_n19 (by omega) (by omega)).1 (by assumption), by omega, by omega, fun _ => by omega, fun _ => (fl_at e_n20 (by omega) (by omega)).1 (Classical.not_not.1 (by assumption))⟩) hh⟩
                                | exact ⟨fun _ => rfl, fun hh => absurd (by unfold lay8; exact ⟨by omega, (co_at e_n18 (by omega) (by omega)).1 (by assumption), (cm_at e_n19 (by omega) (by omega)).1 (by assumption), by omega, by omega, fun _ => by omega, fun y => absurd (by assumption) y⟩) hh⟩
                          · show ((lay8 n n1 n2 n3 n4 n5 → (4 : Int) = 0) ∧ (¬ lay8 n n1 n2 n3 n4 n5 → (4 : Int) = 4))
                            first
                              | (refine ⟨fun hh => ?_, fun _ => rfl⟩
                                 obtain ⟨z1, z2, z3, z4, z5, z6, z7⟩ := hh
                                 have b1 := inCo_b z2
                                 have b2 := inCm_b z3
                                 have b3 := fun y => inFl_b (z7 y)
                                 first
                                   | (exfalso; omega)
                                   | exact absurd ((co_at e_n18 (by omega) (by omega)).2 z2) (by assumption)
                                   | exact absurd ((cm_at e_n19 (by omega) (by omega)).2 z3) (by assumption)
                                   | exact absurd ((fl_at e_n20 (by omega) (by omega)).2 (z7 (by omega))) (by assumption))
                              | exact ⟨fun _ => rfl, fun hh => absurd (by unfold lay8; exact ⟨by omega, (co_at e_n18 (by omega) (by omega)).1 (by assumption), (cm_at e_n19 (by omega) (by omega)).1 (by assumption), by omega, by omega, fun _ => by omega, fun _ => (fl_at e_n20 (by omega) (by omega)).1 (Classical.not_not.1 (by assumption))⟩) hh⟩
                              | exact ⟨fun _ => rfl, fun hh => absurd (by unfold lay8; exact ⟨by omega, (co_at e_n18 (by omega) (by omega)).1 (by assumption), (cm_at e_n19 (by omega) (by omega)).1 (by assumption), by omega, by omega, fun _ => by omega, fun y => absurd (by assumption) y⟩) hh⟩
                        · show ((lay8 n n1 n2 n3 n4 n5 → (4 : Int) = 0) ∧ (¬ lay8 n n1 n2 n3 n4 n5 → (4 : Int) = 4))
                          first
                            | (refine ⟨fun hh => ?_, fun _ => rfl⟩
                               obtain ⟨z1, z2, z3, z4, z5, z6, z7⟩ := hh
                               have b1 := inCo_b z2
                               have b2 := inCm_b z3
                               have b3 := fun y => inFl_b (z7 y)
                               first
                                 | (exfalso; omega)
                                 | exact absurd ((co_at e_n18 (by omega) (by omega)).2 z2) (by assumption)
                                 | exact absurd ((cm_at e_n19 (by omega) (by omega)).2 z3) (by assumption)
                                 | exact absurd ((fl_at e_n20 (by omega) (by omega)).2 (z7 (by omega))) (by assumption))
                            | exact ⟨fun _ => rfl, fun hh => absurd (by unfold lay8; exact ⟨by omega, (co_at e_n18 (by omega) (by omega)).1 (by assumption), (cm_at e_n19 (by omega) (by omega)).1 (by assumption), by omega, by omega, fun _ => by omega, fun _ => (fl_at e_n20 (by omega) (by omega)).1 (Classical.not_not.1 (by assumption))⟩) hh⟩
                            | exact ⟨fun _ => rfl, fun hh => absurd (by unfold lay8; exact ⟨by omega, (co_at e_n18 (by omega) (by omega)).1 (by assumption), (cm_at e_n19 (by omega) (by omega)).1 (by assumption), by omega, by omega, fun _ => by omega, fun y => absurd (by assumption) y⟩) hh⟩
                      · show ((lay8 n n1 n2 n3 n4 n5 → (4 : Int) = 0) ∧ (¬ lay8 n n1 n2 n3 n4 n5 → (4 : Int) = 4))
                        first
                          | (refine ⟨fun hh => ?_, fun _ => rfl⟩
                             obtain ⟨z1, z2, z3, z4, z5, z6, z7⟩ := hh
                             have b1 := inCo_b z2
                             have b2 := inCm_b z3
                             have b3 := fun y => inFl_b (z7 y)
                             first
                               | (exfalso; omega)
                               | exact absurd ((co_at e_n18 (by omega) (by omega)).2 z2) (by assumption)
                               | exact absurd ((cm_at e_n19 (by omega) (by omega)).2 z3) (by assumption)
                               | exact absurd ((fl_at e_n20 (by omega) (by omega)).2 (z7 (by omega))) (by assumption))
                          | exact ⟨fun _ => rfl, fun hh => absurd (by unfold lay8; exact ⟨by omega, (co_at e_n18 (by omega) (by omega)).1 (by assumption), (cm_at e_n19 (by omega) (by omega)).1 (by assumption), by omega, by omega, fun _ => by omega, fun _ => (fl_at e_n20 (by omega) (by omega)).1 (Classical.not_not.1 (by assumption))⟩) hh⟩
                          | exact ⟨fun _ => rfl, fun hh => absurd (by unfold lay8; exact ⟨by omega, (co_at e_n18 (by omega) (by omega)).1 (by assumption), (cm_at e_n19 (by omega) (by omega)).1 (by assumption), by omega, by omega, fun _ => by omega, fun y => absurd (by assumption) y⟩) hh⟩
              · refine ⟨fun c7 => ?_, fun c7 => ?_⟩
                · show ((lay8 n n1 n2 n3 n4 n5 → (4 : Int) = 0) ∧ (¬ lay8 n n1 n2 n3 n4 n5 → (4 : Int) = 4))
                  first
                    | (refine ⟨fun hh => ?_, fun _ => rfl⟩
                       obtain ⟨z1, z2, z3, z4, z5, z6, z7⟩ := hh
                       have b1 := inCo_b z2
                       have b2 := inCm_b z3
                       have b3 := fun y => inFl_b (z7 y)
                       first
                         | (exfalso; omega)
                         | exact absurd ((co_at e_n18 (by omega) (by omega)).2 z2) (by assumption)
                         | exact absurd ((cm_at e_n19 (by omega) (by omega)).2 z3) (by assumption)
                         | exact absurd ((fl_at e_n20 (by omega) (by omega)).2 (z7 (by omega))) (by assumption))
                    | exact ⟨fun _ => rfl, fun hh => absurd (by unfold lay8; exact ⟨by omega, (co_at e_n18 (by omega) (by omega)).1 (by assumption), (cm_at e_n19 (by omega) (by omega)).1 (by assumption), by omega, by omega, fun _ => by omega, fun _ => (fl_at e_n20 (by omega) (by omega)).1 (Classical.not_not.1 (by assumption))⟩) hh⟩
                    | exact ⟨fun _ => rfl, fun hh => absurd (by unfold lay8; exact ⟨by omega, (co_at e_n18 (by omega) (by omega)).1 (by assumption), (cm_at e_n19 (by omega) (by omega)).1 (by assumption), by omega, by omega, fun _ => by omega, fun y => absurd (by assumption) y⟩) hh⟩
                · refine ⟨fun c8 => ?_, fun c8 => ?_⟩
                  · show ((lay8 n n1 n2 n3 n4 n5 → (4 : Int) = 0) ∧ (¬ lay8 n n1 n2 n3 n4 n5 → (4 : Int) = 4))
                    first
                      | (refine ⟨fun hh => ?_, fun _ => rfl⟩
                         obtain ⟨z1, z2, z3, z4, z5, z6, z7⟩ := hh
                         have b1 := inCo_b z2
                         have b2 := inCm_b z3
                         have b3 := fun y => inFl_b (z7 y)
                         first
                           | (exfalso; omega)
                           | exact absurd ((co_at e_n18 (by omega) (by omega)).2 z2) (by assumption)
                           | exact absurd ((cm_at e_n19 (by omega) (by omega)).2 z3) (by assumption)
                           | exact absurd ((fl_at e_n20 (by omega) (by omega)).2 (z7 (by omega))) (by assumption))
                      | exact ⟨fun _ => rfl, fun hh => absurd (by unfold lay8; exact ⟨by omega, (co_at e_n18 (by omega) (by omega)).1 (by assumption), (cm_at e_n19 (by omega) (by omega)).1 (by assumption), by omega, by omega, fun _ => by omega, fun _ => (fl_at e_n20 (by omega) (by omega)).1 (Classical.not_not.1 (by assumption))⟩) hh⟩
                      | exact ⟨fun _ => rfl, fun hh => absurd (by unfold lay8; exact ⟨by omega, (co_at e_n18 (by omega) (by omega)).1 (by assumption), (cm_at e_n19 (by omega) (by omega)).1 (by assumption), by omega, by omega, fun _ => by omega, fun y => absurd (by assumption) y⟩) hh⟩
                  · refine ⟨fun c9 => ?_, fun c9 => ?_⟩
                    · show ((lay8 n n1 n2 n3 n4 n5 → (4 : Int) = 0) ∧ (¬ lay8 n n1 n2 n3 n4 n5 → (4 : Int) = 4))
                      first
                        | (refine ⟨fun hh => ?_, fun _ => rfl⟩
                           obtain ⟨z1, z2, z3, z4, z5, z6, z7⟩ := hh
                           have b1 := inCo_b z2
                           have b2 := inCm_b z3
                           have b3 := fun y => inFl_b (z7 y)
                           first
                             | (exfalso; omega)
                             | exact absurd ((co_at e_n18 (by omega) (by omega)).2 z2) (by assumption)
                             | exact absurd ((cm_at e_n19 (by omega) (by omega)).2 z3) (by assumption)
                             | exact absurd ((fl_at e_n20 (by omega) (by omega)).2 (z7 (by omega))) (by assumption))
                        | exact ⟨fun _ => rfl, fun hh => absurd (by unfold lay8; exact ⟨by omega, (co_at e_n18 (by omega) (by omega)).1 (by assumption), (cm_at e_n19 (by omega) (by omega)).1 (by assumption), by omega, by omega, fun _ => by omega, fun _ => (fl_at e_n20 (by omega) (by omega)).1 (Classical.not_not.1 (by assumption))⟩) hh⟩
                        | exact ⟨fun _ => rfl, fun hh => absurd (by unfold lay8; exact ⟨by omega, (co_at e_n18 (by omega) (by omega)).1 (by assumption), (cm_at e_n19 (by omega) (by omega)).1 (by assumption), by omega, by omega, fun _ => by omega, fun y => absurd (by assumption) y⟩) hh⟩
                    · refine ⟨fun c10 => ?_, fun c10 => ?_⟩
                      · show ((lay8 n n1 n2 n3 n4 n5 → (4 : Int) = 0) ∧ (¬ lay8 n n1 n2 n3 n4 n5 → (4 : Int) = 4))
                        first
                          | (refine ⟨fun hh => ?_, fun _ => rfl⟩
                             obtain ⟨z1, z2, z3, z4, z5, z6, z7⟩ := hh
                             have b1 := inCo_b z2
                             have b2 := inCm_b z3
                             have b3 := fun y => inFl_b (z7 y)
                             first
                               | (exfalso; omega)
                               | exact absurd ((co_at e_n18 (by omega) (by omega)).2 z2) (by assumption)
                               | exact absurd ((cm_at e_n19 (by omega) (by omega)).2 z3) (by assumption)
                               | exact absurd ((fl_at e_n20 (by omega) (by omega)).2 (z7 (by omega))) (by assumption))
                          | exact ⟨fun _ => rfl, fun hh => absurd (by unfold lay8; exact ⟨by omega, (co_at e_n18 (by omega) (by omega)).1 (by assumption), (cm_at e_n19 (by omega) (by omega)).1 (by assumption), by omega, by omega, fun _ => by omega, fun _ => (fl_at e_n20 (by omega) (by omega)).1 (Classical.not_not.1 (by assumption))⟩) hh⟩
                          | exact ⟨fun _ => rfl, fun hh => absurd (by unfold lay8; exact ⟨by omega, (co_at e_n18 (by omega) (by omega)).1 (by assumption), (cm_at e_n19 (by omega) (by omega)).1 (by assumption), by omega, by omega, fun _ => by omega, fun y => absurd (by assumption) y⟩) hh⟩
                      · show ((lay8 n n1 n2 n3 n4 n5 → (4 : Int) = 0) ∧ (¬ lay8 n n1 n2 n3 n4 n5 → (4 : Int) = 4))
                        first
                          | (refine ⟨fun hh => ?_, fun _ => rfl⟩
                             obtain ⟨z1, z2, z3, z4, z5, z6, z7⟩ := hh
                             have b1 := inCo_b z2
                             have b2 := inCm_b z3
                             have b3 := fun y => inFl_b (z7 y)
                             first
                               | (exfalso; omega)
                               | exact absurd ((co_at e_n18 (by omega) (by omega)).2 z2) (by assumption)
                               | exact absurd ((cm_at e_n19 (by omega) (by omega)).2 z3) (by assumption)
                               | exact absurd ((fl_at e_n20 (by omega) (by omega)).2 (z7 (by omega))) (by assumption))
                          | exact ⟨fun _ => rfl, fun hh => absurd (by unfold lay8; exact ⟨by omega, (co_at e_n18 (by omega) (by omega)).1 (by assumption), (cm_at e_n19 (by omega) (by omega)).1 (by assumption), by omega, by omega, fun _ => by omega, fun _ => (fl_at e_n20 (by omega) (by omega)).1 (Classical.not_not.1 (by assumption))⟩) hh⟩
                          | exact ⟨fun _ => rfl, fun hh => absurd (by unfold lay8; exact ⟨by omega, (co_at e_n18 (by omega) (by omega)).1 (by assumption), (cm_at e_n19 (by omega) (by omega)).1 (by assumption), by omega, by omega, fun _ => by omega, fun y => absurd (by assumption) y⟩) hh⟩
            · refine ⟨fun c6 => ?_, fun c6 => ?_⟩
              · show ((lay8 n n1 n2 n3 n4 n5 → (4 : Int) = 0) ∧ (¬ lay8 n n1 n2 n3 n4 n5 → (4 : Int) = 4))
                first
                  | (refine ⟨fun hh => ?_, fun _ => rfl⟩
                     obtain ⟨z1, z2, z3, z4, z5, z6, z7⟩ := hh
                     have b1 := inCo_b z2
                     have b2 := inCm_b z3
                     have b3 := fun y => inFl_b (z7 y)
                     first
                       | (exfalso; omega)
                       | exact absurd ((co_at e_n18 (by omega) (by omega)).2 z2) (by assumption)
                       | exact absurd ((cm_at e_n19 (by omega) (by omega)).2 z3) (by assumption)
                       | exact absurd ((fl_at e_n20 (by omega) (by omega)).2 (z7 (by omega))) (by assumption))
                  | exact ⟨fun _ => rfl, fun hh => absurd (by unfold lay8; exact ⟨by omega, (co_at e_n18 (by omega) (by omega)).1 (by assumption), (cm_at e_n19 (by omega) (by omega)).1 (by assumption), by omega, by omega, fun _ => by omega, fun _ => (fl_at e_n20 (by omega) (by omega)).1 (Classical.not_not.1 (by assumption))⟩) hh⟩
                  | exact ⟨fun _ => rfl, fun hh => absurd (by unfold lay8; exact ⟨by omega, (co_at e_n18 (by omega) (by omega)).1 (by assumption), (cm_at e_n19 (by omega) (by omega)).1 (by assumption), by omega, by omega, fun _ => by omega, fun y => absurd (by assumption) y⟩) hh⟩
              · refine ⟨fun c7 => ?_, fun c7 => ?_⟩
                · show ((lay8 n n1 n2 n3 n4 n5 → (4 : Int) = 0) ∧ (¬ lay8 n n1 n2 n3 n4 n5 → (4 : Int) = 4))
                  first
                    | (refine ⟨fun hh => ?_, fun _ => rfl⟩
                       obtain ⟨z1, z2, z3, z4, z5, z6, z7⟩ := hh
                       have b1 := inCo_b z2
                       have b2 := inCm_b z3
                       have b3 := fun y => inFl_b (z7 y)
                       first
                         | (exfalso; omega)
                         | exact absurd ((co_at e_n18 (by omega) (by omega)).2 z2) (by assumption)
                         | exact absurd ((cm_at e_n19 (by omega) (by omega)).2 z3) (by assumption)
                         | exact absurd ((fl_at e_n20 (by omega) (by omega)).2 (z7 (by omega))) (by assumption))
                    | exact ⟨fun _ => rfl, fun hh => absurd (by unfold lay8; exact ⟨by omega, (co_at e_n18 (by omega) (by omega)).1 (by assumption), (cm_at e_n19 (by omega) (by omega)).1 (by assumption), by omega, by omega, fun _ => by omega, fun _ => (fl_at e_n20 (by omega) (by omega)).1 (Classical.not_not.1 (by assumption))⟩) hh⟩
                    | exact ⟨fun _ => rfl, fun hh => absurd (by unfold lay8; exact ⟨by omega, (co_at e_n18 (by omega) (by omega)).1 (by assumption), (cm_at e_n19 (by omega) (by omega)).1 (by assumption), by omega, by omega, fun _ => by omega, fun y => absurd (by assumption) y⟩) hh⟩
                · refine ⟨fun c8 => ?_, fun c8 => ?_⟩
                  · show ((lay8 n n1 n2 n3 n4 n5 → (4 : Int) = 0) ∧ (¬ lay8 n n1 n2 n3 n4 n5 → (4 : Int) = 4))
                    first
                      | (refine ⟨fun hh => ?_, fun _ => rfl⟩
                         obtain ⟨z1, z2, z3, z4, z5, z6, z7⟩ := hh
                         have b1 := inCo_b z2
                         have b2 := inCm_b z3
                         have b3 := fun y => inFl_b (z7 y)
                         first
                           | (exfalso; omega)
                           | exact absurd ((co_at e_n18 (by omega) (by omega)).2 z2) (by assumption)
                           | exact absurd ((cm_at e_n19 (by omega) (by omega)).2 z3) (by assumption)
                           | exact absurd ((fl_at e_n20 (by omega) (by omega)).2 (z7 (by omega))) (by assumption))
                      | exact ⟨fun _ => rfl, fun hh => absurd (by unfold lay8; exact ⟨by omega, (co_at e_n18 (by omega) (by omega)).1 (by assumption), (cm_at e_n19 (by omega) (by omega)).1 (by assumption), by omega, by omega, fun _ => by omega, fun _ => (fl_at e_n20 (by omega) (by omega)).1 (Classical.not_not.1 (by assumption))⟩) hh⟩
                      | exact ⟨fun _ => rfl, fun hh => absurd (by unfold lay8; exact ⟨by omega, (co_at e_n18 (by omega) (by omega)).1 (by assumption), (cm_at e_n19 (by omega) (by omega)).1 (by assumption), by omega, by omega, fun _ => by omega, fun y => absurd (by assumption) y⟩) hh⟩
                  · refine ⟨fun c9 => ?_, fun c9 => ?_⟩
                    · show ((lay8 n n1 n2 n3 n4 n5 → (4 : Int) = 0) ∧ (¬ lay8 n n1 n2 n3 n4 n5 → (4 : Int) = 4))
                      first
                        | (refine ⟨fun hh => ?_, fun _ => rfl⟩
                           obtain ⟨z1, z2, z3, z4, z5, z6, z7⟩ := hh
                           have b1 := inCo_b z2
                           have b2 := inCm_b z3
                           have b3 := fun y => inFl_b (z7 y)
                           first
                             | (exfalso; omega)
                             | exact absurd ((co_at e_n18 (by omega) (by omega)).2 z2) (by assumption)
                             | exact absurd ((cm_at e_n19 (by omega) (by omega)).2 z3) (by assumption)
                             | exact absurd ((fl_at e_n20 (by omega) (by omega)).2 (z7 (by omega))) (by assumption))
                        | exact ⟨fun _ => rfl, fun hh => absurd (by unfold lay8; exact ⟨by omega, (co_at e_n18 (by omega) (by omega)).1 (by assumption), (cm_at e_n19 (by omega) (by omega)).1 (by assumption), by omega, by omega, fun _ => by omega, fun _ => (fl_at e_n20 (by omega) (by omega)).1 (Classical.not_not.1 (by assumption))⟩) hh⟩
                        | exact ⟨fun _ => rfl, fun hh => absurd (by unfold lay8; exact ⟨by omega, (co_at e_n18 (by omega) (by omega)).1 (by assumption), (cm_at e_n19 (by omega) (by omega)).1 (by assumption), by omega, by omega, fun _ => by omega, fun y => absurd (by assumption) y⟩) hh⟩
                    · show ((lay8 n n1 n2 n3 n4 n5 → (4 : Int) = 0) ∧ (¬ lay8 n n1 n2 n3 n4 n5 → (4 : Int) = 4))
                      first
                        | (refine ⟨fun hh => ?_, fun _ => rfl⟩
                           obtain ⟨z1, z2, z3, z4, z5, z6, z7⟩ := hh
                           have b1 := inCo_b z2
                           have b2 := inCm_b z3
                           have b3 := fun y => inFl_b (z7 y)
                           first
                             | (exfalso; omega)
                             | exact absurd ((co_at e_n18 (by omega) (by omega)).2 z2) (by assumption)
                             | exact absurd ((cm_at e_n19 (by omega) (by omega)).2 z3) (by assumption)
                             | exact absurd ((fl_at e_n20 (by omega) (by omega)).2 (z7 (by omega))) (by assumption))
                        | exact ⟨fun _ => rfl, fun hh => absurd (by unfold lay8; exact ⟨by omega, (co_at e_n18 (by omega) (by omega)).1 (by assumption), (cm_at e_n19 (by omega) (by omega)).1 (by assumption), by omega, by omega, fun _ => by omega, fun _ => (fl_at e_n20 (by omega) (by omega)).1 (Classical.not_not.1 (by assumption))⟩) hh⟩
                        | exact ⟨fun _ => rfl, fun hh => absurd (by unfold lay8; exact ⟨by omega, (co_at e_n18 (by omega) (by omega)).1 (by assumption), (cm_at e_n19 (by omega) (by omega)).1 (by assumption), by omega, by omega, fun _ => by omega, fun y => absurd (by assumption) y⟩) hh⟩
          · refine ⟨fun c5 => ?_, fun c5 => ?_⟩
            · show ((lay8 n n1 n2 n3 n4 n5 → (4 : Int) = 0) ∧ (¬ lay8 n n1 n2 n3 n4 n5 → (4 : Int) = 4))
              first
                | (refine ⟨fun hh => ?_, fun _ => rfl⟩
                   obtain ⟨z1, z2, z3, z4, z5, z6, z7⟩ := hh
                   have b1 := inCo_b z2
                   have b2 := inCm_b z3
                   have b3 := fun y => inFl_b (z7 y)
                   first
                     | (exfalso; omega)
                     | exact absurd ((co_at e_n18 (by omega) (by omega)).2 z2) (by assumption)
                     | exact absurd ((cm_at e_n19 (by omega) (by omega)).2 z3) (by assumption)
                     | exact absurd ((fl_at e_n20 (by omega) (by omega)).2 (z7 (by omega))) (by assumption))
                | exact ⟨fun _ => rfl, fun hh => absurd (by unfold lay8; exact ⟨by omega, (co_at e_n18 (by omega) (by omega)).1 (by assumption), (cm_at e_n19 (by omega) (by omega)).1 (by assumption), by omega, by omega, fun _ => by omega, fun _ => (fl_at e_n20 (by omega) (by omega)).1 (Classical.not_not.1 (by assumption))⟩) hh⟩
                | exact ⟨fun _ => rfl, fun hh => absurd (by unfold lay8; exact ⟨by omega, (co_at e_n18 (by omega) (by omega)).1 (by assumption), (cm_at e_n19 (by omega) (by omega)).1 (by assumption), by omega, by omega, fun _ => by omega, fun y => absurd (by assumption) y⟩) hh⟩
            · refine ⟨fun c6 => ?_, fun c6 => ?_⟩
              · show ((lay8 n n1 n2 n3 n4 n5 → (4 : Int) = 0) ∧ (¬ lay8 n n1 n2 n3 n4 n5 → (4 : Int) = 4))
                first
                  | (refine ⟨fun hh => ?_, fun _ => rfl⟩
                     obtain ⟨z1, z2, z3, z4, z5, z6, z7⟩ := hh
                     have b1 := inCo_b z2
                     have b2 := inCm_b z3
                     have b3 := fun y => inFl_b (z7 y)
                     first
                       | (exfalso; omega)
                       | exact absurd ((co_at e_n18 (by omega) (by omega)).2 z2) (by assumption)
                       | exact absurd ((cm_at e_n19 (by omega) (by omega)).2 z3) (by assumption)
                       | exact absurd ((fl_at e_n20 (by omega) (by omega)).2 (z7 (by omega))) (by assumption))
                  | exact ⟨fun _ => rfl, fun hh => absurd (by unfold lay8; exact ⟨by omega, (co_at e_n18 (by omega) (by omega)).1 (by assumption), (cm_at e_n19 (by omega) (by omega)).1 (by assumption), by omega, by omega, fun _ => by omega, fun _ => (fl_at e_n20 (by omega) (by omega)).1 (Classical.not_not.1 (by assumption))⟩) hh⟩
                  | exact ⟨fun _ => rfl, fun hh => absurd (by unfold lay8; exact ⟨by omega, (co_at e_n18 (by omega) (by omega)).1 (by assumption), (cm_at e_n19 (by omega) (by omega)).1 (by assumption), by omega, by omega, fun _ => by omega, fun y => absurd (by assumption) y⟩) hh⟩
              · refine ⟨fun c7 => ?_, fun c7 => ?_⟩
                · show ((lay8 n n1 n2 n3 n4 n5 → (4 : Int) = 0) ∧ (¬ lay8 n n1 n2 n3 n4 n5 → (4 : Int) = 4))
                  first
                    | (refine ⟨fun hh => ?_, fun _ => rfl⟩
                       obtain ⟨z1, z2, z3, z4, z5, z6, z7⟩ := hh
                       have b1 := inCo_b z2
                       have b2 := inCm_b z3
                       have b3 := fun y => inFl_b (z7 y)
                       first
                         | (exfalso; omega)
                         | exact absurd ((co_at e_n18 (by omega) (by omega)).2 z2) (by assumption)
                         | exact absurd ((cm_at e_n19 (by omega) (by omega)).2 z3) (by assumption)
                         | exact absurd ((fl_at e_n20 (by omega) (by omega)).2 (z7 (by omega))) (by assumption))
                    | exact ⟨fun _ => rfl, fun hh => absurd (by unfold lay8; exact ⟨by omega, (co_at e_n18 (by omega) (by omega)).1 (by assumption), (cm_at e_n19 (by omega) (by omega)).1 (by assumption), by omega, by omega, fun _ => by omega, fun _ => (fl_at e_n20 (by omega) (by omega)).1 (Classical.not_not.1 (by assumption))⟩) hh⟩
                    | exact ⟨fun _ => rfl, fun hh => absurd (by unfold lay8; exact ⟨by omega, (co_at e_n18 (by omega) (by omega)).1 (by assumption), (cm_at e_n19 (by omega) (by omega)).1 (by assumption), by omega, by omega, fun _ => by omega, fun y => absurd (by assumption) y⟩) hh⟩
                · refine ⟨fun c8 => ?_, fun c8 => ?_⟩
                  · show ((lay8 n n1 n2 n3 n4 n5 → (4 : Int) = 0) ∧ (¬ lay8 n n1 n2 n3 n4 n5 → (4 : Int) = 4))
                    first
                      | (refine ⟨fun hh => ?_, fun _ => rfl⟩
                         obtain ⟨z1, z2, z3, z4, z5, z6, z7⟩ := hh
                         have b1 := inCo_b z2
                         have b2 := inCm_b z3
                         have b3 := fun y => inFl_b (z7 y)
                         first
                           | (exfalso; omega)
                           | exact absurd ((co_at e_n18 (by omega) (by omega)).2 z2) (by assumption)
                           | exact absurd ((cm_at e_n19 (by omega) (by omega)).2 z3) (by assumption)
                           | exact absurd ((fl_at e_n20 (by omega) (by omega)).2 (z7 (by omega))) (by assumption))
                      | exact ⟨fun _ => rfl, fun hh => absurd (by unfold lay8; exact ⟨by omega, (co_at e_n18 (by omega) (by omega)).1 (by assumption), (cm_at e_n19 (by omega) (by omega)).1 (by assumption), by omega, by omega, fun _ => by omega, fun _ => (fl_at e_n20 (by omega) (by omega)).1 (Classical.not_not.1 (by assumption))⟩) hh⟩
                      | exact ⟨fun _ => rfl, fun hh => absurd (by unfold lay8; exact ⟨by omega, (co_at e_n18 (by omega) (by omega)).1 (by assumption), (cm_at e_n19 (by omega) (by omega)).1 (by assumption), by omega, by omega, fun _ => by omega, fun y => absurd (by assumption) y⟩) hh⟩
                  · show ((lay8 n n1 n2 n3 n4 n5 → (4 : Int) = 0) ∧ (¬ lay8 n n1 n2 n3 n4 n5 → (4 : Int) = 4))
                    first
                      | (refine ⟨fun hh => ?_, fun _ => rfl⟩
                         obtain ⟨z1, z2, z3, z4, z5, z6, z7⟩ := hh
                         have b1 := inCo_b z2
                         have b2 := inCm_b z3
                         have b3 := fun y => inFl_b (z7 y)
                         first
                           | (exfalso; omega)
                           | exact absurd ((co_at e_n18 (by omega) (by omega)).2 z2) (by assumption)
                           | exact absurd ((cm_at e_n19 (by omega) (by omega)).2 z3) (by assumption)
                           | exact absurd ((fl_at e_n20 (by omega) (by omega)).2 (z7 (by omega))) (by assumption))
                      | exact ⟨fun _ => rfl, fun hh => absurd (by unfold lay8; exact ⟨by omega, (co_at e_n18 (by omega) (by omega)).1 (by assumption), (cm_at e_n19 (by omega) (by omega)).1 (by assumption), by omega, by omega, fun _ => by omega, fun _ => (fl_at e_n20 (by omega) (by omega)).1 (Classical.not_not.1 (by assumption))⟩) hh⟩
                      | exact ⟨fun _ => rfl, fun hh => absurd (by unfold lay8; exact ⟨by omega, (co_at e_n18 (by omega) (by omega)).1 (by assumption), (cm_at e_n19 (by omega) (by omega)).1 (by assumption), by omega, by omega, fun _ => by omega, fun y => absurd (by assumption) y⟩) hh⟩
        · refine ⟨fun c4 => ?_, fun c4 => ?_⟩
          · show ((lay8 n n1 n2 n3 n4 n5 → (4 : Int) = 0) ∧ (¬ lay8 n n1 n2 n3 n4 n5 → (4 : Int) = 4))
            first
              | (refine ⟨fun hh => ?_, fun _ => rfl⟩
                 obtain ⟨z1, z2, z3, z4, z5, z6, z7⟩ := hh
                 have b1 := inCo_b z2
                 have b2 := inCm_b z3
                 have b3 := fun y => inFl_b (z7 y)
                 first
                   | (exfalso; omega)
                   | exact absurd ((co_at e_n18 (by omega) (by omega)).2 z2) (by assumption)
                   | exact absurd ((cm_at e_n19 (by omega) (by omega)).2 z3) (by assumption)
                   | exact absurd ((fl_at e_n20 (by omega) (by omega)).2 (z7 (by omega))) (by assumption))
              | exact ⟨fun _ => rfl, fun hh => absurd (by unfold lay8; exact ⟨by omega, (co_at e_n18 (by omega) (by omega)).1 (by assumption), (cm_at e_n19 (by omega) (by omega)).1 (by assumption), by omega, by omega, fun _ => by omega, fun _ => (fl_at e_n20 (by omega) (by omega)).1 (Classical.not_not.1 (by assumption))⟩) hh⟩
              | exact ⟨fun _ => rfl, fun hh => absurd (by unfold lay8; exact ⟨by omega, (co_at e_n18 (by omega) (by omega)).1 (by assumption), (cm_at e_n19 (by omega) (by omega)).1 (by assumption), by omega, by omega, fun _ => by omega, fun y => absurd (by assumption) y⟩) hh⟩
          · refine ⟨fun c5 => ?_, fun c5 => ?_⟩
            · show ((lay8 n n1 n2 n3 n4 n5 → (4 : Int) = 0) ∧ (¬ lay8 n n1 n2 n3 n4 n5 → (4 : Int) = 4))
              first
                | (refine ⟨fun hh => ?_, fun _ => rfl⟩
                   obtain ⟨z1, z2, z3, z4, z5, z6, z7⟩ := hh
                   have b1 := inCo_b z2
                   have b2 := inCm_b z3
                   have b3 := fun y => inFl_b (z7 y)
                   first
                     | (exfalso; omega)
                     | exact absurd ((co_at e_n18 (by omega) (by omega)).2 z2) (by assumption)
                     | exact absurd ((cm_at e_n19 (by omega) (by omega)).2 z3) (by assumption)
                     | exact absurd ((fl_at e_n20 (by omega) (by omega)).2 (z7 (by omega))) (by assumption))
                | exact ⟨fun _ => rfl, fun hh => absurd (by unfold lay8; exact ⟨by omega, (co_at e_n18 (by omega) (by omega)).1 (by assumption), (cm_at e_n19 (by omega) (by omega)).1 (by assumption), by omega, by omega, fun _ => by omega, fun _ => (fl_at e_n20 (by omega) (by omega)).1 (Classical.not_not.1 (by assumption))⟩) hh⟩
                | exact ⟨fun _ => rfl, fun hh => absurd (by unfold lay8; exact ⟨by omega, (co_at e_n18 (by omega) (by omega)).1 (by assumption), (cm_at e_n19 (by omega) (by omega)).1 (by assumption), by omega, by omega, fun _ => by omega, fun y => absurd (by assumption) y⟩) hh⟩
            · refine ⟨fun c6 => ?_, fun c6 => ?_⟩
              · show ((lay8 n n1 n2 n3 n4 n5 → (4 : Int) = 0) ∧ (¬ lay8 n n1 n2 n3 n4 n5 → (4 : Int) = 4))
                first
                  | (refine ⟨fun hh => ?_, fun _ => rfl⟩
                     obtain ⟨z1, z2, z3, z4, z5, z6, z7⟩ := hh
                     have b1 := inCo_b z2
                     have b2 := inCm_b z3
                     have b3 := fun y => inFl_b (z7 y)
                     first
                       | (exfalso; omega)
                       | exact absurd ((co_at e_n18 (by omega) (by omega)).2 z2) (by assumption)
                       | exact absurd ((cm_at e_n19 (by omega) (by omega)).2 z3) (by assumption)
                       | exact absurd ((fl_at e_n20 (by omega) (by omega)).2 (z7 (by omega))) (by assumption))
                  | exact ⟨fun _ => rfl, fun hh => absurd (by unfold lay8; exact ⟨by omega, (co_at e_n18 (by omega) (by omega)).1 (by assumption), (cm_at e_n19 (by omega) (by omega)).1 (by assumption), by omega, by omega, fun _ => by omega, fun _ => (fl_at e_n20 (by omega) (by omega)).1 (Classical.not_not.1 (by assumption))⟩) hh⟩
                  | exact ⟨fun _ => rfl, fun hh => absurd (by unfold lay8; exact ⟨by omega, (co_at e_n18 (by omega) (by omega)).1 (by assumption), (cm_at e_n19 (by omega) (by omega)).1 (by assumption), by omega, by omega, fun _ => by omega, fun y => absurd (by assumption) y⟩) hh⟩
              · refine ⟨fun c7 => ?_, fun c7 => ?_⟩
                · show ((lay8 n n1 n2 n3 n4 n5 → (4 : Int) = 0) ∧ (¬ lay8 n n1 n2 n3 n4 n5 → (4 : Int) = 4))
                  first
                    | (refine ⟨fun hh => ?_, fun _ => rfl⟩
                       obtain ⟨z1, z2, z3, z4, z5, z6, z7⟩ := hh
                       have b1 := inCo_b z2
                       have b2 := inCm_b z3
                       have b3 := fun y => inFl_b (z7 y)
                       first
                         | (exfalso; omega)
                         | exact absurd ((co_at e_n18 (by omega) (by omega)).2 z2) (by assumption)
                         | exact absurd ((cm_at e_n19 (by omega) (by omega)).2 z3) (by assumption)
                         | exact absurd ((fl_at e_n20 (by omega) (by omega)).2 (z7 (by omega))) (by assumption))
                    | exact ⟨fun _ => rfl, fun hh => absurd (by unfold lay8; exact ⟨by omega, (co_at e_n18 (by omega) (by omega)).1 (by assumption), (cm_at e_n19 (by omega) (by omega)).1 (by assumption), by omega, by omega, fun _ => by omega, fun _ => (fl_at e_n20 (by omega) (by omega)).1 (Classical.not_not.1 (by assumption))⟩) hh⟩
                    | exact ⟨fun _ => rfl, fun hh => absurd (by unfold lay8; exact ⟨by omega, (co_at e_n18 (by omega) (by omega)).1 (by assumption), (cm_at e_n19 (by omega) (by omega)).1 (by assumption), by omega, by omega, fun _ => by omega, fun y => absurd (by assumption) y⟩) hh⟩
                · show ((lay8 n n1 n2 n3 n4 n5 → (4 : Int) = 0) ∧ (¬ lay8 n n1 n2 n3 n4 n5 → (4 : Int) = 4))
                  first
                    | (refine ⟨fun hh => ?_, fun _ => rfl⟩
                       obtain ⟨z1, z2, z3, z4, z5, z6, z7⟩ := hh
                       have b1 := inCo_b z2
                       have b2 := inCm_b z3
                       have b3 := fun y => inFl_b (z7 y)
                       first
                         | (exfalso; omega)
                         | exact absurd ((co_at e_n18 (by omega) (by omega)).2 z2) (by assumption)
                         | exact absurd ((cm_at e_n19 (by omega) (by omega)).2 z3) (by assumption)
                         | exact absurd ((fl_at e_n20 (by omega) (by omega)).2 (z7 (by omega))) (by assumption))
                    | exact ⟨fun _ => rfl, fun hh => absurd (by unfold lay8; exact ⟨by omega, (co_at e_n18 (by omega) (by omega)).1 (by assumption), (cm_at e_n19 (by omega) (by omega)).1 (by assumption), by omega, by omega, fun _ => by omega, fun _ => (fl_at e_n20 (by omega) (by omega)).1 (Classical.not_not.1 (by assumption))⟩) hh⟩
                    | exact ⟨fun _ => rfl, fun hh => absurd (by unfold lay8; exact ⟨by omega, (co_at e_n18 (by omega) (by omega)).1 (by assumption), (cm_at e_n19 (by omega) (by omega)).1 (by assumption), by omega, by omega, fun _ => by omega, fun y => absurd (by assumption) y⟩) hh⟩
      · refine ⟨fun c3 => ?_, fun c3 => ?_⟩
        · show ((lay8 n n1 n2 n3 n4 n5 → (4 : Int) = 0) ∧ (¬ lay8 n n1 n2 n3 n4 n5 → (4 : Int) = 4))
          first
            | (refine ⟨fun hh => ?_, fun _ => rfl⟩
               obtain ⟨z1, z2, z3, z4, z5, z6, z7⟩ := hh
               have b1 := inCo_b z2
               have b2 := inCm_b z3
               have b3 := fun y => inFl_b (z7 y)
               first
                 | (exfalso; omega)
                 | exact absurd ((co_at e_n18 (by omega) (by omega)).2 z2) (by assumption)
                 | exact absurd ((cm_at e_n19 (by omega) (by omega)).2 z3) (by assumption)
                 | exact absurd ((fl_at e_n20 (by omega) (by omega)).2 (z7 (by omega))) (by assumption))
            | exact ⟨fun _ => rfl, fun hh => absurd (by unfold lay8; exact ⟨by omega, (co_at e_n18 (by omega) (by omega)).1 (by assumption), (cm_at e_n19 (by omega) (by omega)).1 (by assumption), by omega, by omega, fun _ => by omega, fun _ => (fl_at e_n20 (by omega) (by omega)).1 (Classical.not_not.1 (by assumption))⟩) hh⟩
            | exact ⟨fun _ => rfl, fun hh => absurd (by unfold lay8; exact ⟨by omega, (co_at e_n18 (by omega) (by omega)).1 (by assumption), (cm_at e_n19 (by omega) (by omega)).1 (by assumption), by omega, by omega, fun _ => by omega, fun y => absurd (by assumption) y⟩) hh⟩
        · refine ⟨fun c4 => ?_, fun c4 => ?_⟩
          · show ((lay8 n n1 n2 n3 n4 n5 → (4 : Int) = 0) ∧ (¬ lay8 n n1 n2 n3 n4 n5 → (4 : Int) = 4))
            first
              | (refine ⟨fun hh => ?_, fun _ => rfl⟩
                 obtain ⟨z1, z2, z3, z4, z5, z6, z7⟩ := hh
                 have b1 := inCo_b z2
                 have b2 := inCm_b z3
                 have b3 := fun y => inFl_b (z7 y)
                 first
                   | (exfalso; omega)
                   | exact absurd ((co_at e_n18 (by omega) (by omega)).2 z2) (by assumption)
                   | exact absurd ((cm_at e_n19 (by omega) (by omega)).2 z3) (by assumption)
                   | exact absurd ((fl_at e_n20 (by omega) (by omega)).2 (z7 (by omega))) (by assumption))
              | exact ⟨fun _ => rfl, fun hh => absurd (by unfold lay8; exact ⟨by omega, (co_at e_n18 (by omega) (by omega)).1 (by assumption), (cm_at e_n19 (by omega) (by omega)).1 (by assumption), by omega, by omega, fun _ => by omega, fun _ => (fl_at e_n20 (by omega) (by omega)).1 (Classical.not_not.1 (by assumption))⟩) hh⟩
              | exact ⟨fun _ => rfl, fun hh => absurd (by unfold lay8; exact ⟨by omega, (co_at e_n18 (by omega) (by omega)).1 (by assumption), (cm_at e_n19 (by omega) (by omega)).1 (by assumption), by omega, by omega, fun _ => by omega, fun y => absurd (by assumption) y⟩) hh⟩
          · refine ⟨fun c5 => ?_, fun c5 => ?_⟩
            · show ((lay8 n n1 n2 n3 n4 n5 → (4 : Int) = 0) ∧ (¬ lay8 n n1 n2 n3 n4 n5 → (4 : Int) = 4))
              first
                | (refine ⟨fun hh => ?_, fun _ => rfl⟩
                   obtain ⟨z1, z2, z3, z4, z5, z6, z7⟩ := hh
                   have b1 := inCo_b z2
                   have b2 := inCm_b z3
                   have b3 := fun y => inFl_b (z7 y)
                   first
                     | (exfalso; omega)
                     | exact absurd ((co_at e_n18 (by omega) (by omega)).2 z2) (by assumption)
                     | exact absurd ((cm_at e_n19 (by omega) (by omega)).2 z3) (by assumption)
                     | exact absurd ((fl_at e_n20 (by omega) (by omega)).2 (z7 (by omega))) (by assumption))
                | exact ⟨fun _ => rfl, fun hh => absurd (by unfold lay8; exact ⟨by omega, (co_at e_n18 (by omega) (by omega)).1 (by assumption), (cm_at e_n19 (by omega) (by omega)).1 (by assumption), by omega, by omega, fun _ => by omega, fun _ => (fl_at e_n20 (by omega) (by omega)).1 (Classical.not_not.1 (by assumption))⟩) hh⟩
                | exact ⟨fun _ => rfl, fun hh => absurd (by unfold lay8; exact ⟨by omega, (co_at e_n18 (by omega) (by omega)).1 (by assumption), (cm_at e_n19 (by omega) (by omega)).1 (by assumption), by omega, by omega, fun _ => by omega, fun y => absurd (by assumption) y⟩) hh⟩
            · refine ⟨fun c6 => ?_, fun c6 => ?_⟩
              · show ((lay8 n n1 n2 n3 n4 n5 → (4 : Int) = 0) ∧ (¬ lay8 n n1 n2 n3 n4 n5 → (4 : Int) = 4))
                first
                  | (refine ⟨fun hh => ?_, fun _ => rfl⟩
                     obtain ⟨z1, z2, z3, z4, z5, z6, z7⟩ := hh
                     have b1 := inCo_b z2
                     have b2 := inCm_b z3
                     have b3 := fun y => inFl_b (z7 y)
                     first
                       | (exfalso; omega)
                       | exact absurd ((co_at e_n18 (by omega) (by omega)).2 z2) (by assumption)
                       | exact absurd ((cm_at e_n19 (by omega) (by omega)).2 z3) (by assumption)
                       | exact absurd ((fl_at e_n20 (by omega) (by omega)).2 (z7 (by omega))) (by assumption))
                  | exact ⟨fun _ => rfl, fun hh => absurd (by unfold lay8; exact ⟨by omega, (co_at e_n18 (by omega) (by omega)).1 (by assumption), (cm_at e_n19 (by omega) (by omega)).1 (by assumption), by omega, by omega, fun _ => by omega, fun _ => (fl_at e_n20 (by omega) (by omega)).1 (Classical.not_not.1 (by assumption))⟩) hh⟩
                  | exact ⟨fun _ => rfl, fun hh => absurd (by unfold lay8; exact ⟨by omega, (co_at e_n18 (by omega) (by omega)).1 (by assumption), (cm_at e_n19 (by omega) (by omega)).1 (by assumption), by omega, by omega, fun _ => by omega, fun y => absurd (by assumption) y⟩) hh⟩
              · show ((lay8 n n1 n2 n3 n4 n5 → (4 : Int) = 0) ∧ (¬ lay8 n n1 n2 n3 n4 n5 → (4 : Int) = 4))
                first
                  | (refine ⟨fun hh => ?_, fun _ => rfl⟩
                     obtain ⟨z1, z2, z3, z4, z5, z6, z7⟩ := hh
                     have b1 := inCo_b z2
                     have b2 := inCm_b z3
                     have b3 := fun y => inFl_b (z7 y)
                     first
                       | (exfalso; omega)
                       | exact absurd ((co_at e_n18 (by omega) (by omega)).2 z2) (by assumption)
                       | exact absurd ((cm_at e_n19 (by omega) (by omega)).2 z3) (by assumption)
                       | exact absurd ((fl_at e_n20 (by omega) (by omega)).2 (z7 (by omega))) (by assumption))
                  | exact ⟨fun _ => rfl, fun hh => absurd (by unfold lay8; exact ⟨by omega, (co_at e_n18 (by omega) (by omega)).1 (by assumption), (cm_at e_n19 (by omega) (by omega)).1 (by assumption), by omega, by omega, fun _ => by omega, fun _ => (fl_at e_n20 (by omega) (by omega)).1 (Classical.not_not.1 (by assumption))⟩) hh⟩
                  | exact ⟨fun _ => rfl, fun hh => absurd (by unfold lay8; exact ⟨by omega, (co_at e_n18 (by omega) (by omega)).1 (by assumption), (cm_at e_n19 (by omega) (by omega)).1 (by assumption), by omega, by omega, fun _ => by omega, fun y => absurd (by assumption) y⟩) hh⟩
    · refine ⟨fun c2 => ?_, fun c2 => ?_⟩
      · show ((lay8 n n1 n2 n3 n4 n5 → (4 : Int) = 0) ∧ (¬ lay8 n n1 n2 n3 n4 n5 → (4 : Int) = 4))
        first
          | (refine ⟨fun hh => ?_, fun _ => rfl⟩
             obtain ⟨z1, z2, z3, z4, z5, z6, z7⟩ := hh
             have b1 := inCo_b z2
             have b2 := inCm_b z3
             have b3 := fun y => inFl_b (z7 y)
             first
               | (exfalso; omega)
               | exact absurd ((co_at e_n18 (by omega) (by omega)).2 z2) (by assumption)
               | exact absurd ((cm_at e_n19 (by omega) (by omega)).2 z3) (by assumption)
               | exact absurd ((fl_at e_n20 (by omega) (by omega)).2 (z7 (by omega))) (by assumption))
          | exact ⟨fun _ => rfl, fun hh => absurd (by unfold lay8; exact ⟨by omega, (co_at e_n18 (by omega) (by omega)).1 (by assumption), (cm_at e_n19 (by omega) (by omega)).1 (by assumption), by omega, by omega, fun _ => by omega, fun _ => (fl_at e_n20 (by omega) (by omega)).1 (Classical.not_not.1 (by assumption))⟩) hh⟩
          | exact ⟨fun _ => rfl, fun hh => absurd (by unfold lay8; exact ⟨by omega, (co_at e_n18 (by omega) (by omega)).1 (by assumption), (cm_at e_n19 (by omega) (by omega)).1 (by assumption), by omega, by omega, fun _ => by omega, fun y => absurd (by assumption) y⟩) hh⟩
      · refine ⟨fun c3 => ?_, fun c3 => ?_⟩
        · show ((lay8 n n1 n2 n3 n4 n5 → (4 : Int) = 0) ∧ (¬ lay8 n n1 n2 n3 n4 n5 → (4 : Int) = 4))
          first
            | (refine ⟨fun hh => ?_, fun _ => rfl⟩
               obtain ⟨z1, z2, z3, z4, z5, z6, z7⟩ := hh
               have b1 := inCo_b z2
               have b2 := inCm_b z3
               have b3 := fun y => inFl_b (z7 y)
               first
                 | (exfalso; omega)
                 | exact absurd ((co_at e_n18 (by omega) (by omega)).2 z2) (by assumption)
                 | exact absurd ((cm_at e_n19 (by omega) (by omega)).2 z3) (by assumption)
                 | exact absurd ((fl_at e_n20 (by omega) (by omega)).2 (z7 (by omega))) (by assumption))
            | exact ⟨fun _ => rfl, fun hh => absurd (by unfold lay8; exact ⟨by omega, (co_at e_n18 (by omega) (by omega)).1 (by assumption), (cm_at e_n19 (by omega) (by omega)).1 (by assumption), by omega, by omega, fun _ => by omega, fun _ => (fl_at e_n20 (by omega) (by omega)).1 (Classical.not_not.1 (by assumption))⟩) hh⟩
            | exact ⟨fun _ => rfl, fun hh => absurd (by unfold lay8; exact ⟨by omega, (co_at e_n18 (by omega) (by omega)).1 (by assumption), (cm_at e_n19 (by omega) (by omega)).1 (by assumption), by omega, by omega, fun _ => by omega, fun y => absurd (by assumption) y⟩) hh⟩
        · refine ⟨fun c4 => ?_, fun c4 => ?_⟩
          · show ((lay8 n n1 n2 n3 n4 n5 → (4 : Int) = 0) ∧ (¬ lay8 n n1 n2 n3 n4 n5 → (4 : Int) = 4))
            first
              | (refine ⟨fun hh => ?_, fun _ => rfl⟩
                 obtain ⟨z1, z2, z3, z4, z5, z6, z7⟩ := hh
                 have b1 := inCo_b z2
                 have b2 := inCm_b z3
                 have b3 := fun y => inFl_b (z7 y)
                 first
                   | (exfalso; omega)
                   | exact absurd ((co_at e_n18 (by omega) (by omega)).2 z2) (by assumption)
                   | exact absurd ((cm_at e_n19 (by omega) (by omega)).2 z3) (by assumption)
                   | exact absurd ((fl_at e_n20 (by omega) (by omega)).2 (z7 (by omega))) (by assumption))
              | exact ⟨fun _ => rfl, fun hh => absurd (by unfold lay8; exact ⟨by omega, (co_at e_n18 (by omega) (by omega)).1 (by assumption), (cm_at e_n19 (by omega) (by omega)).1 (by assumption), by omega, by omega, fun _ => by omega, fun _ => (fl_at e_n20 (by omega) (by omega)).1 (Classical.not_not.1 (by assumption))⟩) hh⟩
              | exact ⟨fun _ => rfl, fun hh => absurd (by unfold lay8; exact ⟨by omega, (co_at e_n18 (by omega) (by omega)).1 (by assumption), (cm_at e_n19 (by omega) (by omega)).1 (by assumption), by omega, by omega, fun _ => by omega, fun y => absurd (by assumption) y⟩) hh⟩
          · refine ⟨fun c5 => ?_, fun c5 => ?_⟩
            · show ((lay8 n n1 n2 n3 n4 n5 → (4 : Int) = 0) ∧ (¬ lay8 n n1 n2 n3 n4 n5 → (4 : Int) = 4))
              first
                | (refine ⟨fun hh => ?_, fun _ => rfl⟩
                   obtain ⟨z1, z2, z3, z4, z5, z6, z7⟩ := hh
                   have b1 := inCo_b z2
                   have b2 := inCm_b z3
                   have b3 := fun y => inFl_b (z7 y)
                   first
                     | (exfalso; omega)
                     | exact absurd ((co_at e_n18 (by omega) (by omega)).2 z2) (by assumption)
                     | exact absurd ((cm_at e_n19 (by omega) (by omega)).2 z3) (by assumption)
                     | exact absurd ((fl_at e_n20 (by omega) (by omega)).2 (z7 (by omega))) (by assumption))
                | exact ⟨fun _ => rfl, fun hh => absurd (by unfold lay8; exact ⟨by omega, (co_at e_n18 (by omega) (by omega)).1 (by assumption), (cm_at e_n19 (by omega) (by omega)).1 (by assumption), by omega, by omega, fun _ => by omega, fun _ => (fl_at e_n20 (by omega) (by omega)).1 (Classical.not_not.1 (by assumption))⟩) hh⟩
                | exact ⟨fun _ => rfl, fun hh => absurd (by unfold lay8; exact ⟨by omega, (co_at e_n18 (by omega) (by omega)).1 (by assumption), (cm_at e_n19 (by omega) (by omega)).1 (by assumption), by omega, by omega, fun _ => by omega, fun y => absurd (by assumption) y⟩) hh⟩
            · show ((lay8 n n1 n2 n3 n4 n5 → (4 : Int) = 0) ∧ (¬ lay8 n n1 n2 n3 n4 n5 → (4 : Int) = 4))
              first
                | (refine ⟨fun hh => ?_, fun _ => rfl⟩
                   obtain ⟨z1, z2, z3, z4, z5, z6, z7⟩ := hh
                   have b1 := inCo_b z2
                   have b2 := inCm_b z3
                   have b3 := fun y => inFl_b (z7 y)
                   first
                     | (exfalso; omega)
                     | exact absurd ((co_at e_n18 (by omega) (by omega)).2 z2) (by assumption)
                     | exact absurd ((cm_at e_n19 (by omega) (by omega)).2 z3) (by assumption)
                     | exact absurd ((fl_at e_n20 (by omega) (by omega)).2 (z7 (by omega))) (by assumption))
                | exact ⟨fun _ => rfl, fun hh => absurd (by unfold lay8; exact ⟨by omega, (co_at e_n18 (by omega) (by omega)).1 (by assumption), (cm_at e_n19 (by omega) (by omega)).1 (by assumption), by omega, by omega, fun _ => by omega, fun _ => (fl_at e_n20 (by omega) (by omega)).1 (Classical.not_not.1 (by assumption))⟩) hh⟩
                | exact ⟨fun _ => rfl, fun hh => absurd (by unfold lay8; exact ⟨by omega, (co_at e_n18 (by omega) (by omega)).1 (by assumption), (cm_at e_n19 (by omega) (by omega)).1 (by assumption), by omega, by omega, fun _ => by omega, fun y => absurd (by assumption) y⟩) hh⟩
  · refine ⟨fun c1 => ?_, fun c1 => ?_⟩
    · show ((lay8 n n1 n2 n3 n4 n5 → (4 : Int) = 0) ∧ (¬ lay8 n n1 n2 n3 n4 n5 → (4 : Int) = 4))
      first
        | (refine ⟨fun hh => ?_, fun _ => rfl⟩
           obtain ⟨z1, z2, z3, z4, z5, z6, z7⟩ := hh
           have b1 := inCo_b z2
           have b2 := inCm_b z3
           have b3 := fun y => inFl_b (z7 y)
           first
             | (exfalso; omega)
             | exact absurd ((co_at e_n18 (by omega) (by omega)).2 z2) (by assumption)
             | exact absurd ((cm_at e_n19 (by omega) (by omega)).2 z3) (by assumption)
             | exact absurd ((fl_at e_n20 (by omega) (by omega)).2 (z7 (by omega))) (by assumption))
        | exact ⟨fun _ => rfl, fun hh => absurd (by unfold lay8; exact ⟨by omega, (co_at e_n18 (by omega) (by omega)).1 (by assumption), (cm_at e_n19 (by omega) (by omega)).1 (by assumption), by omega, by omega, fun _ => by omega, fun _ => (fl_at e_n20 (by omega) (by omega)).1 (Classical.not_not.1 (by assumption))⟩) hh⟩
        | exact ⟨fun _ => rfl, fun hh => absurd (by unfold lay8; exact ⟨by omega, (co_at e_n18 (by omega) (by omega)).1 (by assumption), (cm_at e_n19 (by omega) (by omega)).1 (by assumption), by omega, by omega, fun _ => by omega, fun y => absurd (by assumption) y⟩) hh⟩
    · refine ⟨fun c2 => ?_, fun c2 => ?_⟩
      · show ((lay8 n n1 n2 n3 n4 n5 → (4 : Int) = 0) ∧ (¬ lay8 n n1 n2 n3 n4 n5 → (4 : Int) = 4))
        first
          | (refine ⟨fun hh => ?_, fun _ => rfl⟩
             obtain ⟨z1, z2, z3, z4, z5, z6, z7⟩ := hh
             have b1 := inCo_b z2
             have b2 := inCm_b z3
             have b3 := fun y => inFl_b (z7 y)
             first
               | (exfalso; omega)
               | exact absurd ((co_at e_n18 (by omega) (by omega)).2 z2) (by assumption)
               | exact absurd ((cm_at e_n19 (by omega) (by omega)).2 z3) (by assumption)
               | exact absurd ((fl_at e_n20 (by omega) (by omega)).2 (z7 (by omega))) (by assumption))
          | exact ⟨fun _ => rfl, fun hh => absurd (by unfold lay8; exact ⟨by omega, (co_at e_n18 (by omega) (by omega)).1 (by assumption), (cm_at e_n19 (by omega) (by omega)).1 (by assumption), by omega, by omega, fun _ => by omega, fun _ => (fl_at e_n20 (by omega) (by omega)).1 (Classical.not_not.1 (by assumption))⟩) hh⟩
          | exact ⟨fun _ => rfl, fun hh => absurd (by unfold lay8; exact ⟨by omega, (co_at e_n18 (by omega) (by omega)).1 (by assumption), (cm_at e_n19 (by omega) (by omega)).1 (by assumption), by omega, by omega, fun _ => by omega, fun y => absurd (by assumption) y⟩) hh⟩
      · refine ⟨fun c3 => ?_, fun c3 => ?_⟩
        · show ((lay8 n n1 n2 n3 n4 n5 → (4 : Int) = 0) ∧ (¬ lay8 n n1 n2 n3 n4 n5 → (4 : Int) = 4))
          first
            | (refine ⟨fun hh => ?_, fun _ => rfl⟩
               obtain ⟨z1, z2, z3, z4, z5, z6, z7⟩ := hh
               have b1 := inCo_b z2
               have b2 := inCm_b z3
               have b3 := fun y => inFl_b (z7 y)
               first
                 | (exfalso; omega)
                 | exact absurd ((co_at e_n18 (by omega) (by omega)).2 z2) (by assumption)
                 | exact absurd ((cm_at e_n19 (by omega) (by omega)).2 z3) (by assumption)
                 | exact absurd ((fl_at e_n20 (by omega) (by omega)).2 (z7 (by omega))) (by assumption))
            | exact ⟨fun _ => rfl, fun hh => absurd (by unfold lay8; exact ⟨by omega, (co_at e_n18 (by omega) (by omega)).1 (by assumption), (cm_at e_n19 (by omega) (by omega)).1 (by assumption), by omega, by omega, fun _ => by omega, fun _ => (fl_at e_n20 (by omega) (by omega)).1 (Classical.not_not.1 (by assumption))⟩) hh⟩
            | exact ⟨fun _ => rfl, fun hh => absurd (by unfold lay8; exact ⟨by omega, (co_at e_n18 (by omega) (by omega)).1 (by assumption), (cm_at e_n19 (by omega) (by omega)).1 (by assumption), by omega, by omega, fun _ => by omega, fun y => absurd (by assumption) y⟩) hh⟩
        · refine ⟨fun c4 => ?_, fun c4 => ?_⟩
          · show ((lay8 n n1 n2 n3 n4 n5 → (4 : Int) = 0) ∧ (¬ lay8 n n1 n2 n3 n4 n5 → (4 : Int) = 4))
            first
              | (refine ⟨fun hh => ?_, fun _ => rfl⟩
                 obtain ⟨z1, z2, z3, z4, z5, z6, z7⟩ := hh
                 have b1 := inCo_b z2
                 have b2 := inCm_b z3
                 have b3 := fun y => inFl_b (z7 y)
                 first
                   | (exfalso; omega)
                   | exact absurd ((co_at e_n18 (by omega) (by omega)).2 z2) (by assumption)
                   | exact absurd ((cm_at e_n19 (by omega) (by omega)).2 z3) (by assumption)
                   | exact absurd ((fl_at e_n20 (by omega) (by omega)).2 (z7 (by omega))) (by assumption))
              | exact ⟨fun _ => rfl, fun hh => absurd (by unfold lay8; exact ⟨by omega, (co_at e_n18 (by omega) (by omega)).1 (by assumption), (cm_at e_n19 (by omega) (by omega)).1 (by assumption), by omega, by omega, fun _ => by omega, fun _ => (fl_at e_n20 (by omega) (by omega)).1 (Classical.not_not.1 (by assumption))⟩) hh⟩
              | exact ⟨fun _ => rfl, fun hh => absurd (by unfold lay8; exact ⟨by omega, (co_at e_n18 (by omega) (by omega)).1 (by assumption), (cm_at e_n19 (by omega) (by omega)).1 (by assumption), by omega, by omega, fun _ => by omega, fun y => absurd (by assumption) y⟩) hh⟩
          · show ((lay8 n n1 n2 n3 n4 n5 → (4 : Int) = 0) ∧ (¬ lay8 n n1 n2 n3 n4 n5 → (4 : Int) = 4))
            first
              | (refine ⟨fun hh => ?_, fun _ => rfl⟩
                 obtain ⟨z1, z2, z3, z4, z5, z6, z7⟩ := hh
                 have b1 := inCo_b z2
                 have b2 := inCm_b z3
                 have b3 := fun y => inFl_b (z7 y)
                 first
                   | (exfalso; omega)
                   | exact absurd ((co_at e_n18 (by omega) (by omega)).2 z2) (by assumption)
                   | exact absurd ((cm_at e_n19 (by omega) (by omega)).2 z3) (by assumption)
                   | exact absurd ((fl_at e_n20 (by omega) (by omega)).2 (z7 (by omega))) (by assumption))
              | exact ⟨fun _ => rfl, fun hh => absurd (by unfold lay8; exact ⟨by omega, (co_at e_n18 (by omega) (by omega)).1 (by assumption), (cm_at e_n19 (by omega) (by omega)).1 (by assumption), by omega, by omega, fun _ => by omega, fun _ => (fl_at e_n20 (by omega) (by omega)).1 (Classical.not_not.1 (by assumption))⟩) hh⟩
              | exact ⟨fun _ => rfl, fun hh => absurd (by unfold lay8; exact ⟨by omega, (co_at e_n18 (by omega) (by omega)).1 (by assumption), (cm_at e_n19 (by omega) (by omega)).1 (by assumption), by omega, by omega, fun _ => by omega, fun y => absurd (by assumption) y⟩) hh⟩

set_option maxHeartbeats 4000000 in
theorem p_rlcheck : P_rlcheck := by
  unfold P_rlcheck
  intro n l_n u_n
  intro n1 l_n1 u_n1
  intro n2 l_n2 u_n2
  intro n3 l_n3 u_n3
  intro n4 l_n4 u_n4
  intro n5 l_n5 u_n5
  intro n6 l_n6 u_n6
  intro n7 l_n7 u_n7
  intro n8 l_n8 u_n8
  intro n9 l_n9 u_n9
  intro n10 l_n10 u_n10
  intro n11 l_n11 u_n11
  intro n12 l_n12 u_n12
  intro n13 l_n13 u_n13
  intro n14 l_n14 u_n14
  intro n15 l_n15 u_n15
  intro n16 l_n16 u_n16
  intro n17 l_n17 u_n17
  intro hpre
  replace hpre : True := hpre
  intro b
  intro b1
  refine ⟨by simp only [eq_self, and_true]; omega, ?_⟩
  refine ⟨fun c0 => ?_, fun c0 => ?_⟩
  · simp only [eq_self, and_true] at c0
    intro b2
    refine ⟨by simp only [eq_self, and_true]; omega, ?_⟩
    refine ⟨fun c1 => ?_, fun c1 => ?_⟩
    · simp only [eq_self, and_true] at c1
      intro b3
      refine ⟨by simp only [eq_self, and_true]; omega, ?_⟩
      refine ⟨fun c2 => ?_, fun c2 => ?_⟩
      · simp only [eq_self, and_true] at c2
        refine ⟨fun c3 => ?_, fun c3 => ?_⟩
        · show ((lay8 n n1 n2 n3 n4 n5 → (4 : Int) = 0) ∧ (¬ lay8 n n1 n2 n3 n4 n5 → (4 : Int) = 4))
          first
            | (refine ⟨fun hh => ?_, fun _ => rfl⟩
               obtain ⟨z1, z2, z3, z4, z5, z6, z7⟩ := hh
               exfalso
               unfold inCo at z2
               unfold inCm at z3
               by_cases h5 : n = 5
               · have z8 := z6 h5
                 clear z7 z6
                 omega
               · have z8 := z7 h5
                 unfold inFl at z8
                 clear z7 z6
                 omega)
            | (refine ⟨fun _ => rfl, fun hh => absurd ?_ hh⟩
               unfold lay8
               exact ⟨by omega, by unfold inCo; omega, by unfold inCm; omega, by omega, by omega, fun _ => by omega, fun _ => by first | omega | (unfold inFl; omega)⟩)
        · refine ⟨fun c4 => ?_, fun c4 => ?_⟩
          · show ((lay8 n n1 n2 n3 n4 n5 → (4 : Int) = 0) ∧ (¬ lay8 n n1 n2 n3 n4 n5 → (4 : Int) = 4))
            first
              | (refine ⟨fun hh => ?_, fun _ => rfl⟩
                 obtain ⟨z1, z2, z3, z4, z5, z6, z7⟩ := hh
                 exfalso
                 unfold inCo at z2
                 unfold inCm at z3
                 by_cases h5 : n = 5
                 · have z8 := z6 h5
                   clear z7 z6
                   omega
                 · have z8 := z7 h5
                   unfold inFl at z8
                   clear z7 z6
                   omega)
              | (refine ⟨fun _ => rfl, fun hh => absurd ?_ hh⟩
                 unfold lay8
                 exact ⟨by omega, by unfold inCo; omega, by unfold inCm; omega, by omega, by omega, fun _ => by omega, fun _ => by first | omega | (unfold inFl; omega)⟩)
          · refine ⟨fun c5 => ?_, fun c5 => ?_⟩
            · intro b4
              refine ⟨by simp only [eq_self, and_true]; omega, ?_⟩
              refine ⟨fun c6 => ?_, fun c6 => ?_⟩
              · simp only [eq_self, and_true] at c6
                refine ⟨fun c7 => ?_, fun c7 => ?_⟩
                · refine ⟨fun c8 => ?_, fun c8 => ?_⟩
                  · show ((lay8 n n1 n2 n3 n4 n5 → (4 : Int) = 0) ∧ (¬ lay8 n n1 n2 n3 n4 n5 → (4 : Int) = 4))
                    first
                      | (refine ⟨fun hh => ?_, fun _ => rfl⟩
                         obtain ⟨z1, z2, z3, z4, z5, z6, z7⟩ := hh
                         exfalso
                         unfold inCo at z2
                         unfold inCm at z3
                         by_cases h5 : n = 5
                         · have z8 := z6 h5
                           clear z7 z6
                           omega
                         · have z8 := z7 h5
                           unfold inFl at z8
                           clear z7 z6
                           omega)
                      | (refine ⟨fun _ => rfl, fun hh => absurd ?_ hh⟩
                         unfold lay8
                         exact ⟨by omega, by unfold inCo; omega, by unfold inCm; omega, by omega, by omega, fun _ => by omega, fun _ => by first | omega | (unfold inFl; omega)⟩)
                  · show ((lay8 n n1 n2 n3 n4 n5 → (0 : Int) = 0) ∧ (¬ lay8 n n1 n2 n3 n4 n5 → (0 : Int) = 4))
                    first
                      | (refine ⟨fun hh => ?_, fun _ => rfl⟩
                         obtain ⟨z1, z2, z3, z4, z5, z6, z7⟩ := hh
                         exfalso
                         unfold inCo at z2
                         unfold inCm at z3
                         by_cases h5 : n = 5
                         · have z8 := z6 h5
                           clear z7 z6
                           omega
                         · have z8 := z7 h5
                           unfold inFl at z8
                           clear z7 z6
                           omega)
                      | (refine ⟨fun _ => rfl, fun hh => absurd ?_ hh⟩
                         unfold lay8
                         exact ⟨by omega, by unfold inCo; omega, by unfold inCm; omega, by omega, by omega, fun _ => by omega, fun _ => by first | omega | (unfold inFl; omega)⟩)
                · show ((lay8 n n1 n2 n3 n4 n5 → (0 : Int) = 0) ∧ (¬ lay8 n n1 n2 n3 n4 n5 → (0 : Int) = 4))
                  first
                    | (refine ⟨fun hh => ?_, fun _ => rfl⟩
                       obtain ⟨z1, z2, z3, z4, z5, z6, z7⟩ := hh
                       exfalso
                       unfold inCo at z2
                       unfold inCm at z3
                       by_cases h5 : n = 5
                       · have z8 := z6 h5
                         clear z7 z6
                         omega
                       · have z8 := z7 h5
                         unfold inFl at z8
                         clear z7 z6
                         omega)
                    | (refine ⟨fun _ => rfl, fun hh => absurd ?_ hh⟩
                       unfold lay8
                       exact ⟨by omega, by unfold inCo; omega, by unfold inCm; omega, by omega, by omega, fun _ => by omega, fun _ => by first | omega | (unfold inFl; omega)⟩)
              · simp only [eq_self, and_true] at c6
                show ((lay8 n n1 n2 n3 n4 n5 → (4 : Int) = 0) ∧ (¬ lay8 n n1 n2 n3 n4 n5 → (4 : Int) = 4))
                first
                  | (refine ⟨fun hh => ?_, fun _ => rfl⟩
                     obtain ⟨z1, z2, z3, z4, z5, z6, z7⟩ := hh
                     exfalso
                     unfold inCo at z2
                     unfold inCm at z3
                     by_cases h5 : n = 5
                     · have z8 := z6 h5
                       clear z7 z6
                       omega
                     · have z8 := z7 h5
                       unfold inFl at z8
                       clear z7 z6
                       omega)
                  | (refine ⟨fun _ => rfl, fun hh => absurd ?_ hh⟩
                     unfold lay8
                     exact ⟨by omega, by unfold inCo; omega, by unfold inCm; omega, by omega, by omega, fun _ => by omega, fun _ => by first | omega | (unfold inFl; omega)⟩)
            · refine ⟨fun c6 => ?_, fun c6 => ?_⟩
              · refine ⟨fun c7 => ?_, fun c7 => ?_⟩
                · show ((lay8 n n1 n2 n3 n4 n5 → (4 : Int) = 0) ∧ (¬ lay8 n n1 n2 n3 n4 n5 → (4 : Int) = 4))
                  first
                    | (refine ⟨fun hh => ?_, fun _ => rfl⟩
                       obtain ⟨z1, z2, z3, z4, z5, z6, z7⟩ := hh
                       exfalso
                       unfold inCo at z2
                       unfold inCm at z3
                       by_cases h5 : n = 5
                       · have z8 := z6 h5
                         clear z7 z6
                         omega
                       · have z8 := z7 h5
                         unfold inFl at z8
                         clear z7 z6
                         omega)
                    | (refine ⟨fun _ => rfl, fun hh => absurd ?_ hh⟩
                       unfold lay8
                       exact ⟨by omega, by unfold inCo; omega, by unfold inCm; omega, by omega, by omega, fun _ => by omega, fun _ => by first | omega | (unfold inFl; omega)⟩)
                · show ((lay8 n n1 n2 n3 n4 n5 → (0 : Int) = 0) ∧ (¬ lay8 n n1 n2 n3 n4 n5 → (0 : Int) = 4))
                  first
                    | (refine ⟨fun hh => ?_, fun _ => rfl⟩
                       obtain ⟨z1, z2, z3, z4, z5, z6, z7⟩ := hh
                       exfalso
                       unfold inCo at z2
                       unfold inCm at z3
                       by_cases h5 : n = 5
                       · have z8 := z6 h5
                         clear z7 z6
                         omega
                       · have z8 := z7 h5
                         unfold inFl at z8
                         clear z7 z6
                         omega)
                    | (refine ⟨fun _ => rfl, fun hh => absurd ?_ hh⟩
                       unfold lay8
                       exact ⟨by omega, by unfold inCo; omega, by unfold inCm; omega, by omega, by omega, fun _ => by omega, fun _ => by first | omega | (unfold inFl; omega)⟩)
              · show ((lay8 n n1 n2 n3 n4 n5 → (0 : Int) = 0) ∧ (¬ lay8 n n1 n2 n3 n4 n5 → (0 : Int) = 4))
                first
                  | (refine ⟨fun hh => ?_, fun _ => rfl⟩
                     obtain ⟨z1, z2, z3, z4, z5, z6, z7⟩ := hh
                     exfalso
                     unfold inCo at z2
                     unfold inCm at z3
                     by_cases h5 : n = 5
                     · have z8 := z6 h5
                       clear z7 z6
                       omega
                     · have z8 := z7 h5
                       unfold inFl at z8
                       clear z7 z6
                       omega)
                  | (refine ⟨fun _ => rfl, fun hh => absurd ?_ hh⟩
                     unfold lay8
                     exact ⟨by omega, by unfold inCo; omega, by unfold inCm; omega, by omega, by omega, fun _ => by omega, fun _ => by first | omega | (unfold inFl; omega)⟩)
      · simp only [eq_self, and_true] at c2
        show ((lay8 n n1 n2 n3 n4 n5 → (4 : Int) = 0) ∧ (¬ lay8 n n1 n2 n3 n4 n5 → (4 : Int) = 4))
        first
          | (refine ⟨fun hh => ?_, fun _ => rfl⟩
             obtain ⟨z1, z2, z3, z4, z5, z6, z7⟩ := hh
             exfalso
             unfold inCo at z2
             unfold inCm at z3
             by_cases h5 : n = 5
             · have z8 := z6 h5
               clear z7 z6
               omega
             · have z8 := z7 h5
               unfold inFl at z8
               clear z7 z6
               omega)
          | (refine ⟨fun _ => rfl, fun hh => absurd ?_ hh⟩
             unfold lay8
             exact ⟨by omega, by unfold inCo; omega, by unfold inCm; omega, by omega, by omega, fun _ => by omega, fun _ => by first | omega | (unfold inFl; omega)⟩)
    · simp only [eq_self, and_true] at c1
      show ((lay8 n n1 n2 n3 n4 n5 → (4 : Int) = 0) ∧ (¬ lay8 n n1 n2 n3 n4 n5 → (4 : Int) = 4))
      first
        | (refine ⟨fun hh => ?_, fun _ => rfl⟩
           obtain ⟨z1, z2, z3, z4, z5, z6, z7⟩ := hh
           exfalso
           unfold inCo at z2
           unfold inCm at z3
           by_cases h5 : n = 5
           · have z8 := z6 h5
             clear z7 z6
             omega
           · have z8 := z7 h5
             unfold inFl at z8
             clear z7 z6
             omega)
        | (refine ⟨fun _ => rfl, fun hh => absurd ?_ hh⟩
           unfold lay8
           exact ⟨by omega, by unfold inCo; omega, by unfold inCm; omega, by omega, by omega, fun _ => by omega, fun _ => by first | omega | (unfold inFl; omega)⟩)
  · simp only [eq_self, and_true] at c0
    show ((lay8 n n1 n2 n3 n4 n5 → (4 : Int) = 0) ∧ (¬ lay8 n n1 n2 n3 n4 n5 → (4 : Int) = 4))
    first
      | (refine ⟨fun hh => ?_, fun _ => rfl⟩
         obtain ⟨z1, z2, z3, z4, z5, z6, z7⟩ := hh
         exfalso
         unfold inCo at z2
         unfold inCm at z3
         by_cases h5 : n = 5
         · have z8 := z6 h5
           clear z7 z6
           omega
         · have z8 := z7 h5
           unfold inFl at z8
           clear z7 z6
           omega)
      | (refine ⟨fun _ => rfl, fun hh => absurd ?_ hh⟩
         unfold lay8
         exact ⟨by omega, by unfold inCo; omega, by unfold inCm; omega, by omega, by omega, fun _ => by omega, fun _ => by first | omega | (unfold inFl; omega)⟩)

theorem p_norder : P_norder := by
  unfold P_norder
  intro hpre
  replace hpre : True := hpre
  intro b
  show True
  trivial

theorem pt_stepR {L P M : List Int} (i : Nat) {co xl xh yl yh rx ry m0 m1 m2 m3 m4 m5 : Int} (h1 : nth L 1 = co) (h6 : nth L 6 = xl) (h7 : nth L 7 = xh) (h8 : nth L 8 = yl) (h9 : nth L 9 = yh)
    (hx : nth P (2 * i) = rx) (hy : nth P (2 * i + 1) = ry) (hM : [m0, m1, m2, m3, m4, m5] = M)
    (c1 : -2147483648 ≤ xl) (c2 : xl ≤ 2147483647) (c3 : -2147483648 ≤ xh) (c4 : xh ≤ 2147483647) (c5 : -2147483648 ≤ yl) (c6 : yl ≤ 2147483647) (c7 : -2147483648 ≤ yh) (c8 : yh ≤ 2147483647)
    (r1 : 0 ≤ rx) (r2 : rx ≤ 4294967295) (r3 : 0 ≤ ry) (r4 : ry ≤ 4294967295)
    {F : Int → Prop} {K : Int → Int → Prop} (hF : ∀ e, ¬ e = 0 → Es L P M i = e → F e) (hK : ∀ px py, px = pX L P M i → py = pY L P M i → Es L P M i = 0 → K px py) :
    (Pre_rvalue [[rx], [co], [xl, xh]] ∧
      (∀ h : Int, (-9223372036854775808) ≤ h → h ≤ 9223372036854775807 →
      (∀ l : Int, 0 ≤ l → l ≤ 18446744073709551615 →
      (∀ d : Int, (-9223372036854775808) ≤ d → d ≤ 9223372036854775807 →
      (∀ e : Int, 0 ≤ e → e ≤ 15 →
      (Post_rvalue [[rx], [co], [xl, xh]] [[h, l, d], [e]] →
      (∀ b4 : Nat, (((¬ (e = 0)) → F e) ∧
       (¬ (¬ (e = 0)) →
        (Pre_rvalue [[ry], [co], [yl, yh]] ∧
        (∀ h' : Int, (-9223372036854775808) ≤ h' → h' ≤ 9223372036854775807 →
        (∀ l' : Int, 0 ≤ l' → l' ≤ 18446744073709551615 →
        (∀ d' : Int, (-9223372036854775808) ≤ d' → d' ≤ 9223372036854775807 →
        (∀ e' : Int, 0 ≤ e' → e' ≤ 15 →
        (Post_rvalue [[ry], [co], [yl, yh]] [[h', l', d'], [e']] →
        (∀ b5 : Nat, (((¬ (e' = 0)) → F e') ∧
         (¬ (¬ (e' = 0)) →
          (Pre_rplace [M, [h, l, d], [h', l', d']] ∧
          (∀ px : Int, (-68719476736) ≤ px → px ≤ 68719476736 →
          (∀ py : Int, (-68719476736) ≤ py → py ≤ 68719476736 →
          (∀ er : Int, 0 ≤ er → er ≤ 15 →
          (Post_rplace [M, [h, l, d], [h', l', d']] [[px, py], [er]] →
          (((¬ (er = 0)) → F er) ∧
           (¬ (¬ (er = 0)) → K px py))))))))))))))))))))))))) := by
  subst hM
  refine ⟨trivial, fun h _ _ l _ _ d _ _ e _ _ t _ => ⟨fun he => hF e he ?_, fun he => ?_⟩⟩
  · obtain ⟨f1, f2⟩ := led_bad t he
    rw [f2]
    unfold Es ptE
    rw [h1, hx, f1]
    rfl
  obtain ⟨g1, g2, g3, g4⟩ := led_good t (Classical.not_not.1 he)
  refine ⟨trivial, fun h' _ _ l' _ _ d' _ _ e' _ _ t' _ => ⟨fun he' => hF e' he' ?_, fun he' => ?_⟩⟩
  · obtain ⟨f1, f2⟩ := led_bad t' he'
    rw [f2]
    unfold Es ptE
    rw [h1, hx, hy, g1, f1]
    rfl
  obtain ⟨k1, k2, k3, k4⟩ := led_good t' (Classical.not_not.1 he')
  have hg := gr_or co
  have hmay : may20 (w128 h l) d (w128 h' l') d' := by
    rw [g2, k2, g3, k3]
    exact ⟨rfl, by omega, by omega, led_sml c1 c2 c3 c4 (by omega) (by omega) r1 r2, led_sml c5 c6 c7 c8 (by omega) (by omega) r3 r4⟩
  have hEs : Es L P [m0, m1, m2, m3, m4, m5] i = if farB (pX L P [m0, m1, m2, m3, m4, m5] i) && farB (pY L P [m0, m1, m2, m3, m4, m5] i) then 0 else 8 := by
    unfold Es ptE pX pY
    rw [h1, hx, hy, g1, k1]
    rfl
  have hd : 1 ≤ d * 65536 := by rw [g2]; omega
  refine ⟨trivial, fun px _ _ py _ _ er _ _ q => ?_⟩
  have q' : placed 65536 65536 m0 m1 m2 m3 m4 m5 (w128 h l) d (w128 h' l') d' px py er := q
  obtain ⟨p, s, a1, a2, a3, a4⟩ := q'.2 hmay
  have e1 : p = pX L P [m0, m1, m2, m3, m4, m5] i := by
    rw [nearF_eq hd a1, g3, k3, g2]
    unfold pX ptX ptF
    rw [h1, h6, h7, h8, h9, hx, hy]
    rfl
  have e2 : s = pY L P [m0, m1, m2, m3, m4, m5] i := by
    rw [nearF_eq hd a2, g3, k3, g2]
    unfold pY ptY ptF
    rw [h1, h6, h7, h8, h9, hx, hy]
    rfl
  rw [e1, e2] at a3 a4
  by_cases z : inFar 65536 (pX L P [m0, m1, m2, m3, m4, m5] i) ∧ inFar 65536 (pY L P [m0, m1, m2, m3, m4, m5] i)
  · obtain ⟨b1, b2, b3⟩ := a3 z
    rw [(farB_is _).2 z.1, (farB_is _).2 z.2] at hEs
    exact ⟨fun y => absurd b1 y, fun _ => hK px py b2 b3 hEs⟩
  · obtain ⟨b1, b2, b3⟩ := a4 z
    refine ⟨fun y => hF er y ?_, fun y => absurd (Classical.not_not.1 y) (by omega)⟩
    rw [b1, hEs, if_neg]
    intro w
    rw [Bool.and_eq_true, farB_is, farB_is] at w
    exact z w


theorem nof_badR {l p m : List Int} {e : Int} (h : netE l p m = e) (he : ¬ e = 0) : Post_rnof [l, p, m] [[0, 0, 0, 0, 0, 0, 0, 0, 0, 0, 0, 0, 0, 0, 0, 0, 0, 0, 0, 0, 0, 0, 0, 0, 0, 0, 0, 0, 0, 0, 0, 0], [e]] :=
  ⟨(netN_bad (by rw [h]; exact he)).symm, h.symm⟩

theorem nof_failR {l p m : List Int} (hl : layB l = true) {i n : Nat} (hn : many l = n) (hi : i < n) (h : ∀ j, j < i → Es l p m j = 0) {e : Int} (he : Es l p m i = e) (hne : ¬ e = 0) :
    Post_rnof [l, p, m] [[0, 0, 0, 0, 0, 0, 0, 0, 0, 0, 0, 0, 0, 0, 0, 0, 0, 0, 0, 0, 0, 0, 0, 0, 0, 0, 0, 0, 0, 0, 0, 0], [e]] :=
  nof_badR (netE_at hl (by omega) h he hne) hne

theorem rninth_at {a b c d e f g h z v : Int} (hz : z = ((((((-4) * a) + (6 * (b + c))) - (2 * (d + e))) + (3 * (f + g))) - h)) (hv : Post_rninth [[z]] [[v]]) : mixF a b c d e f g h = v := by
  subst hz
  exact (show v = nearF _ 9 from hv).symm

theorem p_rninth : P_rninth := by
  unfold P_rninth
  intro n l u _
  refine ⟨trivial, fun n1 _ _ n2 _ _ h1 => ⟨trivial, fun n3 _ _ n4 _ _ n5 _ _ h2 b => ⟨trivial, fun n6 _ _ t h3 => ?_⟩⟩⟩
  have e1 : w128 n1 n2 = n := h1
  have e2 : isNear (w128 n1 n2) 9 (w128 n3 n4) := (h2.2 (by omega)).2
  rw [e1] at e2
  have e3 : isInt (w128 n3 n4) n6 (b2i t) := h3
  have e4 : isI64 (w128 n3 n4) := by
    obtain ⟨a1, a2⟩ := e2
    unfold isI64
    omega
  show n6 = nearF n 9
  rw [(e3.1 e4).2]
  exact nearF_eq (by omega) e2


set_option maxHeartbeats 4000000 in
theorem p_nof : P_nof := by
  unfold P_nof
  intro n l_n u_n n1 l_n1 u_n1 n2 l_n2 u_n2 n3 l_n3 u_n3 n4 l_n4 u_n4 n5 l_n5 u_n5 n6 l_n6 u_n6 n7 l_n7 u_n7 n8 l_n8 u_n8 n9 l_n9 u_n9 n10 l_n10 u_n10 n11 l_n11 u_n11
  intro n12 l_n12 u_n12 n13 l_n13 u_n13 n14 l_n14 u_n14 n15 l_n15 u_n15 n16 l_n16 u_n16 n17 l_n17 u_n17 n18 l_n18 u_n18 n19 l_n19 u_n19 n20 l_n20 u_n20 n21 l_n21 u_n21 n22 l_n22 u_n22 n23 l_n23 u_n23
  intro n24 l_n24 u_n24 n25 l_n25 u_n25 n26 l_n26 u_n26 n27 l_n27 u_n27 n28 l_n28 u_n28 n29 l_n29 u_n29 n30 l_n30 u_n30 n31 l_n31 u_n31 n32 l_n32 u_n32 n33 l_n33 u_n33 n34 l_n34 u_n34 n35 l_n35 u_n35
  intro n36 l_n36 u_n36 n37 l_n37 u_n37 n38 l_n38 u_n38 n39 l_n39 u_n39 n40 l_n40 u_n40 n41 l_n41 u_n41 n42 l_n42 u_n42 n43 l_n43 u_n43 n44 l_n44 u_n44 n45 l_n45 u_n45 n46 l_n46 u_n46 n47 l_n47 u_n47
  intro n48 l_n48 u_n48 n49 l_n49 u_n49 n50 l_n50 u_n50 n51 l_n51 u_n51 n52 l_n52 u_n52 n53 l_n53 u_n53 n54 l_n54 u_n54 n55 l_n55 u_n55 n56 l_n56 u_n56 n57 l_n57 u_n57 n58 l_n58 u_n58 n59 l_n59 u_n59
  intro n60 l_n60 u_n60 n61 l_n61 u_n61 n62 l_n62 u_n62 n63 l_n63 u_n63 n64 l_n64 u_n64 n65 l_n65 u_n65 n66 l_n66 u_n66 n67 l_n67 u_n67 n68 l_n68 u_n68 n69 l_n69 u_n69 n70 l_n70 u_n70 n71 l_n71 u_n71
  intro _
  intro _ _ _ _
  refine ⟨trivial, fun e0 _ _ hc => ?_⟩
  replace hc : (lay8 n n1 n2 n3 n4 n5 → e0 = 0) ∧ (¬ lay8 n n1 n2 n3 n4 n5 → e0 = 4) := hc
  generalize hL : [n, n1, n2, n3, n4, n5, n6, n7, n8, n9, n10, n11, n12, n13, n14, n15, n16, n17] = L
  generalize hP : [n18, n19, n20, n21, n22, n23, n24, n25, n26, n27, n28, n29, n30, n31, n32, n33, n34, n35, n36, n37, n38, n39, n40, n41, n42, n43, n44, n45, n46, n47, n48, n49, n50, n51, n52, n53, n54, n55, n56, n57, n58, n59, n60, n61, n62, n63, n64, n65] = P
  generalize hM : [n66, n67, n68, n69, n70, n71] = M
  have L0 : nth L 0 = n := by rw [← hL]; rfl
  have L1 : nth L 1 = n1 := by rw [← hL]; rfl
  have L2 : nth L 2 = n2 := by rw [← hL]; rfl
  have L3 : nth L 3 = n3 := by rw [← hL]; rfl
  have L4 : nth L 4 = n4 := by rw [← hL]; rfl
  have L5 : nth L 5 = n5 := by rw [← hL]; rfl
  have L6 : nth L 6 = n6 := by rw [← hL]; rfl
  have L7 : nth L 7 = n7 := by rw [← hL]; rfl
  have L8 : nth L 8 = n8 := by rw [← hL]; rfl
  have L9 : nth L 9 = n9 := by rw [← hL]; rfl
  refine ⟨fun c0 => ?_, fun c0 => ?_⟩
  · have hn : ¬ lay8 n n1 n2 n3 n4 n5 := fun z => c0 (hc.1 z)
    rw [hc.2 hn]
    exact nof_bad (netE_lay (fun z => by have := (layB_is.1 z).2; rw [L0, L1, L2, L3, L4, L5] at this; exact hn this)) (by omega)
  have hlay : lay8 n n1 n2 n3 n4 n5 := Classical.byContradiction fun z => c0 (by rw [hc.2 z]; omega)
  refine ⟨fun c1 => ⟨trivial, fun _ => ?_⟩, fun c1 => ⟨fun c2 => ⟨trivial, fun _ => ?_⟩, fun c2 => ?_⟩⟩
  · have hB : layB L = true := layB_is.2 (by rw [L0, L1, L2, L3, L4, L5]; exact ⟨Or.inl c1, hlay⟩)
    have hm : many L = 12 := by unfold many; rw [L0, if_neg (by omega)]
    have A0 : ∀ j, j < 0 → Es L P M j = 0 := fun j hj => absurd hj (by omega)
    refine pt_step 0 L1 L6 L7 L8 L9 (by rw [← hP]; rfl) (by rw [← hP]; rfl) hM l_n6 u_n6 l_n7 u_n7 l_n8 u_n8 l_n9 u_n9 l_n18 u_n18 l_n19 u_n19 (fun e he hE => nof_fail hB hm (by omega) A0 hE he) (fun x0 y0 ex0 ey0 hE0 => ?_)
    have A1 := Es_ext A0 hE0
    refine pt_step 1 L1 L6 L7 L8 L9 (by rw [← hP]; rfl) (by rw [← hP]; rfl) hM l_n6 u_n6 l_n7 u_n7 l_n8 u_n8 l_n9 u_n9 l_n20 u_n20 l_n21 u_n21 (fun e he hE => nof_fail hB hm (by omega) A1 hE he) (fun x1 y1 ex1 ey1 hE1 => ?_)
    have A2 := Es_ext A1 hE1
    refine pt_step 2 L1 L6 L7 L8 L9 (by rw [← hP]; rfl) (by rw [← hP]; rfl) hM l_n6 u_n6 l_n7 u_n7 l_n8 u_n8 l_n9 u_n9 l_n22 u_n22 l_n23 u_n23 (fun e he hE => nof_fail hB hm (by omega) A2 hE he) (fun x2 y2 ex2 ey2 hE2 => ?_)
    have A3 := Es_ext A2 hE2
    refine pt_step 3 L1 L6 L7 L8 L9 (by rw [← hP]; rfl) (by rw [← hP]; rfl) hM l_n6 u_n6 l_n7 u_n7 l_n8 u_n8 l_n9 u_n9 l_n24 u_n24 l_n25 u_n25 (fun e he hE => nof_fail hB hm (by omega) A3 hE he) (fun x3 y3 ex3 ey3 hE3 => ?_)
    have A4 := Es_ext A3 hE3
    refine pt_step 4 L1 L6 L7 L8 L9 (by rw [← hP]; rfl) (by rw [← hP]; rfl) hM l_n6 u_n6 l_n7 u_n7 l_n8 u_n8 l_n9 u_n9 l_n26 u_n26 l_n27 u_n27 (fun e he hE => nof_fail hB hm (by omega) A4 hE he) (fun x4 y4 ex4 ey4 hE4 => ?_)
    have A5 := Es_ext A4 hE4
    refine pt_step 5 L1 L6 L7 L8 L9 (by rw [← hP]; rfl) (by rw [← hP]; rfl) hM l_n6 u_n6 l_n7 u_n7 l_n8 u_n8 l_n9 u_n9 l_n28 u_n28 l_n29 u_n29 (fun e he hE => nof_fail hB hm (by omega) A5 hE he) (fun x5 y5 ex5 ey5 hE5 => ?_)
    have A6 := Es_ext A5 hE5
    refine pt_step 6 L1 L6 L7 L8 L9 (by rw [← hP]; rfl) (by rw [← hP]; rfl) hM l_n6 u_n6 l_n7 u_n7 l_n8 u_n8 l_n9 u_n9 l_n30 u_n30 l_n31 u_n31 (fun e he hE => nof_fail hB hm (by omega) A6 hE he) (fun x6 y6 ex6 ey6 hE6 => ?_)
    have A7 := Es_ext A6 hE6
    refine pt_step 7 L1 L6 L7 L8 L9 (by rw [← hP]; rfl) (by rw [← hP]; rfl) hM l_n6 u_n6 l_n7 u_n7 l_n8 u_n8 l_n9 u_n9 l_n32 u_n32 l_n33 u_n33 (fun e he hE => nof_fail hB hm (by omega) A7 hE he) (fun x7 y7 ex7 ey7 hE7 => ?_)
    have A8 := Es_ext A7 hE7
    refine pt_step 8 L1 L6 L7 L8 L9 (by rw [← hP]; rfl) (by rw [← hP]; rfl) hM l_n6 u_n6 l_n7 u_n7 l_n8 u_n8 l_n9 u_n9 l_n34 u_n34 l_n35 u_n35 (fun e he hE => nof_fail hB hm (by omega) A8 hE he) (fun x8 y8 ex8 ey8 hE8 => ?_)
    have A9 := Es_ext A8 hE8
    refine pt_step 9 L1 L6 L7 L8 L9 (by rw [← hP]; rfl) (by rw [← hP]; rfl) hM l_n6 u_n6 l_n7 u_n7 l_n8 u_n8 l_n9 u_n9 l_n36 u_n36 l_n37 u_n37 (fun e he hE => nof_fail hB hm (by omega) A9 hE he) (fun x9 y9 ex9 ey9 hE9 => ?_)
    have A10 := Es_ext A9 hE9
    refine pt_step 10 L1 L6 L7 L8 L9 (by rw [← hP]; rfl) (by rw [← hP]; rfl) hM l_n6 u_n6 l_n7 u_n7 l_n8 u_n8 l_n9 u_n9 l_n38 u_n38 l_n39 u_n39 (fun e he hE => nof_fail hB hm (by omega) A10 hE he) (fun x10 y10 ex10 ey10 hE10 => ?_)
    have A11 := Es_ext A10 hE10
    refine pt_step 11 L1 L6 L7 L8 L9 (by rw [← hP]; rfl) (by rw [← hP]; rfl) hM l_n6 u_n6 l_n7 u_n7 l_n8 u_n8 l_n9 u_n9 l_n40 u_n40 l_n41 u_n41 (fun e he hE => nof_fail hB hm (by omega) A11 hE he) (fun x11 y11 ex11 ey11 hE11 => ?_)
    have A12 := Es_ext A11 hE11
    have hz : netE L P M = 0 := netE_zero hB (by rw [hm]; exact A12)
    have X0 : plX L P M 0 = x0 := (plX_lt (by omega)).trans ex0.symm
    have Y0 : plY L P M 0 = y0 := (plY_lt (by omega)).trans ey0.symm
    have X1 : plX L P M 1 = x1 := (plX_lt (by omega)).trans ex1.symm
    have Y1 : plY L P M 1 = y1 := (plY_lt (by omega)).trans ey1.symm
    have X2 : plX L P M 2 = x2 := (plX_lt (by omega)).trans ex2.symm
    have Y2 : plY L P M 2 = y2 := (plY_lt (by omega)).trans ey2.symm
    have X3 : plX L P M 3 = x3 := (plX_lt (by omega)).trans ex3.symm
    have Y3 : plY L P M 3 = y3 := (plY_lt (by omega)).trans ey3.symm
    have X4 : plX L P M 4 = x4 := (plX_lt (by omega)).trans ex4.symm
    have Y4 : plY L P M 4 = y4 := (plY_lt (by omega)).trans ey4.symm
    have X5 : plX L P M 5 = x5 := (plX_lt (by omega)).trans ex5.symm
    have Y5 : plY L P M 5 = y5 := (plY_lt (by omega)).trans ey5.symm
    have X6 : plX L P M 6 = x6 := (plX_lt (by omega)).trans ex6.symm
    have Y6 : plY L P M 6 = y6 := (plY_lt (by omega)).trans ey6.symm
    have X7 : plX L P M 7 = x7 := (plX_lt (by omega)).trans ex7.symm
    have Y7 : plY L P M 7 = y7 := (plY_lt (by omega)).trans ey7.symm
    have X8 : plX L P M 8 = x8 := (plX_lt (by omega)).trans ex8.symm
    have Y8 : plY L P M 8 = y8 := (plY_lt (by omega)).trans ey8.symm
    have X9 : plX L P M 9 = x9 := (plX_lt (by omega)).trans ex9.symm
    have Y9 : plY L P M 9 = y9 := (plY_lt (by omega)).trans ey9.symm
    have X10 : plX L P M 10 = x10 := (plX_lt (by omega)).trans ex10.symm
    have Y10 : plY L P M 10 = y10 := (plY_lt (by omega)).trans ey10.symm
    have X11 : plX L P M 11 = x11 := (plX_lt (by omega)).trans ex11.symm
    have Y11 : plY L P M 11 = y11 := (plY_lt (by omega)).trans ey11.symm
    intro _ _ _ _ _ _ _ _ _ _ _ _ _ _ _ _ _ _ _ _ _ _ zx12 ezx12 _ _
    refine ⟨trivial, fun vx12 _ _ hvx12 => ?_⟩
    have X12 : plX L P M 12 = vx12 := by
      refine (plX_in hm (by omega)).trans ?_
      show mixF (pX L P M 0) (pX L P M 1) (pX L P M 11) (pX L P M 3) (pX L P M 9) (pX L P M 8) (pX L P M 4) (pX L P M 6) = _
      rw [← ex0, ← ex1, ← ex11, ← ex3, ← ex9, ← ex8, ← ex4, ← ex6]
      exact ninth_at ezx12 hvx12
    intro _ _ _ _ _ _ _ _ _ _ _ _ _ _ _ _ _ zy12 ezy12 _ _
    refine ⟨trivial, fun vy12 _ _ hvy12 => ?_⟩
    have Y12 : plY L P M 12 = vy12 := by
      refine (plY_in hm (by omega)).trans ?_
      show mixF (pY L P M 0) (pY L P M 1) (pY L P M 11) (pY L P M 3) (pY L P M 9) (pY L P M 8) (pY L P M 4) (pY L P M 6) = _
      rw [← ey0, ← ey1, ← ey11, ← ey3, ← ey9, ← ey8, ← ey4, ← ey6]
      exact ninth_at ezy12 hvy12
    intro _ _ _ _ _ _ _ _ _ _ _ _ _ _ _ _ _ _ _ _ _ _ zx13 ezx13 _ _
    refine ⟨trivial, fun vx13 _ _ hvx13 => ?_⟩
    have X13 : plX L P M 13 = vx13 := by
      refine (plX_in hm (by omega)).trans ?_
      show mixF (pX L P M 3) (pX L P M 2) (pX L P M 4) (pX L P M 0) (pX L P M 6) (pX L P M 7) (pX L P M 11) (pX L P M 9) = _
      rw [← ex3, ← ex2, ← ex4, ← ex0, ← ex6, ← ex7, ← ex11, ← ex9]
      exact ninth_at ezx13 hvx13
    intro _ _ _ _ _ _ _ _ _ _ _ _ _ _ _ _ _ zy13 ezy13 _ _
    refine ⟨trivial, fun vy13 _ _ hvy13 => ?_⟩
    have Y13 : plY L P M 13 = vy13 := by
      refine (plY_in hm (by omega)).trans ?_
      show mixF (pY L P M 3) (pY L P M 2) (pY L P M 4) (pY L P M 0) (pY L P M 6) (pY L P M 7) (pY L P M 11) (pY L P M 9) = _
      rw [← ey3, ← ey2, ← ey4, ← ey0, ← ey6, ← ey7, ← ey11, ← ey9]
      exact ninth_at ezy13 hvy13
    intro _ _ _ _ _ _ _ _ _ _ _ _ _ _ _ _ _ _ _ _ _ _ zx15 ezx15 _ _
    refine ⟨trivial, fun vx15 _ _ hvx15 => ?_⟩
    have X15 : plX L P M 15 = vx15 := by
      refine (plX_in hm (by omega)).trans ?_
      show mixF (pX L P M 9) (pX L P M 8) (pX L P M 10) (pX L P M 6) (pX L P M 0) (pX L P M 1) (pX L P M 5) (pX L P M 3) = _
      rw [← ex9, ← ex8, ← ex10, ← ex6, ← ex0, ← ex1, ← ex5, ← ex3]
      exact ninth_at ezx15 hvx15
    intro _ _ _ _ _ _ _ _ _ _ _ _ _ _ _ _ _ zy15 ezy15 _ _
    refine ⟨trivial, fun vy15 _ _ hvy15 => ?_⟩
    have Y15 : plY L P M 15 = vy15 := by
      refine (plY_in hm (by omega)).trans ?_
      show mixF (pY L P M 9) (pY L P M 8) (pY L P M 10) (pY L P M 6) (pY L P M 0) (pY L P M 1) (pY L P M 5) (pY L P M 3) = _
      rw [← ey9, ← ey8, ← ey10, ← ey6, ← ey0, ← ey1, ← ey5, ← ey3]
      exact ninth_at ezy15 hvy15
    intro _ _ _ _ _ _ _ _ _ _ _ _ _ _ _ _ _ _ _ _ _ _ zx14 ezx14 _ _
    refine ⟨trivial, fun vx14 _ _ hvx14 => ?_⟩
    have X14 : plX L P M 14 = vx14 := by
      refine (plX_in hm (by omega)).trans ?_
      show mixF (pX L P M 6) (pX L P M 7) (pX L P M 5) (pX L P M 9) (pX L P M 3) (pX L P M 2) (pX L P M 10) (pX L P M 0) = _
      rw [← ex6, ← ex7, ← ex5, ← ex9, ← ex3, ← ex2, ← ex10, ← ex0]
      exact ninth_at ezx14 hvx14
    intro _ _ _ _ _ _ _ _ _ _ _ _ _ _ _ _ _ zy14 ezy14 _ _
    refine ⟨trivial, fun vy14 _ _ hvy14 => ?_⟩
    have Y14 : plY L P M 14 = vy14 := by
      refine (plY_in hm (by omega)).trans ?_
      show mixF (pY L P M 6) (pY L P M 7) (pY L P M 5) (pY L P M 9) (pY L P M 3) (pY L P M 2) (pY L P M 10) (pY L P M 0) = _
      rw [← ey6, ← ey7, ← ey5, ← ey9, ← ey3, ← ey2, ← ey10, ← ey0]
      exact ninth_at ezy14 hvy14
    skip
    refine ⟨?_, hz.symm⟩
    show _ = netN L P M
    rw [netN_eq hz, X0, Y0, X1, Y1, X2, Y2, X3, Y3, X11, Y11, X12, Y12, X13, Y13, X4, Y4, X10, Y10, X15, Y15, X14, Y14, X5, Y5, X9, Y9, X8, Y8, X7, Y7, X6, Y6]
  · have hB : layB L = true := layB_is.2 (by rw [L0, L1, L2, L3, L4, L5]; exact ⟨Or.inr c2, hlay⟩)
    have hm : many L = 16 := by unfold many; rw [L0, if_pos c2]
    have A0 : ∀ j, j < 0 → Es L P M j = 0 := fun j hj => absurd hj (by omega)
    refine pt_step 0 L1 L6 L7 L8 L9 (by rw [← hP]; rfl) (by rw [← hP]; rfl) hM l_n6 u_n6 l_n7 u_n7 l_n8 u_n8 l_n9 u_n9 l_n18 u_n18 l_n19 u_n19 (fun e he hE => nof_fail hB hm (by omega) A0 hE he) (fun x0 y0 ex0 ey0 hE0 => ?_)
    have A1 := Es_ext A0 hE0
    refine pt_step 1 L1 L6 L7 L8 L9 (by rw [← hP]; rfl) (by rw [← hP]; rfl) hM l_n6 u_n6 l_n7 u_n7 l_n8 u_n8 l_n9 u_n9 l_n20 u_n20 l_n21 u_n21 (fun e he hE => nof_fail hB hm (by omega) A1 hE he) (fun x1 y1 ex1 ey1 hE1 => ?_)
    have A2 := Es_ext A1 hE1
    refine pt_step 2 L1 L6 L7 L8 L9 (by rw [← hP]; rfl) (by rw [← hP]; rfl) hM l_n6 u_n6 l_n7 u_n7 l_n8 u_n8 l_n9 u_n9 l_n22 u_n22 l_n23 u_n23 (fun e he hE => nof_fail hB hm (by omega) A2 hE he) (fun x2 y2 ex2 ey2 hE2 => ?_)
    have A3 := Es_ext A2 hE2
    refine pt_step 3 L1 L6 L7 L8 L9 (by rw [← hP]; rfl) (by rw [← hP]; rfl) hM l_n6 u_n6 l_n7 u_n7 l_n8 u_n8 l_n9 u_n9 l_n24 u_n24 l_n25 u_n25 (fun e he hE => nof_fail hB hm (by omega) A3 hE he) (fun x3 y3 ex3 ey3 hE3 => ?_)
    have A4 := Es_ext A3 hE3
    refine pt_step 4 L1 L6 L7 L8 L9 (by rw [← hP]; rfl) (by rw [← hP]; rfl) hM l_n6 u_n6 l_n7 u_n7 l_n8 u_n8 l_n9 u_n9 l_n26 u_n26 l_n27 u_n27 (fun e he hE => nof_fail hB hm (by omega) A4 hE he) (fun x4 y4 ex4 ey4 hE4 => ?_)
    have A5 := Es_ext A4 hE4
    refine pt_step 5 L1 L6 L7 L8 L9 (by rw [← hP]; rfl) (by rw [← hP]; rfl) hM l_n6 u_n6 l_n7 u_n7 l_n8 u_n8 l_n9 u_n9 l_n28 u_n28 l_n29 u_n29 (fun e he hE => nof_fail hB hm (by omega) A5 hE he) (fun x5 y5 ex5 ey5 hE5 => ?_)
    have A6 := Es_ext A5 hE5
    refine pt_step 6 L1 L6 L7 L8 L9 (by rw [← hP]; rfl) (by rw [← hP]; rfl) hM l_n6 u_n6 l_n7 u_n7 l_n8 u_n8 l_n9 u_n9 l_n30 u_n30 l_n31 u_n31 (fun e he hE => nof_fail hB hm (by omega) A6 hE he) (fun x6 y6 ex6 ey6 hE6 => ?_)
    have A7 := Es_ext A6 hE6
    refine pt_step 7 L1 L6 L7 L8 L9 (by rw [← hP]; rfl) (by rw [← hP]; rfl) hM l_n6 u_n6 l_n7 u_n7 l_n8 u_n8 l_n9 u_n9 l_n32 u_n32 l_n33 u_n33 (fun e he hE => nof_fail hB hm (by omega) A7 hE he) (fun x7 y7 ex7 ey7 hE7 => ?_)
    have A8 := Es_ext A7 hE7
    refine pt_step 8 L1 L6 L7 L8 L9 (by rw [← hP]; rfl) (by rw [← hP]; rfl) hM l_n6 u_n6 l_n7 u_n7 l_n8 u_n8 l_n9 u_n9 l_n34 u_n34 l_n35 u_n35 (fun e he hE => nof_fail hB hm (by omega) A8 hE he) (fun x8 y8 ex8 ey8 hE8 => ?_)
    have A9 := Es_ext A8 hE8
    refine pt_step 9 L1 L6 L7 L8 L9 (by rw [← hP]; rfl) (by rw [← hP]; rfl) hM l_n6 u_n6 l_n7 u_n7 l_n8 u_n8 l_n9 u_n9 l_n36 u_n36 l_n37 u_n37 (fun e he hE => nof_fail hB hm (by omega) A9 hE he) (fun x9 y9 ex9 ey9 hE9 => ?_)
    have A10 := Es_ext A9 hE9
    refine pt_step 10 L1 L6 L7 L8 L9 (by rw [← hP]; rfl) (by rw [← hP]; rfl) hM l_n6 u_n6 l_n7 u_n7 l_n8 u_n8 l_n9 u_n9 l_n38 u_n38 l_n39 u_n39 (fun e he hE => nof_fail hB hm (by omega) A10 hE he) (fun x10 y10 ex10 ey10 hE10 => ?_)
    have A11 := Es_ext A10 hE10
    refine pt_step 11 L1 L6 L7 L8 L9 (by rw [← hP]; rfl) (by rw [← hP]; rfl) hM l_n6 u_n6 l_n7 u_n7 l_n8 u_n8 l_n9 u_n9 l_n40 u_n40 l_n41 u_n41 (fun e he hE => nof_fail hB hm (by omega) A11 hE he) (fun x11 y11 ex11 ey11 hE11 => ?_)
    have A12 := Es_ext A11 hE11
    refine pt_step 12 L1 L6 L7 L8 L9 (by rw [← hP]; rfl) (by rw [← hP]; rfl) hM l_n6 u_n6 l_n7 u_n7 l_n8 u_n8 l_n9 u_n9 l_n42 u_n42 l_n43 u_n43 (fun e he hE => nof_fail hB hm (by omega) A12 hE he) (fun x12 y12 ex12 ey12 hE12 => ?_)
    have A13 := Es_ext A12 hE12
    refine pt_step 13 L1 L6 L7 L8 L9 (by rw [← hP]; rfl) (by rw [← hP]; rfl) hM l_n6 u_n6 l_n7 u_n7 l_n8 u_n8 l_n9 u_n9 l_n44 u_n44 l_n45 u_n45 (fun e he hE => nof_fail hB hm (by omega) A13 hE he) (fun x13 y13 ex13 ey13 hE13 => ?_)
    have A14 := Es_ext A13 hE13
    refine pt_step 14 L1 L6 L7 L8 L9 (by rw [← hP]; rfl) (by rw [← hP]; rfl) hM l_n6 u_n6 l_n7 u_n7 l_n8 u_n8 l_n9 u_n9 l_n46 u_n46 l_n47 u_n47 (fun e he hE => nof_fail hB hm (by omega) A14 hE he) (fun x14 y14 ex14 ey14 hE14 => ?_)
    have A15 := Es_ext A14 hE14
    refine pt_step 15 L1 L6 L7 L8 L9 (by rw [← hP]; rfl) (by rw [← hP]; rfl) hM l_n6 u_n6 l_n7 u_n7 l_n8 u_n8 l_n9 u_n9 l_n48 u_n48 l_n49 u_n49 (fun e he hE => nof_fail hB hm (by omega) A15 hE he) (fun x15 y15 ex15 ey15 hE15 => ?_)
    have A16 := Es_ext A15 hE15
    have hz : netE L P M = 0 := netE_zero hB (by rw [hm]; exact A16)
    have X0 : plX L P M 0 = x0 := (plX_lt (by omega)).trans ex0.symm
    have Y0 : plY L P M 0 = y0 := (plY_lt (by omega)).trans ey0.symm
    have X1 : plX L P M 1 = x1 := (plX_lt (by omega)).trans ex1.symm
    have Y1 : plY L P M 1 = y1 := (plY_lt (by omega)).trans ey1.symm
    have X2 : plX L P M 2 = x2 := (plX_lt (by omega)).trans ex2.symm
    have Y2 : plY L P M 2 = y2 := (plY_lt (by omega)).trans ey2.symm
    have X3 : plX L P M 3 = x3 := (plX_lt (by omega)).trans ex3.symm
    have Y3 : plY L P M 3 = y3 := (plY_lt (by omega)).trans ey3.symm
    have X4 : plX L P M 4 = x4 := (plX_lt (by omega)).trans ex4.symm
    have Y4 : plY L P M 4 = y4 := (plY_lt (by omega)).trans ey4.symm
    have X5 : plX L P M 5 = x5 := (plX_lt (by omega)).trans ex5.symm
    have Y5 : plY L P M 5 = y5 := (plY_lt (by omega)).trans ey5.symm
    have X6 : plX L P M 6 = x6 := (plX_lt (by omega)).trans ex6.symm
    have Y6 : plY L P M 6 = y6 := (plY_lt (by omega)).trans ey6.symm
    have X7 : plX L P M 7 = x7 := (plX_lt (by omega)).trans ex7.symm
    have Y7 : plY L P M 7 = y7 := (plY_lt (by omega)).trans ey7.symm
    have X8 : plX L P M 8 = x8 := (plX_lt (by omega)).trans ex8.symm
    have Y8 : plY L P M 8 = y8 := (plY_lt (by omega)).trans ey8.symm
    have X9 : plX L P M 9 = x9 := (plX_lt (by omega)).trans ex9.symm
    have Y9 : plY L P M 9 = y9 := (plY_lt (by omega)).trans ey9.symm
    have X10 : plX L P M 10 = x10 := (plX_lt (by omega)).trans ex10.symm
    have Y10 : plY L P M 10 = y10 := (plY_lt (by omega)).trans ey10.symm
    have X11 : plX L P M 11 = x11 := (plX_lt (by omega)).trans ex11.symm
    have Y11 : plY L P M 11 = y11 := (plY_lt (by omega)).trans ey11.symm
    have X12 : plX L P M 12 = x12 := (plX_lt (by omega)).trans ex12.symm
    have Y12 : plY L P M 12 = y12 := (plY_lt (by omega)).trans ey12.symm
    have X13 : plX L P M 13 = x13 := (plX_lt (by omega)).trans ex13.symm
    have Y13 : plY L P M 13 = y13 := (plY_lt (by omega)).trans ey13.symm
    have X14 : plX L P M 14 = x14 := (plX_lt (by omega)).trans ex14.symm
    have Y14 : plY L P M 14 = y14 := (plY_lt (by omega)).trans ey14.symm
    have X15 : plX L P M 15 = x15 := (plX_lt (by omega)).trans ex15.symm
    have Y15 : plY L P M 15 = y15 := (plY_lt (by omega)).trans ey15.symm
    skip
    refine ⟨?_, hz.symm⟩
    show _ = netN L P M
    rw [netN_eq hz, X0, Y0, X1, Y1, X2, Y2, X3, Y3, X11, Y11, X12, Y12, X13, Y13, X4, Y4, X10, Y10, X15, Y15, X14, Y14, X5, Y5, X9, Y9, X8, Y8, X7, Y7, X6, Y6]
  · exact nof_bad (netE_lay (fun z => by have := (layB_is.1 z).1; rw [L0] at this; omega)) (by omega)

set_option maxHeartbeats 4000000 in
theorem p_rnof : P_rnof := by
  unfold P_rnof
  intro n l_n u_n n1 l_n1 u_n1 n2 l_n2 u_n2 n3 l_n3 u_n3 n4 l_n4 u_n4 n5 l_n5 u_n5 n6 l_n6 u_n6 n7 l_n7 u_n7 n8 l_n8 u_n8 n9 l_n9 u_n9 n10 l_n10 u_n10 n11 l_n11 u_n11
  intro n12 l_n12 u_n12 n13 l_n13 u_n13 n14 l_n14 u_n14 n15 l_n15 u_n15 n16 l_n16 u_n16 n17 l_n17 u_n17 n18 l_n18 u_n18 n19 l_n19 u_n19 n20 l_n20 u_n20 n21 l_n21 u_n21 n22 l_n22 u_n22 n23 l_n23 u_n23
  intro n24 l_n24 u_n24 n25 l_n25 u_n25 n26 l_n26 u_n26 n27 l_n27 u_n27 n28 l_n28 u_n28 n29 l_n29 u_n29 n30 l_n30 u_n30 n31 l_n31 u_n31 n32 l_n32 u_n32 n33 l_n33 u_n33 n34 l_n34 u_n34 n35 l_n35 u_n35
  intro n36 l_n36 u_n36 n37 l_n37 u_n37 n38 l_n38 u_n38 n39 l_n39 u_n39 n40 l_n40 u_n40 n41 l_n41 u_n41 n42 l_n42 u_n42 n43 l_n43 u_n43 n44 l_n44 u_n44 n45 l_n45 u_n45 n46 l_n46 u_n46 n47 l_n47 u_n47
  intro n48 l_n48 u_n48 n49 l_n49 u_n49 n50 l_n50 u_n50 n51 l_n51 u_n51 n52 l_n52 u_n52 n53 l_n53 u_n53 n54 l_n54 u_n54 n55 l_n55 u_n55 n56 l_n56 u_n56 n57 l_n57 u_n57 n58 l_n58 u_n58 n59 l_n59 u_n59
  intro n60 l_n60 u_n60 n61 l_n61 u_n61 n62 l_n62 u_n62 n63 l_n63 u_n63 n64 l_n64 u_n64 n65 l_n65 u_n65 n66 l_n66 u_n66 n67 l_n67 u_n67 n68 l_n68 u_n68 n69 l_n69 u_n69 n70 l_n70 u_n70 n71 l_n71 u_n71
  intro _
  intro _ _ _ _
  refine ⟨trivial, fun e0 _ _ hc => ?_⟩
  replace hc : (lay8 n n1 n2 n3 n4 n5 → e0 = 0) ∧ (¬ lay8 n n1 n2 n3 n4 n5 → e0 = 4) := hc
  generalize hL : [n, n1, n2, n3, n4, n5, n6, n7, n8, n9, n10, n11, n12, n13, n14, n15, n16, n17] = L
  generalize hP : [n18, n19, n20, n21, n22, n23, n24, n25, n26, n27, n28, n29, n30, n31, n32, n33, n34, n35, n36, n37, n38, n39, n40, n41, n42, n43, n44, n45, n46, n47, n48, n49, n50, n51, n52, n53, n54, n55, n56, n57, n58, n59, n60, n61, n62, n63, n64, n65] = P
  generalize hM : [n66, n67, n68, n69, n70, n71] = M
  have L0 : nth L 0 = n := by rw [← hL]; rfl
  have L1 : nth L 1 = n1 := by rw [← hL]; rfl
  have L2 : nth L 2 = n2 := by rw [← hL]; rfl
  have L3 : nth L 3 = n3 := by rw [← hL]; rfl
  have L4 : nth L 4 = n4 := by rw [← hL]; rfl
  have L5 : nth L 5 = n5 := by rw [← hL]; rfl
  have L6 : nth L 6 = n6 := by rw [← hL]; rfl
  have L7 : nth L 7 = n7 := by rw [← hL]; rfl
  have L8 : nth L 8 = n8 := by rw [← hL]; rfl
  have L9 : nth L 9 = n9 := by rw [← hL]; rfl
  refine ⟨fun c0 => ?_, fun c0 => ?_⟩
  · have hn : ¬ lay8 n n1 n2 n3 n4 n5 := fun z => c0 (hc.1 z)
    rw [hc.2 hn]
    exact nof_badR (netE_lay (fun z => by have := (layB_is.1 z).2; rw [L0, L1, L2, L3, L4, L5] at this; exact hn this)) (by omega)
  have hlay : lay8 n n1 n2 n3 n4 n5 := Classical.byContradiction fun z => c0 (by rw [hc.2 z]; omega)
  refine ⟨fun c1 => ⟨fun c2 => ?_, fun c2 => ⟨Classical.not_not.1 c2, ?_⟩⟩, fun c1 => ⟨Classical.not_not.1 c1, ?_⟩⟩
  · exact nof_badR (netE_lay (fun z => by have := (layB_is.1 z).1; rw [L0] at this; omega)) (by omega)
  · replace c2 := Classical.not_not.1 c2
    have hB : layB L = true := layB_is.2 (by rw [L0, L1, L2, L3, L4, L5]; exact ⟨Or.inr c2, hlay⟩)
    have hm : many L = 16 := by unfold many; rw [L0, if_pos c2]
    intro _ _
    have A0 : ∀ j, j < 0 → Es L P M j = 0 := fun j hj => absurd hj (by omega)
    refine pt_stepR 0 L1 L6 L7 L8 L9 (by rw [← hP]; rfl) (by rw [← hP]; rfl) hM l_n6 u_n6 l_n7 u_n7 l_n8 u_n8 l_n9 u_n9 l_n18 u_n18 l_n19 u_n19 (fun e he hE => nof_failR hB hm (by omega) A0 hE he) (fun x0 y0 ex0 ey0 hE0 => ?_)
    have A1 := Es_ext A0 hE0
    refine pt_stepR 1 L1 L6 L7 L8 L9 (by rw [← hP]; rfl) (by rw [← hP]; rfl) hM l_n6 u_n6 l_n7 u_n7 l_n8 u_n8 l_n9 u_n9 l_n20 u_n20 l_n21 u_n21 (fun e he hE => nof_failR hB hm (by omega) A1 hE he) (fun x1 y1 ex1 ey1 hE1 => ?_)
    have A2 := Es_ext A1 hE1
    refine pt_stepR 2 L1 L6 L7 L8 L9 (by rw [← hP]; rfl) (by rw [← hP]; rfl) hM l_n6 u_n6 l_n7 u_n7 l_n8 u_n8 l_n9 u_n9 l_n22 u_n22 l_n23 u_n23 (fun e he hE => nof_failR hB hm (by omega) A2 hE he) (fun x2 y2 ex2 ey2 hE2 => ?_)
    have A3 := Es_ext A2 hE2
    refine pt_stepR 3 L1 L6 L7 L8 L9 (by rw [← hP]; rfl) (by rw [← hP]; rfl) hM l_n6 u_n6 l_n7 u_n7 l_n8 u_n8 l_n9 u_n9 l_n24 u_n24 l_n25 u_n25 (fun e he hE => nof_failR hB hm (by omega) A3 hE he) (fun x3 y3 ex3 ey3 hE3 => ?_)
    have A4 := Es_ext A3 hE3
    refine pt_stepR 4 L1 L6 L7 L8 L9 (by rw [← hP]; rfl) (by rw [← hP]; rfl) hM l_n6 u_n6 l_n7 u_n7 l_n8 u_n8 l_n9 u_n9 l_n26 u_n26 l_n27 u_n27 (fun e he hE => nof_failR hB hm (by omega) A4 hE he) (fun x4 y4 ex4 ey4 hE4 => ?_)
    have A5 := Es_ext A4 hE4
    refine pt_stepR 5 L1 L6 L7 L8 L9 (by rw [← hP]; rfl) (by rw [← hP]; rfl) hM l_n6 u_n6 l_n7 u_n7 l_n8 u_n8 l_n9 u_n9 l_n28 u_n28 l_n29 u_n29 (fun e he hE => nof_failR hB hm (by omega) A5 hE he) (fun x5 y5 ex5 ey5 hE5 => ?_)
    have A6 := Es_ext A5 hE5
    refine pt_stepR 6 L1 L6 L7 L8 L9 (by rw [← hP]; rfl) (by rw [← hP]; rfl) hM l_n6 u_n6 l_n7 u_n7 l_n8 u_n8 l_n9 u_n9 l_n30 u_n30 l_n31 u_n31 (fun e he hE => nof_failR hB hm (by omega) A6 hE he) (fun x6 y6 ex6 ey6 hE6 => ?_)
    have A7 := Es_ext A6 hE6
    refine pt_stepR 7 L1 L6 L7 L8 L9 (by rw [← hP]; rfl) (by rw [← hP]; rfl) hM l_n6 u_n6 l_n7 u_n7 l_n8 u_n8 l_n9 u_n9 l_n32 u_n32 l_n33 u_n33 (fun e he hE => nof_failR hB hm (by omega) A7 hE he) (fun x7 y7 ex7 ey7 hE7 => ?_)
    have A8 := Es_ext A7 hE7
    refine pt_stepR 8 L1 L6 L7 L8 L9 (by rw [← hP]; rfl) (by rw [← hP]; rfl) hM l_n6 u_n6 l_n7 u_n7 l_n8 u_n8 l_n9 u_n9 l_n34 u_n34 l_n35 u_n35 (fun e he hE => nof_failR hB hm (by omega) A8 hE he) (fun x8 y8 ex8 ey8 hE8 => ?_)
    have A9 := Es_ext A8 hE8
    refine pt_stepR 9 L1 L6 L7 L8 L9 (by rw [← hP]; rfl) (by rw [← hP]; rfl) hM l_n6 u_n6 l_n7 u_n7 l_n8 u_n8 l_n9 u_n9 l_n36 u_n36 l_n37 u_n37 (fun e he hE => nof_failR hB hm (by omega) A9 hE he) (fun x9 y9 ex9 ey9 hE9 => ?_)
    have A10 := Es_ext A9 hE9
    refine pt_stepR 10 L1 L6 L7 L8 L9 (by rw [← hP]; rfl) (by rw [← hP]; rfl) hM l_n6 u_n6 l_n7 u_n7 l_n8 u_n8 l_n9 u_n9 l_n38 u_n38 l_n39 u_n39 (fun e he hE => nof_failR hB hm (by omega) A10 hE he) (fun x10 y10 ex10 ey10 hE10 => ?_)
    have A11 := Es_ext A10 hE10
    refine pt_stepR 11 L1 L6 L7 L8 L9 (by rw [← hP]; rfl) (by rw [← hP]; rfl) hM l_n6 u_n6 l_n7 u_n7 l_n8 u_n8 l_n9 u_n9 l_n40 u_n40 l_n41 u_n41 (fun e he hE => nof_failR hB hm (by omega) A11 hE he) (fun x11 y11 ex11 ey11 hE11 => ?_)
    have A12 := Es_ext A11 hE11
    refine pt_stepR 12 L1 L6 L7 L8 L9 (by rw [← hP]; rfl) (by rw [← hP]; rfl) hM l_n6 u_n6 l_n7 u_n7 l_n8 u_n8 l_n9 u_n9 l_n42 u_n42 l_n43 u_n43 (fun e he hE => nof_failR hB hm (by omega) A12 hE he) (fun x12 y12 ex12 ey12 hE12 => ?_)
    have A13 := Es_ext A12 hE12
    refine pt_stepR 13 L1 L6 L7 L8 L9 (by rw [← hP]; rfl) (by rw [← hP]; rfl) hM l_n6 u_n6 l_n7 u_n7 l_n8 u_n8 l_n9 u_n9 l_n44 u_n44 l_n45 u_n45 (fun e he hE => nof_failR hB hm (by omega) A13 hE he) (fun x13 y13 ex13 ey13 hE13 => ?_)
    have A14 := Es_ext A13 hE13
    refine pt_stepR 14 L1 L6 L7 L8 L9 (by rw [← hP]; rfl) (by rw [← hP]; rfl) hM l_n6 u_n6 l_n7 u_n7 l_n8 u_n8 l_n9 u_n9 l_n46 u_n46 l_n47 u_n47 (fun e he hE => nof_failR hB hm (by omega) A14 hE he) (fun x14 y14 ex14 ey14 hE14 => ?_)
    have A15 := Es_ext A14 hE14
    refine pt_stepR 15 L1 L6 L7 L8 L9 (by rw [← hP]; rfl) (by rw [← hP]; rfl) hM l_n6 u_n6 l_n7 u_n7 l_n8 u_n8 l_n9 u_n9 l_n48 u_n48 l_n49 u_n49 (fun e he hE => nof_failR hB hm (by omega) A15 hE he) (fun x15 y15 ex15 ey15 hE15 => ?_)
    have A16 := Es_ext A15 hE15
    have hz : netE L P M = 0 := netE_zero hB (by rw [hm]; exact A16)
    have X0 : plX L P M 0 = x0 := (plX_lt (by omega)).trans ex0.symm
    have Y0 : plY L P M 0 = y0 := (plY_lt (by omega)).trans ey0.symm
    have X1 : plX L P M 1 = x1 := (plX_lt (by omega)).trans ex1.symm
    have Y1 : plY L P M 1 = y1 := (plY_lt (by omega)).trans ey1.symm
    have X2 : plX L P M 2 = x2 := (plX_lt (by omega)).trans ex2.symm
    have Y2 : plY L P M 2 = y2 := (plY_lt (by omega)).trans ey2.symm
    have X3 : plX L P M 3 = x3 := (plX_lt (by omega)).trans ex3.symm
    have Y3 : plY L P M 3 = y3 := (plY_lt (by omega)).trans ey3.symm
    have X4 : plX L P M 4 = x4 := (plX_lt (by omega)).trans ex4.symm
    have Y4 : plY L P M 4 = y4 := (plY_lt (by omega)).trans ey4.symm
    have X5 : plX L P M 5 = x5 := (plX_lt (by omega)).trans ex5.symm
    have Y5 : plY L P M 5 = y5 := (plY_lt (by omega)).trans ey5.symm
    have X6 : plX L P M 6 = x6 := (plX_lt (by omega)).trans ex6.symm
    have Y6 : plY L P M 6 = y6 := (plY_lt (by omega)).trans ey6.symm
    have X7 : plX L P M 7 = x7 := (plX_lt (by omega)).trans ex7.symm
    have Y7 : plY L P M 7 = y7 := (plY_lt (by omega)).trans ey7.symm
    have X8 : plX L P M 8 = x8 := (plX_lt (by omega)).trans ex8.symm
    have Y8 : plY L P M 8 = y8 := (plY_lt (by omega)).trans ey8.symm
    have X9 : plX L P M 9 = x9 := (plX_lt (by omega)).trans ex9.symm
    have Y9 : plY L P M 9 = y9 := (plY_lt (by omega)).trans ey9.symm
    have X10 : plX L P M 10 = x10 := (plX_lt (by omega)).trans ex10.symm
    have Y10 : plY L P M 10 = y10 := (plY_lt (by omega)).trans ey10.symm
    have X11 : plX L P M 11 = x11 := (plX_lt (by omega)).trans ex11.symm
    have Y11 : plY L P M 11 = y11 := (plY_lt (by omega)).trans ey11.symm
    have X12 : plX L P M 12 = x12 := (plX_lt (by omega)).trans ex12.symm
    have Y12 : plY L P M 12 = y12 := (plY_lt (by omega)).trans ey12.symm
    have X13 : plX L P M 13 = x13 := (plX_lt (by omega)).trans ex13.symm
    have Y13 : plY L P M 13 = y13 := (plY_lt (by omega)).trans ey13.symm
    have X14 : plX L P M 14 = x14 := (plX_lt (by omega)).trans ex14.symm
    have Y14 : plY L P M 14 = y14 := (plY_lt (by omega)).trans ey14.symm
    have X15 : plX L P M 15 = x15 := (plX_lt (by omega)).trans ex15.symm
    have Y15 : plY L P M 15 = y15 := (plY_lt (by omega)).trans ey15.symm
    skip
    refine ⟨?_, hz.symm⟩
    show _ = netN L P M
    rw [netN_eq hz, X0, Y0, X1, Y1, X2, Y2, X3, Y3, X11, Y11, X12, Y12, X13, Y13, X4, Y4, X10, Y10, X15, Y15, X14, Y14, X5, Y5, X9, Y9, X8, Y8, X7, Y7, X6, Y6]
  · replace c1 := Classical.not_not.1 c1
    have hB : layB L = true := layB_is.2 (by rw [L0, L1, L2, L3, L4, L5]; exact ⟨Or.inl c1, hlay⟩)
    have hm : many L = 12 := by unfold many; rw [L0, if_neg (by omega)]
    intro _ _
    have A0 : ∀ j, j < 0 → Es L P M j = 0 := fun j hj => absurd hj (by omega)
    refine pt_stepR 0 L1 L6 L7 L8 L9 (by rw [← hP]; rfl) (by rw [← hP]; rfl) hM l_n6 u_n6 l_n7 u_n7 l_n8 u_n8 l_n9 u_n9 l_n18 u_n18 l_n19 u_n19 (fun e he hE => nof_failR hB hm (by omega) A0 hE he) (fun x0 y0 ex0 ey0 hE0 => ?_)
    have A1 := Es_ext A0 hE0
    refine pt_stepR 1 L1 L6 L7 L8 L9 (by rw [← hP]; rfl) (by rw [← hP]; rfl) hM l_n6 u_n6 l_n7 u_n7 l_n8 u_n8 l_n9 u_n9 l_n20 u_n20 l_n21 u_n21 (fun e he hE => nof_failR hB hm (by omega) A1 hE he) (fun x1 y1 ex1 ey1 hE1 => ?_)
    have A2 := Es_ext A1 hE1
    refine pt_stepR 2 L1 L6 L7 L8 L9 (by rw [← hP]; rfl) (by rw [← hP]; rfl) hM l_n6 u_n6 l_n7 u_n7 l_n8 u_n8 l_n9 u_n9 l_n22 u_n22 l_n23 u_n23 (fun e he hE => nof_failR hB hm (by omega) A2 hE he) (fun x2 y2 ex2 ey2 hE2 => ?_)
    have A3 := Es_ext A2 hE2
    refine pt_stepR 3 L1 L6 L7 L8 L9 (by rw [← hP]; rfl) (by rw [← hP]; rfl) hM l_n6 u_n6 l_n7 u_n7 l_n8 u_n8 l_n9 u_n9 l_n24 u_n24 l_n25 u_n25 (fun e he hE => nof_failR hB hm (by omega) A3 hE he) (fun x3 y3 ex3 ey3 hE3 => ?_)
    have A4 := Es_ext A3 hE3
    refine pt_stepR 4 L1 L6 L7 L8 L9 (by rw [← hP]; rfl) (by rw [← hP]; rfl) hM l_n6 u_n6 l_n7 u_n7 l_n8 u_n8 l_n9 u_n9 l_n26 u_n26 l_n27 u_n27 (fun e he hE => nof_failR hB hm (by omega) A4 hE he) (fun x4 y4 ex4 ey4 hE4 => ?_)
    have A5 := Es_ext A4 hE4
    refine pt_stepR 5 L1 L6 L7 L8 L9 (by rw [← hP]; rfl) (by rw [← hP]; rfl) hM l_n6 u_n6 l_n7 u_n7 l_n8 u_n8 l_n9 u_n9 l_n28 u_n28 l_n29 u_n29 (fun e he hE => nof_failR hB hm (by omega) A5 hE he) (fun x5 y5 ex5 ey5 hE5 => ?_)
    have A6 := Es_ext A5 hE5
    refine pt_stepR 6 L1 L6 L7 L8 L9 (by rw [← hP]; rfl) (by rw [← hP]; rfl) hM l_n6 u_n6 l_n7 u_n7 l_n8 u_n8 l_n9 u_n9 l_n30 u_n30 l_n31 u_n31 (fun e he hE => nof_failR hB hm (by omega) A6 hE he) (fun x6 y6 ex6 ey6 hE6 => ?_)
    have A7 := Es_ext A6 hE6
    refine pt_stepR 7 L1 L6 L7 L8 L9 (by rw [← hP]; rfl) (by rw [← hP]; rfl) hM l_n6 u_n6 l_n7 u_n7 l_n8 u_n8 l_n9 u_n9 l_n32 u_n32 l_n33 u_n33 (fun e he hE => nof_failR hB hm (by omega) A7 hE he) (fun x7 y7 ex7 ey7 hE7 => ?_)
    have A8 := Es_ext A7 hE7
    refine pt_stepR 8 L1 L6 L7 L8 L9 (by rw [← hP]; rfl) (by rw [← hP]; rfl) hM l_n6 u_n6 l_n7 u_n7 l_n8 u_n8 l_n9 u_n9 l_n34 u_n34 l_n35 u_n35 (fun e he hE => nof_failR hB hm (by omega) A8 hE he) (fun x8 y8 ex8 ey8 hE8 => ?_)
    have A9 := Es_ext A8 hE8
    refine pt_stepR 9 L1 L6 L7 L8 L9 (by rw [← hP]; rfl) (by rw [← hP]; rfl) hM l_n6 u_n6 l_n7 u_n7 l_n8 u_n8 l_n9 u_n9 l_n36 u_n36 l_n37 u_n37 (fun e he hE => nof_failR hB hm (by omega) A9 hE he) (fun x9 y9 ex9 ey9 hE9 => ?_)
    have A10 := Es_ext A9 hE9
    refine pt_stepR 10 L1 L6 L7 L8 L9 (by rw [← hP]; rfl) (by rw [← hP]; rfl) hM l_n6 u_n6 l_n7 u_n7 l_n8 u_n8 l_n9 u_n9 l_n38 u_n38 l_n39 u_n39 (fun e he hE => nof_failR hB hm (by omega) A10 hE he) (fun x10 y10 ex10 ey10 hE10 => ?_)
    have A11 := Es_ext A10 hE10
    refine pt_stepR 11 L1 L6 L7 L8 L9 (by rw [← hP]; rfl) (by rw [← hP]; rfl) hM l_n6 u_n6 l_n7 u_n7 l_n8 u_n8 l_n9 u_n9 l_n40 u_n40 l_n41 u_n41 (fun e he hE => nof_failR hB hm (by omega) A11 hE he) (fun x11 y11 ex11 ey11 hE11 => ?_)
    have A12 := Es_ext A11 hE11
    have hz : netE L P M = 0 := netE_zero hB (by rw [hm]; exact A12)
    have X0 : plX L P M 0 = x0 := (plX_lt (by omega)).trans ex0.symm
    have Y0 : plY L P M 0 = y0 := (plY_lt (by omega)).trans ey0.symm
    have X1 : plX L P M 1 = x1 := (plX_lt (by omega)).trans ex1.symm
    have Y1 : plY L P M 1 = y1 := (plY_lt (by omega)).trans ey1.symm
    have X2 : plX L P M 2 = x2 := (plX_lt (by omega)).trans ex2.symm
    have Y2 : plY L P M 2 = y2 := (plY_lt (by omega)).trans ey2.symm
    have X3 : plX L P M 3 = x3 := (plX_lt (by omega)).trans ex3.symm
    have Y3 : plY L P M 3 = y3 := (plY_lt (by omega)).trans ey3.symm
    have X4 : plX L P M 4 = x4 := (plX_lt (by omega)).trans ex4.symm
    have Y4 : plY L P M 4 = y4 := (plY_lt (by omega)).trans ey4.symm
    have X5 : plX L P M 5 = x5 := (plX_lt (by omega)).trans ex5.symm
    have Y5 : plY L P M 5 = y5 := (plY_lt (by omega)).trans ey5.symm
    have X6 : plX L P M 6 = x6 := (plX_lt (by omega)).trans ex6.symm
    have Y6 : plY L P M 6 = y6 := (plY_lt (by omega)).trans ey6.symm
    have X7 : plX L P M 7 = x7 := (plX_lt (by omega)).trans ex7.symm
    have Y7 : plY L P M 7 = y7 := (plY_lt (by omega)).trans ey7.symm
    have X8 : plX L P M 8 = x8 := (plX_lt (by omega)).trans ex8.symm
    have Y8 : plY L P M 8 = y8 := (plY_lt (by omega)).trans ey8.symm
    have X9 : plX L P M 9 = x9 := (plX_lt (by omega)).trans ex9.symm
    have Y9 : plY L P M 9 = y9 := (plY_lt (by omega)).trans ey9.symm
    have X10 : plX L P M 10 = x10 := (plX_lt (by omega)).trans ex10.symm
    have Y10 : plY L P M 10 = y10 := (plY_lt (by omega)).trans ey10.symm
    have X11 : plX L P M 11 = x11 := (plX_lt (by omega)).trans ex11.symm
    have Y11 : plY L P M 11 = y11 := (plY_lt (by omega)).trans ey11.symm
    intro _
    intro _
    intro _
    intro n205 e_n205 _ _
    intro n206 e_n206 _ _
    intro n207 e_n207 _ _
    intro n208 e_n208 _ _
    intro n209 e_n209 _ _
    intro n210 e_n210 _ _
    intro n211 e_n211 _ _
    intro n212 e_n212 _ _
    intro n213 e_n213 _ _
    intro n214 e_n214 _ _
    intro n215 e_n215 _ _
    intro n216 e_n216 _ _
    intro n217 e_n217 _ _
    intro n218 e_n218 _ _
    intro n219 e_n219 _ _
    intro n220 e_n220 _ _
    refine ⟨trivial, fun vx12 _ _ hvx12 => ?_⟩
    have X12 : plX L P M 12 = vx12 := by
      refine (plX_in hm (by omega)).trans ?_
      show mixF (pX L P M 0) (pX L P M 1) (pX L P M 11) (pX L P M 3) (pX L P M 9) (pX L P M 8) (pX L P M 4) (pX L P M 6) = _
      rw [← ex0, ← ex1, ← ex11, ← ex3, ← ex9, ← ex8, ← ex4, ← ex6]
      exact rninth_at (by omega) hvx12
    refine ⟨trivial, fun vy12 _ _ hvy12 => ?_⟩
    have Y12 : plY L P M 12 = vy12 := by
      refine (plY_in hm (by omega)).trans ?_
      show mixF (pY L P M 0) (pY L P M 1) (pY L P M 11) (pY L P M 3) (pY L P M 9) (pY L P M 8) (pY L P M 4) (pY L P M 6) = _
      rw [← ey0, ← ey1, ← ey11, ← ey3, ← ey9, ← ey8, ← ey4, ← ey6]
      exact rninth_at (by omega) hvy12
    intro _
    intro _
    intro _
    intro n223 e_n223 _ _
    intro n224 e_n224 _ _
    intro n225 e_n225 _ _
    intro n226 e_n226 _ _
    intro n227 e_n227 _ _
    intro n228 e_n228 _ _
    intro n229 e_n229 _ _
    intro n230 e_n230 _ _
    intro n231 e_n231 _ _
    intro n232 e_n232 _ _
    intro n233 e_n233 _ _
    intro n234 e_n234 _ _
    intro n235 e_n235 _ _
    intro n236 e_n236 _ _
    intro n237 e_n237 _ _
    intro n238 e_n238 _ _
    refine ⟨trivial, fun vx13 _ _ hvx13 => ?_⟩
    have X13 : plX L P M 13 = vx13 := by
      refine (plX_in hm (by omega)).trans ?_
      show mixF (pX L P M 3) (pX L P M 2) (pX L P M 4) (pX L P M 0) (pX L P M 6) (pX L P M 7) (pX L P M 11) (pX L P M 9) = _
      rw [← ex3, ← ex2, ← ex4, ← ex0, ← ex6, ← ex7, ← ex11, ← ex9]
      exact rninth_at (by omega) hvx13
    refine ⟨trivial, fun vy13 _ _ hvy13 => ?_⟩
    have Y13 : plY L P M 13 = vy13 := by
      refine (plY_in hm (by omega)).trans ?_
      show mixF (pY L P M 3) (pY L P M 2) (pY L P M 4) (pY L P M 0) (pY L P M 6) (pY L P M 7) (pY L P M 11) (pY L P M 9) = _
      rw [← ey3, ← ey2, ← ey4, ← ey0, ← ey6, ← ey7, ← ey11, ← ey9]
      exact rninth_at (by omega) hvy13
    intro _
    intro _
    intro _
    intro n241 e_n241 _ _
    intro n242 e_n242 _ _
    intro n243 e_n243 _ _
    intro n244 e_n244 _ _
    intro n245 e_n245 _ _
    intro n246 e_n246 _ _
    intro n247 e_n247 _ _
    intro n248 e_n248 _ _
    intro n249 e_n249 _ _
    intro n250 e_n250 _ _
    intro n251 e_n251 _ _
    intro n252 e_n252 _ _
    intro n253 e_n253 _ _
    intro n254 e_n254 _ _
    intro n255 e_n255 _ _
    intro n256 e_n256 _ _
    refine ⟨trivial, fun vx15 _ _ hvx15 => ?_⟩
    have X15 : plX L P M 15 = vx15 := by
      refine (plX_in hm (by omega)).trans ?_
      show mixF (pX L P M 9) (pX L P M 8) (pX L P M 10) (pX L P M 6) (pX L P M 0) (pX L P M 1) (pX L P M 5) (pX L P M 3) = _
      rw [← ex9, ← ex8, ← ex10, ← ex6, ← ex0, ← ex1, ← ex5, ← ex3]
      exact rninth_at (by omega) hvx15
    refine ⟨trivial, fun vy15 _ _ hvy15 => ?_⟩
    have Y15 : plY L P M 15 = vy15 := by
      refine (plY_in hm (by omega)).trans ?_
      show mixF (pY L P M 9) (pY L P M 8) (pY L P M 10) (pY L P M 6) (pY L P M 0) (pY L P M 1) (pY L P M 5) (pY L P M 3) = _
      rw [← ey9, ← ey8, ← ey10, ← ey6, ← ey0, ← ey1, ← ey5, ← ey3]
      exact rninth_at (by omega) hvy15
    intro _
    intro _
    intro _
    intro n259 e_n259 _ _
    intro n260 e_n260 _ _
    intro n261 e_n261 _ _
    intro n262 e_n262 _ _
    intro n263 e_n263 _ _
    intro n264 e_n264 _ _
    intro n265 e_n265 _ _
    intro n266 e_n266 _ _
    intro n267 e_n267 _ _
    intro n268 e_n268 _ _
    intro n269 e_n269 _ _
    intro n270 e_n270 _ _
    intro n271 e_n271 _ _
    intro n272 e_n272 _ _
    intro n273 e_n273 _ _
    intro n274 e_n274 _ _
    refine ⟨trivial, fun vx14 _ _ hvx14 => ?_⟩
    have X14 : plX L P M 14 = vx14 := by
      refine (plX_in hm (by omega)).trans ?_
      show mixF (pX L P M 6) (pX L P M 7) (pX L P M 5) (pX L P M 9) (pX L P M 3) (pX L P M 2) (pX L P M 10) (pX L P M 0) = _
      rw [← ex6, ← ex7, ← ex5, ← ex9, ← ex3, ← ex2, ← ex10, ← ex0]
      exact rninth_at (by omega) hvx14
    refine ⟨trivial, fun vy14 _ _ hvy14 => ?_⟩
    have Y14 : plY L P M 14 = vy14 := by
      refine (plY_in hm (by omega)).trans ?_
      show mixF (pY L P M 6) (pY L P M 7) (pY L P M 5) (pY L P M 9) (pY L P M 3) (pY L P M 2) (pY L P M 10) (pY L P M 0) = _
      rw [← ey6, ← ey7, ← ey5, ← ey9, ← ey3, ← ey2, ← ey10, ← ey0]
      exact rninth_at (by omega) hvy14
    refine ⟨?_, hz.symm⟩
    show _ = netN L P M
    rw [netN_eq hz, X0, Y0, X1, Y1, X2, Y2, X3, Y3, X11, Y11, X12, Y12, X13, Y13, X4, Y4, X10, Y10, X15, Y15, X14, Y14, X5, Y5, X9, Y9, X8, Y8, X7, Y7, X6, Y6]

theorem p_nborder : P_nborder := by
  unfold P_nborder
  intro n l_n u_n n1 l_n1 u_n1 n2 l_n2 u_n2 n3 l_n3 u_n3 n4 l_n4 u_n4 n5 l_n5 u_n5 n6 l_n6 u_n6 n7 l_n7 u_n7 n8 l_n8 u_n8 n9 l_n9 u_n9 n10 l_n10 u_n10
  intro n11 l_n11 u_n11 n12 l_n12 u_n12 n13 l_n13 u_n13 n14 l_n14 u_n14 n15 l_n15 u_n15 n16 l_n16 u_n16 n17 l_n17 u_n17 n18 l_n18 u_n18 n19 l_n19 u_n19 n20 l_n20 u_n20 n21 l_n21 u_n21
  intro n22 l_n22 u_n22 n23 l_n23 u_n23 n24 l_n24 u_n24 n25 l_n25 u_n25 n26 l_n26 u_n26 n27 l_n27 u_n27 n28 l_n28 u_n28 n29 l_n29 u_n29 n30 l_n30 u_n30 n31 l_n31 u_n31 n32 l_n32 u_n32
  intro _ _ _
  have hbad : ¬ (0 ≤ n32 ∧ n32 ≤ 3) → ∀ N, Post_nborder [N, [n32]] [[0, 0, 0, 0, 0, 0, 0, 0], [1]] := by
    intro h N
    refine ⟨?_, ?_⟩
    · unfold sideF
      rw [if_neg (by omega), if_neg (by omega), if_neg (by omega), if_neg (by omega)]
      rfl
    · unfold sideE
      rw [if_neg h]
  refine ⟨fun c0 => hbad (by omega) _, fun c0 => ⟨fun c1 => hbad (by omega) _, fun c1 => ⟨by omega, by omega, ?_⟩⟩⟩
  have hs : n32 = 0 ∨ n32 = 1 ∨ n32 = 2 ∨ n32 = 3 := by omega
  rcases hs with rfl | rfl | rfl | rfl
  all_goals
    intro n33 e33 _ _ n34 e34 _ _ b n35 e35 _ _ n36 e36 _ _
    simp only [Int.reduceEq, if_true, if_false, reduceIte] at e33 e34
    subst e33
    subst e34
    refine ⟨by omega, by omega, fun n37 e37 _ _ n38 e38 _ _ => ⟨by omega, by omega, fun n39 e39 _ _ n40 e40 _ _ => ⟨by omega, by omega, fun n41 e41 _ _ n42 e42 _ _ => ?_⟩⟩⟩
    subst e35 e36 e37 e38 e39 e40 e41 e42
    exact ⟨rfl, rfl⟩

end Go.Proofs.YtndfeckmfhiniaaGreatDoor.Sx
