/-
  Plain laws of nets, part a: one point of a patch, whole patches, by lists.
-/
import Derived.Test.YtndfeckmfhiniaaGreatDoorDa
import Derived.Test.YtndfeckmfhiniaaGreatDoorPa
set_option linter.all false
set_option maxRecDepth 100000
namespace Go.Proofs.YtndfeckmfhiniaaGreatDoor.Sx
open Go Go.RowKit

instance (n : Int) : Decidable (inCo n) := by unfold inCo; infer_instance
instance (n : Int) : Decidable (inCm n) := by unfold inCm; infer_instance
instance (n : Int) : Decidable (inFl n) := by unfold inFl; infer_instance
theorem co_tab : ∀ k : Fin 64, ((shI .shr .u64 4311814422 (k.val : Int)) % 2 = 1) ↔ inCo (k.val : Int) := by decide
theorem cm_tab : ∀ k : Fin 64, ((shI .shr .u64 69910 (k.val : Int)) % 2 = 1) ↔ inCm (k.val : Int) := by decide
theorem fl_tab : ∀ k : Fin 64, ((shI .shr .u64 276 (k.val : Int)) % 2 = 1) ↔ inFl (k.val : Int) := by decide
theorem co_at {n m : Int} (e : m = n) (h1 : 0 ≤ n) (h2 : n < 64) : ((shI .shr .u64 4311814422 m) % 2 = 1) ↔ inCo n := by
  subst e
  have := co_tab ⟨m.toNat, by omega⟩
  simp only at this
  rwa [show ((m.toNat : Nat) : Int) = m by omega] at this
theorem cm_at {n m : Int} (e : m = n) (h1 : 0 ≤ n) (h2 : n < 64) : ((shI .shr .u64 69910 m) % 2 = 1) ↔ inCm n := by
  subst e
  have := cm_tab ⟨m.toNat, by omega⟩
  simp only at this
  rwa [show ((m.toNat : Nat) : Int) = m by omega] at this
theorem fl_at {n m : Int} (e : m = n) (h1 : 0 ≤ n) (h2 : n < 64) : ((shI .shr .u64 276 m) % 2 = 1) ↔ inFl n := by
  subst e
  have := fl_tab ⟨m.toNat, by omega⟩
  simp only at this
  rwa [show ((m.toNat : Nat) : Int) = m by omega] at this
theorem inCo_b {n : Int} (h : inCo n) : 0 ≤ n ∧ n < 64 := by unfold inCo at h; omega
theorem inCm_b {n : Int} (h : inCm n) : 0 ≤ n ∧ n < 64 := by unfold inCm at h; omega
theorem inFl_b {n : Int} (h : inFl n) : 0 ≤ n ∧ n < 64 := by unfold inFl at h; omega

theorem nearF_is (a : Int) {d : Int} (hd : 0 < d) : isNear a d (nearF a d) := by
  refine ⟨?_, ?_⟩
  · exact Int.mul_ediv_self_le (by omega)
  · have := Int.lt_mul_ediv_self_add (x := 2 * a + d) (k := 2 * d) (by omega)
    unfold nearF
    have e : 2 * d * ((2 * a + d) / (2 * d) + 1) = 2 * d * ((2 * a + d) / (2 * d)) + 2 * d := by grind
    omega
theorem nearF_eq {a d q : Int} (hd : 1 ≤ d) (h : isNear a d q) : q = nearF a d := near_uniq hd h (nearF_is a (by omega))

theorem led_bad {rx co lo hi h l d e : Int} (t : ledTo rx co lo hi h l d e) (he : ¬ e = 0) : ledB co rx = false ∧ e = 1 := by
  by_cases z : gr co ≠ 0 ∧ rx ≤ gr co
  · exact absurd (t.1 z).1 he
  · refine ⟨?_, (t.2 z).1⟩
    unfold ledB
    simpa using fun h => (by have := mt (And.intro (a := gr co ≠ 0) (b := rx ≤ gr co) h) z; omega)
theorem led_good {rx co lo hi h l d e : Int} (t : ledTo rx co lo hi h l d e) (he : e = 0) : ledB co rx = true ∧ d = gr co ∧ w128 h l = lo * gr co + rx * (hi - lo) ∧ gr co ≠ 0 := by
  by_cases z : gr co ≠ 0 ∧ rx ≤ gr co
  · refine ⟨?_, (t.1 z).2.1, (t.1 z).2.2, z.1⟩
    unfold ledB
    simp [z.1, z.2]
  · have := (t.2 z).1; omega
theorem led_sml {lo hi g r : Int} (h1 : -2147483648 ≤ lo) (h2 : lo ≤ 2147483647) (h3 : -2147483648 ≤ hi) (h4 : hi ≤ 2147483647) (h5 : 0 ≤ g) (h6 : g ≤ 4294967295) (h7 : 0 ≤ r) (h8 : r ≤ 4294967295) : sml (lo * g + r * (hi - lo)) := by
  have p1 := mul_b (a := lo) (b := g) (A := 2147483648) (B := 4294967295) (by omega) (by omega) (by omega) (by omega) (by omega) (by omega)
  have p2 := mul_b (a := r) (b := hi - lo) (A := 4294967295) (B := 4294967295) (by omega) (by omega) (by omega) (by omega) (by omega) (by omega)
  unfold sml
  omega
theorem farB_is (v : Int) : farB v = true ↔ inFar 65536 v := by
  unfold farB inFar
  simp only [Bool.and_eq_true, decide_eq_true_eq]
  omega

/-- one point: led twice, placed. -/
theorem pt_step {L P M : List Int} (i : Nat) {co xl xh yl yh rx ry m0 m1 m2 m3 m4 m5 : Int} (h1 : nth L 1 = co) (h6 : nth L 6 = xl) (h7 : nth L 7 = xh) (h8 : nth L 8 = yl) (h9 : nth L 9 = yh)
    (hx : nth P (2 * i) = rx) (hy : nth P (2 * i + 1) = ry) (hM : [m0, m1, m2, m3, m4, m5] = M)
    (c1 : -2147483648 ≤ xl) (c2 : xl ≤ 2147483647) (c3 : -2147483648 ≤ xh) (c4 : xh ≤ 2147483647) (c5 : -2147483648 ≤ yl) (c6 : yl ≤ 2147483647) (c7 : -2147483648 ≤ yh) (c8 : yh ≤ 2147483647)
    (r1 : 0 ≤ rx) (r2 : rx ≤ 4294967295) (r3 : 0 ≤ ry) (r4 : ry ≤ 4294967295)
    {F : Int → Prop} {K : Int → Int → Prop} (hF : ∀ e, ¬ e = 0 → Es L P M i = e → F e) (hK : ∀ px py, px = pX L P M i → py = pY L P M i → Es L P M i = 0 → K px py) :
    (Pre_value [[rx], [co], [xl, xh]] ∧
      (∀ h : Int, (-9223372036854775808) ≤ h → h ≤ 9223372036854775807 →
      (∀ l : Int, 0 ≤ l → l ≤ 18446744073709551615 →
      (∀ d : Int, (-9223372036854775808) ≤ d → d ≤ 9223372036854775807 →
      (∀ e : Int, 0 ≤ e → e ≤ 15 →
      (Post_value [[rx], [co], [xl, xh]] [[h, l, d], [e]] →
      (∀ b4 : Nat, (((¬ (e = 0)) → F e) ∧
       (¬ (¬ (e = 0)) →
        (Pre_value [[ry], [co], [yl, yh]] ∧
        (∀ h' : Int, (-9223372036854775808) ≤ h' → h' ≤ 9223372036854775807 →
        (∀ l' : Int, 0 ≤ l' → l' ≤ 18446744073709551615 →
        (∀ d' : Int, (-9223372036854775808) ≤ d' → d' ≤ 9223372036854775807 →
        (∀ e' : Int, 0 ≤ e' → e' ≤ 15 →
        (Post_value [[ry], [co], [yl, yh]] [[h', l', d'], [e']] →
        (∀ b5 : Nat, (((¬ (e' = 0)) → F e') ∧
         (¬ (¬ (e' = 0)) →
          (Pre_pplace [M, [h, l, d], [h', l', d']] ∧
          (∀ px : Int, (-68719476736) ≤ px → px ≤ 68719476736 →
          (∀ py : Int, (-68719476736) ≤ py → py ≤ 68719476736 →
          (∀ er : Int, 0 ≤ er → er ≤ 15 →
          (Post_pplace [M, [h, l, d], [h', l', d']] [[px, py], [er]] →
          (((¬ (er = 0)) → F er) ∧
           (¬ (¬ (er = 0)) → K px py))))))))))))))))))))))))) := by
  subst hM
  refine ⟨trivial, fun h _ _ l _ _ d _ _ e _ _ t _ => ⟨fun he => hF e he ?_, fun he => ?_⟩⟩
  · obtain ⟨f1, f2⟩ := led_bad t he
    rw [f2]
    unfold Es ptE
    rw [h1, hx, f1]
    rfl
  obtain ⟨g1, g2, g3, g4⟩ := led_good t (Classical.not_not.1 he)
  refine ⟨trivial, fun h' _ _ l' _ _ d' _ _ e' _ _ t' _ => ⟨fun he' => hF e' he' ?_, fun he' => ?_⟩⟩
  · obtain ⟨f1, f2⟩ := led_bad t' he'
    rw [f2]
    unfold Es ptE
    rw [h1, hx, hy, g1, f1]
    rfl
  obtain ⟨k1, k2, k3, k4⟩ := led_good t' (Classical.not_not.1 he')
  have hg := gr_or co
  have hmay : may20 (w128 h l) d (w128 h' l') d' := by
    rw [g2, k2, g3, k3]
    exact ⟨rfl, by omega, by omega, led_sml c1 c2 c3 c4 (by omega) (by omega) r1 r2, led_sml c5 c6 c7 c8 (by omega) (by omega) r3 r4⟩
  have hEs : Es L P [m0, m1, m2, m3, m4, m5] i = if farB (pX L P [m0, m1, m2, m3, m4, m5] i) && farB (pY L P [m0, m1, m2, m3, m4, m5] i) then 0 else 8 := by
    unfold Es ptE pX pY
    rw [h1, hx, hy, g1, k1]
    rfl
  have hd : 1 ≤ d * 65536 := by rw [g2]; omega
  refine ⟨trivial, fun px _ _ py _ _ er _ _ q => ?_⟩
  have q' : placed 65536 65536 m0 m1 m2 m3 m4 m5 (w128 h l) d (w128 h' l') d' px py er := q
  obtain ⟨p, s, a1, a2, a3, a4⟩ := q'.2 hmay
  have e1 : p = pX L P [m0, m1, m2, m3, m4, m5] i := by
    rw [nearF_eq hd a1, g3, k3, g2]
    unfold pX ptX ptF
    rw [h1, h6, h7, h8, h9, hx, hy]
    rfl
  have e2 : s = pY L P [m0, m1, m2, m3, m4, m5] i := by
    rw [nearF_eq hd a2, g3, k3, g2]
    unfold pY ptY ptF
    rw [h1, h6, h7, h8, h9, hx, hy]
    rfl
  rw [e1, e2] at a3 a4
  by_cases z : inFar 65536 (pX L P [m0, m1, m2, m3, m4, m5] i) ∧ inFar 65536 (pY L P [m0, m1, m2, m3, m4, m5] i)
  · obtain ⟨b1, b2, b3⟩ := a3 z
    rw [(farB_is _).2 z.1, (farB_is _).2 z.2] at hEs
    exact ⟨fun y => absurd b1 y, fun _ => hK px py b2 b3 hEs⟩
  · obtain ⟨b1, b2, b3⟩ := a4 z
    refine ⟨fun y => hF er y ?_, fun y => absurd (Classical.not_not.1 y) (by omega)⟩
    rw [b1, hEs, if_neg]
    intro w
    rw [Bool.and_eq_true, farB_is, farB_is] at w
    exact z w

/-! ### whole patches -/
theorem firstE_zero : ∀ {l : List Int}, (∀ x ∈ l, x = 0) → firstE l = 0
  | [], _ => rfl
  | x :: r, h => by
    unfold firstE
    rw [if_pos (h x (by simp))]
    exact firstE_zero fun y hy => h y (by simp [hy])
theorem firstE_all : ∀ {l : List Int}, firstE l = 0 → ∀ x ∈ l, x = 0
  | [], _, _, hx => by cases hx
  | x :: r, h, y, hy => by
    unfold firstE at h
    by_cases z : x = 0
    · rw [if_pos z] at h
      rcases List.mem_cons.1 hy with rfl | hy
      · exact z
      · exact firstE_all h y hy
    · rw [if_neg z] at h; exact absurd h z
theorem firstE_at : ∀ {f : Nat → Int} {n i s : Nat} {e : Int}, i < n → (∀ j, j < i → f (s + j) = 0) → f (s + i) = e → ¬ e = 0 → firstE ((List.range' s n).map f) = e
  | f, 0, i, s, e, h, _, _, _ => by omega
  | f, n + 1, 0, s, e, _, _, h2, h3 => by
    simp only [List.range'_succ, List.map_cons, firstE]
    rw [show f s = e from h2, if_neg h3]
  | f, n + 1, i + 1, s, e, h, h1, h2, h3 => by
    simp only [List.range'_succ, List.map_cons, firstE]
    rw [if_pos (show f s = 0 from h1 0 (by omega))]
    refine firstE_at (i := i) (by omega) (fun j hj => ?_) ?_ h3
    · have := h1 (j + 1) (by omega)
      rwa [show s + 1 + j = s + (j + 1) by omega]
    · rwa [show s + 1 + i = s + (i + 1) by omega]

section
variable {l p m : List Int}
theorem netE_zero (hl : layB l = true) (h : ∀ j, j < many l → Es l p m j = 0) : netE l p m = 0 := by
  unfold netE
  rw [if_pos hl]
  refine firstE_zero fun x hx => ?_
  obtain ⟨j, hj, rfl⟩ := List.mem_map.1 hx
  exact h j (List.mem_range.1 hj)
theorem netE_all (h : netE l p m = 0) : layB l = true ∧ ∀ j, j < many l → Es l p m j = 0 := by
  unfold netE at h
  by_cases z : layB l = true
  · rw [if_pos z] at h
    exact ⟨z, fun j hj => firstE_all h _ (List.mem_map.2 ⟨j, List.mem_range.2 hj, rfl⟩)⟩
  · rw [if_neg z] at h; cases h
theorem netE_at (hl : layB l = true) {i : Nat} (hi : i < many l) (h : ∀ j, j < i → Es l p m j = 0) {e : Int} (he : Es l p m i = e) (hne : ¬ e = 0) : netE l p m = e := by
  unfold netE
  rw [if_pos hl, List.range_eq_range']
  exact firstE_at (s := 0) hi (fun j hj => by rw [Nat.zero_add]; exact h j hj) (by rw [Nat.zero_add]; exact he) hne
theorem netE_lay (hl : ¬ layB l = true) : netE l p m = 4 := by unfold netE; rw [if_neg hl]
theorem netN_bad (h : ¬ netE l p m = 0) : netN l p m = zero32 := by unfold netN; rw [if_neg h]
theorem netN_eq (h : netE l p m = 0) : netN l p m = [plX l p m 0, plY l p m 0, plX l p m 1, plY l p m 1, plX l p m 2, plY l p m 2, plX l p m 3, plY l p m 3,
    plX l p m 11, plY l p m 11, plX l p m 12, plY l p m 12, plX l p m 13, plY l p m 13, plX l p m 4, plY l p m 4, plX l p m 10, plY l p m 10, plX l p m 15, plY l p m 15, plX l p m 14, plY l p m 14, plX l p m 5, plY l p m 5,
    plX l p m 9, plY l p m 9, plX l p m 8, plY l p m 8, plX l p m 7, plY l p m 7, plX l p m 6, plY l p m 6] := by
  unfold netN
  rw [if_pos h]
  rfl
theorem nof_bad {e : Int} (h : netE l p m = e) (he : ¬ e = 0) : Post_nof [l, p, m] [[0, 0, 0, 0, 0, 0, 0, 0, 0, 0, 0, 0, 0, 0, 0, 0, 0, 0, 0, 0, 0, 0, 0, 0, 0, 0, 0, 0, 0, 0, 0, 0], [e]] :=
  ⟨(netN_bad (by rw [h]; exact he)).symm, h.symm⟩
theorem nof_fail (hl : layB l = true) {i n : Nat} (hn : many l = n) (hi : i < n) (h : ∀ j, j < i → Es l p m j = 0) {e : Int} (he : Es l p m i = e) (hne : ¬ e = 0) :
    Post_nof [l, p, m] [[0, 0, 0, 0, 0, 0, 0, 0, 0, 0, 0, 0, 0, 0, 0, 0, 0, 0, 0, 0, 0, 0, 0, 0, 0, 0, 0, 0, 0, 0, 0, 0], [e]] :=
  nof_bad (netE_at hl (by omega) h he hne) hne
theorem Es_ext {i : Nat} (h : ∀ j, j < i → Es l p m j = 0) (he : Es l p m i = 0) : ∀ j, j < i + 1 → Es l p m j = 0 := by
  intro j hj
  by_cases z : j = i
  · rw [z]; exact he
  · exact h j (by omega)
theorem plX_lt {k : Nat} (h : k < many l) : plX l p m k = pX l p m k := by unfold plX; rw [if_pos h]
theorem plY_lt {k : Nat} (h : k < many l) : plY l p m k = pY l p m k := by unfold plY; rw [if_pos h]
theorem plX_in {k : Nat} (h : many l = 12) (hk : 12 ≤ k) : plX l p m k = at8 (pX l p m) (inn k) := by unfold plX; rw [if_neg (by omega)]
theorem plY_in {k : Nat} (h : many l = 12) (hk : 12 ≤ k) : plY l p m k = at8 (pY l p m) (inn k) := by unfold plY; rw [if_neg (by omega)]
end
theorem ninth_at {a b c d e f g h z v : Int} (hz : z = ((((((-4) * a) + (6 * (b + c))) - (2 * (d + e))) + (3 * (f + g))) - h)) (hv : Post_nninth [[z]] [[v]]) : mixF a b c d e f g h = v := by
  subst hz
  exact (show v = nearF _ 9 from hv).symm
theorem layB_is {l : List Int} : layB l = true ↔ (nth l 0 = 6 ∨ nth l 0 = 7) ∧ lay8 (nth l 0) (nth l 1) (nth l 2) (nth l 3) (nth l 4) (nth l 5) := by
  unfold layB lay8 inCoB inCmB inFlB inCo inCm inFl
  simp only [Bool.and_eq_true, Bool.or_eq_true, beq_iff_eq, decide_eq_true_eq, List.contains_eq_mem, List.mem_cons, List.not_mem_nil, or_false]
  constructor
  · rintro ⟨⟨⟨⟨⟨h1, h2⟩, h3⟩, h4⟩, h5⟩, h6⟩
    refine ⟨h1, by omega, h2, h3, h4, h5, by omega, fun _ => h6⟩
  · rintro ⟨h1, h2, h3, h4, h5, h6, h7, h8⟩
    exact ⟨⟨⟨⟨⟨h1, h3⟩, h4⟩, h5⟩, h6⟩, h8 (by omega)⟩

theorem p_nninth : P_nninth := by
  unfold P_nninth
  intro n l u _
  refine ⟨trivial, fun n1 _ _ n2 _ _ h1 => ⟨trivial, fun n3 _ _ n4 _ _ n5 _ _ h2 b => ⟨trivial, fun n6 _ _ t h3 => ?_⟩⟩⟩
  have e1 : w128 n1 n2 = n := h1
  have e2 : isNear (w128 n1 n2) 9 (w128 n3 n4) := (h2.2 (by omega)).2
  rw [e1] at e2
  have e3 : isInt (w128 n3 n4) n6 (b2i t) := h3
  have e4 : isI64 (w128 n3 n4) := by
    obtain ⟨a1, a2⟩ := e2
    unfold isI64
    omega
  show n6 = nearF n 9
  rw [(e3.1 e4).2]
  exact nearF_eq (by omega) e2

end Go.Proofs.YtndfeckmfhiniaaGreatDoor.Sx
