/-
  Plain laws of nets, part c: patches turned round, changed in one point, along a parallelogram.
-/
import Derived.Test.YtndfeckmfhiniaaGreatDoorNb
set_option linter.all false
set_option maxRecDepth 100000
namespace Go.Proofs.YtndfeckmfhiniaaGreatDoor.Sx
open Go Go.RowKit

/-! ### points told the other way round -/
theorem c16 {k : Nat} (h : k < 16) : k = 0 ∨ k = 1 ∨ k = 2 ∨ k = 3 ∨ k = 4 ∨ k = 5 ∨ k = 6 ∨ k = 7 ∨ k = 8 ∨ k = 9 ∨ k = 10 ∨ k = 11 ∨ k = 12 ∨ k = 13 ∨ k = 14 ∨ k = 15 := by omega
theorem c12 {k : Nat} (h : k < 12) : k = 0 ∨ k = 1 ∨ k = 2 ∨ k = 3 ∨ k = 4 ∨ k = 5 ∨ k = 6 ∨ k = 7 ∨ k = 8 ∨ k = 9 ∨ k = 10 ∨ k = 11 := by omega
theorem c4 {k : Nat} (h : k < 16) (h' : ¬ k < 12) : k = 12 ∨ k = 13 ∨ k = 14 ∨ k = 15 := by omega

def tk (l : List Int) (k : Nat) : Nat := (turnI (nth l 0)).getD k 0
def tk2 (k : Nat) : Nat := [0, 11, 10, 9, 8, 7, 6, 5, 4, 3, 2, 1, 12, 15, 14, 13].getD k 0
theorem turn_pt (l p : List Int) : ∀ k, k < 16 → nth (turnF l p) (2 * k) = nth p (2 * tk l k) ∧ nth (turnF l p) (2 * k + 1) = nth p (2 * tk l k + 1) := by
  intro k hk
  unfold turnF tk turnI
  by_cases h : nth l 0 = 7
  · rw [if_pos h]
    rcases c16 hk with rfl | rfl | rfl | rfl | rfl | rfl | rfl | rfl | rfl | rfl | rfl | rfl | rfl | rfl | rfl | rfl
    all_goals exact ⟨rfl, rfl⟩
  · rw [if_neg h]
    rcases c16 hk with rfl | rfl | rfl | rfl | rfl | rfl | rfl | rfl | rfl | rfl | rfl | rfl | rfl | rfl | rfl | rfl
    all_goals exact ⟨rfl, rfl⟩
theorem many_le (l : List Int) : many l ≤ 16 := by unfold many; split <;> omega
theorem tk_in (l : List Int) : ∀ k, k < many l → tk l k < many l ∧ tk l (tk l k) = k := by
  intro k hk
  have hm := many_le l
  unfold tk turnI
  by_cases h : nth l 0 = 7
  · have e : many l = 16 := by unfold many; rw [if_pos h]
    rw [if_pos h, e]
    rw [e] at hk
    rcases c16 hk with rfl | rfl | rfl | rfl | rfl | rfl | rfl | rfl | rfl | rfl | rfl | rfl | rfl | rfl | rfl | rfl
    all_goals exact ⟨by decide, by decide⟩
  · have e : many l = 12 := by unfold many; rw [if_neg h]
    rw [if_neg h, e]
    rw [e] at hk
    rcases c12 hk with rfl | rfl | rfl | rfl | rfl | rfl | rfl | rfl | rfl | rfl | rfl | rfl
    all_goals exact ⟨by decide, by decide⟩
section
variable {l p m : List Int}
theorem turn_X {k : Nat} (hk : k < 16) : pX l (turnF l p) m k = pX l p m (tk l k) := by
  unfold pX
  rw [(turn_pt l p k hk).1, (turn_pt l p k hk).2]
theorem turn_Y {k : Nat} (hk : k < 16) : pY l (turnF l p) m k = pY l p m (tk l k) := by
  unfold pY
  rw [(turn_pt l p k hk).1, (turn_pt l p k hk).2]
theorem turn_E {k : Nat} (hk : k < 16) : Es l (turnF l p) m k = Es l p m (tk l k) := by
  unfold Es
  rw [(turn_pt l p k hk).1, (turn_pt l p k hk).2]
theorem turn_netE : netE l (turnF l p) m = 0 ↔ netE l p m = 0 := by
  have hm := many_le l
  constructor
  · intro h
    obtain ⟨h1, h2⟩ := netE_all h
    refine netE_zero h1 fun j hj => ?_
    obtain ⟨a, b⟩ := tk_in l j hj
    have := h2 _ a
    rwa [turn_E (by omega), b] at this
  · intro h
    obtain ⟨h1, h2⟩ := netE_all h
    refine netE_zero h1 fun j hj => ?_
    rw [turn_E (by omega)]
    exact h2 _ (tk_in l j hj).1
theorem mixF_comm {a b c d e f g h : Int} : mixF a b c d e f g h = mixF a c b e d g f h := by
  unfold mixF
  congr 1
  omega
theorem turn_pl {k : Nat} (hk : k < 16) : plX l (turnF l p) m (tk2 k) = plX l p m k ∧ plY l (turnF l p) m (tk2 k) = plY l p m k := by
  by_cases h : nth l 0 = 7
  · have e : many l = 16 := by unfold many; rw [if_pos h]
    have h2 : tk2 k < 16 ∧ (turnI 7).getD (tk2 k) 0 = k := by
      rcases c16 hk with rfl | rfl | rfl | rfl | rfl | rfl | rfl | rfl | rfl | rfl | rfl | rfl | rfl | rfl | rfl | rfl
      all_goals exact ⟨by decide, by decide⟩
    have h3 : tk l (tk2 k) = k := by unfold tk; rw [h]; exact h2.2
    rw [plX_lt (by omega), plX_lt (by omega), plY_lt (by omega), plY_lt (by omega), turn_X h2.1, turn_Y h2.1, h3]
    exact ⟨rfl, rfl⟩
  · have e : many l = 12 := by unfold many; rw [if_neg h]
    have ht : turnI (nth l 0) = turnI 0 := by unfold turnI; rw [if_neg h, if_neg (by omega)]
    by_cases h12 : k < 12
    · have h2 : tk2 k < 12 ∧ (turnI 0).getD (tk2 k) 0 = k := by
        rcases c12 h12 with rfl | rfl | rfl | rfl | rfl | rfl | rfl | rfl | rfl | rfl | rfl | rfl
        all_goals exact ⟨by decide, by decide⟩
      have h3 : tk l (tk2 k) = k := by unfold tk; rw [ht]; exact h2.2
      rw [plX_lt (by omega), plX_lt (by omega), plY_lt (by omega), plY_lt (by omega), turn_X (by omega), turn_Y (by omega), h3]
      exact ⟨rfl, rfl⟩
    · have X : ∀ j, j < 16 → pX l (turnF l p) m j = pX l p m ((turnI 0).getD j 0) := fun j hj => by rw [turn_X hj]; unfold tk; rw [ht]
      have Y : ∀ j, j < 16 → pY l (turnF l p) m j = pY l p m ((turnI 0).getD j 0) := fun j hj => by rw [turn_Y hj]; unfold tk; rw [ht]
      have h2 : 12 ≤ tk2 k := by
        rcases c4 hk h12 with rfl | rfl | rfl | rfl
        all_goals
          decide
      rw [plX_in e h2, plX_in e (by omega), plY_in e h2, plY_in e (by omega)]
      unfold at8
      rcases c4 hk h12 with rfl | rfl | rfl | rfl
      all_goals
        refine ⟨?_, ?_⟩
        · rw [X _ (by decide), X _ (by decide), X _ (by decide), X _ (by decide), X _ (by decide), X _ (by decide), X _ (by decide), X _ (by decide), mixF_comm]
          rfl
        · rw [Y _ (by decide), Y _ (by decide), Y _ (by decide), Y _ (by decide), Y _ (by decide), Y _ (by decide), Y _ (by decide), Y _ (by decide), mixF_comm]
          rfl

/-! ### one point changed -/
theorem same_pts {q : List Int} (h : ∀ j, j < many l → nth q (2 * j) = nth p (2 * j) ∧ nth q (2 * j + 1) = nth p (2 * j + 1)) : netE l q m = netE l p m := by
  unfold netE
  have : (List.range (many l)).map (Es l q m) = (List.range (many l)).map (Es l p m) := by
    refine List.map_congr_left fun j hj => ?_
    obtain ⟨a, b⟩ := h j (List.mem_range.1 hj)
    unfold Es
    rw [a, b]
  rw [this]
theorem same_net {q : List Int} (h : ∀ j, j < many l → nth q (2 * j) = nth p (2 * j) ∧ nth q (2 * j + 1) = nth p (2 * j + 1)) (hm : many l = 12) : netN l q m = netN l p m := by
  have hX : ∀ j, j < 12 → pX l q m j = pX l p m j := fun j hj => by
    obtain ⟨a, b⟩ := h j (by omega)
    unfold pX
    rw [a, b]
  have hY : ∀ j, j < 12 → pY l q m j = pY l p m j := fun j hj => by
    obtain ⟨a, b⟩ := h j (by omega)
    unfold pY
    rw [a, b]
  have kX : ∀ k, k < 16 → plX l q m k = plX l p m k ∧ plY l q m k = plY l p m k := by
    intro k hk
    by_cases hl : k < 12
    · rw [plX_lt (by omega), plX_lt (by omega), plY_lt (by omega), plY_lt (by omega)]
      exact ⟨hX k hl, hY k hl⟩
    · rw [plX_in hm (by omega), plX_in hm (by omega), plY_in hm (by omega), plY_in hm (by omega)]
      unfold at8
      rcases c4 hk hl with rfl | rfl | rfl | rfl
      all_goals
        refine ⟨?_, ?_⟩
        · rw [hX _ (by decide), hX _ (by decide), hX _ (by decide), hX _ (by decide), hX _ (by decide), hX _ (by decide), hX _ (by decide), hX _ (by decide)]
        · rw [hY _ (by decide), hY _ (by decide), hY _ (by decide), hY _ (by decide), hY _ (by decide), hY _ (by decide), hY _ (by decide), hY _ (by decide)]
  by_cases hz : netE l p m = 0
  · rw [netN_eq hz, netN_eq (by rw [same_pts h]; exact hz)]
    rw [(kX 0 (by omega)).1, (kX 0 (by omega)).2, (kX 1 (by omega)).1, (kX 1 (by omega)).2, (kX 2 (by omega)).1, (kX 2 (by omega)).2, (kX 3 (by omega)).1, (kX 3 (by omega)).2,
      (kX 4 (by omega)).1, (kX 4 (by omega)).2, (kX 5 (by omega)).1, (kX 5 (by omega)).2, (kX 6 (by omega)).1, (kX 6 (by omega)).2, (kX 7 (by omega)).1, (kX 7 (by omega)).2,
      (kX 8 (by omega)).1, (kX 8 (by omega)).2, (kX 9 (by omega)).1, (kX 9 (by omega)).2, (kX 10 (by omega)).1, (kX 10 (by omega)).2, (kX 11 (by omega)).1, (kX 11 (by omega)).2,
      (kX 12 (by omega)).1, (kX 12 (by omega)).2, (kX 13 (by omega)).1, (kX 13 (by omega)).2, (kX 14 (by omega)).1, (kX 14 (by omega)).2, (kX 15 (by omega)).1, (kX 15 (by omega)).2]
  · rw [netN_bad hz, netN_bad (by rw [same_pts h]; exact hz)]
theorem netN_nth (h : netE l p m = 0) : ∀ i, i < 16 → nth (netN l p m) (2 * i) = plX l p m (inv16.getD i 0) ∧ nth (netN l p m) (2 * i + 1) = plY l p m (inv16.getD i 0) := by
  rw [netN_eq h]
  intro i hi
  rcases c16 hi with rfl | rfl | rfl | rfl | rfl | rfl | rfl | rfl | rfl | rfl | rfl | rfl | rfl | rfl | rfl | rfl
  all_goals exact ⟨rfl, rfl⟩
end
theorem unl_one {a b : List Int} {i0 : Nat} : ∀ n, (∀ i, i < n → i ≠ i0 → nth a (2 * i) = nth b (2 * i) ∧ nth a (2 * i + 1) = nth b (2 * i + 1)) → unl a b n ≤ if i0 < n then 1 else 0
  | 0, _ => by unfold unl; split <;> omega
  | n + 1, h => by
    have ih := unl_one n fun i hi => h i (by omega)
    unfold unl
    by_cases e : n = i0
    · rw [if_neg (by omega)] at ih
      rw [if_pos (show i0 < n + 1 by omega)]
      split <;> omega
    · rw [if_pos (h n (by omega) e)]
      by_cases z : i0 < n
      · rw [if_pos z] at ih; rw [if_pos (show i0 < n + 1 by omega)]; omega
      · rw [if_neg z] at ih; rw [if_neg (show ¬ i0 < n + 1 by omega)]; omega
theorem unl_le (a b : List Int) : ∀ n, 0 ≤ unl a b n ∧ unl a b n ≤ n
  | 0 => by simp [unl]
  | n + 1 => by
    have := unl_le a b n
    unfold unl
    split <;> omega
def spotOf (k : Nat) : Nat := [0, 1, 2, 3, 7, 11, 15, 14, 13, 12, 8, 4, 5, 6, 10, 9].getD k 0
theorem seven_one {l p q m : List Int} (hm : many l = 16) (hp : netE l p m = 0) (hq : netE l q m = 0) {k : Nat} (hk : k < 16)
    (h : ∀ j, j < 16 → j ≠ k → nth q (2 * j) = nth p (2 * j) ∧ nth q (2 * j + 1) = nth p (2 * j + 1)) : unl (netN l p m) (netN l q m) 16 ≤ 1 := by
  have := unl_one (a := netN l p m) (b := netN l q m) (i0 := spotOf k) 16 (by
    intro i hi hne
    have hd : inv16.getD i 0 < 16 ∧ inv16.getD i 0 ≠ k := by
      refine ⟨?_, fun e => hne ?_⟩
      · rcases c16 hi with rfl | rfl | rfl | rfl | rfl | rfl | rfl | rfl | rfl | rfl | rfl | rfl | rfl | rfl | rfl | rfl
        all_goals decide
      · subst e
        rcases c16 hi with rfl | rfl | rfl | rfl | rfl | rfl | rfl | rfl | rfl | rfl | rfl | rfl | rfl | rfl | rfl | rfl
        all_goals rfl
    obtain ⟨a, b⟩ := h _ hd.1 hd.2
    rw [(netN_nth hp i hi).1, (netN_nth hp i hi).2, (netN_nth hq i hi).1, (netN_nth hq i hi).2, plX_lt (by omega), plX_lt (by omega), plY_lt (by omega), plY_lt (by omega)]
    unfold pX pY
    rw [a, b]
    exact ⟨rfl, rfl⟩)
  split at this <;> omega

/-! ### along a parallelogram -/
def Fl (a c e s t i j : Int) : Int := 65536 * (((a * (i * s + 3)) + (c * (j * t + 7))) + e)
theorem Fl_mix {a c e s t : Int} : mixF (Fl a c e s t 0 0) (Fl a c e s t 0 1) (Fl a c e s t 1 0) (Fl a c e s t 0 3) (Fl a c e s t 3 0) (Fl a c e s t 3 1) (Fl a c e s t 1 3) (Fl a c e s t 3 3) = Fl a c e s t 1 1
    ∧ mixF (Fl a c e s t 0 3) (Fl a c e s t 0 2) (Fl a c e s t 1 3) (Fl a c e s t 0 0) (Fl a c e s t 3 3) (Fl a c e s t 3 2) (Fl a c e s t 1 0) (Fl a c e s t 3 0) = Fl a c e s t 1 2
    ∧ mixF (Fl a c e s t 3 0) (Fl a c e s t 3 1) (Fl a c e s t 2 0) (Fl a c e s t 3 3) (Fl a c e s t 0 0) (Fl a c e s t 0 1) (Fl a c e s t 2 3) (Fl a c e s t 0 3) = Fl a c e s t 2 1
    ∧ mixF (Fl a c e s t 3 3) (Fl a c e s t 3 2) (Fl a c e s t 2 3) (Fl a c e s t 3 0) (Fl a c e s t 0 3) (Fl a c e s t 0 2) (Fl a c e s t 2 0) (Fl a c e s t 0 0) = Fl a c e s t 2 2 := by
  have key : ∀ x y : Int, x = 9 * y → nearF x 9 = y := by
    intro x y h
    unfold nearF
    omega
  have e1 : ∀ i j : Int, Fl a c e s t i j = 65536 * ((i * (a * s) + 3 * a) + (j * (c * t) + 7 * c) + e) := by
    intro i j
    unfold Fl
    grind
  unfold mixF
  simp only [e1]
  generalize a * s = x
  generalize c * t = y
  refine ⟨key _ _ (by omega), key _ _ (by omega), key _ _ (by omega), key _ _ (by omega)⟩
theorem flat_pt {a c e rx ry : Int} : ptF (a * 65536) (c * 65536) (e * 65536) 0 16711680 0 16711680 255 rx ry = 65536 * (((a * rx) + (c * ry)) + e) := by
  unfold ptF linN nearF
  have e1 : (0 * 255 + rx * (16711680 - 0)) * (a * 65536) = 1095216660480 * (a * rx) := by grind
  have e2 : (0 * 255 + ry * (16711680 - 0)) * (c * 65536) = 1095216660480 * (c * ry) := by grind
  rw [e1, e2]
  generalize a * rx = x
  generalize c * ry = y
  omega
theorem far_pt {a c e rx ry : Int} (a1 : -128 ≤ a) (a2 : a ≤ 127) (c1 : -128 ≤ c) (c2 : c ≤ 127) (e1 : -128 ≤ e) (e2 : e ≤ 127) (x1 : 0 ≤ rx) (x2 : rx ≤ 255) (y1 : 0 ≤ ry) (y2 : ry ≤ 255) :
    farB (65536 * (((a * rx) + (c * ry)) + e)) = true := by
  have p1 := mul_b (a := a) (b := rx) (A := 128) (B := 255) (by omega) (by omega) (by omega) (by omega) (by omega) (by omega)
  have p2 := mul_b (a := c) (b := ry) (A := 128) (B := 255) (by omega) (by omega) (by omega) (by omega) (by omega) (by omega)
  rw [farB_is]
  unfold inFar
  omega
theorem led8 {r : Int} (h : r ≤ 255) : ledB 8 r = true := by
  unfold ledB
  rw [show gr 8 = 255 by decide]
  simp [h]
theorem flat_at {L P M : List Int} (k : Nat) {a b c d e f rx ry : Int} (h1 : nth L 1 = 8) (h6 : nth L 6 = 0) (h7 : nth L 7 = 16711680) (h8 : nth L 8 = 0) (h9 : nth L 9 = 16711680) (hx : nth P (2 * k) = rx) (hy : nth P (2 * k + 1) = ry)
    (hM : M = [a * 65536, b * 65536, c * 65536, d * 65536, e * 65536, f * 65536]) (a1 : -128 ≤ a) (a2 : a ≤ 127) (b1 : -128 ≤ b) (b2 : b ≤ 127) (c1 : -128 ≤ c) (c2 : c ≤ 127) (d1 : -128 ≤ d) (d2 : d ≤ 127) (e1 : -128 ≤ e) (e2 : e ≤ 127)
    (f1 : -128 ≤ f) (f2 : f ≤ 127) (x1 : 0 ≤ rx) (x2 : rx ≤ 255) (y1 : 0 ≤ ry) (y2 : ry ≤ 255) :
    Es L P M k = 0 ∧ pX L P M k = 65536 * (((a * rx) + (c * ry)) + e) ∧ pY L P M k = 65536 * (((b * rx) + (d * ry)) + f) := by
  have g : gr 8 = 255 := by decide
  have X : ptX L M rx ry = 65536 * (((a * rx) + (c * ry)) + e) := by
    unfold ptX
    rw [h1, h6, h7, h8, h9, g, hM]
    exact flat_pt
  have Y : ptY L M rx ry = 65536 * (((b * rx) + (d * ry)) + f) := by
    unfold ptY
    rw [h1, h6, h7, h8, h9, g, hM]
    exact flat_pt
  refine ⟨?_, ?_, ?_⟩
  · unfold Es ptE
    rw [hx, hy, h1, led8 x2, led8 y2, X, Y, far_pt a1 a2 c1 c2 e1 e2 x1 x2 y1 y2, far_pt b1 b2 d1 d2 f1 f2 x1 x2 y1 y2]
    rfl
  · unfold pX; rw [hx, hy, X]
  · unfold pY; rw [hx, hy, Y]

end Go.Proofs.YtndfeckmfhiniaaGreatDoor.Sx
