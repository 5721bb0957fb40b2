/-
  Plain laws of roots, over those of wides.
-/
import Derived.Test.YtogcbmadcgjljaaDoorWpf
import Derived.Test.YtogcbmadcgjljaaDoorWi
import Derived.Test.YtogcbmadcgjljaaDoorWg
import Derived.Test.YtogcbmadcgjljaaDoorWpg
set_option linter.all false
set_option maxRecDepth 100000
namespace Go.Proofs.YtogcbmadcgjljaaDoor.Sx
open Go Go.RowKit

theorem p_wide2 : P_wide2 := by
  unfold P_wide2
  intros
  repeat' (first | intro _ | refine And.intro ?_ ?_)
  all_goals (simp only [Post_wide2, b2i_dec] at *; simp only [w128, decide_eq_true_eq, true_iff, Bool.false_eq_true, false_iff] at *; omega)

theorem p_mkwide : P_mkwide := by
  unfold P_mkwide
  intros; trivial

theorem sq_lt {x k : Int} (hk : 0 ≤ k) (h : x * x < k * k) : x < k := by
  rcases Int.lt_or_le x k with h1 | h1
  · exact h1
  · have := Int.mul_le_mul h1 h1 hk (by omega : 0 ≤ x)
    omega

theorem root_le {n m x y : Int} (hx : isRoot n x) (hy : isRoot m y) (h : n ≤ m) (h0 : 0 ≤ y) : x ≤ y := by
  have : x * x < (y + 1) * (y + 1) := Int.lt_of_le_of_lt (Int.le_trans hx.1 h) hy.2
  have := sq_lt (by omega) this
  omega

theorem root_uniq {n x y : Int} (hx : isRoot n x) (hy : isRoot n y) (h0 : 0 ≤ x) (h1 : 0 ≤ y) : x = y := by
  have := root_le hx hy (Int.le_refl _) h1
  have := root_le hy hx (Int.le_refl _) h0
  omega

theorem root_lt {n x k : Int} (hx : isRoot n x) (hk : 0 ≤ k) (h : n < k * k) : x < k := sq_lt hk (Int.lt_of_le_of_lt hx.1 h)

theorem p_wide1 : P_wide1 := by
  unfold P_wide1
  intros
  repeat' (first | intro _ | refine And.intro ?_ ?_)
  all_goals (simp only [Pre_mul64, Post_mul64, Post_wide1, w128] at * <;> try assumption)

theorem p_log : P_log := by
  unfold P_log
  intro n h1 h2 _
  refine ⟨trivial, fun n1 h3 h4 hp n2 e2 _ _ => ?_⟩
  simp only [Post_log, Post_len64] at *
  obtain ⟨_, p1, p2, p3⟩ := hp
  refine ⟨fun h => by have := p3 h; omega, fun h => ?_⟩
  have hn : 1 ≤ n1 := by
    rcases Int.lt_or_le n1 1 with h' | h'
    · have : n1.toNat = 0 := by omega
      rw [this] at p1
      omega
    · exact h'
  have e : n1.toNat = n2.toNat + 1 := by omega
  rw [e, Int.pow_succ] at p1 p2
  have := p2 h
  omega

theorem p_rootWide : P_rootWide := by
  unfold P_rootWide
  intro n h1 h2 n1 h3 h4 _ b
  refine ⟨trivial, fun n2 _ _ n3 _ _ ho => ⟨trivial, fun c _ _ hc => ⟨fun hl => ?_, fun hl => ⟨trivial, fun _ n5 e5 _ _ => ⟨trivial, fun n6 _ _ hr => ?_⟩⟩⟩⟩⟩
  · show (_ → _ ∧ _) ∧ (_ → _ ∧ _)
    simp only [Post_wof, Post_wcmp, w128] at ho hc
    exact ⟨fun _ => ⟨rfl, rfl⟩, fun h' => by omega⟩
  · show (_ → _ ∧ _) ∧ (_ → _ ∧ _)
    simp only [Post_wof, Post_wcmp, Post_rootwide, wrap_u64] at ho hc hr e5
    simp only [w128] at ho hc
    have : n5 = n := by omega
    subst this
    exact ⟨fun h => by omega, fun h => ⟨rfl, hr⟩⟩

theorem root_step {most : Nat} (hm : most ≤ 64) {n x i k : Int} (h : rootInv most n x i) (hi0 : 0 ≤ i) (hi : i < most) (hx : 0 ≤ x) (hk : k = most - 1 - i) :
    bitsI .or .u64 x (shI .shl .u64 1 k) = x + 2 ^ k.toNat ∧ x + 2 ^ k.toNat < 2 ^ most ∧ 0 ≤ x + (2 : Int) ^ k.toNat ∧
    ((x + 2 ^ k.toNat) * (x + 2 ^ k.toNat) ≤ n → rootInv most n (x + 2 ^ k.toNat) (i + 1)) ∧ (n < (x + 2 ^ k.toNat) * (x + 2 ^ k.toNat) → rootInv most n x (i + 1)) := by
  obtain ⟨h1, ⟨c, h2⟩, h3, h4, h5⟩ := h
  have e : most - i.toNat = k.toNat + 1 := by omega
  have e' : most - (i + 1).toNat = k.toNat := by omega
  have hp : (0 : Int) < 2 ^ k.toNat := Int.pow_pos (by omega)
  have hs : shI .shl .u64 1 k = 2 ^ k.toNat := by
    show IntKind.wrap .u64 (1 * 2 ^ (Min.min k.toNat 64)) = _
    rw [Nat.min_eq_left (by omega), wrap_u64, Int.one_mul]
    have : (2 : Int) ^ k.toNat ≤ 2 ^ 63 := pow2_le (by omega)
    omega
  have hmo : (2 : Int) ^ most ≤ 2 ^ 64 := pow2_le hm
  rw [e] at h2 h3 h5
  have e2 : (2 : Int) ^ (k.toNat + 1) = 2 ^ k.toNat * 2 := Int.pow_succ ..
  have hor : bitsI .or .u64 x (shI .shl .u64 1 k) = x + 2 ^ k.toNat := by
    rw [hs, h2]
    exact or_add (by omega) (by omega) (by omega) (by omega) (by omega)
  refine ⟨hor, by omega, by omega, fun hy => ⟨by omega, ⟨2 * c + 1, ?_⟩, ?_, hy, ?_⟩, fun hy => ⟨by omega, ⟨2 * c, ?_⟩, ?_, h4, ?_⟩⟩
  · rw [e', h2, e2]; grind
  · rw [e']; omega
  · rw [e', show x + 2 ^ k.toNat + 2 ^ k.toNat = x + 2 ^ (k.toNat + 1) by omega]; exact h5
  · rw [e', h2, e2]; grind
  · rw [e']; omega
  · rw [e']; exact hy

theorem root_init {most : Nat} {n : Int} (h0 : 0 ≤ n) (h : n < 2 ^ most * 2 ^ most) : rootInv most n 0 0 := by
  refine ⟨by omega, ⟨0, by simp⟩, by simp, by simpa using h0, ?_⟩
  simpa using h

theorem root_done {most : Nat} {n x i : Int} (h : rootInv most n x i) (hi : ¬ i < most) : isRoot n x := by
  obtain ⟨h1, _, _, h4, h5⟩ := h
  have e : most - i.toNat = 0 := by omega
  rw [e] at h5
  exact ⟨h4, by simpa using h5⟩

theorem p_rootwide : P_rootwide := by
  unfold P_rootwide
  intro h _ _ l _ _ _ _ _
  refine ⟨root_init (most := 64) (n := w128 h l) (by simp only [w128]; omega) (by simp only [w128]; omega), ?_⟩
  intro x _ _ i _ _ hI _ _
  replace hI : rootInv 64 (w128 h l) x i := hI
  refine ⟨fun hl => ⟨by omega, fun k ek _ _ y ey _ _ => ?_⟩, fun hl => root_done hI hl⟩
  obtain ⟨s1, s2, s3, s4, s5⟩ := root_step (k := k) (by omega) hI (by omega) hl (by omega) (by omega)
  rw [s1] at ey
  rw [← ey] at s2 s3 s4 s5
  refine ⟨trivial, fun z _ _ z1 _ _ hz => ⟨trivial, fun t ht => ?_⟩⟩
  replace hz : w128 z z1 = y * y := hz
  replace ht : b2i t = b2i (decide (w128 h l < w128 z z1)) := ht
  rw [b2i_dec, hz] at ht
  refine ⟨fun h => ⟨by omega, fun j ej _ _ => ⟨?_, ?_⟩⟩, fun h => ⟨by omega, fun j ej _ _ => ⟨?_, ?_⟩⟩⟩
  · show rootInv 64 _ y j
    rw [ej]; exact s4 (Int.not_lt.1 fun h' => h (ht.2 h'))
  · show (64 - j).toNat < (64 - i).toNat
    omega
  · show rootInv 64 _ x j
    rw [ej]; exact s5 (ht.1 (Classical.not_not.1 h))
  · show (64 - j).toNat < (64 - i).toNat
    omega

theorem log_le {n k j : Int} (hk : 0 ≤ k) (h1 : (2 : Int) ^ k.toNat ≤ n) (hj : 0 ≤ j) (h2 : n < 2 * 2 ^ j.toNat) : k ≤ j := by
  rcases Int.lt_or_le j k with h | h
  · have := pow2_le (a := j.toNat + 1) (b := k.toNat) (by omega)
    rw [Int.pow_succ] at this
    omega
  · exact h

def isLog (n k : Int) : Prop := (n = 0 → k = -1) ∧ (0 < n → 0 ≤ k ∧ k ≤ 63 ∧ 2 ^ k.toNat ≤ n ∧ n < 2 * 2 ^ k.toNat)

theorem log_uniq {n k j : Int} (hn : 0 ≤ n) (hk : isLog n k) (hj : isLog n j) : k = j := by
  rcases Int.lt_or_le 0 n with h | h
  · obtain ⟨a, b, c, d⟩ := hk.2 h
    obtain ⟨a', b', c', d'⟩ := hj.2 h
    have := log_le a c a' d'
    have := log_le a' c' a d
    omega
  · have := hk.1 (by omega)
    have := hj.1 (by omega)
    omega

theorem root_nonneg {n x : Int} (h : isRoot n x) : 0 ≤ x := by
  obtain ⟨h1, h2⟩ := h
  have : (x + 1) * (x + 1) = x * x + 2 * x + 1 := by grind
  omega

theorem root_is {n x y : Int} (hx : isRoot n x) (hy : isRoot n y) : x = y := root_uniq hx hy (root_nonneg hx) (root_nonneg hy)

theorem p_rnum : P_rnum := by
  unfold P_rnum
  intro n _ _ _ _
  refine ⟨trivial, ?_⟩
  intro t n1 _ _ n2 _ _ n3 _ _ n4 _ _ n5 _ _ n6 _ _ n7 _ _ n8 _ _ n9 _ _ n10 _ _ n11 _ _ n12 _ _ hr
  replace hr : vd [n1, n2, n3, n4, n5, n6, n7, n8, n9, n10, n11, n12] ≤ _ ∧ sv (b2i t :: [n1, n2, n3, n4, n5, n6, n7, n8, n9, n10, n11, n12]) = w128 0 n ∧ (b2i t = 1 ↔ (0 : Int) < 0) := hr
  obtain ⟨_, h1, h2⟩ := hr
  show b2i t = 0 ∧ vd [n1, n2, n3, n4, n5, n6, n7, n8, n9, n10, n11, n12] = n
  cases t with
  | true => simp [b2i] at h2
  | false =>
    rw [sv_false] at h1
    refine ⟨rfl, ?_⟩
    rw [h1]; simp [w128]

theorem p_rroot : P_rroot := by
  unfold P_rroot
  intro t n _ _ n1 _ _ n2 _ _ n3 _ _ n4 _ _ n5 _ _ n6 _ _ n7 _ _ n8 _ _ n9 _ _ n10 _ _ n11 _ _ hp _
  replace hp : b2i t = 0 ∧ vd [n, n1, n2, n3, n4, n5, n6, n7, n8, n9, n10, n11] < top8 := hp
  obtain ⟨ht, hp⟩ := hp
  have ht : t = false := by cases t <;> simp [b2i] at ht ⊢
  subst ht
  have h0 : 0 ≤ vd [n, n1, n2, n3, n4, n5, n6, n7, n8, n9, n10, n11] := vd_nonneg _ (by intro d hd; simp only [List.mem_cons, List.not_mem_nil, or_false] at hd; omega)
  generalize hN : vd [n, n1, n2, n3, n4, n5, n6, n7, n8, n9, n10, n11] = N at hp h0
  refine ⟨?_, ?_⟩
  · show (0 : Int) ≤ 18446744073709551615 ∧ 0 * 0 ≤ vd [n, n1, n2, n3, n4, n5, n6, n7, n8, n9, n10, n11] ∧ vd [n, n1, n2, n3, n4, n5, n6, n7, n8, n9, n10, n11] < (18446744073709551615 + 1) * (18446744073709551615 + 1)
    rw [hN]; simp only [top8] at hp; omega
  intro a _ _ b _ _ hI _ _
  replace hI : a ≤ b ∧ a * a ≤ vd [n, n1, n2, n3, n4, n5, n6, n7, n8, n9, n10, n11] ∧ vd [n, n1, n2, n3, n4, n5, n6, n7, n8, n9, n10, n11] < (b + 1) * (b + 1) := hI
  rw [hN] at hI
  obtain ⟨i1, i2, i3⟩ := hI
  refine ⟨fun hl => ?_, fun hl => ?_⟩
  · intro m em _ _
    simp only [wrap_u64] at em
    have f1 : (b - a) % 18446744073709551616 = b - a := by omega
    rw [f1] at em
    have f2 : (a + (b - a) / 2) % 18446744073709551616 = a + (b - a) / 2 := Int.emod_eq_of_lt (by omega) (by omega)
    rw [f2] at em
    have f3 : (a + (b - a) / 2 + (b - a) % 2) % 18446744073709551616 = a + (b - a) / 2 + (b - a) % 2 := Int.emod_eq_of_lt (by omega) (by omega)
    rw [f3] at em
    have em1 : a < m := by omega
    have em2 : m ≤ b := by omega
    refine ⟨trivial, ?_⟩
    intro t1 n15 _ _ n16 _ _ n17 _ _ n18 _ _ n19 _ _ n20 _ _ n21 _ _ n22 _ _ n23 _ _ n24 _ _ n25 _ _ n26 _ _ hq
    replace hq : b2i t1 = 0 ∧ vd [n15, n16, n17, n18, n19, n20, n21, n22, n23, n24, n25, n26] = m := hq
    refine ⟨trivial, ?_⟩
    intro t2 n27 _ _ n28 _ _ n29 _ _ n30 _ _ n31 _ _ n32 _ _ n33 _ _ n34 _ _ n35 _ _ n36 _ _ n37 _ _ n38 _ _ hr
    replace hr : b2i t2 = 0 ∧ vd [n27, n28, n29, n30, n31, n32, n33, n34, n35, n36, n37, n38] = m := hr
    refine ⟨trivial, ?_⟩
    intro t3 n39 _ _ n40 _ _ n41 _ _ n42 _ _ n43 _ _ n44 _ _ n45 _ _ n46 _ _ n47 _ _ n48 _ _ n49 _ _ n50 _ _ hs
    replace hs : (b2i t3 = 1 ↔ b2i t1 ≠ b2i t2) ∧ vd [n39, n40, n41, n42, n43, n44, n45, n46, n47, n48, n49, n50] = (vd [n15, n16, n17, n18, n19, n20, n21, n22, n23, n24, n25, n26] * vd [n27, n28, n29, n30, n31, n32, n33, n34, n35, n36, n37, n38]) % top12 := hs
    obtain ⟨hs1, hs⟩ := hs
    rw [hq.2, hr.2] at hs
    have hmm : m * m ≤ 18446744073709551615 * 18446744073709551615 := Int.mul_le_mul (by omega) (by omega) (by omega) (by omega)
    have hm0 : 0 ≤ m * m := Int.mul_nonneg (by omega) (by omega)
    rw [Int.emod_eq_of_lt hm0 (by simp only [top12]; omega)] at hs
    have h3 : t3 = false := by
      rw [hq.1, hr.1] at hs1
      cases t3 <;> simp [b2i] at hs1 ⊢
    subst h3
    refine ⟨?_, ?_⟩
    · show vd [n39, n40, n41, n42, n43, n44, n45, n46, n47, n48, n49, n50] + vd [n, n1, n2, n3, n4, n5, n6, n7, n8, n9, n10, n11] < top12
      rw [hs, hN]; simp only [top12, top8] at *; omega
    intro t4 ha
    replace ha : b2i t4 = b2i (decide (sv (b2i false :: [n, n1, n2, n3, n4, n5, n6, n7, n8, n9, n10, n11]) < sv (b2i false :: [n39, n40, n41, n42, n43, n44, n45, n46, n47, n48, n49, n50]))) := ha
    rw [b2i_dec, sv_false, sv_false, hs, hN] at ha
    refine ⟨fun h => ?_, fun h => ⟨?_, ?_⟩⟩
    · rw [h] at ha
      intro k ek _ _
      simp only [wrap_u64] at ek
      have ek : k = m - 1 := by omega
      have := ha.1 rfl
      refine ⟨?_, ?_⟩
      · show a ≤ k ∧ a * a ≤ vd [n, n1, n2, n3, n4, n5, n6, n7, n8, n9, n10, n11] ∧ vd [n, n1, n2, n3, n4, n5, n6, n7, n8, n9, n10, n11] < (k + 1) * (k + 1)
        rw [hN, show k + 1 = m by omega]
        exact ⟨by omega, i2, this⟩
      · show (k - a).toNat < (b - a).toNat
        omega
    · show m ≤ b ∧ m * m ≤ vd [n, n1, n2, n3, n4, n5, n6, n7, n8, n9, n10, n11] ∧ vd [n, n1, n2, n3, n4, n5, n6, n7, n8, n9, n10, n11] < (b + 1) * (b + 1)
      rw [hN]
      exact ⟨em2, Int.not_lt.1 fun h' => h (ha.2 h'), i3⟩
    · show (b - m).toNat < (b - a).toNat
      omega
  · show isRoot (vd [n, n1, n2, n3, n4, n5, n6, n7, n8, n9, n10, n11]) a
    rw [hN]
    have : a = b := by omega
    subst this
    exact ⟨i2, i3⟩

theorem p_rRootWide : P_rRootWide := by
  unfold P_rRootWide
  intro n _ _ n1 _ _ _ _
  refine ⟨fun h => ?_, fun h => ⟨trivial, ?_⟩⟩
  · show (_ → _ ∧ _) ∧ (_ → _ ∧ _)
    exact ⟨fun _ => ⟨rfl, rfl⟩, fun h' => absurd h (by omega)⟩
  intro t n2 _ _ n3 _ _ n4 _ _ n5 _ _ n6 _ _ n7 _ _ n8 _ _ n9 _ _ n10 _ _ n11 _ _ n12 _ _ n13 _ _ hr
  replace hr : vd [n2, n3, n4, n5, n6, n7, n8, n9, n10, n11, n12, n13] ≤ 170141183460469231731687303715884105728 ∧ sv (b2i t :: [n2, n3, n4, n5, n6, n7, n8, n9, n10, n11, n12, n13]) = w128 n n1 ∧ (b2i t = 1 ↔ n < 0) := hr
  obtain ⟨h1, h2, h3⟩ := hr
  have ht : t = false := by
    cases t with
    | false => rfl
    | true => exact absurd (h3.1 rfl) h
  subst ht
  rw [sv_false] at h2
  refine ⟨?_, ?_⟩
  · show b2i false = 0 ∧ vd [n2, n3, n4, n5, n6, n7, n8, n9, n10, n11, n12, n13] < top8
    exact ⟨rfl, by simp only [top8]; omega⟩
  intro x _ _ hx
  replace hx : isRoot (vd [n2, n3, n4, n5, n6, n7, n8, n9, n10, n11, n12, n13]) x := hx
  rw [h2] at hx
  show (_ → _ ∧ _) ∧ (_ → _ ∧ _)
  exact ⟨fun h' => absurd h' h, fun _ => ⟨rfl, hx⟩⟩

theorem p_rLog : P_rLog := by
  unfold P_rLog
  intro n _ _ _
  refine ⟨?_, ?_⟩
  · show n * 2 ^ ((-1 : Int) + 1).toNat ≤ n ∧ n < (n + 1) * 2 ^ ((-1 : Int) + 1).toNat ∧ ((-1 : Int) = -1 ∨ _)
    simp; omega
  intro n1 _ _ k _ _ hI _ _
  replace hI : n1 * 2 ^ (k + 1).toNat ≤ n ∧ n < (n1 + 1) * 2 ^ (k + 1).toNat ∧ (k = -1 ∨ 2 ^ k.toNat ≤ n) := hI
  obtain ⟨hI1, hI2, hI3⟩ := hI
  refine ⟨fun h => ?_, fun h => ?_⟩
  · intro n3 e3 _ _ n4 e4 _ _
    have hk : k + 1 ≤ 63 := by
      rcases Int.lt_or_le 63 (k + 1) with hk | hk
      · have e : (k + 1).toNat = 64 := by omega
        rw [e] at hI1
        omega
      · exact hk
    refine ⟨by omega, fun n5 e5 _ _ => ⟨?_, ?_⟩⟩
    · show n3 * 2 ^ (n5 + 1).toNat ≤ n ∧ n < (n3 + 1) * 2 ^ (n5 + 1).toNat ∧ (n5 = -1 ∨ 2 ^ n5.toNat ≤ n)
      rw [show n5.toNat = (k + 1).toNat by omega]
      have e : (n5 + 1).toNat = (k + 1).toNat + 1 := by omega
      rw [e, Int.pow_succ]
      generalize (2 : Int) ^ (k + 1).toNat = p at hI1 hI2 ⊢
      have hp : 0 ≤ p := by
        rcases Int.lt_or_le p 0 with hp | hp
        · have : (n1 + 1) * p ≤ 0 := by
            have := Int.mul_le_mul_of_nonneg_left (Int.le_of_lt hp) (by omega : 0 ≤ n1 + 1)
            simpa using this
          omega
        · exact hp
      have h1 : n3 * (p * 2) ≤ n1 * p := by
        rw [show n3 * (p * 2) = (2 * n3) * p by grind]
        exact Int.mul_le_mul_of_nonneg_right (by omega) hp
      have h2 : (n1 + 1) * p ≤ (n3 + 1) * (p * 2) := by
        rw [show (n3 + 1) * (p * 2) = (2 * n3 + 2) * p by grind]
        exact Int.mul_le_mul_of_nonneg_right (by omega) hp
      have h3 : 1 * p ≤ n1 * p := Int.mul_le_mul_of_nonneg_right (by omega) hp
      omega
    · show n3.toNat < n1.toNat
      omega
  · have e : n1 = 0 := by omega
    subst e
    show (_ → _) ∧ (_ → _ ∧ _ ∧ _ ∧ _)
    rw [Int.zero_add, Int.one_mul] at hI2
    refine ⟨fun h0 => ?_, fun h0 => ?_⟩
    · rcases hI3 with h3 | h3
      · exact h3
      · have : (0 : Int) < 2 ^ k.toNat := Int.pow_pos (by omega)
        omega
    · have hk : k ≠ -1 := by
        rintro rfl
        simp at hI2
        omega
      have e : (k + 1).toNat = k.toNat + 1 := by omega
      rw [e, Int.pow_succ] at hI2
      rcases hI3 with h3 | h3
      · exact absurd h3 hk
      · exact ⟨by omega, by omega, h3, by omega⟩

end Go.Proofs.YtogcbmadcgjljaaDoor.Sx
