/-
  Plain laws of roots.
-/
import Derived.Test.YtcjllibeaiofpaaGreatDoorWp
import Derived.Test.YtcjllibeaiofpaaGreatDoorWa
set_option linter.all false
set_option maxRecDepth 100000
namespace Go.Proofs.YtcjllibeaiofpaaGreatDoor.Sx
open Go Go.RowKit
theorem p_narrow2 : P_narrow2 := by
 unfold P_narrow2
 intros; rfl
theorem p_wide2 : P_wide2 := by
 unfold P_wide2
 intros
 repeat' (first | intro _ | refine And.intro ?_ ?_)
 all_goals (simp only [Post_wide2, b2i_dec] at *; simp only [w128, decide_eq_true_eq, true_iff, Bool.false_eq_true, false_iff] at *; omega)
theorem p_mknarrow : P_mknarrow := by
 unfold P_mknarrow
 intros; trivial
theorem p_mkwide : P_mkwide := by
 unfold P_mkwide
 intros; trivial
theorem sq_lt {x k : Int} (hk : 0 <= k) (h : x * x < k * k) : x < k := by
 rcases Int.lt_or_le x k with h1 | h1
 ·exact h1
 ·have := Int.mul_le_mul h1 h1 hk (by omega : 0 <= x)
  omega
theorem root_le {n m x y : Int} (hx : isRoot n x) (hy : isRoot m y) (h : n <= m) (h0 : 0 <= y) : x <= y := by
 have : x * x < (y + 1) * (y + 1) := Int.lt_of_le_of_lt (Int.le_trans hx.1 h) hy.2
 have := sq_lt (by omega) this
 omega
theorem root_uniq {n x y : Int} (hx : isRoot n x) (hy : isRoot n y) (h0 : 0 <= x) (h1 : 0 <= y) : x = y := by
 have := root_le hx hy (Int.le_refl _) h1
 have := root_le hy hx (Int.le_refl _) h0
 omega
theorem root_lt {n x k : Int} (hx : isRoot n x) (hk : 0 <= k) (h : n < k * k) : x < k := sq_lt hk (Int.lt_of_le_of_lt hx.1 h)
theorem p_root : P_root := by
 unfold P_root
 intro n h1 h2 _
 exact ⟨trivial, fun _ => ⟨trivial, fun x _ _ h => h⟩⟩
theorem p_narrow1 : P_narrow1 := by
 unfold P_narrow1
 intro n h1 h2 hp m em _ _
 simp only [Pre_narrow1, Post_narrow1, wrap_u64] at *
 have hp' : n <= 4294967295 := by omega
 have := Int.mul_le_mul hp' hp' h1 (by omega)
 have := Int.mul_nonneg h1 h1
 omega
theorem p_wide1 : P_wide1 := by
 unfold P_wide1
 intros
 repeat' (first | intro _ | refine And.intro ?_ ?_)
 all_goals (simp only [Pre_mul64, Post_mul64, Post_wide1, w128] at * <;> try assumption)
theorem p_sqrt : P_sqrt := by
 unfold P_sqrt
 intro n h1 h2 _
 refine ⟨fun h => ?_, fun h n1 e1 _ _ => ⟨trivial, fun n2 h5 h6 hr n3 e3 _ _ => ?_⟩⟩
 ·show (_ -> _ /\ _) /\ (_ -> _ /\ _)
  exact ⟨fun _ => ⟨rfl, rfl⟩, fun h' => absurd h (by omega)⟩
 ·show (_ -> _ /\ _) /\ (_ -> _ /\ _)
  simp only [Post_root, wrap_u64, wrap_i32] at e1 hr e3
  have e : n1 = n * 65536 := by omega
  subst e
  have := root_lt (k := 2147483648) hr (by omega) (by omega)
  have e : n3 = n2 := by omega
  subst e
  exact ⟨fun h' => absurd h' h, fun _ => ⟨rfl, hr⟩⟩
theorem p_log : P_log := by
 unfold P_log
 intro n h1 h2 _
 refine ⟨trivial, fun n1 h3 h4 hp n2 e2 _ _ => ?_⟩
 simp only [Post_log, Post_len64] at *
 obtain ⟨_, p1, p2, p3⟩ := hp
 refine ⟨fun h => by have := p3 h; omega, fun h => ?_⟩
 have hn : 1 <= n1 := by
  rcases Int.lt_or_le n1 1 with h' | h'
  ·have : n1.toNat = 0 := by omega
   rw [this] at p1
   omega
  ·exact h'
 have e : n1.toNat = n2.toNat + 1 := by omega
 rw [e, Int.pow_succ] at p1 p2
 have := p2 h
 omega
theorem p_rootWide : P_rootWide := by
 unfold P_rootWide
 intro n h1 h2 n1 h3 h4 _ b
 refine ⟨trivial, fun n2 _ _ n3 _ _ ho => ⟨trivial, fun c _ _ hc => ⟨fun hl => ?_, fun hl => ⟨trivial, fun _ n5 e5 _ _ => ⟨trivial, fun n6 _ _ hr => ?_⟩⟩⟩⟩⟩
 ·show (_ -> _ /\ _) /\ (_ -> _ /\ _)
  simp only [Post_wof, Post_wcmp, w128] at ho hc
  exact ⟨fun _ => ⟨rfl, rfl⟩, fun h' => by omega⟩
 ·show (_ -> _ /\ _) /\ (_ -> _ /\ _)
  simp only [Post_wof, Post_wcmp, Post_rootwide, wrap_u64] at ho hc hr e5
  simp only [w128] at ho hc
  have : n5 = n := by omega
  subst this
  exact ⟨fun h => by omega, fun h => ⟨rfl, hr⟩⟩
theorem root_step {most : Nat} (hm : most <= 64) {n x i k : Int} (h : rootInv most n x i) (hi0 : 0 <= i) (hi : i < most) (hx : 0 <= x) (hk : k = most - 1 - i) :
  bitsI .or .u64 x (shI .shl .u64 1 k) = x + 2 ^ k.toNat /\ x + 2 ^ k.toNat < 2 ^ most /\ 0 <= x + (2 : Int) ^ k.toNat /\
  ((x + 2 ^ k.toNat) * (x + 2 ^ k.toNat) <= n -> rootInv most n (x + 2 ^ k.toNat) (i + 1)) /\ (n < (x + 2 ^ k.toNat) * (x + 2 ^ k.toNat) -> rootInv most n x (i + 1)) := by
 obtain ⟨h1, ⟨c, h2⟩, h3, h4, h5⟩ := h
 have e : most - i.toNat = k.toNat + 1 := by omega
 have e' : most - (i + 1).toNat = k.toNat := by omega
 have hp : (0 : Int) < 2 ^ k.toNat := Int.pow_pos (by omega)
 have hs : shI .shl .u64 1 k = 2 ^ k.toNat := by
  show IntKind.wrap .u64 (1 * 2 ^ (Min.min k.toNat 64)) = _
  rw [Nat.min_eq_left (by omega), wrap_u64, Int.one_mul]
  have : (2 : Int) ^ k.toNat <= 2 ^ 63 := pow2_le (by omega)
  omega
 have hmo : (2 : Int) ^ most <= 2 ^ 64 := pow2_le hm
 rw [e] at h2 h3 h5
 have e2 : (2 : Int) ^ (k.toNat + 1) = 2 ^ k.toNat * 2 := Int.pow_succ ..
 have hor : bitsI .or .u64 x (shI .shl .u64 1 k) = x + 2 ^ k.toNat := by
  rw [hs, h2]
  exact or_add (by omega) (by omega) (by omega) (by omega) (by omega)
 refine ⟨hor, by omega, by omega, fun hy => ⟨by omega, ⟨2 * c + 1, ?_⟩, ?_, hy, ?_⟩, fun hy => ⟨by omega, ⟨2 * c, ?_⟩, ?_, h4, ?_⟩⟩
 ·rw [e', h2, e2]; grind
 ·rw [e']; omega
 ·rw [e', show x + 2 ^ k.toNat + 2 ^ k.toNat = x + 2 ^ (k.toNat + 1) by omega]; exact h5
 ·rw [e', h2, e2]; grind
 ·rw [e']; omega
 ·rw [e']; exact hy
theorem root_init {most : Nat} {n : Int} (h0 : 0 <= n) (h : n < 2 ^ most * 2 ^ most) : rootInv most n 0 0 := by
 refine ⟨by omega, ⟨0, by simp⟩, by simp, by simpa using h0, ?_⟩
 simpa using h
theorem root_done {most : Nat} {n x i : Int} (h : rootInv most n x i) (hi : ¬ i < most) : isRoot n x := by
 obtain ⟨h1, _, _, h4, h5⟩ := h
 have e : most - i.toNat = 0 := by omega
 rw [e] at h5
 exact ⟨h4, by simpa using h5⟩
theorem p_rootnarrow : P_rootnarrow := by
 unfold P_rootnarrow
 intro n _ _ _ _
 refine ⟨root_init (most := 32) (by omega) (by omega), ?_⟩
 intro x _ _ i _ _ hI _ _
 replace hI : rootInv 32 n x i := hI
 refine ⟨fun hl => ⟨by omega, fun k ek _ _ y ey _ _ => ?_⟩, fun hl => root_done hI hl⟩
 obtain ⟨s1, s2, s3, s4, s5⟩ := root_step (k := k) (by omega) hI (by omega) hl (by omega) (by omega)
 rw [s1] at ey
 rw [<- ey] at s2 s3 s4 s5
 refine ⟨?_, fun z _ _ hz => ⟨trivial, fun t ht => ?_⟩⟩
 ·show y < 4294967296
  omega
 replace hz : z = y * y := hz
 replace ht : b2i t = b2i (decide (n < z)) := ht
 rw [b2i_dec, hz] at ht
 refine ⟨fun h => ⟨by omega, fun j ej _ _ => ⟨?_, ?_⟩⟩, fun h => ⟨by omega, fun j ej _ _ => ⟨?_, ?_⟩⟩⟩
 ·show rootInv 32 n y j
  rw [ej]; exact s4 (Int.not_lt.1 fun h' => h (ht.2 h'))
 ·show (32 - j).toNat < (32 - i).toNat
  omega
 ·show rootInv 32 n x j
  rw [ej]; exact s5 (ht.1 (Classical.not_not.1 h))
 ·show (32 - j).toNat < (32 - i).toNat
  omega
theorem p_rootwide : P_rootwide := by
 unfold P_rootwide
 intro h _ _ l _ _ _ _ _
 refine ⟨root_init (most := 64) (n := w128 h l) (by simp only [w128]; omega) (by simp only [w128]; omega), ?_⟩
 intro x _ _ i _ _ hI _ _
 replace hI : rootInv 64 (w128 h l) x i := hI
 refine ⟨fun hl => ⟨by omega, fun k ek _ _ y ey _ _ => ?_⟩, fun hl => root_done hI hl⟩
 obtain ⟨s1, s2, s3, s4, s5⟩ := root_step (k := k) (by omega) hI (by omega) hl (by omega) (by omega)
 rw [s1] at ey
 rw [<- ey] at s2 s3 s4 s5
 refine ⟨trivial, fun z _ _ z1 _ _ hz => ⟨trivial, fun t ht => ?_⟩⟩
 replace hz : w128 z z1 = y * y := hz
 replace ht : b2i t = b2i (decide (w128 h l < w128 z z1)) := ht
 rw [b2i_dec, hz] at ht
 refine ⟨fun h => ⟨by omega, fun j ej _ _ => ⟨?_, ?_⟩⟩, fun h => ⟨by omega, fun j ej _ _ => ⟨?_, ?_⟩⟩⟩
 ·show rootInv 64 _ y j
  rw [ej]; exact s4 (Int.not_lt.1 fun h' => h (ht.2 h'))
 ·show (64 - j).toNat < (64 - i).toNat
  omega
 ·show rootInv 64 _ x j
  rw [ej]; exact s5 (ht.1 (Classical.not_not.1 h))
 ·show (64 - j).toNat < (64 - i).toNat
  omega
end Go.Proofs.YtcjllibeaiofpaaGreatDoor.Sx
set_option linter.all false
namespace Go.Proofs.YtcjllibeaiofpaaGreatDoor.Sx
open Go Go.RowKit
theorem near_uniq {A d x y : Int} (hd : 1 <= d) (hx : isNear A d x) (hy : isNear A d y) : x = y := by
 obtain ⟨a1, a2⟩ := hx
 obtain ⟨b1, b2⟩ := hy
 have f : ∀ p q : Int, 2 * d * p <= 2 * A + d -> 2 * A + d < 2 * d * (q + 1) -> p <= q := by
  intro p q h1 h2
  have h3 : 2 * d * p < 2 * d * (q + 1) := Int.lt_of_le_of_lt h1 h2
  have := Int.lt_of_mul_lt_mul_left h3 (by omega)
  omega
 have := f x y a1 b2
 have := f y x b1 a2
 omega
theorem floor_uniq {A d x y r s : Int} (hx : isFloor A d x r) (hy : isFloor A d y s) : x = y /\ r = s := by
 obtain ⟨a1, a2, a3⟩ := hx
 obtain ⟨b1, b2, b3⟩ := hy
 have f : ∀ p q u v : Int, A = p * d + u -> A = q * d + v -> 0 <= u -> v < d -> p <= q := by
  intro p q u v h1 h2 h3 h4
  have h5 : p * d < (q + 1) * d := by
   have : (q + 1) * d = q * d + d := by grind
   omega
  have := Int.lt_of_mul_lt_mul_right h5 (by omega)
  omega
 have e : x = y := by
  have := f x y r s a1 b1 a2 b3
  have := f y x s r b1 a1 b2 a3
  omega
 subst e
 exact ⟨rfl, by omega⟩
end Go.Proofs.YtcjllibeaiofpaaGreatDoor.Sx
