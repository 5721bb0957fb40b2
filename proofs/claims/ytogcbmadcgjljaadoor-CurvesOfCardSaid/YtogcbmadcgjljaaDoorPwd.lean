/-
  Plain laws of powers: logs; powers.
-/
import Derived.Test.YtogcbmadcgjljaaDoorPwc
set_option linter.all false
set_option maxRecDepth 100000
namespace Go.Proofs.YtogcbmadcgjljaaDoor.Sx
open Go Go.RowKit

theorem lg_is {m k : Int} (h : (m = 0 → k = -1) ∧ (0 < m → 0 ≤ k ∧ k ≤ 63 ∧ 2 ^ k.toNat ≤ m ∧ m < 2 * 2 ^ k.toNat)) (h1 : 1 ≤ m) : k = (Nat.log2 m.toNat : Int) := by
  obtain ⟨a1, a2, a3, a4⟩ := h.2 (by omega)
  have e : Nat.log2 m.toNat = k.toNat := by
    refine (Nat.log2_eq_iff (by omega)).2 ⟨?_, ?_⟩
    · have : ((2 ^ k.toNat : Nat) : Int) = (2 : Int) ^ k.toNat := by simp
      omega
    · have : ((2 ^ (k.toNat + 1) : Nat) : Int) = 2 * (2 : Int) ^ k.toNat := by rw [Nat.pow_succ]; simp; omega
      omega
  omega
theorem long_top {x : Int} (h0 : 1 ≤ x) (h1 : x ≤ 2147483648) : -17592186044416 ≤ longF x ∧ longF x ≤ 16492674416640 := by
  rcases Int.lt_or_eq_of_le h1 with hx | hx
  · obtain ⟨w, o, H, ⟨w0, w1, hH, y0, y1, o0, o1, l, lo, hi⟩, _, e, b0, b1, _⟩ := log_of h0 h1
    have w14 : w ≤ 14 := by
      apply Classical.byContradiction
      intro hc
      have : H = 1073741824 := by rw [hH, show (45 - w).toNat = 30 by omega]; rfl
      rw [this] at y0
      omega
    omega
  · subst hx
    have e := log_p2 31
    replace e : longF 2147483648 = (((31 : Nat) : Int) - 16) * 1099511627776 := e
    rw [e]; omega
theorem lng_start {x k s : Int} (h0 : 1 ≤ x) (h1 : x ≤ 2147483648) (hk : k = (Nat.log2 x.toNat : Int)) (hs : s = 62 - k) : 0 ≤ k ∧ k ≤ 31 ∧ shI .shl .u64 x s = y0F x ∧ 4611686018427387904 ≤ y0F x ∧ y0F x ≤ 9223372036854775807 := by
  have l := (lg_in h0 h1).1
  obtain ⟨w, o, H, h, _, _, _, _, e⟩ := log_of h0 h1
  have a := h.y0
  have b := h.y1
  rw [← e] at a b
  refine ⟨by omega, by omega, ?_, a, by omega⟩
  simp only [shI, IntKind.bits]
  rw [show Min.min s.toNat 64 = 62 - Nat.log2 x.toNat by omega, wrap_u64]
  show y0F x % 18446744073709551616 = y0F x
  omega
theorem lng_step {y0 o0 i y o z h y' o' : Int} (i0 : 0 ≤ i) (i1 : i < 40) (hy : y = (ll y0 i.toNat).1) (ho : o = o0 * 2 ^ i.toNat + (ll y0 i.toNat).2) (a0 : 4611686018427387904 ≤ y0) (a1 : y0 ≤ 9223372036854775807) (k0 : -16 ≤ o0) (k1 : o0 ≤ 15)
    (hz : z = y * y / 4611686018427387904) (hh : h = z / 9223372036854775808) (hy' : y' = shI .shr .u64 z h) (ho' : o' = 2 * o + h) :
    y * y < 85070591730234615865843651857942052864 ∧ y' = (ll y0 (i.toNat + 1)).1 ∧ o' = o0 * 2 ^ (i.toNat + 1) + (ll y0 (i.toNat + 1)).2 ∧ 4611686018427387904 ≤ y' ∧ y' ≤ 9223372036854775807 ∧ -17592186044416 ≤ o' ∧ o' ≤ 17592186044416 := by
  obtain ⟨⟨b0, b1⟩, b2, b3⟩ := ll_in a0 (show y0 < 9223372036854775808 by omega) i.toNat
  obtain ⟨⟨c0, c1⟩, c2, c3⟩ := ll_in a0 (show y0 < 9223372036854775808 by omega) (i.toNat + 1)
  rw [← hy] at b0 b1
  have s := sq_in b0 b1
  rw [← hz] at s
  have hh' : h = 0 ∨ h = 1 := by omega
  have e : ll y0 (i.toNat + 1) = if 9223372036854775808 ≤ z then (z / 2, 2 * (ll y0 i.toNat).2 + 1) else (z, 2 * (ll y0 i.toNat).2) := by rw [hz, hy]; rfl
  have ep : o0 * 2 ^ (i.toNat + 1) = 2 * (o0 * 2 ^ i.toNat) := by rw [Int.pow_succ]; grind
  have sh : y' = z / 2 ^ h.toNat := by rw [hy', shr_k rfl (by omega) (by omega)]
  have main : y' = (ll y0 (i.toNat + 1)).1 ∧ o' = o0 * 2 ^ (i.toNat + 1) + (ll y0 (i.toNat + 1)).2 := by
    rw [e, ep, sh, ho', ho]
    rcases hh' with z0 | z0
    · rw [if_neg (by omega), z0]
      refine ⟨by simp, by simp only; omega⟩
    · rw [if_pos (by omega), z0]
      refine ⟨rfl, by simp only; omega⟩
  have hp : (2 : Int) ^ (i.toNat + 1) ≤ 1099511627776 := by
    have := pow_two_le (a := i.toNat + 1) (b := 40) (by omega)
    have e' : (2 : Int) ^ 40 = 1099511627776 := rfl
    omega
  have hp0 := two_pos (i.toNat + 1)
  have u1 := Int.mul_le_mul_of_nonneg_right k1 (Int.le_of_lt hp0)
  have u2 := Int.mul_le_mul_of_nonneg_right k0 (Int.le_of_lt hp0)
  refine ⟨?_, main.1, main.2, by rw [main.1]; exact c0, by rw [main.1]; omega, ?_, ?_⟩
  · have := Int.mul_le_mul (show y ≤ 9223372036854775807 by omega) (show y ≤ 9223372036854775807 by omega) (by omega) (by omega)
    omega
  · rw [main.2]; omega
  · rw [main.2]; omega
theorem expo_is {L n v : Int} (hv : isNear (L * n) 16777216 v) : v = (2 * (L * n) + 16777216) / 33554432 := by
  obtain ⟨h1, h2⟩ := hv
  omega
theorem tm65 (n : Int) : (n.tmod 65536 = 0 ↔ n % 65536 = 0) := by
  rcases Int.le_total 0 n with z | z
  · rw [Int.tmod_eq_emod_of_nonneg z]
  · obtain ⟨m, rfl⟩ : ∃ m, n = -m := ⟨-n, by omega⟩
    rw [Int.neg_tmod, Int.tmod_eq_emod_of_nonneg (show 0 ≤ m by omega)]
    omega
theorem td65 {n : Int} (h0 : -2147483648 ≤ n) (h1 : n ≤ 2147483647) : IntKind.wrap .i32 (n.tdiv 65536) = n.tdiv 65536 := by
  have : (n.tdiv 65536).natAbs ≤ n.natAbs := by rw [Int.natAbs_tdiv]; exact Nat.div_le_self _ _
  have h2 : n.tdiv 65536 ≠ 2147483648 := by
    intro hc
    have h := Int.mul_tdiv_add_tmod n 65536
    have e : (n.tmod 65536).natAbs ≤ n.natAbs := by rw [Int.natAbs_tmod]; exact Nat.mod_le _ _
    omega
  rw [wrap_i32]
  omega

set_option maxHeartbeats 2000000 in
theorem p_plong : P_plong := by
  unfold P_plong
  intro n l_n u_n
  intro hpre
  replace hpre : True := hpre
  refine ⟨trivial, ?_⟩
  intro n1 l_n1 u_n1
  intro h_log
  replace h_log : ((n = 0 → n1 = -1) ∧ (0 < n → 0 ≤ n1 ∧ n1 ≤ 63 ∧ 2 ^ n1.toNat ≤ n ∧ n < 2 * 2 ^ n1.toNat)) := h_log
  refine ⟨by have := (lg_in l_n u_n).1; have := lg_is h_log l_n; rw [wrap_i64]; omega, ?_⟩
  intro n2 e_n2 l_n2 u_n2
  simp only [wrap_u64, wrap_i64, wrap_i32, wrap_u32, wrap_u8] at e_n2
  intro n3 e_n3 l_n3 u_n3
  have hls := lng_start l_n u_n (lg_is h_log l_n) (show n2 = 62 - n1 by have := (lg_in l_n u_n).1; have := lg_is h_log l_n; omega)
  rw [hls.2.2.1] at e_n3
  intro n4 e_n4 l_n4 u_n4
  simp only [wrap_u64, wrap_i64, wrap_i32, wrap_u32, wrap_u8] at e_n4
  refine ⟨by omega, ?_⟩
  refine ⟨by omega, ?_⟩
  intro n5 e_n5 l_n5 u_n5
  refine ⟨by omega, ?_⟩
  refine ⟨by omega, ?_⟩
  intro n6 e_n6 l_n6 u_n6
  refine ⟨?_, ?_⟩
  · show (n5 = (ll n5 (0 : Int).toNat).1 ∧ n6 = n6 * 2 ^ (0 : Int).toNat + (ll n5 (0 : Int).toNat).2)
    exact ⟨rfl, by show n6 = n6 * 2 ^ 0 + 0; omega⟩
  intro n7 l_n7 u_n7
  intro n8 l_n8 u_n8
  intro n9 l_n9 u_n9
  intro hi_lng
  replace hi_lng : (n8 = (ll n5 n7.toNat).1 ∧ n9 = n6 * 2 ^ n7.toNat + (ll n5 n7.toNat).2) := hi_lng
  intro vs lv_vs
  refine ⟨fun c0 => ?_, fun c0 => ?_⟩
  · refine ⟨by have h40 : longF n = n9 := (by rw [hi_lng.2, c0, e_n5, e_n6]; unfold longF; rw [e_n3, show n4 = (Nat.log2 n.toNat : Int) - 16 by (have := lg_is h_log l_n; omega)]; rfl); have := (long_top l_n u_n).2; omega, ?_⟩
    intro n10 e_n10 l_n10 u_n10
    show n10 = longF n
    rw [e_n10, hi_lng.2, c0, e_n5, e_n6]; unfold longF; rw [e_n3, show n4 = (Nat.log2 n.toNat : Int) - 16 by (have := lg_is h_log l_n; omega)]; rfl
  · refine ⟨?_, ?_⟩
    · show n8 * n8 < 85070591730234615865843651857942052864
      exact (lng_step (i := n7) (o := n9) l_n7 (by omega) hi_lng.1 hi_lng.2 l_n5 u_n5 (by omega) (by omega) rfl rfl rfl rfl).1
    intro n10 l_n10 u_n10
    intro h_ptimes
    replace h_ptimes : n10 = n8 * n8 / 4611686018427387904 := h_ptimes
    intro n11 e_n11 l_n11 u_n11
    intro n12 e_n12 l_n12 u_n12
    have hst := lng_step (i := n7) (o := n9) l_n7 (by omega) hi_lng.1 hi_lng.2 l_n5 u_n5 (by omega) (by omega) h_ptimes e_n11 e_n12 rfl
    intro n13 e_n13 l_n13 u_n13
    rw [← e_n13] at hst
    intro n14 e_n14 l_n14 u_n14
    refine ⟨by omega, ?_⟩
    intro n15 e_n15 l_n15 u_n15
    refine ⟨by omega, ?_⟩
    refine ⟨by omega, ?_⟩
    intro n16 e_n16 l_n16 u_n16
    refine ⟨by omega, ?_⟩
    refine ⟨by omega, ?_⟩
    intro n17 e_n17 l_n17 u_n17
    refine ⟨?_, ?_⟩
    · show (n16 = (ll n5 n15.toNat).1 ∧ n17 = n6 * 2 ^ n15.toNat + (ll n5 n15.toNat).2)
      rw [e_n16, e_n17, show n15.toNat = n7.toNat + 1 by omega]
      exact ⟨hst.2.1, hst.2.2.1⟩
    · show (40 - n15).toNat < (40 - n7).toNat
      omega

theorem p_sat : P_sat := by
  unfold P_sat
  intro n l_n u_n
  intro hpre
  replace hpre : True := hpre
  intro n1 e_n1 l_n1 u_n1
  show n1 = clamp32 n
  exact e_n1

theorem p_pexpo : P_pexpo := by
  unfold P_pexpo
  intro n l_n u_n
  intro n1 l_n1 u_n1
  intro hpre
  replace hpre : True := hpre
  refine ⟨trivial, ?_⟩
  intro n2 l_n2 u_n2
  intro h_plong
  replace h_plong : n2 = longF n := h_plong
  refine ⟨trivial, ?_⟩
  intro n3 l_n3 u_n3
  intro n4 l_n4 u_n4
  intro h_wmul
  replace h_wmul : w128 n3 n4 = n2 * n1 := h_wmul
  rw [h_plong] at h_wmul
  refine ⟨trivial, ?_⟩
  intro n5 l_n5 u_n5
  intro n6 l_n6 u_n6
  intro n7 l_n7 u_n7
  intro h_wnear
  replace h_wnear : (((16777216 : Int) < 1 → n5 = 0 ∧ n6 = 0 ∧ n7 = 1) ∧ (1 ≤ (16777216 : Int) → n7 = 0 ∧ isNear (w128 n3 n4) (16777216 : Int) (w128 n5 n6))) := h_wnear
  have hw := (h_wnear.2 (by omega)).2
  rw [h_wmul] at hw
  have hx := expo_is hw
  have hb := mul_in (a := longF n) (b := n1) (l1 := -17592186044416) (h1 := 16492674416640) (l2 := -2147483648) (h2 := 2147483647) (long_top l_n u_n) ⟨l_n1, u_n1⟩
  simp only [mn, mx] at hb
  simp at hb
  intro b
  refine ⟨trivial, ?_⟩
  intro n8 l_n8 u_n8
  intro t
  intro h_wint
  replace h_wint : isInt (w128 n5 n6) n8 (b2i t) := h_wint
  have hi2 := (h_wint.1 (by simp only [isI64]; generalize longF n * n1 = z at *; omega)).2
  intro n9 e_n9 l_n9 u_n9
  show n9 = expoF n n1
  unfold expoF roundE
  rw [← hx, ← hi2]
  omega

theorem p_pow : P_pow := by
  unfold P_pow
  intro n l_n u_n
  intro n1 l_n1 u_n1
  intro hpre
  replace hpre : True := hpre
  have tm := tm65 n1
  have td := td65 l_n1 u_n1
  refine ⟨fun c0 => ?_, fun c0 => ?_⟩
  · show powTo n n1 (65536 : Int) (0 : Int)
    unfold powTo
    refine ⟨fun h => ?_, fun h1 h2 h3 => ?_, fun h1 h2 h3 => ?_, fun h1 h2 h3 => ?_, fun h1 h2 h3 => ?_⟩ <;> first | omega | exact ⟨rfl, rfl⟩
  · refine ⟨fun c1 => ?_, fun c1 => ?_⟩
    · refine ⟨fun c2 => ?_, fun c2 => ?_⟩
      · show powTo n n1 (0 : Int) (12 : Int)
        unfold powTo
        refine ⟨fun h => ?_, fun h1 h2 h3 => ?_, fun h1 h2 h3 => ?_, fun h1 h2 h3 => ?_, fun h1 h2 h3 => ?_⟩ <;> first | omega | exact ⟨rfl, rfl⟩
      · refine ⟨fun c3 => ?_, fun c3 => ?_⟩
        · show powTo n n1 (0 : Int) (0 : Int)
          unfold powTo
          refine ⟨fun h => ?_, fun h1 h2 h3 => ?_, fun h1 h2 h3 => ?_, fun h1 h2 h3 => ?_, fun h1 h2 h3 => ?_⟩ <;> first | omega | exact ⟨rfl, rfl⟩
        · refine ⟨fun c4 => ?_, fun c4 => ?_⟩
          · refine ⟨fun c5 => ?_, fun c5 => ?_⟩
            · show powTo n n1 (0 : Int) (1 : Int)
              unfold powTo
              refine ⟨fun h => ?_, fun h1 h2 h3 => ?_, fun h1 h2 h3 => ?_, fun h1 h2 h3 => ?_, fun h1 h2 h3 => ?_⟩ <;> first | omega | exact ⟨rfl, rfl⟩
            · intro n2 e_n2 l_n2 u_n2
              intro n3 e_n3 l_n3 u_n3
              simp only [wrap_u64, wrap_i64, wrap_i32, wrap_u32, wrap_u8] at e_n3
              refine ⟨by omega, ?_⟩
              refine ⟨by omega, ?_⟩
              intro n4 e_n4 l_n4 u_n4
              refine ⟨trivial, ?_⟩
              intro n5 l_n5 u_n5
              intro h_pexpo
              replace h_pexpo : n5 = expoF n4 n1 := h_pexpo
              refine ⟨trivial, ?_⟩
              intro n6 l_n6 u_n6
              intro h_power
              replace h_power : n6 = powF n5 := h_power
              refine ⟨fun c6 => ?_, fun c6 => ?_⟩
              · refine ⟨fun c7 => ?_, fun c7 => ?_⟩
                · rw [td] at c7
                  intro n7 e_n7 l_n7 u_n7
                  refine ⟨trivial, ?_⟩
                  intro n8 l_n8 u_n8
                  intro h_sat
                  replace h_sat : n8 = clamp32 n7 := h_sat
                  show powTo n n1 n8 (0 : Int)
                  unfold powTo
                  refine ⟨fun h => by omega, fun h1 h2 h3 => by omega, fun h1 h2 h3 => by omega, fun h1 h2 h3 => by omega, fun h1 h2 h3 => ⟨rfl, ?_⟩⟩
                  have hm : n4 = max n (-n) := by omega
                  rw [hm] at h_pexpo
                  rw [h_pexpo] at h_power
                  have hpi := powF_in (expoF (max n (-n)) n1)
                  rw [← h_power] at hpi
                  rw [h_sat]
                  unfold powA
                  first
                    | (rw [if_pos ⟨by omega, by omega⟩, ← h_power]; congr 1; omega)
                    | (rw [if_neg (by omega), ← h_power])
                · rw [td] at c7
                  refine ⟨trivial, ?_⟩
                  intro n7 l_n7 u_n7
                  intro h_sat
                  replace h_sat : n7 = clamp32 n6 := h_sat
                  show powTo n n1 n7 (0 : Int)
                  unfold powTo
                  refine ⟨fun h => by omega, fun h1 h2 h3 => by omega, fun h1 h2 h3 => by omega, fun h1 h2 h3 => by omega, fun h1 h2 h3 => ⟨rfl, ?_⟩⟩
                  have hm : n4 = max n (-n) := by omega
                  rw [hm] at h_pexpo
                  rw [h_pexpo] at h_power
                  have hpi := powF_in (expoF (max n (-n)) n1)
                  rw [← h_power] at hpi
                  rw [h_sat]
                  unfold powA
                  first
                    | (rw [if_pos ⟨by omega, by omega⟩, ← h_power]; congr 1; omega)
                    | (rw [if_neg (by omega), ← h_power])
              · refine ⟨trivial, ?_⟩
                intro n7 l_n7 u_n7
                intro h_sat
                replace h_sat : n7 = clamp32 n6 := h_sat
                show powTo n n1 n7 (0 : Int)
                unfold powTo
                refine ⟨fun h => by omega, fun h1 h2 h3 => by omega, fun h1 h2 h3 => by omega, fun h1 h2 h3 => by omega, fun h1 h2 h3 => ⟨rfl, ?_⟩⟩
                have hm : n4 = max n (-n) := by omega
                rw [hm] at h_pexpo
                rw [h_pexpo] at h_power
                have hpi := powF_in (expoF (max n (-n)) n1)
                rw [← h_power] at hpi
                rw [h_sat]
                unfold powA
                first
                  | (rw [if_pos ⟨by omega, by omega⟩, ← h_power]; congr 1; omega)
                  | (rw [if_neg (by omega), ← h_power])
          · intro n2 e_n2 l_n2 u_n2
            intro n3 e_n3 l_n3 u_n3
            simp only [wrap_u64, wrap_i64, wrap_i32, wrap_u32, wrap_u8] at e_n3
            refine ⟨by omega, ?_⟩
            refine ⟨by omega, ?_⟩
            intro n4 e_n4 l_n4 u_n4
            refine ⟨trivial, ?_⟩
            intro n5 l_n5 u_n5
            intro h_pexpo
            replace h_pexpo : n5 = expoF n4 n1 := h_pexpo
            refine ⟨trivial, ?_⟩
            intro n6 l_n6 u_n6
            intro h_power
            replace h_power : n6 = powF n5 := h_power
            refine ⟨fun c5 => ?_, fun c5 => ?_⟩
            · refine ⟨fun c6 => ?_, fun c6 => ?_⟩
              · rw [td] at c6
                intro n7 e_n7 l_n7 u_n7
                refine ⟨trivial, ?_⟩
                intro n8 l_n8 u_n8
                intro h_sat
                replace h_sat : n8 = clamp32 n7 := h_sat
                show powTo n n1 n8 (0 : Int)
                unfold powTo
                refine ⟨fun h => by omega, fun h1 h2 h3 => by omega, fun h1 h2 h3 => by omega, fun h1 h2 h3 => by omega, fun h1 h2 h3 => ⟨rfl, ?_⟩⟩
                have hm : n4 = max n (-n) := by omega
                rw [hm] at h_pexpo
                rw [h_pexpo] at h_power
                have hpi := powF_in (expoF (max n (-n)) n1)
                rw [← h_power] at hpi
                rw [h_sat]
                unfold powA
                first
                  | (rw [if_pos ⟨by omega, by omega⟩, ← h_power]; congr 1; omega)
                  | (rw [if_neg (by omega), ← h_power])
              · rw [td] at c6
                refine ⟨trivial, ?_⟩
                intro n7 l_n7 u_n7
                intro h_sat
                replace h_sat : n7 = clamp32 n6 := h_sat
                show powTo n n1 n7 (0 : Int)
                unfold powTo
                refine ⟨fun h => by omega, fun h1 h2 h3 => by omega, fun h1 h2 h3 => by omega, fun h1 h2 h3 => by omega, fun h1 h2 h3 => ⟨rfl, ?_⟩⟩
                have hm : n4 = max n (-n) := by omega
                rw [hm] at h_pexpo
                rw [h_pexpo] at h_power
                have hpi := powF_in (expoF (max n (-n)) n1)
                rw [← h_power] at hpi
                rw [h_sat]
                unfold powA
                first
                  | (rw [if_pos ⟨by omega, by omega⟩, ← h_power]; congr 1; omega)
                  | (rw [if_neg (by omega), ← h_power])
            · refine ⟨trivial, ?_⟩
              intro n7 l_n7 u_n7
              intro h_sat
              replace h_sat : n7 = clamp32 n6 := h_sat
              show powTo n n1 n7 (0 : Int)
              unfold powTo
              refine ⟨fun h => by omega, fun h1 h2 h3 => by omega, fun h1 h2 h3 => by omega, fun h1 h2 h3 => by omega, fun h1 h2 h3 => ⟨rfl, ?_⟩⟩
              have hm : n4 = max n (-n) := by omega
              rw [hm] at h_pexpo
              rw [h_pexpo] at h_power
              have hpi := powF_in (expoF (max n (-n)) n1)
              rw [← h_power] at hpi
              rw [h_sat]
              unfold powA
              first
                | (rw [if_pos ⟨by omega, by omega⟩, ← h_power]; congr 1; omega)
                | (rw [if_neg (by omega), ← h_power])
    · refine ⟨fun c2 => ?_, fun c2 => ?_⟩
      · show powTo n n1 (0 : Int) (0 : Int)
        unfold powTo
        refine ⟨fun h => ?_, fun h1 h2 h3 => ?_, fun h1 h2 h3 => ?_, fun h1 h2 h3 => ?_, fun h1 h2 h3 => ?_⟩ <;> first | omega | exact ⟨rfl, rfl⟩
      · refine ⟨fun c3 => ?_, fun c3 => ?_⟩
        · refine ⟨fun c4 => ?_, fun c4 => ?_⟩
          · show powTo n n1 (0 : Int) (1 : Int)
            unfold powTo
            refine ⟨fun h => ?_, fun h1 h2 h3 => ?_, fun h1 h2 h3 => ?_, fun h1 h2 h3 => ?_, fun h1 h2 h3 => ?_⟩ <;> first | omega | exact ⟨rfl, rfl⟩
          · intro n2 e_n2 l_n2 u_n2
            intro n3 e_n3 l_n3 u_n3
            simp only [wrap_u64, wrap_i64, wrap_i32, wrap_u32, wrap_u8] at e_n3
            refine ⟨by omega, ?_⟩
            refine ⟨by omega, ?_⟩
            intro n4 e_n4 l_n4 u_n4
            refine ⟨trivial, ?_⟩
            intro n5 l_n5 u_n5
            intro h_pexpo
            replace h_pexpo : n5 = expoF n4 n1 := h_pexpo
            refine ⟨trivial, ?_⟩
            intro n6 l_n6 u_n6
            intro h_power
            replace h_power : n6 = powF n5 := h_power
            refine ⟨fun c5 => ?_, fun c5 => ?_⟩
            · refine ⟨fun c6 => ?_, fun c6 => ?_⟩
              · rw [td] at c6
                intro n7 e_n7 l_n7 u_n7
                refine ⟨trivial, ?_⟩
                intro n8 l_n8 u_n8
                intro h_sat
                replace h_sat : n8 = clamp32 n7 := h_sat
                show powTo n n1 n8 (0 : Int)
                unfold powTo
                refine ⟨fun h => by omega, fun h1 h2 h3 => by omega, fun h1 h2 h3 => by omega, fun h1 h2 h3 => by omega, fun h1 h2 h3 => ⟨rfl, ?_⟩⟩
                have hm : n4 = max n (-n) := by omega
                rw [hm] at h_pexpo
                rw [h_pexpo] at h_power
                have hpi := powF_in (expoF (max n (-n)) n1)
                rw [← h_power] at hpi
                rw [h_sat]
                unfold powA
                first
                  | (rw [if_pos ⟨by omega, by omega⟩, ← h_power]; congr 1; omega)
                  | (rw [if_neg (by omega), ← h_power])
              · rw [td] at c6
                refine ⟨trivial, ?_⟩
                intro n7 l_n7 u_n7
                intro h_sat
                replace h_sat : n7 = clamp32 n6 := h_sat
                show powTo n n1 n7 (0 : Int)
                unfold powTo
                refine ⟨fun h => by omega, fun h1 h2 h3 => by omega, fun h1 h2 h3 => by omega, fun h1 h2 h3 => by omega, fun h1 h2 h3 => ⟨rfl, ?_⟩⟩
                have hm : n4 = max n (-n) := by omega
                rw [hm] at h_pexpo
                rw [h_pexpo] at h_power
                have hpi := powF_in (expoF (max n (-n)) n1)
                rw [← h_power] at hpi
                rw [h_sat]
                unfold powA
                first
                  | (rw [if_pos ⟨by omega, by omega⟩, ← h_power]; congr 1; omega)
                  | (rw [if_neg (by omega), ← h_power])
            · refine ⟨trivial, ?_⟩
              intro n7 l_n7 u_n7
              intro h_sat
              replace h_sat : n7 = clamp32 n6 := h_sat
              show powTo n n1 n7 (0 : Int)
              unfold powTo
              refine ⟨fun h => by omega, fun h1 h2 h3 => by omega, fun h1 h2 h3 => by omega, fun h1 h2 h3 => by omega, fun h1 h2 h3 => ⟨rfl, ?_⟩⟩
              have hm : n4 = max n (-n) := by omega
              rw [hm] at h_pexpo
              rw [h_pexpo] at h_power
              have hpi := powF_in (expoF (max n (-n)) n1)
              rw [← h_power] at hpi
              rw [h_sat]
              unfold powA
              first
                | (rw [if_pos ⟨by omega, by omega⟩, ← h_power]; congr 1; omega)
                | (rw [if_neg (by omega), ← h_power])
        · intro n2 e_n2 l_n2 u_n2
          intro n3 e_n3 l_n3 u_n3
          simp only [wrap_u64, wrap_i64, wrap_i32, wrap_u32, wrap_u8] at e_n3
          refine ⟨by omega, ?_⟩
          refine ⟨by omega, ?_⟩
          intro n4 e_n4 l_n4 u_n4
          refine ⟨trivial, ?_⟩
          intro n5 l_n5 u_n5
          intro h_pexpo
          replace h_pexpo : n5 = expoF n4 n1 := h_pexpo
          refine ⟨trivial, ?_⟩
          intro n6 l_n6 u_n6
          intro h_power
          replace h_power : n6 = powF n5 := h_power
          refine ⟨fun c4 => ?_, fun c4 => ?_⟩
          · refine ⟨fun c5 => ?_, fun c5 => ?_⟩
            · rw [td] at c5
              intro n7 e_n7 l_n7 u_n7
              refine ⟨trivial, ?_⟩
              intro n8 l_n8 u_n8
              intro h_sat
              replace h_sat : n8 = clamp32 n7 := h_sat
              show powTo n n1 n8 (0 : Int)
              unfold powTo
              refine ⟨fun h => by omega, fun h1 h2 h3 => by omega, fun h1 h2 h3 => by omega, fun h1 h2 h3 => by omega, fun h1 h2 h3 => ⟨rfl, ?_⟩⟩
              have hm : n4 = max n (-n) := by omega
              rw [hm] at h_pexpo
              rw [h_pexpo] at h_power
              have hpi := powF_in (expoF (max n (-n)) n1)
              rw [← h_power] at hpi
              rw [h_sat]
              unfold powA
              first
                | (rw [if_pos ⟨by omega, by omega⟩, ← h_power]; congr 1; omega)
                | (rw [if_neg (by omega), ← h_power])
            · rw [td] at c5
              refine ⟨trivial, ?_⟩
              intro n7 l_n7 u_n7
              intro h_sat
              replace h_sat : n7 = clamp32 n6 := h_sat
              show powTo n n1 n7 (0 : Int)
              unfold powTo
              refine ⟨fun h => by omega, fun h1 h2 h3 => by omega, fun h1 h2 h3 => by omega, fun h1 h2 h3 => by omega, fun h1 h2 h3 => ⟨rfl, ?_⟩⟩
              have hm : n4 = max n (-n) := by omega
              rw [hm] at h_pexpo
              rw [h_pexpo] at h_power
              have hpi := powF_in (expoF (max n (-n)) n1)
              rw [← h_power] at hpi
              rw [h_sat]
              unfold powA
              first
                | (rw [if_pos ⟨by omega, by omega⟩, ← h_power]; congr 1; omega)
                | (rw [if_neg (by omega), ← h_power])
          · refine ⟨trivial, ?_⟩
            intro n7 l_n7 u_n7
            intro h_sat
            replace h_sat : n7 = clamp32 n6 := h_sat
            show powTo n n1 n7 (0 : Int)
            unfold powTo
            refine ⟨fun h => by omega, fun h1 h2 h3 => by omega, fun h1 h2 h3 => by omega, fun h1 h2 h3 => by omega, fun h1 h2 h3 => ⟨rfl, ?_⟩⟩
            have hm : n4 = max n (-n) := by omega
            rw [hm] at h_pexpo
            rw [h_pexpo] at h_power
            have hpi := powF_in (expoF (max n (-n)) n1)
            rw [← h_power] at hpi
            rw [h_sat]
            unfold powA
            first
              | (rw [if_pos ⟨by omega, by omega⟩, ← h_power]; congr 1; omega)
              | (rw [if_neg (by omega), ← h_power])

end Go.Proofs.YtogcbmadcgjljaaDoor.Sx
