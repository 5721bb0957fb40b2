/-
  Curves: plain facts on what a power tells.
-/
import Derived.Test.YtlclmanhkhfilaaDoorVf
import Derived.Test.YtlclmanhkhfilaaDoorPwe
import Derived.Test.YtlclmanhkhfilaaDoorSxq
import Derived.Deep.Slices
import Derived.Deep.SlicePairs
set_option linter.all false
namespace Go.Proofs.YtlclmanhkhfilaaDoor
open Go.RowKit
theorem clamp_id {x : Int} (h : I32 x) : clamp32 x = x := by unfold clamp32; unfold I32 at h; omega
theorem powR_zero {n : Int} (h : 0 < n) : powR 0 n = 0 := by unfold powR; rw [if_neg (by omega), if_pos rfl]
theorem powR_to (a n : Int) : ∃ e, Sx.powTo a n (powR a n) e := by
  unfold Sx.powTo powR
  by_cases n0 : n = 0
  · exact ⟨0, fun _ => ⟨by rw [if_pos n0], rfl⟩, fun h => absurd n0 h, fun h => absurd n0 h, fun h => absurd n0 h, fun h => absurd n0 h⟩
  rw [if_neg n0]
  by_cases a0 : a = 0
  · rw [if_pos a0]
    refine ⟨if n < 0 then 12 else 0, fun h => absurd h n0, fun _ _ h => ⟨rfl, by rw [if_pos h]⟩, fun _ _ h => ⟨rfl, by rw [if_neg (by omega)]⟩, fun _ h => by omega, fun _ h => absurd a0 h⟩
  rw [if_neg a0]
  by_cases hb : a < 0 ∧ n % 65536 ≠ 0
  · rw [if_pos hb]
    exact ⟨1, fun h => absurd h n0, fun _ h => absurd h a0, fun _ h => absurd h a0, fun _ _ _ => ⟨rfl, rfl⟩, fun _ _ h => absurd hb h⟩
  · rw [if_neg hb]
    exact ⟨0, fun h => absurd h n0, fun _ h => absurd h a0, fun _ h => absurd h a0, fun _ h1 h2 => absurd ⟨h1, h2⟩ hb, fun _ _ _ => ⟨rfl, rfl⟩⟩
theorem powR_one (n : Int) : powR 65536 n = 65536 := by
  obtain ⟨e, h⟩ := powR_to 65536 n
  exact (Sx.pwu h).2
theorem endsL_ends {xs ys : List Int} (h : xs.length = ys.length) : (endsL xs ys).map (·.1) = ends0 xs ys ∧ (endsL xs ys).map (·.2) = ends1 xs ys := by
  unfold endsL ends0 ends1
  split
  · exact ⟨rfl, rfl⟩
  · constructor
    · rw [upto_map]
      apply List.ext_getElem
      · simp [upto]
      · intro i h1 h2; simp [upto, pr, h2]
    · rw [upto_map]
      apply List.ext_getElem
      · simp [upto, h]
      · intro i h1 h2; simp [upto, pr, h2]
theorem endsL_I32 {xs ys : List Int} (ix : AllI xs) (iy : AllI ys) : ∀ z ∈ endsL xs ys, I32 z.1 ∧ I32 z.2 := by
  intro z hz
  unfold endsL at hz
  split at hz
  · obtain rfl := List.mem_singleton.1 hz; exact ⟨by unfold I32; omega, by unfold I32; omega⟩
  · simp only [upto, List.mem_map] at hz
    obtain ⟨j, _, rfl⟩ := hz
    exact ⟨ix j, iy j⟩
theorem outs_map {p : Int} {l : List (Int × Int)} {f : Int × Int → Int} (h : ∀ i, ∀ z ∈ l, outAt p [] i z = f z) : outs p [] l = l.map f := by
  unfold outs
  apply List.ext_getElem
  · simp
  · intro i h1 h2
    simp only [List.getElem_mapIdx, List.getElem_map]
    exact h i _ (List.getElem_mem _)
theorem at_zero {n : Int} (hn : 0 < n) {xs ys : List Int} (h : xs.length = ys.length) (ix : AllI xs) (iy : AllI ys) : evalL [(0, 65536)] [] xs ys n 0 = ends0 xs ys := by
  rw [← (endsL_ends h).1]
  show outs (powR 0 n) [] (endsL xs ys) = _
  rw [powR_zero hn]
  refine outs_map fun i z hz => ?_
  have := (endsL_I32 ix iy z hz).1
  simp only [outAt, List.length_nil, Nat.not_lt_zero, if_false]
  rw [show z.1 + (0 * (z.2 - z.1) + 32768) / 65536 = z.1 by omega, clamp_id this]
theorem at_one (n : Int) {xs ys : List Int} (h : xs.length = ys.length) (ix : AllI xs) (iy : AllI ys) : evalL [(0, 65536)] [] xs ys n 65536 = ends1 xs ys := by
  rw [← (endsL_ends h).2]
  show outs (powR 65536 n) [] (endsL xs ys) = _
  rw [powR_one]
  refine outs_map fun i z hz => ?_
  have := (endsL_I32 ix iy z hz).2
  simp only [outAt, List.length_nil, Nat.not_lt_zero, if_false]
  rw [show z.1 + (65536 * (z.2 - z.1) + 32768) / 65536 = z.2 by omega, clamp_id this]
theorem at_same (ds : List (Int × Int)) {xs : List Int} (n x : Int) (ix : AllI xs) (h0 : xs ≠ []) : evalL ds [] xs xs n x = xs := by
  have e : ends0 xs xs = xs := by unfold ends0; rw [if_neg (by cases xs with | nil => exact absurd rfl h0 | cons _ _ => simp)]
  refine Eq.trans ?_ ((endsL_ends (xs := xs) (ys := xs) rfl).1.trans e)
  unfold evalL
  refine outs_map fun i z hz => ?_
  have h1 := (endsL_I32 ix ix z hz).1
  have h2 : z.2 = z.1 := by
    unfold endsL at hz
    rw [if_neg (by cases xs with | nil => exact absurd rfl h0 | cons _ _ => simp)] at hz
    simp only [upto, List.mem_map] at hz
    obtain ⟨j, _, rfl⟩ := hz
    rfl
  simp only [outAt, List.length_nil, Nat.not_lt_zero, if_false]
  rw [h2, Int.sub_self, Int.mul_zero, show z.1 + (0 + 32768) / 65536 = z.1 by omega, clamp_id h1]
theorem chkF_lt {rs : List (Int × Int)} {lo hi n : Int} (h : chkF rs lo hi n = 0) : rngB rs = true ∧ lo < hi := by
  unfold chkF at h
  split at h
  · rename_i hh
    simp only [Bool.and_eq_true] at hh
    refine ⟨hh.1, ?_⟩
    have := hh.2
    unfold chkB at this
    simp only [Bool.and_eq_true, decide_eq_true_eq] at this
    exact this.1.1
  · omega
theorem at_held {ds rs : List (Int × Int)} (xs ys : List Int) (n x : Int) (h : (ds[0]?.getD (0, 0)).1 < (ds[0]?.getD (0, 0)).2) : evalL ds rs xs ys n (max (ds[0]?.getD (0, 0)).1 (min x (ds[0]?.getD (0, 0)).2)) = evalL ds rs xs ys n x := by
  unfold evalL
  rw [show min (max (max (ds[0]?.getD (0, 0)).1 (min x (ds[0]?.getD (0, 0)).2)) (ds[0]?.getD (0, 0)).1) (ds[0]?.getD (0, 0)).2 = min (max x (ds[0]?.getD (0, 0)).1) (ds[0]?.getD (0, 0)).2 by omega]
theorem evalL_at {ds rs : List (Int × Int)} {xs ys : List Int} {n x : Int} {j : Nat} (hj : j < (endsL xs ys).length) : (evalL ds rs xs ys n x)[j]?.getD 0 = outAt (powR (min (max x (ds[0]?.getD (0, 0)).1) (ds[0]?.getD (0, 0)).2) n) rs j ((endsL xs ys)[j]?.getD (0, 0)) := by
  unfold evalL outs
  simp [hj]
theorem rng_at {rs : List (Int × Int)} (h : rngB rs = true) {j : Nat} (hj : j < rs.length) : (rs[j]?.getD (0, 0)).1 ≤ (rs[j]?.getD (0, 0)).2 := by
  unfold rngB at h
  have := List.all_eq_true.1 h rs[j] (List.getElem_mem hj)
  simpa [hj] using this
theorem in_rng {p : Int} {rs : List (Int × Int)} {j : Nat} {z : Int × Int} (h : rngB rs = true) (hj : j < rs.length) : (rs[j]?.getD (0, 0)).1 ≤ outAt p rs j z ∧ outAt p rs j z ≤ (rs[j]?.getD (0, 0)).2 := by
  have := rng_at h hj
  unfold outAt
  rw [if_pos hj]
  omega
end Go.Proofs.YtlclmanhkhfilaaDoor

/-
  Curves: what the walks of the laws share.
-/
set_option linter.all false
namespace Go.Proofs.YtlclmanhkhfilaaDoor
open Go.RowKit
section
variable {b : Nat} {W : World} {f0 f1 f2 f3 f4 f5 f6 f7 f8 f9 f10 f11 f12 f13 : Value}
theorem Box14.set0 (h : Box14 b W f0 f1 f2 f3 f4 f5 f6 f7 f8 f9 f10 f11 f12 f13) (v : Value) : Box14 b (W.setCell ⟨b, 0, none⟩ v) v f1 f2 f3 f4 f5 f6 f7 f8 f9 f10 f11 f12 f13 := by
  obtain ⟨h0, h1, h2, h3, h4, h5, h6, h7, h8, h9, h10, h11, h12, h13⟩ := h
  refine ⟨?_, ?_, ?_, ?_, ?_, ?_, ?_, ?_, ?_, ?_, ?_, ?_, ?_, ?_⟩ <;> simp [go_sem, *]
theorem Box14.set1 (h : Box14 b W f0 f1 f2 f3 f4 f5 f6 f7 f8 f9 f10 f11 f12 f13) (v : Value) : Box14 b (W.setCell ⟨b, 1, none⟩ v) f0 v f2 f3 f4 f5 f6 f7 f8 f9 f10 f11 f12 f13 := by
  obtain ⟨h0, h1, h2, h3, h4, h5, h6, h7, h8, h9, h10, h11, h12, h13⟩ := h
  refine ⟨?_, ?_, ?_, ?_, ?_, ?_, ?_, ?_, ?_, ?_, ?_, ?_, ?_, ?_⟩ <;> simp [go_sem, *]
theorem Box14.set2 (h : Box14 b W f0 f1 f2 f3 f4 f5 f6 f7 f8 f9 f10 f11 f12 f13) (v : Value) : Box14 b (W.setCell ⟨b, 2, none⟩ v) f0 f1 v f3 f4 f5 f6 f7 f8 f9 f10 f11 f12 f13 := by
  obtain ⟨h0, h1, h2, h3, h4, h5, h6, h7, h8, h9, h10, h11, h12, h13⟩ := h
  refine ⟨?_, ?_, ?_, ?_, ?_, ?_, ?_, ?_, ?_, ?_, ?_, ?_, ?_, ?_⟩ <;> simp [go_sem, *]
theorem Box14.set8 (h : Box14 b W f0 f1 f2 f3 f4 f5 f6 f7 f8 f9 f10 f11 f12 f13) (v : Value) : Box14 b (W.setCell ⟨b, 8, none⟩ v) f0 f1 f2 f3 f4 f5 f6 f7 v f9 f10 f11 f12 f13 := by
  obtain ⟨h0, h1, h2, h3, h4, h5, h6, h7, h8, h9, h10, h11, h12, h13⟩ := h
  refine ⟨?_, ?_, ?_, ?_, ?_, ?_, ?_, ?_, ?_, ?_, ?_, ?_, ?_, ?_⟩ <;> simp [go_sem, *]
theorem Box14.set9 (h : Box14 b W f0 f1 f2 f3 f4 f5 f6 f7 f8 f9 f10 f11 f12 f13) (v : Value) : Box14 b (W.setCell ⟨b, 9, none⟩ v) f0 f1 f2 f3 f4 f5 f6 f7 f8 v f10 f11 f12 f13 := by
  obtain ⟨h0, h1, h2, h3, h4, h5, h6, h7, h8, h9, h10, h11, h12, h13⟩ := h
  refine ⟨?_, ?_, ?_, ?_, ?_, ?_, ?_, ?_, ?_, ?_, ?_, ?_, ?_, ?_⟩ <;> simp [go_sem, *]
theorem Box14.set10 (h : Box14 b W f0 f1 f2 f3 f4 f5 f6 f7 f8 f9 f10 f11 f12 f13) (v : Value) : Box14 b (W.setCell ⟨b, 10, none⟩ v) f0 f1 f2 f3 f4 f5 f6 f7 f8 f9 v f11 f12 f13 := by
  obtain ⟨h0, h1, h2, h3, h4, h5, h6, h7, h8, h9, h10, h11, h12, h13⟩ := h
  refine ⟨?_, ?_, ?_, ?_, ?_, ?_, ?_, ?_, ?_, ?_, ?_, ?_, ?_, ?_⟩ <;> simp [go_sem, *]
end
/-- what Great leaves behind: the box of the function is as it was laid. -/
def GR (w : World) (f0 f1 f2 f3 f4 f5 f6 f7 f8 f9 f10 f11 f12 f13 : Value) (w1 : World) : Prop :=
  Below w.heap.size w w1 ∧ w.heap.size < w1.heap.size ∧ Box14 w.heap.size w1 f0 f1 f2 f3 f4 f5 f6 f7 f8 f9 f10 f11 f12 f13 ∧ ∀ i, w1.frozen? ⟨w.heap.size, i, none⟩ = false
theorem great_g (f0 f4 f10 : Value) (a1 a2 a3 a5 a6 a7 a8 a9 a11 a12 : Option Addr) (l1 l2 l3 l5 l6 l7 l8 l9 l11 l12 p1 p2 p3 p5 p6 p7 p8 p9 p11 p12 : Nat) (t : ByteArray) (w : World) :
    Calls Tryd.prog 7 #[.agg #[f0, .slice a1 l1 p1, .slice a2 l2 p2, .slice a3 l3 p3, f4, .slice a5 l5 p5, .slice a6 l6 p6, .slice a7 l7 p7, .slice a8 l8 p8, .slice a9 l9 p9, f10, .slice a11 l11 p11, .slice a12 l12 p12, .string t]] (w.alloc (.cells #[f0, .slice a1 l1 p1, .slice a2 l2 p2, .slice a3 l3 p3, f4, .slice a5 l5 p5, .slice a6 l6 p6, .slice a7 l7 p7, .slice a8 l8 p8, .slice a9 l9 p9, f10, .slice a11 l11 p11, .slice a12 l12 p12, .string t] 30)) fun e w' => (∃ b, e = .returned (.bool b)) ∧
      GR w f0 (.slice a1 l1 p1) (.slice a2 l2 p2) (.slice a3 l3 p3) f4 (.slice a5 l5 p5) (.slice a6 l6 p6) (.slice a7 l7 p7) (.slice a8 l8 p8) (.slice a9 l9 p9) f10 (.slice a11 l11 p11) (.slice a12 l12 p12) (.string t) w' := by
  refine (great_any _ _ _ _ _ _ _ _ _ _ _ _ _ _ _ _ _ _ _ _ _ _ _ _ _ _ _ _ _ _ _ _ _ _ _).mono ?_
  rintro e w1 ⟨hb, hB⟩
  have hsz := hB.size
  simp only [World.size_alloc] at hsz
  exact ⟨hb, ((Below.refl _ w).alloc (Nat.le_refl _) _).trans (hB.mono (by simp)), by omega, (Box14.new _ _ _ _ _ _ _ _ _ _ _ _ _ _ _ _).on hB (by simp), fun i => (hB.frozen (p := ⟨w.heap.size, i, none⟩) (by simp)).trans (by simp [go_sem])⟩
theorem LV.of {w W wl : World} (h : Below w.heap.size w W) (hl : Below W.heap.size W wl) : LV w (.returned (.bool true)) wl := ⟨rfl, h.trans (hl.mono h.size)⟩
theorem andB {w W V : World} (h : Below w.heap.size w W) (k : Below W.heap.size W V) : Below w.heap.size w V := h.trans (k.mono h.size)
end Go.Proofs.YtlclmanhkhfilaaDoor

/-
  Curves: from a row's premise to what the walks ask; a law's statement out of its walk.
-/
set_option linter.all false
set_option maxRecDepth 100000
namespace Go.Proofs.YtlclmanhkhfilaaDoor
open Go Go.RowKit Go.ChangeShapes Go.WideShapes Go.ChangeAt

section
variable {H : Type} {enc : TypeId × Value → H} {w : World} {base : Nat} {spare : Nat → Bool} {held : Bool} {fuel : Nat}
theorem addr_plain {a : Addr} {v : Value} (h : w.cell? a = some v) : a.spot = none ∧ a.block < w.heap.size := by
  have hs := World.cell?_spot h
  refine ⟨by simpa using hs, ?_⟩
  obtain ⟨b, off, spot⟩ := a
  by_cases hb : b < w.heap.size
  · exact hb
  · have : w.heap[b]? = none := by simp; omega
    simp [World.cell?, this] at h
theorem wf_i32 {n : Int} (h : (Lit.int .i32 n).wf = true) : I32 n := by
  simp only [Lit.wf, Bool.and_eq_true, decide_eq_true_eq] at h
  exact h
theorem fixs_of {cs : List Value} {x : DataW H × List MemPlace} (h : DataW.trod enc Tryd.prog w base spare held fuel 26 cs = some x) : ∃ a len cap xs, cs = [.slice a len cap] ∧ Fixs w.heap.size w a len xs ∧ AllI xs := by
  rcases Go.Deep.open_slice1 Tryd.underlying26 (by kernel_rfl) h with ⟨rfl, _⟩ | ⟨a, len, cap, m, n, V, D, Pl, rfl, hb, hl, hm, hmm, _, hV⟩
  · exact ⟨none, 0, 0, [], rfl, ⟨rfl, .inl rfl⟩, allI_nil⟩
  · have hlm : len ≤ m := by rw [hmm]; split <;> omega
    have each : ∀ i, i < len → ∃ q : Int, w.cell? (a.add i) = some (.int .i32 q) ∧ I32 q := by
      intro i hi
      obtain ⟨h1, h2⟩ := hV i (by omega)
      obtain ⟨q, e1, _, e3⟩ := DataW.trod_int Tryd.underlying27 h2
      exact ⟨q, by rw [h1, List.cons.inj e1 |>.1], wf_i32 e3⟩
    obtain ⟨q, hq⟩ := Go.Deep.choose_lt each
    refine ⟨some a, len, cap, (List.range len).map q, rfl, ⟨by simp, ?_⟩, ?_⟩
    · rcases Nat.eq_zero_or_pos len with h0 | h0
      · subst h0; exact .inl rfl
      · obtain ⟨b, off, spot⟩ := a
        obtain ⟨hs, hlt⟩ := addr_plain (a := ⟨b, off, spot⟩) (by simpa [Addr.add] using (hq 0 h0).1)
        simp only at hs hlt
        subst hs
        refine .inr ⟨b, off, rfl, hlt, fun j hj => ?_⟩
        simp only [List.length_map, List.length_range] at hj
        have := (hq j hj).1
        rw [Go.WideShapes.add_plain] at this
        simpa [hj] using this
    · intro j
      by_cases hj : j < len
      · simpa [hj] using (hq j hj).2
      · simp [hj, I32]
theorem rngs_of {cs : List Value} {x : DataW H × List MemPlace} (h : DataW.trod enc Tryd.prog w base spare held fuel 23 cs = some x) : ∃ a len cap rs, cs = [.slice a len cap] ∧ Rngs w.heap.size w a len rs ∧ AllR rs := by
  rcases Go.Deep.open_slice_pairs Tryd.underlying23 Tryd.underlying34 (by kernel_rfl) rfl rfl (by kernel_rfl) (by kernel_rfl) h with ⟨rfl, _⟩ | ⟨a, len, cap, m, n, V0, V1, D0, D1, P0, P1, rfl, hb, hl, hm, hmm, _, hV⟩
  · exact ⟨none, 0, 0, [], rfl, ⟨rfl, .inl rfl⟩, by intro j; simp [I32]⟩
  · have hlm : len ≤ m := by rw [hmm]; split <;> omega
    have each : ∀ i, i < len → ∃ q : Int × Int, w.cell? (a.add (i * 2)) = some (.int .i32 q.1) ∧ w.cell? (a.add (i * 2 + 1)) = some (.int .i32 q.2) ∧ I32 q.1 ∧ I32 q.2 := by
      intro i hi
      obtain ⟨h1, h2, h3, h4⟩ := hV i (by omega)
      obtain ⟨q, e1, _, e3⟩ := DataW.trod_int Tryd.underlying27 h3
      obtain ⟨q2, d1, _, d3⟩ := DataW.trod_int Tryd.underlying27 h4
      exact ⟨(q, q2), by rw [h1, List.cons.inj e1 |>.1], by rw [h2, List.cons.inj d1 |>.1], wf_i32 e3, wf_i32 d3⟩
    obtain ⟨q, hq⟩ := Go.Deep.choose_lt each
    refine ⟨some a, len, cap, (List.range len).map q, rfl, ⟨by simp, ?_⟩, ?_⟩
    · rcases Nat.eq_zero_or_pos len with h0 | h0
      · subst h0; exact .inl rfl
      · obtain ⟨b, off, spot⟩ := a
        obtain ⟨hs, hlt⟩ := addr_plain (a := ⟨b, off, spot⟩) (by simpa [Addr.add] using (hq 0 h0).1)
        simp only at hs hlt
        subst hs
        refine .inr ⟨b, off, rfl, hlt, fun j hj => ?_⟩
        simp only [List.length_map, List.length_range] at hj
        have := hq j hj
        rw [Go.WideShapes.add_plain, Go.WideShapes.add_plain] at this
        simpa [hj, Nat.add_assoc] using ⟨this.1, this.2.1⟩
    · intro j
      by_cases hj : j < len
      · simpa [hj] using (hq j hj).2.2
      · simp [hj, I32]
theorem slice_of {t e : TypeId} (ht : Tryd.prog.underlying t = some (.slice e)) {cs : List Value} {x : DataW H × List MemPlace} (h : DataW.trod enc Tryd.prog w base spare held fuel t cs = some x) : ∃ a len cap, cs = [.slice a len cap] := by
  rcases DataW.trod_slice ht h with ⟨rfl, _⟩ | ⟨a, len, cap, _, _, _, _, rfl, _⟩
  · exact ⟨none, 0, 0, rfl⟩
  · exact ⟨_, _, _, rfl⟩
/-- what an argument of the type of functions is. -/
theorem func_of {cs : List Value} {x : DataW H × List MemPlace} (h : DataW.trod enc Tryd.prog w base spare held fuel 30 cs = some x) :
    ∃ (k : Int) (f4 : Value) (ad ar a3 a5 a6 a7 a0 a1 a11 a12 : Option Addr) (dl rl l3 l5 l6 l7 l0 l1 l11 l12 pd pr p3 p5 p6 p7 p0 p1 p11 p12 : Nat) (t : ByteArray) (n : Int) (ds rs : List (Int × Int)) (xs ys : List Int),
      cs = [.int .u8 k, .slice ad dl pd, .slice ar rl pr, .slice a3 l3 p3, f4, .slice a5 l5 p5, .slice a6 l6 p6, .slice a7 l7 p7, .slice a0 l0 p0, .slice a1 l1 p1, .int .i32 n, .slice a11 l11 p11, .slice a12 l12 p12, .string t] ∧ I32 n ∧
      FOk w.heap.size w ad dl ar rl a0 l0 a1 l1 ds rs xs ys := by
  obtain ⟨zs, m, rfl, _, hlen, hzs, hf⟩ := DataW.trod_struct Tryd.underlying30 h
  rw [show Tryd.prog.cellsOf 30 = 14 by kernel_rfl] at hlen
  match zs, hzs, cs, hlen with
  | [y0, y1, y2, y3, y4, y5, y6, y7, y8, y9, y10, y11, y12, y13], _, [c0, c1, c2, c3, c4, c5, c6, c7, c8, c9, c10, c11, c12, c13], _ =>
    have g0 := hf 0 _ rfl
    have g1 := hf 1 _ rfl
    have g2 := hf 2 _ rfl
    have g3 := hf 3 _ rfl
    have g5 := hf 5 _ rfl
    have g6 := hf 6 _ rfl
    have g7 := hf 7 _ rfl
    have g8 := hf 8 _ rfl
    have g9 := hf 9 _ rfl
    have g10 := hf 10 _ rfl
    have g11 := hf 11 _ rfl
    have g12 := hf 12 _ rfl
    have g13 := hf 13 _ rfl
    simp only [show Tryd.prog.cellsOf 22 = 1 by kernel_rfl, show Tryd.prog.cellsOf 23 = 1 by kernel_rfl, show Tryd.prog.cellsOf 24 = 1 by kernel_rfl, show Tryd.prog.cellsOf 25 = 1 by kernel_rfl, show Tryd.prog.cellsOf 26 = 1 by kernel_rfl, show Tryd.prog.cellsOf 27 = 1 by kernel_rfl, show Tryd.prog.cellsOf 28 = 1 by kernel_rfl, show Tryd.prog.cellsOf 9 = 1 by kernel_rfl,
      List.drop_zero, List.drop_succ_cons, List.take_succ_cons, List.take_zero, List.getElem?_cons_zero, List.getElem?_cons_succ] at g0 g1 g2 g3 g5 g6 g7 g8 g9 g10 g11 g12 g13
    obtain ⟨k, e0, _, _⟩ := DataW.trod_int Tryd.underlying22 g0
    obtain ⟨ad, dl, pd, ds, e1, r1, q1⟩ := rngs_of g1
    obtain ⟨ar, rl, pr, rs, e2, r2, q2⟩ := rngs_of g2
    obtain ⟨a3, l3, p3, e3⟩ := slice_of Tryd.underlying24 g3
    obtain ⟨a5, l5, p5, e5⟩ := slice_of Tryd.underlying23 g5
    obtain ⟨a6, l6, p6, e6⟩ := slice_of Tryd.underlying23 g6
    obtain ⟨a7, l7, p7, e7⟩ := slice_of Tryd.underlying25 g7
    obtain ⟨a0, l0, p0, xs, e8, r8, q8⟩ := fixs_of g8
    obtain ⟨a1, l1, p1, ys, e9, r9, q9⟩ := fixs_of g9
    obtain ⟨n, e10, _, w10⟩ := DataW.trod_int Tryd.underlying27 g10
    obtain ⟨a11, l11, p11, e11⟩ := slice_of Tryd.underlying28 g11
    obtain ⟨a12, l12, p12, e12⟩ := slice_of Tryd.underlying26 g12
    obtain ⟨t, e13, _, _⟩ := DataW.trod_string Tryd.underlying9 g13
    have h0 : c0 = _ := (List.cons.inj e0).1
    have h1 : c1 = _ := (List.cons.inj e1).1
    have h2 : c2 = _ := (List.cons.inj e2).1
    have h3 : c3 = _ := (List.cons.inj e3).1
    have h5 : c5 = _ := (List.cons.inj e5).1
    have h6 : c6 = _ := (List.cons.inj e6).1
    have h7 : c7 = _ := (List.cons.inj e7).1
    have h8 : c8 = _ := (List.cons.inj e8).1
    have h9 : c9 = _ := (List.cons.inj e9).1
    have h10 : c10 = _ := (List.cons.inj e10).1
    have h11 : c11 = _ := (List.cons.inj e11).1
    have h12 : c12 = _ := (List.cons.inj e12).1
    have h13 : c13 = _ := (List.cons.inj e13).1
    subst h0 h1 h2 h3 h5 h6 h7 h8 h9 h10 h11 h12 h13
    exact ⟨k, c4, ad, ar, a3, a5, a6, a7, a0, a1, a11, a12, dl, rl, l3, l5, l6, l7, l0, l1, l11, l12, pd, pr, p3, p5, p6, p7, p0, p1, p11, p12, t, n, ds, rs, xs, ys, rfl, wf_i32 w10, ⟨r1, r2, r8, r9, q1, q8, q9⟩⟩
end

/-- what a law of a function and a number must be shown. -/
def Walk (f : FuncId) : Prop :=
  ∀ (k : Int) (f4 : Value) (ad ar a3 a5 a6 a7 a0 a1 a11 a12 : Option Addr) (dl rl l3 l5 l6 l7 l0 l1 l11 l12 pd pr p3 p5 p6 p7 p0 p1 p11 p12 : Nat) (t : ByteArray) (n x : Int) (ds rs : List (Int × Int)) (xs ys : List Int) (w : World), I32 n → I32 x → Sx.J w →
    FOk w.heap.size w ad dl ar rl a0 l0 a1 l1 ds rs xs ys →
    Calls Tryd.prog f #[.agg #[.int .u8 k, .slice ad dl pd, .slice ar rl pr, .slice a3 l3 p3, f4, .slice a5 l5 p5, .slice a6 l6 p6, .slice a7 l7 p7, .slice a0 l0 p0, .slice a1 l1 p1, .int .i32 n, .slice a11 l11 p11, .slice a12 l12 p12, .string t], .int .i32 x] w (LV w)

theorem law_lifted_curve {os : Os} {H : Type} {enc : TypeId × Value → H} {f : FuncId} {fn : Func} {s : ChangeSpec} {conds : List PathCond} {tb : TypeId}
    (own : ownKnob Tryd.checked.prog.godebug = none) (started : os.Started) (noInit : Tryd.checked.prog.inits.idxOf? f = none) (hfn : Tryd.checked.prog.funcs[f]? = some fn)
    (laid : laidOutB Tryd.checked.prog = true) (hps : fn.params = #[30, 27])
    (hrd : (fn.params.toList.all fun t => Tryd.checked.prog.readableRec t && decide (t < Tryd.checked.prog.types.size)) = true)
    (hvars : s.vars = []) (hspec : ∀ ds : List (DataW H), ds.length = fn.params.size → s.fn H ds = { results := [.lit (.bool true)], args := ds })
    (hres : fn.resultTypes = #[tb]) (hb : Tryd.checked.prog.underlying tb = some .bool)
    (witness : ∃ (w : World) (tape : Tape) (i : Input), w.os = os ∧ (w.forCall tape i).Shaped Tryd.checked.prog ∧ i.vars = [] ∧ Input.okWide Tryd.checked.prog (w.forCall tape i) .any w.heap.size f i ∧
      ((s.pre enc Tryd.checked.prog fn conds false (w.forCall tape i).memory i.args ∧ laidMetH Tryd.prog Sx.laidL (w.forCall tape i).memory) ∧ sizedMet enc Tryd.checked.prog fn (OpenSpec.ofChange s) false (w.forCall tape i).memory i.args) ∧ Assume.holds {} Tryd.checked.prog (lone (Frame.enter Tryd.checked.prog f i.args .normal) [] (w.forCall tape i)))
    (walk : Walk f) :
    ReturnsInHanded {} Tryd.checked os f .any (fun w args => (s.pre enc Tryd.checked.prog fn conds false w args ∧ laidMetH Tryd.prog Sx.laidL w) ∧ sizedMet enc Tryd.checked.prog fn (OpenSpec.ofChange s) false w args) (s.post enc Tryd.checked.prog fn false true false false) := by
  refine returnsInHanded_of_change_and (X := fun w _ => laidMetH Tryd.prog Sx.laidL w) (fun _ _ _ hh h => h.of_heap hh) own started noInit hfn witness ?_
  intro W base args ds gs before hval hW _ _ hL _
  have hW' := hW
  obtain ⟨p, q, hA, hV, rfl, hfz, hnd⟩ := hW
  rw [hvars] at hV
  obtain ⟨rfl, rfl⟩ := trodVars_none hV
  obtain ⟨l1, l2⟩ := Sx.trodAll_len hA
  have hA2 := hA
  rw [hps] at hA2
  obtain ⟨v, v', d, d', p1, p2, rfl, rfl, rfl, hd, hd'⟩ := trodAll_two hA2
  have hv := hval 0 30 v (by rw [hps]; rfl) rfl
  have hv' := hval 1 27 v' (by rw [hps]; rfl) rfl
  obtain ⟨cs, rfl, _⟩ := okWide_struct Tryd.underlying30 hv
  obtain ⟨x, rfl⟩ := okWide_int Tryd.underlying27 hv'
  obtain ⟨fu, hd⟩ := hd
  obtain ⟨fu', hd'⟩ := hd'
  simp only [Value.cells] at hd hd'
  obtain ⟨k, f4, ad, ar, a3, a5, a6, a7, a0, a1, a11, a12, dl, rl, l3, l5, l6, l7, l0, l1', l11, l12, pd, pr, p3, p5, p6, p7, p0, p1', p11, p12, t, n, ds, rs, xs, ys, hcs, hn, hF⟩ := func_of hd
  obtain ⟨x', hx1, _, hx2⟩ := DataW.trod_int Tryd.underlying27 hd'
  obtain rfl : x = x' := by simpa using hx1
  obtain rfl : cs = #[.int .u8 k, .slice ad dl pd, .slice ar rl pr, .slice a3 l3 p3, f4, .slice a5 l5 p5, .slice a6 l6 p6, .slice a7 l7 p7, .slice a0 l0 p0, .slice a1 l1' p1', .int .i32 n, .slice a11 l11 p11, .slice a12 l12 p12, .string t] := by
    cases cs; simpa using hcs
  refine (walk k f4 ad ar a3 a5 a6 a7 a0 a1 a11 a12 dl rl l3 l5 l6 l7 l0 l1' l11 l12 pd pr p3 p5 p6 p7 p0 p1' p11 p12 t n x ds rs xs ys W hn (wf_i32 hx2) (Sx.J_of_laid hL) hF).mono ?_
  rintro e W' ⟨rfl, hs⟩
  have hlt : ∀ x ∈ p1 ++ p2, x.block < W.heap.size := fun x hx => by simpa using hW'.lt x (by simpa using hx)
  have hsp := hspec [d, d'] (by simpa using l2)
  have hr : ∀ t ∈ fn.params.toList, Tryd.checked.prog.readableRec t = true ∧ t < Tryd.checked.prog.types.size := by
    intro t ht
    have := List.all_eq_true.1 hrd t ht
    simpa using this
  refine ⟨_, rfl, [d, d'], [], (p1 ++ p2) ++ [], [], p1 ++ p2, [], hW', ?_, ?_, ?_, hs.frame _, fun h => by cases h⟩
  · rw [List.append_nil, hsp, hres]
    exact trodAll_mk1 (shut_bool hb _)
  · rw [List.append_nil, hsp]
    exact Sx.trodAll_below laid hs hA hr hlt
  · rw [List.append_nil, hsp, hvars]
    rfl
end Go.Proofs.YtlclmanhkhfilaaDoor
