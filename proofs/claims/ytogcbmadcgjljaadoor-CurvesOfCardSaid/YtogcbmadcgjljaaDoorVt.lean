/-
  From a row's premise on its laid variable to what the frame asks of a world; a law's statement out of its contract.
-/
import Derived.Test.YtogcbmadcgjljaaDoorSxp
import Derived.Test.YtogcbmadcgjljaaDoorTie
import Derived.Test.YtogcbmadcgjljaaDoorCards
import Derived.ProofKit
import Derived.LaidMore
import Derived.OpenShut
import Derived.Stop.Joined
import Derived.SevenTiedAt
import Derived.Test.YtogcbmadcgjljaaDoorVq
import Derived.Test.YtogcbmadcgjljaaDoorPwe
import Derived.Deep.Slices
import Derived.Deep.SlicePairs
import Derived.Test.YtogcbmadcgjljaaDoorVf
set_option maxRecDepth 100000
namespace Go.Proofs.YtogcbmadcgjljaaDoor.Sx
open Go Go.RowKit Go.ChangeShapes Go.WideShapes Go.ChangeAt

def laidL : List (String × DataW Unit) := [("gouache/fixeds.adds", Rows.laid_gouache_fixeds_adds)]
theorem gVar : Tryd.prog.globalNamed "gouache/fixeds.adds" = some 0 := by kernel_rfl
def tyA : TypeId := 93
theorem tVar : (Tryd.prog.globals[0]?).map (·.type) = some tyA := by kernel_rfl
def tyE : TypeId := 2
theorem uA : Tryd.prog.underlying tyA = some (.array 3 tyE) := by kernel_rfl
theorem uE : Tryd.prog.underlying tyE = some (.int .i64) := by kernel_rfl
theorem cE : Tryd.prog.cellsOf tyE = 1 := by kernel_rfl
theorem cA : Tryd.prog.cellsOf tyA = 3 := by kernel_rfl

theorem door_met (os : Os) (args : Array Value) : laidMetH Tryd.prog laidL ((World.doorLaid Tryd.prog 400 os).forCall (fun _ _ => 0) ⟨#[], args, []⟩).memory :=
  laidMetH_of_parts3 (fuel := 8) (laidMet_of_run' 8 (by kernel_rfl) (by kernel_rfl)) (by kernel_rfl) (by kernel_rfl)

theorem J_of_laid {W : World} (h : laidMetH Tryd.prog laidL W) : J W := by
  rw [MakeChecks.laidMetH_plain _ _ _ (by kernel_rfl)] at h
  obtain ⟨ps, ⟨g0, t0, cs0, f0, p0, q0, hg0, ht0, hv0, hd0, _, _⟩, _, _⟩ := h
  obtain rfl := Option.some.inj (gVar.symm.trans hg0)
  obtain rfl := Option.some.inj (tVar.symm.trans ht0)
  obtain ⟨xs, m1, rfl, hx1, hlen, hn3, hel⟩ := DataW.trod_array uA hd0
  simp only [Prod.mk.injEq, Rows.laid_gouache_fixeds_adds, DataW.agg.injEq] at hx1
  rw [cA] at hlen
  have hcell : ∀ (i : Nat) (r : Int), i < 3 → (xs.map (·.1))[i]? = some (.lit (.int .i64 r)) → cs0.toList[i]? = some (.int .i64 r) := by
    intro i r hi hr
    have h0 := hel i hi
    simp only [List.getElem?_map, Option.map_eq_some_iff] at hr
    obtain ⟨x, hx, hx2⟩ := hr
    rw [hx, cE] at h0
    obtain ⟨k, e1, e2, _⟩ := DataW.trod_int uE h0
    have hl : i < cs0.toList.length := by omega
    have e3 : (cs0.toList.drop (i * 1)).take 1 = [cs0.toList[i]] := by
      rw [Nat.mul_one, List.drop_eq_getElem_cons hl]
      rfl
    rw [e3] at e1
    rw [e2] at hx2
    simp only [DataW.lit.injEq, Lit.int.injEq, true_and] at hx2
    rw [List.getElem?_eq_getElem hl, List.cons.inj e1 |>.1, hx2]
  rw [← hx1.1] at hcell
  have hcs : cs0 = gcells (0, [(.i64, 0), (.i64, 65535), (.i64, 32768)]) := by
    apply Array.ext'
    apply List.ext_getElem?
    intro i
    by_cases hi : i < 3
    · match i, hi with
      | 0, _ => exact hcell 0 0 (by omega) rfl
      | 1, _ => exact hcell 1 65535 (by omega) rfl
      | 2, _ => exact hcell 2 32768 (by omega) rfl
    · rw [List.getElem?_eq_none (by omega), List.getElem?_eq_none (by simp [gcells]; omega)]
  intro g hg
  obtain rfl := List.mem_singleton.1 hg
  simp only [World.var?, hg0, Option.bind_some] at hv0
  split at hv0
  · rename_i cs ty fr hh
    cases hv0
    exact ⟨fr, ty, by rw [← hcs]; exact hh⟩
  · cases hv0

/-- a law that a pure contract shows true meets its row. -/
theorem law_lifted_laid {os : Os} {H : Type} {enc : TypeId × Value → H} {f : FuncId} {fn : Func} {s : ChangeSpec} {conds : List PathCond} {ash : List ShA} {tb : TypeId}
    (own : ownKnob Tryd.checked.prog.godebug = none) (started : os.Started) (noInit : Tryd.checked.prog.inits.idxOf? f = none) (hfn : Tryd.checked.prog.funcs[f]? = some fn)
    (laid : laidOutB Tryd.checked.prog = true) (hsh : shasOf Tryd.checked.prog fn.params.toList = some ash)
    (hrd : (fn.params.toList.all fun t => Tryd.checked.prog.readableRec t && decide (t < Tryd.checked.prog.types.size)) = true)
    (hvars : s.vars = []) (hspec : ∀ ds : List (DataW H), ds.length = fn.params.size → s.fn H ds = { results := [.lit (.bool true)], args := ds })
    (hres : fn.resultTypes = #[tb]) (hb : Tryd.checked.prog.underlying tb = some .bool)
    (witness : ∃ (w : World) (tape : Tape) (i : Input), w.os = os ∧ (w.forCall tape i).Shaped Tryd.checked.prog ∧ i.vars = [] ∧ Input.okWide Tryd.checked.prog (w.forCall tape i) .any w.heap.size f i ∧
      ((s.pre enc Tryd.checked.prog fn conds false (w.forCall tape i).memory i.args ∧ laidMetH Tryd.prog laidL (w.forCall tape i).memory) ∧ sizedMet enc Tryd.checked.prog fn (OpenSpec.ofChange s) false (w.forCall tape i).memory i.args) ∧ Assume.holds {} Tryd.checked.prog (lone (Frame.enter Tryd.checked.prog f i.args .normal) [] (w.forCall tape i)))
    (walk : ∀ args : List Value, shaFits ash args → Pure Tryd.checked.prog f args.toArray fun v => v = .bool true) :
    ReturnsInHanded {} Tryd.checked os f .any (fun w args => (s.pre enc Tryd.checked.prog fn conds false w args ∧ laidMetH Tryd.prog laidL w) ∧ sizedMet enc Tryd.checked.prog fn (OpenSpec.ofChange s) false w args) (s.post enc Tryd.checked.prog fn false true false false) := by
  refine returnsInHanded_of_change_and (X := fun w _ => laidMetH Tryd.prog laidL w) (fun _ _ _ hh h => h.of_heap hh) own started noInit hfn witness ?_
  intro W base args ds gs before hval hW _ _ hL _
  have hW' := hW
  obtain ⟨p, q, hA, hV, rfl, hfz, hnd⟩ := hW
  rw [hvars] at hV
  obtain ⟨rfl, rfl⟩ := trodVars_none hV
  obtain ⟨l1, l2⟩ := trodAll_len hA
  have hfit : shaFits ash args.toList := shasOf_fits (w := W) (r := .any) (base := base) hsh l1 fun i t v ht hv => hval i t v (by simpa using ht) (by simpa using hv)
  refine (walk args.toList hfit W (J_of_laid hL)).mono ?_
  rintro e W' ⟨v, rfl, rfl, hs⟩
  have hlt : ∀ x ∈ p, x.block < W.heap.size := fun x hx => by simpa using hW'.lt x (by simpa using hx)
  have hsp := hspec ds (by simpa using l2)
  have hr : ∀ t ∈ fn.params.toList, Tryd.checked.prog.readableRec t = true ∧ t < Tryd.checked.prog.types.size := by
    intro t ht
    have := List.all_eq_true.1 hrd t ht
    simpa using this
  refine ⟨_, rfl, ds, [], p ++ [], [], p, [], hW', ?_, ?_, ?_, hs.1.frame _, fun h => by cases h⟩
  · rw [List.append_nil, hsp, hres]
    exact trodAll_mk1 (shut_bool hb _)
  · rw [List.append_nil, hsp]
    exact trodAll_below laid hs.1 hA hr hlt
  · rw [List.append_nil, hsp, hvars]
    rfl

end Go.Proofs.YtogcbmadcgjljaaDoor.Sx

/-
  Curves: plain facts on what a power tells.
-/
set_option linter.all false
namespace Go.Proofs.YtogcbmadcgjljaaDoor
open Go.RowKit
theorem clamp_id {x : Int} (h : I32 x) : clamp32 x = x := by unfold clamp32; unfold I32 at h; omega
theorem powR_zero {n : Int} (h : 0 < n) : powR 0 n = 0 := by unfold powR; rw [if_neg (by omega), if_pos rfl]
theorem powR_to (a n : Int) : ∃ e, Sx.powTo a n (powR a n) e := by
  unfold Sx.powTo powR
  by_cases n0 : n = 0
  · exact ⟨0, fun _ => ⟨by rw [if_pos n0], rfl⟩, fun h => absurd n0 h, fun h => absurd n0 h, fun h => absurd n0 h, fun h => absurd n0 h⟩
  rw [if_neg n0]
  by_cases a0 : a = 0
  · rw [if_pos a0]
    refine ⟨if n < 0 then 12 else 0, fun h => absurd h n0, fun _ _ h => ⟨rfl, by rw [if_pos h]⟩, fun _ _ h => ⟨rfl, by rw [if_neg (by omega)]⟩, fun _ h => by omega, fun _ h => absurd a0 h⟩
  rw [if_neg a0]
  by_cases hb : a < 0 ∧ n % 65536 ≠ 0
  · rw [if_pos hb]
    exact ⟨1, fun h => absurd h n0, fun _ h => absurd h a0, fun _ h => absurd h a0, fun _ _ _ => ⟨rfl, rfl⟩, fun _ _ h => absurd hb h⟩
  · rw [if_neg hb]
    exact ⟨0, fun h => absurd h n0, fun _ h => absurd h a0, fun _ h => absurd h a0, fun _ h1 h2 => absurd ⟨h1, h2⟩ hb, fun _ _ _ => ⟨rfl, rfl⟩⟩
theorem powR_one (n : Int) : powR 65536 n = 65536 := by
  obtain ⟨e, h⟩ := powR_to 65536 n
  exact (Sx.pwu h).2
theorem endsL_ends {xs ys : List Int} (h : xs.length = ys.length) : (endsL xs ys).map (·.1) = ends0 xs ys ∧ (endsL xs ys).map (·.2) = ends1 xs ys := by
  unfold endsL ends0 ends1
  split
  · exact ⟨rfl, rfl⟩
  · constructor
    · rw [upto_map]
      apply List.ext_getElem
      · simp [upto]
      · intro i h1 h2; simp [upto, pr, h2]
    · rw [upto_map]
      apply List.ext_getElem
      · simp [upto, h]
      · intro i h1 h2; simp [upto, pr, h2]
theorem endsL_I32 {xs ys : List Int} (ix : AllI xs) (iy : AllI ys) : ∀ z ∈ endsL xs ys, I32 z.1 ∧ I32 z.2 := by
  intro z hz
  unfold endsL at hz
  split at hz
  · obtain rfl := List.mem_singleton.1 hz; exact ⟨by unfold I32; omega, by unfold I32; omega⟩
  · simp only [upto, List.mem_map] at hz
    obtain ⟨j, _, rfl⟩ := hz
    exact ⟨ix j, iy j⟩
theorem outs_map {p : Int} {l : List (Int × Int)} {f : Int × Int → Int} (h : ∀ i, ∀ z ∈ l, outAt p [] i z = f z) : outs p [] l = l.map f := by
  unfold outs
  apply List.ext_getElem
  · simp
  · intro i h1 h2
    simp only [List.getElem_mapIdx, List.getElem_map]
    exact h i _ (List.getElem_mem _)
theorem at_zero {n : Int} (hn : 0 < n) {xs ys : List Int} (h : xs.length = ys.length) (ix : AllI xs) (iy : AllI ys) : evalL [(0, 65536)] [] xs ys n 0 = ends0 xs ys := by
  rw [← (endsL_ends h).1]
  show outs (powR 0 n) [] (endsL xs ys) = _
  rw [powR_zero hn]
  refine outs_map fun i z hz => ?_
  have := (endsL_I32 ix iy z hz).1
  simp only [outAt, List.length_nil, Nat.not_lt_zero, if_false]
  rw [show z.1 + (0 * (z.2 - z.1) + 32768) / 65536 = z.1 by omega, clamp_id this]
theorem at_one (n : Int) {xs ys : List Int} (h : xs.length = ys.length) (ix : AllI xs) (iy : AllI ys) : evalL [(0, 65536)] [] xs ys n 65536 = ends1 xs ys := by
  rw [← (endsL_ends h).2]
  show outs (powR 65536 n) [] (endsL xs ys) = _
  rw [powR_one]
  refine outs_map fun i z hz => ?_
  have := (endsL_I32 ix iy z hz).2
  simp only [outAt, List.length_nil, Nat.not_lt_zero, if_false]
  rw [show z.1 + (65536 * (z.2 - z.1) + 32768) / 65536 = z.2 by omega, clamp_id this]
theorem at_same (ds : List (Int × Int)) {xs : List Int} (n x : Int) (ix : AllI xs) (h0 : xs ≠ []) : evalL ds [] xs xs n x = xs := by
  have e : ends0 xs xs = xs := by unfold ends0; rw [if_neg (by cases xs with | nil => exact absurd rfl h0 | cons _ _ => simp)]
  refine Eq.trans ?_ ((endsL_ends (xs := xs) (ys := xs) rfl).1.trans e)
  unfold evalL
  refine outs_map fun i z hz => ?_
  have h1 := (endsL_I32 ix ix z hz).1
  have h2 : z.2 = z.1 := by
    unfold endsL at hz
    rw [if_neg (by cases xs with | nil => exact absurd rfl h0 | cons _ _ => simp)] at hz
    simp only [upto, List.mem_map] at hz
    obtain ⟨j, _, rfl⟩ := hz
    rfl
  simp only [outAt, List.length_nil, Nat.not_lt_zero, if_false]
  rw [h2, Int.sub_self, Int.mul_zero, show z.1 + (0 + 32768) / 65536 = z.1 by omega, clamp_id h1]
theorem chkF_lt {rs : List (Int × Int)} {lo hi n : Int} (h : chkF rs lo hi n = 0) : rngB rs = true ∧ lo < hi := by
  unfold chkF at h
  split at h
  · rename_i hh
    simp only [Bool.and_eq_true] at hh
    refine ⟨hh.1, ?_⟩
    have := hh.2
    unfold chkB at this
    simp only [Bool.and_eq_true, decide_eq_true_eq] at this
    exact this.1.1
  · omega
theorem at_held {ds rs : List (Int × Int)} (xs ys : List Int) (n x : Int) (h : (ds[0]?.getD (0, 0)).1 < (ds[0]?.getD (0, 0)).2) : evalL ds rs xs ys n (max (ds[0]?.getD (0, 0)).1 (min x (ds[0]?.getD (0, 0)).2)) = evalL ds rs xs ys n x := by
  unfold evalL
  rw [show min (max (max (ds[0]?.getD (0, 0)).1 (min x (ds[0]?.getD (0, 0)).2)) (ds[0]?.getD (0, 0)).1) (ds[0]?.getD (0, 0)).2 = min (max x (ds[0]?.getD (0, 0)).1) (ds[0]?.getD (0, 0)).2 by omega]
theorem evalL_at {ds rs : List (Int × Int)} {xs ys : List Int} {n x : Int} {j : Nat} (hj : j < (endsL xs ys).length) : (evalL ds rs xs ys n x)[j]?.getD 0 = outAt (powR (min (max x (ds[0]?.getD (0, 0)).1) (ds[0]?.getD (0, 0)).2) n) rs j ((endsL xs ys)[j]?.getD (0, 0)) := by
  unfold evalL outs
  simp [hj]
theorem rng_at {rs : List (Int × Int)} (h : rngB rs = true) {j : Nat} (hj : j < rs.length) : (rs[j]?.getD (0, 0)).1 ≤ (rs[j]?.getD (0, 0)).2 := by
  unfold rngB at h
  have := List.all_eq_true.1 h rs[j] (List.getElem_mem hj)
  simpa [hj] using this
theorem in_rng {p : Int} {rs : List (Int × Int)} {j : Nat} {z : Int × Int} (h : rngB rs = true) (hj : j < rs.length) : (rs[j]?.getD (0, 0)).1 ≤ outAt p rs j z ∧ outAt p rs j z ≤ (rs[j]?.getD (0, 0)).2 := by
  have := rng_at h hj
  unfold outAt
  rw [if_pos hj]
  omega
end Go.Proofs.YtogcbmadcgjljaaDoor

/-
  Curves: what the walks of the laws share.
-/
set_option linter.all false
namespace Go.Proofs.YtogcbmadcgjljaaDoor
open Go.RowKit
section
variable {b : Nat} {W : World} {f0 f1 f2 f3 f4 f5 f6 f7 f8 f9 f10 f11 f12 f13 : Value}
theorem Box14.set0 (h : Box14 b W f0 f1 f2 f3 f4 f5 f6 f7 f8 f9 f10 f11 f12 f13) (v : Value) : Box14 b (W.setCell ⟨b, 0, none⟩ v) v f1 f2 f3 f4 f5 f6 f7 f8 f9 f10 f11 f12 f13 := by
  obtain ⟨h0, h1, h2, h3, h4, h5, h6, h7, h8, h9, h10, h11, h12, h13⟩ := h
  refine ⟨?_, ?_, ?_, ?_, ?_, ?_, ?_, ?_, ?_, ?_, ?_, ?_, ?_, ?_⟩ <;> simp [go_sem, *]
theorem Box14.set1 (h : Box14 b W f0 f1 f2 f3 f4 f5 f6 f7 f8 f9 f10 f11 f12 f13) (v : Value) : Box14 b (W.setCell ⟨b, 1, none⟩ v) f0 v f2 f3 f4 f5 f6 f7 f8 f9 f10 f11 f12 f13 := by
  obtain ⟨h0, h1, h2, h3, h4, h5, h6, h7, h8, h9, h10, h11, h12, h13⟩ := h
  refine ⟨?_, ?_, ?_, ?_, ?_, ?_, ?_, ?_, ?_, ?_, ?_, ?_, ?_, ?_⟩ <;> simp [go_sem, *]
theorem Box14.set2 (h : Box14 b W f0 f1 f2 f3 f4 f5 f6 f7 f8 f9 f10 f11 f12 f13) (v : Value) : Box14 b (W.setCell ⟨b, 2, none⟩ v) f0 f1 v f3 f4 f5 f6 f7 f8 f9 f10 f11 f12 f13 := by
  obtain ⟨h0, h1, h2, h3, h4, h5, h6, h7, h8, h9, h10, h11, h12, h13⟩ := h
  refine ⟨?_, ?_, ?_, ?_, ?_, ?_, ?_, ?_, ?_, ?_, ?_, ?_, ?_, ?_⟩ <;> simp [go_sem, *]
theorem Box14.set8 (h : Box14 b W f0 f1 f2 f3 f4 f5 f6 f7 f8 f9 f10 f11 f12 f13) (v : Value) : Box14 b (W.setCell ⟨b, 8, none⟩ v) f0 f1 f2 f3 f4 f5 f6 f7 v f9 f10 f11 f12 f13 := by
  obtain ⟨h0, h1, h2, h3, h4, h5, h6, h7, h8, h9, h10, h11, h12, h13⟩ := h
  refine ⟨?_, ?_, ?_, ?_, ?_, ?_, ?_, ?_, ?_, ?_, ?_, ?_, ?_, ?_⟩ <;> simp [go_sem, *]
theorem Box14.set9 (h : Box14 b W f0 f1 f2 f3 f4 f5 f6 f7 f8 f9 f10 f11 f12 f13) (v : Value) : Box14 b (W.setCell ⟨b, 9, none⟩ v) f0 f1 f2 f3 f4 f5 f6 f7 f8 v f10 f11 f12 f13 := by
  obtain ⟨h0, h1, h2, h3, h4, h5, h6, h7, h8, h9, h10, h11, h12, h13⟩ := h
  refine ⟨?_, ?_, ?_, ?_, ?_, ?_, ?_, ?_, ?_, ?_, ?_, ?_, ?_, ?_⟩ <;> simp [go_sem, *]
theorem Box14.set10 (h : Box14 b W f0 f1 f2 f3 f4 f5 f6 f7 f8 f9 f10 f11 f12 f13) (v : Value) : Box14 b (W.setCell ⟨b, 10, none⟩ v) f0 f1 f2 f3 f4 f5 f6 f7 f8 f9 v f11 f12 f13 := by
  obtain ⟨h0, h1, h2, h3, h4, h5, h6, h7, h8, h9, h10, h11, h12, h13⟩ := h
  refine ⟨?_, ?_, ?_, ?_, ?_, ?_, ?_, ?_, ?_, ?_, ?_, ?_, ?_, ?_⟩ <;> simp [go_sem, *]
end
/-- what Great leaves behind: the box of the function is as it was laid. -/
def GR (w : World) (f0 f1 f2 f3 f4 f5 f6 f7 f8 f9 f10 f11 f12 f13 : Value) (w1 : World) : Prop :=
  Below w.heap.size w w1 ∧ w.heap.size < w1.heap.size ∧ Box14 w.heap.size w1 f0 f1 f2 f3 f4 f5 f6 f7 f8 f9 f10 f11 f12 f13 ∧ ∀ i, w1.frozen? ⟨w.heap.size, i, none⟩ = false
theorem great_g (f0 f4 f10 : Value) (a1 a2 a3 a5 a6 a7 a8 a9 a11 a12 : Option Addr) (l1 l2 l3 l5 l6 l7 l8 l9 l11 l12 p1 p2 p3 p5 p6 p7 p8 p9 p11 p12 : Nat) (t : ByteArray) (w : World) :
    Calls Tryd.prog 4 #[.agg #[f0, .slice a1 l1 p1, .slice a2 l2 p2, .slice a3 l3 p3, f4, .slice a5 l5 p5, .slice a6 l6 p6, .slice a7 l7 p7, .slice a8 l8 p8, .slice a9 l9 p9, f10, .slice a11 l11 p11, .slice a12 l12 p12, .string t]] (w.alloc (.cells #[f0, .slice a1 l1 p1, .slice a2 l2 p2, .slice a3 l3 p3, f4, .slice a5 l5 p5, .slice a6 l6 p6, .slice a7 l7 p7, .slice a8 l8 p8, .slice a9 l9 p9, f10, .slice a11 l11 p11, .slice a12 l12 p12, .string t] 30)) fun e w' => (∃ b, e = .returned (.bool b)) ∧
      GR w f0 (.slice a1 l1 p1) (.slice a2 l2 p2) (.slice a3 l3 p3) f4 (.slice a5 l5 p5) (.slice a6 l6 p6) (.slice a7 l7 p7) (.slice a8 l8 p8) (.slice a9 l9 p9) f10 (.slice a11 l11 p11) (.slice a12 l12 p12) (.string t) w' := by
  refine (great_any _ _ _ _ _ _ _ _ _ _ _ _ _ _ _ _ _ _ _ _ _ _ _ _ _ _ _ _ _ _ _ _ _ _ _).mono ?_
  rintro e w1 ⟨hb, hB⟩
  have hsz := hB.size
  simp only [World.size_alloc] at hsz
  exact ⟨hb, ((Below.refl _ w).alloc (Nat.le_refl _) _).trans (hB.mono (by simp)), by omega, (Box14.new _ _ _ _ _ _ _ _ _ _ _ _ _ _ _ _).on hB (by simp), fun i => (hB.frozen (p := ⟨w.heap.size, i, none⟩) (by simp)).trans (by simp [go_sem])⟩
theorem LV.of {w W wl : World} (h : Below w.heap.size w W) (hl : Below W.heap.size W wl) : LV w (.returned (.bool true)) wl := ⟨rfl, h.trans (hl.mono h.size)⟩
end Go.Proofs.YtogcbmadcgjljaaDoor

/-
  Curves: from a row's premise to what the walks ask; a law's statement out of its walk.
-/
set_option linter.all false
set_option maxRecDepth 100000
namespace Go.Proofs.YtogcbmadcgjljaaDoor
open Go Go.RowKit Go.ChangeShapes Go.WideShapes Go.ChangeAt

section
variable {H : Type} {enc : TypeId × Value → H} {w : World} {base : Nat} {spare : Nat → Bool} {held : Bool} {fuel : Nat}
theorem addr_plain {a : Addr} {v : Value} (h : w.cell? a = some v) : a.spot = none ∧ a.block < w.heap.size := by
  have hs := World.cell?_spot h
  refine ⟨by simpa using hs, ?_⟩
  obtain ⟨b, off, spot⟩ := a
  by_cases hb : b < w.heap.size
  · exact hb
  · have : w.heap[b]? = none := by simp; omega
    simp [World.cell?, this] at h
theorem wf_i32 {n : Int} (h : (Lit.int .i32 n).wf = true) : I32 n := by
  simp only [Lit.wf, Bool.and_eq_true, decide_eq_true_eq] at h
  exact h
theorem fixs_of {cs : List Value} {x : DataW H × List MemPlace} (h : DataW.trod enc Tryd.prog w base spare held fuel 26 cs = some x) : ∃ a len cap xs, cs = [.slice a len cap] ∧ Fixs w.heap.size w a len xs ∧ AllI xs := by
  rcases Go.Deep.open_slice1 Tryd.underlying26 (by kernel_rfl) h with ⟨rfl, _⟩ | ⟨a, len, cap, m, n, V, D, Pl, rfl, hb, hl, hm, hmm, _, hV⟩
  · exact ⟨none, 0, 0, [], rfl, ⟨rfl, .inl rfl⟩, allI_nil⟩
  · have hlm : len ≤ m := by rw [hmm]; split <;> omega
    have each : ∀ i, i < len → ∃ q : Int, w.cell? (a.add i) = some (.int .i32 q) ∧ I32 q := by
      intro i hi
      obtain ⟨h1, h2⟩ := hV i (by omega)
      obtain ⟨q, e1, _, e3⟩ := DataW.trod_int Tryd.underlying27 h2
      exact ⟨q, by rw [h1, List.cons.inj e1 |>.1], wf_i32 e3⟩
    obtain ⟨q, hq⟩ := Go.Deep.choose_lt each
    refine ⟨some a, len, cap, (List.range len).map q, rfl, ⟨by simp, ?_⟩, ?_⟩
    · rcases Nat.eq_zero_or_pos len with h0 | h0
      · subst h0; exact .inl rfl
      · obtain ⟨b, off, spot⟩ := a
        obtain ⟨hs, hlt⟩ := addr_plain (a := ⟨b, off, spot⟩) (by simpa [Addr.add] using (hq 0 h0).1)
        simp only at hs hlt
        subst hs
        refine .inr ⟨b, off, rfl, hlt, fun j hj => ?_⟩
        simp only [List.length_map, List.length_range] at hj
        have := (hq j hj).1
        rw [Go.WideShapes.add_plain] at this
        simpa [hj] using this
    · intro j
      by_cases hj : j < len
      · simpa [hj] using (hq j hj).2
      · simp [hj, I32]
theorem rngs_of {cs : List Value} {x : DataW H × List MemPlace} (h : DataW.trod enc Tryd.prog w base spare held fuel 23 cs = some x) : ∃ a len cap rs, cs = [.slice a len cap] ∧ Rngs w.heap.size w a len rs ∧ AllR rs := by
  rcases Go.Deep.open_slice_pairs Tryd.underlying23 Tryd.underlying43 (by kernel_rfl) rfl rfl (by kernel_rfl) (by kernel_rfl) h with ⟨rfl, _⟩ | ⟨a, len, cap, m, n, V0, V1, D0, D1, P0, P1, rfl, hb, hl, hm, hmm, _, hV⟩
  · exact ⟨none, 0, 0, [], rfl, ⟨rfl, .inl rfl⟩, by intro j; simp [I32]⟩
  · have hlm : len ≤ m := by rw [hmm]; split <;> omega
    have each : ∀ i, i < len → ∃ q : Int × Int, w.cell? (a.add (i * 2)) = some (.int .i32 q.1) ∧ w.cell? (a.add (i * 2 + 1)) = some (.int .i32 q.2) ∧ I32 q.1 ∧ I32 q.2 := by
      intro i hi
      obtain ⟨h1, h2, h3, h4⟩ := hV i (by omega)
      obtain ⟨q, e1, _, e3⟩ := DataW.trod_int Tryd.underlying27 h3
      obtain ⟨q2, d1, _, d3⟩ := DataW.trod_int Tryd.underlying27 h4
      exact ⟨(q, q2), by rw [h1, List.cons.inj e1 |>.1], by rw [h2, List.cons.inj d1 |>.1], wf_i32 e3, wf_i32 d3⟩
    obtain ⟨q, hq⟩ := Go.Deep.choose_lt each
    refine ⟨some a, len, cap, (List.range len).map q, rfl, ⟨by simp, ?_⟩, ?_⟩
    · rcases Nat.eq_zero_or_pos len with h0 | h0
      · subst h0; exact .inl rfl
      · obtain ⟨b, off, spot⟩ := a
        obtain ⟨hs, hlt⟩ := addr_plain (a := ⟨b, off, spot⟩) (by simpa [Addr.add] using (hq 0 h0).1)
        simp only at hs hlt
        subst hs
        refine .inr ⟨b, off, rfl, hlt, fun j hj => ?_⟩
        simp only [List.length_map, List.length_range] at hj
        have := hq j hj
        rw [Go.WideShapes.add_plain, Go.WideShapes.add_plain] at this
        simpa [hj, Nat.add_assoc] using ⟨this.1, this.2.1⟩
    · intro j
      by_cases hj : j < len
      · simpa [hj] using (hq j hj).2.2
      · simp [hj, I32]
theorem slice_of {t e : TypeId} (ht : Tryd.prog.underlying t = some (.slice e)) {cs : List Value} {x : DataW H × List MemPlace} (h : DataW.trod enc Tryd.prog w base spare held fuel t cs = some x) : ∃ a len cap, cs = [.slice a len cap] := by
  rcases DataW.trod_slice ht h with ⟨rfl, _⟩ | ⟨a, len, cap, _, _, _, _, rfl, _⟩
  · exact ⟨none, 0, 0, rfl⟩
  · exact ⟨_, _, _, rfl⟩
/-- what an argument of the type of functions is. -/
theorem func_of {cs : List Value} {x : DataW H × List MemPlace} (h : DataW.trod enc Tryd.prog w base spare held fuel 30 cs = some x) :
    ∃ (k : Int) (f4 : Value) (ad ar a3 a5 a6 a7 a0 a1 a11 a12 : Option Addr) (dl rl l3 l5 l6 l7 l0 l1 l11 l12 pd pr p3 p5 p6 p7 p0 p1 p11 p12 : Nat) (t : ByteArray) (n : Int) (ds rs : List (Int × Int)) (xs ys : List Int),
      cs = [.int .u8 k, .slice ad dl pd, .slice ar rl pr, .slice a3 l3 p3, f4, .slice a5 l5 p5, .slice a6 l6 p6, .slice a7 l7 p7, .slice a0 l0 p0, .slice a1 l1 p1, .int .i32 n, .slice a11 l11 p11, .slice a12 l12 p12, .string t] ∧ I32 n ∧
      FOk w.heap.size w ad dl ar rl a0 l0 a1 l1 ds rs xs ys := by
  obtain ⟨zs, m, rfl, _, hlen, hzs, hf⟩ := DataW.trod_struct Tryd.underlying30 h
  rw [show Tryd.prog.cellsOf 30 = 14 by kernel_rfl] at hlen
  match zs, hzs, cs, hlen with
  | [y0, y1, y2, y3, y4, y5, y6, y7, y8, y9, y10, y11, y12, y13], _, [c0, c1, c2, c3, c4, c5, c6, c7, c8, c9, c10, c11, c12, c13], _ =>
    have g0 := hf 0 _ rfl
    have g1 := hf 1 _ rfl
    have g2 := hf 2 _ rfl
    have g3 := hf 3 _ rfl
    have g5 := hf 5 _ rfl
    have g6 := hf 6 _ rfl
    have g7 := hf 7 _ rfl
    have g8 := hf 8 _ rfl
    have g9 := hf 9 _ rfl
    have g10 := hf 10 _ rfl
    have g11 := hf 11 _ rfl
    have g12 := hf 12 _ rfl
    have g13 := hf 13 _ rfl
    simp only [show Tryd.prog.cellsOf 22 = 1 by kernel_rfl, show Tryd.prog.cellsOf 23 = 1 by kernel_rfl, show Tryd.prog.cellsOf 24 = 1 by kernel_rfl, show Tryd.prog.cellsOf 25 = 1 by kernel_rfl, show Tryd.prog.cellsOf 26 = 1 by kernel_rfl, show Tryd.prog.cellsOf 27 = 1 by kernel_rfl, show Tryd.prog.cellsOf 28 = 1 by kernel_rfl, show Tryd.prog.cellsOf 9 = 1 by kernel_rfl,
      List.drop_zero, List.drop_succ_cons, List.take_succ_cons, List.take_zero, List.getElem?_cons_zero, List.getElem?_cons_succ] at g0 g1 g2 g3 g5 g6 g7 g8 g9 g10 g11 g12 g13
    obtain ⟨k, e0, _, _⟩ := DataW.trod_int Tryd.underlying22 g0
    obtain ⟨ad, dl, pd, ds, e1, r1, q1⟩ := rngs_of g1
    obtain ⟨ar, rl, pr, rs, e2, r2, q2⟩ := rngs_of g2
    obtain ⟨a3, l3, p3, e3⟩ := slice_of Tryd.underlying24 g3
    obtain ⟨a5, l5, p5, e5⟩ := slice_of Tryd.underlying23 g5
    obtain ⟨a6, l6, p6, e6⟩ := slice_of Tryd.underlying23 g6
    obtain ⟨a7, l7, p7, e7⟩ := slice_of Tryd.underlying25 g7
    obtain ⟨a0, l0, p0, xs, e8, r8, q8⟩ := fixs_of g8
    obtain ⟨a1, l1, p1, ys, e9, r9, q9⟩ := fixs_of g9
    obtain ⟨n, e10, _, w10⟩ := DataW.trod_int Tryd.underlying27 g10
    obtain ⟨a11, l11, p11, e11⟩ := slice_of Tryd.underlying28 g11
    obtain ⟨a12, l12, p12, e12⟩ := slice_of Tryd.underlying26 g12
    obtain ⟨t, e13, _, _⟩ := DataW.trod_string Tryd.underlying9 g13
    have h0 : c0 = _ := (List.cons.inj e0).1
    have h1 : c1 = _ := (List.cons.inj e1).1
    have h2 : c2 = _ := (List.cons.inj e2).1
    have h3 : c3 = _ := (List.cons.inj e3).1
    have h5 : c5 = _ := (List.cons.inj e5).1
    have h6 : c6 = _ := (List.cons.inj e6).1
    have h7 : c7 = _ := (List.cons.inj e7).1
    have h8 : c8 = _ := (List.cons.inj e8).1
    have h9 : c9 = _ := (List.cons.inj e9).1
    have h10 : c10 = _ := (List.cons.inj e10).1
    have h11 : c11 = _ := (List.cons.inj e11).1
    have h12 : c12 = _ := (List.cons.inj e12).1
    have h13 : c13 = _ := (List.cons.inj e13).1
    subst h0 h1 h2 h3 h5 h6 h7 h8 h9 h10 h11 h12 h13
    exact ⟨k, c4, ad, ar, a3, a5, a6, a7, a0, a1, a11, a12, dl, rl, l3, l5, l6, l7, l0, l1, l11, l12, pd, pr, p3, p5, p6, p7, p0, p1, p11, p12, t, n, ds, rs, xs, ys, rfl, wf_i32 w10, ⟨r1, r2, r8, r9, q1, q8, q9⟩⟩
end

/-- what a law of a function and a number must be shown. -/
def Walk (f : FuncId) : Prop :=
  ∀ (k : Int) (f4 : Value) (ad ar a3 a5 a6 a7 a0 a1 a11 a12 : Option Addr) (dl rl l3 l5 l6 l7 l0 l1 l11 l12 pd pr p3 p5 p6 p7 p0 p1 p11 p12 : Nat) (t : ByteArray) (n x : Int) (ds rs : List (Int × Int)) (xs ys : List Int) (w : World), I32 n → I32 x → Sx.J w →
    FOk w.heap.size w ad dl ar rl a0 l0 a1 l1 ds rs xs ys →
    Calls Tryd.prog f #[.agg #[.int .u8 k, .slice ad dl pd, .slice ar rl pr, .slice a3 l3 p3, f4, .slice a5 l5 p5, .slice a6 l6 p6, .slice a7 l7 p7, .slice a0 l0 p0, .slice a1 l1 p1, .int .i32 n, .slice a11 l11 p11, .slice a12 l12 p12, .string t], .int .i32 x] w (LV w)

theorem law_lifted_curve {os : Os} {H : Type} {enc : TypeId × Value → H} {f : FuncId} {fn : Func} {s : ChangeSpec} {conds : List PathCond} {tb : TypeId}
    (own : ownKnob Tryd.checked.prog.godebug = none) (started : os.Started) (noInit : Tryd.checked.prog.inits.idxOf? f = none) (hfn : Tryd.checked.prog.funcs[f]? = some fn)
    (laid : laidOutB Tryd.checked.prog = true) (hps : fn.params = #[30, 27])
    (hrd : (fn.params.toList.all fun t => Tryd.checked.prog.readableRec t && decide (t < Tryd.checked.prog.types.size)) = true)
    (hvars : s.vars = []) (hspec : ∀ ds : List (DataW H), ds.length = fn.params.size → s.fn H ds = { results := [.lit (.bool true)], args := ds })
    (hres : fn.resultTypes = #[tb]) (hb : Tryd.checked.prog.underlying tb = some .bool)
    (witness : ∃ (w : World) (tape : Tape) (i : Input), w.os = os ∧ (w.forCall tape i).Shaped Tryd.checked.prog ∧ i.vars = [] ∧ Input.okWide Tryd.checked.prog (w.forCall tape i) .any w.heap.size f i ∧
      ((s.pre enc Tryd.checked.prog fn conds false (w.forCall tape i).memory i.args ∧ laidMetH Tryd.prog Sx.laidL (w.forCall tape i).memory) ∧ sizedMet enc Tryd.checked.prog fn (OpenSpec.ofChange s) false (w.forCall tape i).memory i.args) ∧ Assume.holds {} Tryd.checked.prog (lone (Frame.enter Tryd.checked.prog f i.args .normal) [] (w.forCall tape i)))
    (walk : Walk f) :
    ReturnsInHanded {} Tryd.checked os f .any (fun w args => (s.pre enc Tryd.checked.prog fn conds false w args ∧ laidMetH Tryd.prog Sx.laidL w) ∧ sizedMet enc Tryd.checked.prog fn (OpenSpec.ofChange s) false w args) (s.post enc Tryd.checked.prog fn false true false false) := by
  refine returnsInHanded_of_change_and (X := fun w _ => laidMetH Tryd.prog Sx.laidL w) (fun _ _ _ hh h => h.of_heap hh) own started noInit hfn witness ?_
  intro W base args ds gs before hval hW _ _ hL _
  have hW' := hW
  obtain ⟨p, q, hA, hV, rfl, hfz, hnd⟩ := hW
  rw [hvars] at hV
  obtain ⟨rfl, rfl⟩ := trodVars_none hV
  obtain ⟨l1, l2⟩ := Sx.trodAll_len hA
  have hA2 := hA
  rw [hps] at hA2
  obtain ⟨v, v', d, d', p1, p2, rfl, rfl, rfl, hd, hd'⟩ := trodAll_two hA2
  have hv := hval 0 30 v (by rw [hps]; rfl) rfl
  have hv' := hval 1 27 v' (by rw [hps]; rfl) rfl
  obtain ⟨cs, rfl, _⟩ := okWide_struct Tryd.underlying30 hv
  obtain ⟨x, rfl⟩ := okWide_int Tryd.underlying27 hv'
  obtain ⟨fu, hd⟩ := hd
  obtain ⟨fu', hd'⟩ := hd'
  simp only [Value.cells] at hd hd'
  obtain ⟨k, f4, ad, ar, a3, a5, a6, a7, a0, a1, a11, a12, dl, rl, l3, l5, l6, l7, l0, l1', l11, l12, pd, pr, p3, p5, p6, p7, p0, p1', p11, p12, t, n, ds, rs, xs, ys, hcs, hn, hF⟩ := func_of hd
  obtain ⟨x', hx1, _, hx2⟩ := DataW.trod_int Tryd.underlying27 hd'
  obtain rfl : x = x' := by simpa using hx1
  obtain rfl : cs = #[.int .u8 k, .slice ad dl pd, .slice ar rl pr, .slice a3 l3 p3, f4, .slice a5 l5 p5, .slice a6 l6 p6, .slice a7 l7 p7, .slice a0 l0 p0, .slice a1 l1' p1', .int .i32 n, .slice a11 l11 p11, .slice a12 l12 p12, .string t] := by
    cases cs; simpa using hcs
  refine (walk k f4 ad ar a3 a5 a6 a7 a0 a1 a11 a12 dl rl l3 l5 l6 l7 l0 l1' l11 l12 pd pr p3 p5 p6 p7 p0 p1' p11 p12 t n x ds rs xs ys W hn (wf_i32 hx2) (Sx.J_of_laid hL) hF).mono ?_
  rintro e W' ⟨rfl, hs⟩
  have hlt : ∀ x ∈ p1 ++ p2, x.block < W.heap.size := fun x hx => by simpa using hW'.lt x (by simpa using hx)
  have hsp := hspec [d, d'] (by simpa using l2)
  have hr : ∀ t ∈ fn.params.toList, Tryd.checked.prog.readableRec t = true ∧ t < Tryd.checked.prog.types.size := by
    intro t ht
    have := List.all_eq_true.1 hrd t ht
    simpa using this
  refine ⟨_, rfl, [d, d'], [], (p1 ++ p2) ++ [], [], p1 ++ p2, [], hW', ?_, ?_, ?_, hs.frame _, fun h => by cases h⟩
  · rw [List.append_nil, hsp, hres]
    exact trodAll_mk1 (shut_bool hb _)
  · rw [List.append_nil, hsp]
    exact Sx.trodAll_below laid hs hA hr hlt
  · rw [List.append_nil, hsp, hvars]
    rfl
end Go.Proofs.YtogcbmadcgjljaaDoor

/-
  Curves: slices handed over with three marks behind them, and whether these stayed.
-/
set_option linter.all false
namespace Go.Proofs.YtogcbmadcgjljaaDoor
open Go.RowKit
theorem fixs_hc {n₀ : Nat} {W : World} {a : Option Addr} {xs : List Int} {len : Nat} (h : Fixs n₀ W a len xs) : ∀ ad, a = some ad → ∀ j u, (xs.map (Value.int .i32))[j]? = some u → W.cell? (ad.add j) = some u := by
  intro ad had j u hu
  obtain ⟨_, h2 | ⟨b, off, e, hb, hc⟩⟩ := h
  · subst h2; simp at hu
  · obtain rfl := Option.some.inj (had.symm.trans e)
    have hj : j < xs.length := by simpa using (List.getElem?_eq_some_iff.1 hu).1
    rw [Addr.add_lit, hc j hj]
    simpa [hj] using hu
theorem ones (xs : List Int) : ∀ u ∈ xs.map (Value.int .i32), u.oneCell' = true := by
  intro u hu
  obtain ⟨x, _, rfl⟩ := List.mem_map.1 hu
  rfl
/-- what a row of the call's own holds. -/
theorem row_fixs {W : World} {base g cap n : Nat} {xs : List Int} (h : W.ownsRow base 27 1 (.slice (some ⟨g, 0, none⟩) n cap) n (xs.map (.int .i32))) (hx : xs.length = n) : Fixs W.heap.size W (some ⟨g, 0, none⟩) n xs := by
  obtain ⟨h1, ⟨h2, _⟩ | ⟨g2, cap2, cur, h2, hb, hg, hc, hm, hs, ht⟩⟩ := h
  · cases h2
  · cases h2
    refine ⟨hx.symm, .inr ⟨g, 0, rfl, (Array.getElem?_eq_some_iff.1 hg).1, fun j hj => ?_⟩⟩
    rw [cell_blk hg, ← Array.getElem?_toList]
    have : (cur.toList.take (n * 1))[0 + j]? = (xs.map (Value.int .i32))[0 + j]? := by rw [ht]
    rw [List.getElem?_take_of_lt (by omega)] at this
    rw [this]
    simp [hj]
theorem fixs_take {n₀ : Nat} {W : World} {a : Option Addr} {xs ms : List Int} {len : Nat} (h : Fixs n₀ W a len (xs ++ ms)) : Fixs n₀ W a xs.length xs := by
  obtain ⟨h1, h2 | ⟨b, off, e, hb, hc⟩⟩ := h
  · obtain ⟨rfl, rfl⟩ := List.append_eq_nil_iff.1 h2
    exact ⟨rfl, .inl rfl⟩
  · refine ⟨rfl, .inr ⟨b, off, e, hb, fun j hj => ?_⟩⟩
    rw [hc j (by simp; omega), List.getElem?_append_left hj]
theorem fixs_drop {n₀ : Nat} {W : World} {b off len : Nat} {xs ms : List Int} (h : Fixs n₀ W (some ⟨b, off, none⟩) len (xs ++ ms)) (hm : ms ≠ []) : Fixs n₀ W (some ⟨b, off + xs.length, none⟩) ms.length ms := by
  obtain ⟨h1, h2 | ⟨b2, off2, e, hb, hc⟩⟩ := h
  · exact absurd (List.append_eq_nil_iff.1 h2).2 hm
  · cases e
    refine ⟨rfl, .inr ⟨b, off + xs.length, rfl, hb, fun j hj => ?_⟩⟩
    rw [Nat.add_assoc, hc (xs.length + j) (by simp; omega), List.getElem?_append_right (by omega)]
    simp
theorem three_new (w : World) (m : Int) (t : TypeId) : ∀ j u, [Value.int .i32 m, .int .i32 m, .int .i32 m][j]? = some u → (w.alloc (.cells #[.int .i32 m, .int .i32 m, .int .i32 m] t)).cell? ((⟨w.heap.size, 0, none⟩ : Addr).add j) = some u := by
  intro j u hj
  match j, hj with
  | 0, hj => simpa [go_sem, Addr.add] using hj
  | 1, hj => simpa [go_sem, Addr.add] using hj
  | 2, hj => simpa [go_sem, Addr.add] using hj
def TWN (w : World) (xs : List Int) (m : Int) (e : Ending) (w' : World) : Prop :=
  (∃ g, e = .returned (.slice (some ⟨g, 0, none⟩) xs.length (xs.length + 3)) ∧ Fixs w'.heap.size w' (some ⟨g, 0, none⟩) (xs.length + 3) (xs ++ [m, m, m])) ∧ Below w.heap.size w w'
set_option maxRecDepth 100000 in
set_option maxHeartbeats 1000000 in
theorem twin_any (a : Option Addr) (len p : Nat) (m : Int) (xs : List Int) (w : World) (hx : Fixs w.heap.size w a len xs) (h8 : xs.length ≤ 8) (h0 : a = none → p = 0) :
    Calls Tryd.prog 14 #[.slice a len p, .int .i32 m] w (TWN w xs m) := by
  have HX := Lib.hid hx
  obtain rfl := hx.1
  have H0 := Lib.hid h0
  clear hx h0
  obtain ⟨i0, hin, hz0, hz1, hz2⟩ := info_parts info27
  go_enter Tryd.func14, Tryd.ntmps14
  have hnn : a = none → xs.length = 0 ∧ p = 0 := by
    intro e
    refine ⟨?_, H0.out e⟩
    obtain ⟨_, h2 | ⟨b, off, e2, _⟩⟩ := HX.out
    · rw [h2]; rfl
    · rw [e] at e2; cases e2
  have HN := Lib.hid hnn
  clear hnn
  go_wp2_with (first
    | (at_make; refine wpList_make_own _ rfl _ _ 26 rfl w.heap.size 27 i0 (.int .i32 0) 1 Tryd.underlying26 hin hz0 hz1 _ _ _ (xs.length + 3) rfl rfl (by simp) (by rw [hz2]; omega) (by unfold maxLen; omega) (by simp) ?_; intro w8 hown8 hgrow8)
    | (at_builtin; refine wpList_append_fits_any _ rfl _ _ 26 rfl w.heap.size 27 i0 1 Tryd.underlying26 hin hz1 w.heap.size 0 (xs.length + 3) [] rfl hown8 a xs.length p (xs.map (.int .i32)) rfl (by simp) HN.out (fixs_hc (HX.out.below ((Below.refl _ w).grown hgrow8 (Nat.le_refl _) (by simp)))) (ones xs) (by omega) ?_; intro w9 hown9 hgrow9; rw [Nat.zero_add] at hown9 ⊢)
    | (at_builtin; refine wpList_append_fits _ rfl _ _ 26 rfl w.heap.size 27 i0 1 Tryd.underlying26 hin hz1 w.heap.size xs.length (xs.length + 3) ([] ++ xs.map (.int .i32)) rfl (hown9.alloc _) ⟨w9.heap.size, 0, none⟩ 3 3 [.int .i32 m, .int .i32 m, .int .i32 m] rfl rfl (three_new _ _ _) (by simp [Value.oneCell']) (by omega) ?_; intro w10 hown10 hgrow10))
  go_ret
  have hz := hgrow8.size
  have hz9 := hgrow9.size
  have hz10 := hgrow10.size
  simp only [World.size_alloc] at hz10
  have b8 := (Below.refl w.heap.size w).grown hgrow8 (Nat.le_refl _) (by simp)
  have b9 := b8.grown hgrow9 hz (by simp)
  exact ⟨⟨w.heap.size, rfl, row_fixs (xs := xs ++ [m, m, m]) (by simpa using hown10) (by simp)⟩, (b9.alloc (by omega) _).grown hgrow10 (by simp; omega) (by simp)⟩
theorem twinf_any (a : Option Addr) (len p : Nat) (xs : List Int) (w : World) (hx : Fixs w.heap.size w a len xs) (h8 : xs.length ≤ 8) (h0 : a = none → p = 0) :
    Calls Tryd.prog 6 #[.slice a len p] w (TWN w xs (-77)) := by
  go_enter Tryd.func6, Tryd.ntmps6
  go_wp2_with (go_at_call 14; refine (twin_any a len p (-77) xs w hx h8 h0).mono ?_; rintro e w2 ⟨⟨g, rfl, hf⟩, hB⟩)
  go_ret
  exact ⟨⟨g, rfl, hf⟩, hB⟩
theorem marks_new (w : World) (m : Int) (t : TypeId) : Fixs (w.alloc (.cells #[.int .i32 m, .int .i32 m, .int .i32 m] t)).heap.size (w.alloc (.cells #[.int .i32 m, .int .i32 m, .int .i32 m] t)) (some ⟨w.heap.size, 0, none⟩) 3 [m, m, m] := by
  refine ⟨rfl, .inr ⟨w.heap.size, 0, rfl, by simp, fun j hj => ?_⟩⟩
  match j, hj with
  | 0, _ => simp [go_sem]
  | 1, _ => simp [go_sem]
  | 2, _ => simp [go_sem]
set_option maxRecDepth 100000 in
set_option maxHeartbeats 1000000 in
theorem left_any (g : Nat) (a : Option Addr) (n p : Nat) (m : Int) (xs : List Int) (w : World) (ht : Fixs w.heap.size w (some ⟨g, 0, none⟩) (n + 3) (xs ++ [m, m, m])) (hl : Fixs w.heap.size w a n xs) (h8 : xs.length ≤ 8) :
    Calls Tryd.prog 27 #[.slice (some ⟨g, 0, none⟩) n (n + 3), .slice a n p, .int .i32 m] w fun e w' => e = .returned (.bool true) ∧ Below w.heap.size w w' := by
  obtain rfl := hl.1
  have hT1 := Lib.hid (fixs_take ht)
  have hT2 : ∀ W, Below w.heap.size w W → Fixs W.heap.size W (some ⟨g, xs.length, none⟩) 3 [m, m, m] := by
    intro W hW
    have := fixs_drop ht (by simp)
    rw [Nat.zero_add] at this
    exact this.on hW
  have HT := Lib.hid hT2
  have HL := Lib.hid hl
  clear ht hl hT2
  have ne : ¬ (xs.length + 3 = xs.length) := by omega
  go_enter Tryd.func27, Tryd.ntmps27
  go_wp2_with (first
    | (go_at_call 26; refine (same_any (some ⟨g, 0, none⟩) a xs.length xs.length (xs.length + 3) p xs xs h8 _ hT1.out HL.out).mono ?_; rintro e w2 ⟨rfl, hB2⟩; rw [decide_eq_true rfl]; have h38 : [m, m, m].length ≤ 8 := (by simp); have hT4 := marks_new w2 m 27; have hT3 := HT.out _ (hB2.alloc hB2.size (.cells #[.int .i32 m, .int .i32 m, .int .i32 m] 27)); clear hT1)
    | (go_at_call 26; refine (same_any (some ⟨g, xs.length, none⟩) (some ⟨w2.heap.size, 0, none⟩) 3 3 3 3 [m, m, m] [m, m, m] h38 _ hT3 hT4).mono ?_; rintro e w3 ⟨rfl, hB3⟩; rw [decide_eq_true rfl]))
  go_ret
  exact ⟨rfl, (hB2.alloc hB2.size _).trans (hB3.mono (by simp; have := hB2.size; omega))⟩
theorem leftf_any (g : Nat) (a : Option Addr) (n p : Nat) (xs : List Int) (w : World) (ht : Fixs w.heap.size w (some ⟨g, 0, none⟩) (n + 3) (xs ++ [-77, -77, -77])) (hl : Fixs w.heap.size w a n xs) (h8 : xs.length ≤ 8) :
    Calls Tryd.prog 12 #[.slice (some ⟨g, 0, none⟩) n (n + 3), .slice a n p] w fun e w' => e = .returned (.bool true) ∧ Below w.heap.size w w' := by
  go_enter Tryd.func12, Tryd.ntmps12
  go_wp2_with (go_at_call 27; refine (left_any g a n p (-77) xs w ht hl h8).mono ?_; rintro e w2 ⟨rfl, hB⟩)
  go_ret
  exact ⟨rfl, hB⟩
end Go.Proofs.YtogcbmadcgjljaaDoor

/-
  Curves: the document's Check in one; its power, its holding.
-/
set_option linter.all false
namespace Go.Proofs.YtogcbmadcgjljaaDoor
open Go.RowKit
theorem rcheck_any (k : Int) (f3 f4 f5 f6 f7 f11 f12 f13 : Value) (ad ar a0 a1 : Option Addr) (dl rl l0 l1 pd pr p0 p1 : Nat) (n : Int) (ds rs : List (Int × Int)) (xs ys : List Int) (w : World) (hn : I32 n) (hF : FOk w.heap.size w ad dl ar rl a0 l0 a1 l1 ds rs xs ys) :
    Calls Tryd.prog 10 #[.agg #[.int .u8 k, .slice ad dl pd, .slice ar rl pr, f3, f4, f5, f6, f7, .slice a0 l0 p0, .slice a1 l1 p1, .int .i32 n, f11, f12, f13]] w (CR w (chkAll k ds rs l0 l1 n)) := by
  rw [← chk_ref k ds rs l0 l1 hn.1 hn.2]
  have hL := ends_len xs ys
  rw [← hF.c0.1, ← hF.c1.1] at hL
  have e0 := hL.1
  have e1 := hL.2
  unfold chkRef
  dsimp only
  rw [← e0, ← e1]
  by_cases h1 : k ≠ 2 ∨ rangesB ds 1 false = false ∨ (ends0 xs ys).length ≠ (ends1 xs ys).length ∨ 4 < (ends0 xs ys).length
  · rw [if_pos h1]
    exact rcheck_a k f3 f4 f5 f6 f7 f11 f12 f13 ad ar a0 a1 dl rl l0 l1 pd pr p0 p1 n ds rs xs ys w hF h1
  rw [if_neg h1]
  have hk : k = 2 := by
    by_cases h : k = 2
    · exact h
    · exact absurd (.inl h) h1
  have hd : rangesB ds 1 false = true := by
    cases h : rangesB ds 1 false
    · exact absurd (.inr (.inl h)) h1
    · rfl
  have hl : (ends0 xs ys).length = (ends1 xs ys).length := by
    by_cases h : (ends0 xs ys).length = (ends1 xs ys).length
    · exact h
    · exact absurd (.inr (.inr (.inl h))) h1
  have h4 : (ends0 xs ys).length ≤ 4 := by
    by_cases h : (ends0 xs ys).length ≤ 4
    · exact h
    · exact absurd (.inr (.inr (.inr (by omega)))) h1
  subst hk
  by_cases h2 : 0 < rs.length ∧ (rs.length ≠ (ends0 xs ys).length ∨ rangesB rs 4 true = false)
  · rw [if_pos h2]
    exact rcheck_b f3 f4 f5 f6 f7 f11 f12 f13 ad ar a0 a1 dl rl l0 l1 pd pr p0 p1 _ n ds rs xs ys w hF hd rfl hl h4 (by rw [hF.r.1]; exact h2)
  rw [if_neg h2]
  have hdl := rangesB_one.1 hd
  obtain ⟨d1, d2⟩ := hF.d
  obtain ⟨bd, od, rfl, hbd, hcd⟩ := d2.resolve_left (by rintro rfl; simp at hdl)
  obtain rfl : dl = 1 := by omega
  have hlo := (hcd 0 (by omega)).1
  have hhi := (hcd 0 (by omega)).2
  by_cases hr : rl = 0
  · exact rcheck_c f3 f4 f5 f6 f7 f11 f12 f13 bd od ar a0 a1 rl l0 l1 pd pr p0 p1 _ n _ _ ds rs xs ys w hF hd rfl hl h4 hbd (by simpa using hlo) (by simpa using hhi) hn hr
  · have hr1 := hF.r.1
    have h5 : rl = (ends0 xs ys).length := by
      by_cases h : rl = (ends0 xs ys).length
      · exact h
      · exact absurd ⟨by omega, .inl (by omega)⟩ h2
    have h6 : rangesB rs 4 true = true := by
      cases h : rangesB rs 4 true
      · exact absurd ⟨by omega, .inr h⟩ h2
      · rfl
    exact rcheck_d f3 f4 f5 f6 f7 f11 f12 f13 bd od ar a0 a1 rl l0 l1 pd pr p0 p1 _ n _ _ ds rs xs ys w hF hd rfl hl h4 hbd (by simpa using hlo) (by simpa using hhi) hn (by omega) h5 h6
theorem rpow_any (a n : Int) (ha : I32 a) (hn : I32 n) (w : World) (hj : Sx.J w) :
    Calls Tryd.prog 20 #[.int .i32 a, .int .i32 n] w fun e w' => (∃ c, e = .returned (.tuple #[.int .i32 (powR a n), .int .i64 c])) ∧ I32 (powR a n) ∧ Below w.heap.size w w' := by
  refine (Sx.pure_rpow Sx.v65 Sx.p_rpow [.int .i32 a, .int .i32 n] ⟨_, _, rfl, ⟨a, rfl, ha⟩, _, _, rfl, ⟨n, rfl, hn⟩, rfl⟩ trivial w hj).mono ?_
  rintro e w' ⟨v, rfl, ⟨hf, hpost⟩, hs⟩
  obtain ⟨vs, rfl, hv⟩ := hf
  obtain ⟨_, _, rfl, ⟨x, rfl, hx⟩, _, _, rfl, ⟨c, rfl, hc⟩, rfl⟩ := hv
  have : Sx.powTo a n x c := hpost
  obtain rfl := powR_of this
  exact ⟨⟨c, rfl⟩, hx, hs.1⟩
theorem rsat_any (n : Int) (hn : -9223372036854775808 ≤ n ∧ n ≤ 9223372036854775807) (w : World) (hj : Sx.J w) :
    Calls Tryd.prog 23 #[.int .i64 n] w fun e w' => e = .returned (.int .i32 (clamp32 n)) ∧ Below w.heap.size w w' := by
  refine (Sx.pure_rsat Sx.v66 Sx.p_rsat [.int .i64 n] ⟨_, _, rfl, ⟨n, rfl, hn⟩, rfl⟩ trivial w hj).mono ?_
  rintro e w' ⟨v, rfl, ⟨hf, hpost⟩, hs⟩
  obtain ⟨x, rfl, hx⟩ := hf
  obtain rfl : x = Sx.clamp32 n := hpost
  exact ⟨rfl, hs.1⟩
end Go.Proofs.YtogcbmadcgjljaaDoor

/-
  Curves: the document's Eval, walked.
-/
set_option linter.all false
namespace Go.Proofs.YtogcbmadcgjljaaDoor
open Go.RowKit
attribute [local go_sem] Oper.semAt_some
/-- what the region that asks for the power reads. -/
def SR (V0 : World) (bi oi h bd od cd : Nat) (x lo hi n : Int) (V : World) : Prop :=
  (V.cell? ⟨bi, oi, none⟩ = some (.int .i32 x) ∧ V.cell? ⟨h, 1, none⟩ = some (.slice (some ⟨bd, od, none⟩) 1 cd) ∧ V.cell? ⟨bd, od, none⟩ = some (.int .i32 lo) ∧ V.cell? ⟨bd, od + 1, none⟩ = some (.int .i32 hi) ∧ V.cell? ⟨h, 10, none⟩ = some (.int .i32 n)) ∧ Below V0.heap.size V0 V ∧ (bi < V0.heap.size ∧ h < V0.heap.size ∧ bd < V0.heap.size) ∧ Sx.J V0
section
variable {V0 V V' : World} {bi oi h bd od cd : Nat} {x lo hi n : Int}
theorem SR.to (s : SR V0 bi oi h bd od cd x lo hi n V) (hB : Below V0.heap.size V V') : SR V0 bi oi h bd od cd x lo hi n V' := by
  obtain ⟨⟨h1, h2, h3, h4, h0⟩, h5, ⟨h6, h7, h8⟩, h9⟩ := s
  exact ⟨⟨(hB.cell (p := ⟨bi, oi, none⟩) h6).trans h1, (hB.cell (p := ⟨h, 1, none⟩) h7).trans h2, (hB.cell (p := ⟨bd, od, none⟩) h8).trans h3, (hB.cell (p := ⟨bd, od + 1, none⟩) h8).trans h4, (hB.cell (p := ⟨h, 10, none⟩) h7).trans h0⟩, h5.trans hB, ⟨h6, h7, h8⟩, h9⟩
theorem SR.kD (s : SR V0 bi oi h bd od cd x lo hi n V) : SR V0 bi oi h bd od cd x lo hi n V.drew := s.to (Below.refl _ _).drew
theorem SR.kB (s : SR V0 bi oi h bd od cd x lo hi n V) (hB : Below V.heap.size V V') : SR V0 bi oi h bd od cd x lo hi n V' := s.to (hB.mono s.2.1.size)
theorem SR.j (s : SR V0 bi oi h bd od cd x lo hi n V) : Sx.J V := Sx.J_kept s.2.1 s.2.2.2
end
theorem in32 {x lo hi : Int} (hx : I32 x) (hl : I32 lo) (hh : I32 hi) : I32 (max lo (min hi x)) := by unfold I32 at *; omega
theorem held_both {x lo hi : Int} (h : lo ≤ hi) : max lo (min hi x) = min (max x lo) hi := by omega
theorem outs_upto (P : Int) (rs : List (Int × Int)) {xs ys : List Int} (h : xs.length = ys.length) : outs P rs (endsL xs ys) = upto (fun j => outAt P rs j (pr (ends0 xs ys) (ends1 xs ys) j)) (ends0 xs ys).length := by
  unfold endsL ends0 ends1
  by_cases c : xs.length + ys.length = 0
  · simp [c, outs, upto, pr]
  · rw [if_neg c, if_neg c, if_neg c]
    apply List.ext_getElem
    · simp [outs, upto]
    · intro i h1 h2
      simp [outs, upto]
theorem endsL_ends0 {xs ys : List Int} (h : xs.length = ys.length) : (endsL xs ys).length = (ends0 xs ys).length ∧ (ends1 xs ys).length = (ends0 xs ys).length := by
  unfold endsL ends0 ends1
  by_cases c : xs.length + ys.length = 0
  · simp [c]
  · rw [if_neg c, if_neg c, if_neg c]
    simp [upto, h]
theorem allI_ends {xs ys : List Int} (hx : AllI xs) (hy : AllI ys) : AllI (ends0 xs ys) ∧ AllI (ends1 xs ys) := by
  unfold ends0 ends1
  by_cases c : xs.length + ys.length = 0
  · rw [if_pos c, if_pos c]; exact ⟨allI_one (by unfold I32; omega), allI_one (by unfold I32; omega)⟩
  · rw [if_neg c, if_neg c]; exact ⟨hx, hy⟩
theorem row_below {W W' : World} {b e s n : Nat} {v : Value} {xs : List Value} (h : W.ownsRow b e s v n xs) (hB : Below W.heap.size W W') : W'.ownsRow b e s v n xs := by
  obtain ⟨h1, h2 | ⟨g, cap, cur, e1, e2, e3, e4⟩⟩ := h
  · exact ⟨h1, .inl h2⟩
  · exact ⟨h1, .inr ⟨g, cap, cur, e1, e2, (hB.block g (Array.getElem?_eq_some_iff.1 e3).1).trans e3, e4⟩⟩
theorem own_ge {W : World} {b e s n : Nat} {v : Value} {xs : List Value} (h : W.ownsRow b e s v n xs) : ∀ k, v.ownBlock = some k → b ≤ k := by
  intro k hk
  obtain ⟨h1, ⟨rfl, _⟩ | ⟨g, cap, cur, rfl, e2, _⟩⟩ := h
  · simp [Value.ownBlock] at hk
  · obtain rfl : g = k := by simpa [Value.ownBlock] using hk
    exact e2
def oF (P : Int) (rs : List (Int × Int)) (xs ys : List Int) (j : Nat) : Int := outAt P rs j (pr (ends0 xs ys) (ends1 xs ys) j)
set_option maxRecDepth 100000 in
set_option maxHeartbeats 4000000 in
theorem reval_t (f3 f4 f5 f6 f7 f11 f12 f13 : Value) (bd od bi oi ci : Nat) (ar a0 a1 : Option Addr) (rl l0 l1 pd pr_ p0 p1 : Nat) (n x lo hi : Int) (ds rs : List (Int × Int)) (xs ys : List Int) (w : World) (hn : I32 n) (hx : I32 x) (hlo' : I32 lo) (hhi' : I32 hi) (hj : Sx.J w)
    (hF : FOk w.heap.size w (some ⟨bd, od, none⟩) 1 ar rl a0 l0 a1 l1 ds rs xs ys) (hC : chkAll 2 ds rs l0 l1 n = 0) (hbd : bd < w.heap.size) (hlo : w.cell? ⟨bd, od, none⟩ = some (.int .i32 lo)) (hhi : w.cell? ⟨bd, od + 1, none⟩ = some (.int .i32 hi))
    (hbi : bi < w.heap.size) (hxc : w.cell? ⟨bi, oi, none⟩ = some (.int .i32 x)) (P : Int) (hP : P = powR (max lo (min hi x)) n) :
    Calls Tryd.prog 8 #[.agg #[.int .u8 2, .slice (some ⟨bd, od, none⟩) 1 pd, .slice ar rl pr_, f3, f4, f5, f6, f7, .slice a0 l0 p0, .slice a1 l1 p1, .int .i32 n, f11, f12, f13], .slice (some ⟨bi, oi, none⟩) 1 ci] w fun e w' =>
      (∃ v, e = .returned (.tuple #[v, .int .i64 0]) ∧ w'.ownsRow w.heap.size 27 1 v (endsL xs ys).length ((outs P rs (endsL xs ys)).map (.int .i32))) ∧ Below w.heap.size w w' := by
  have HF := Lib.hid hF
  have HC := Lib.hid hC
  have HP := Lib.hid hP
  clear hF hC hP
  go_enter Tryd.func8, Tryd.ntmps8
  go_wp2_with (first
    | (go_at_call 10; refine (rcheck_any 2 _ _ _ _ _ _ _ _ _ _ _ _ _ _ _ _ _ _ _ _ n ds rs xs ys _ hn (HF.out.on ((Below.refl _ w).alloc (Nat.le_refl _) _))).mono ?_; rintro e w1 ⟨rfl, hB1⟩; rw [HC.out]; obtain ⟨f0, f1, f2, g3, g4, g5, g6, g7, f8, f9, f10, g11, g12, g13⟩ := (Box14.new _ _ _ _ _ _ _ _ _ _ _ _ _ _ _ _).on hB1 (by simp); have hA1 := andB ((Below.refl _ w).alloc (Nat.le_refl _) _) hB1; have hsz1 := hB1.size; simp only [World.size_alloc] at hsz1; have hlo2 := (hA1.cell (p := ⟨bd, od, none⟩) hbd).trans hlo; have hhi2 := (hA1.cell (p := ⟨bd, od + 1, none⟩) hbd).trans hhi; have hxc2 := (hA1.cell (p := ⟨bi, oi, none⟩) hbi).trans hxc))
  refine wp_cut (fun a a' W => ∃ (c : Int), a' = ((((((((((((((((a.put (some 24) (.slice (some ⟨bi, oi, none⟩) 1 ci)).put (some 25) (.pointer (some ⟨bi, oi, none⟩))).put (some 26) (.int .i32 x)).put (some 27) (.pointer (some ⟨w.heap.size, 1, none⟩))).put (some 28) (.slice (some ⟨bd, od, none⟩) 1 pd)).put (some 29) (.pointer (some ⟨bd, od, none⟩))).put (some 30) (.agg #[.int .i32 lo, .int .i32 hi])).put (some 31) (.int .i32 (max lo (min hi x)))).put (some 32) (.pointer (some ⟨w.heap.size, 10, none⟩))).put (some 33) (.int .i32 n)).put (some 34) (.tuple #[.int .i32 P, .int .i64 c])).put (some 23) (.tuple #[.int .i32 P, .int .i64 c])).put (some 35) (.int .i32 P)).put (some 36) (.int .i64 c)).put (some 7) (.int .i32 P)).put (some 8) (.int .i64 c)) ∧
    I32 P ∧ SR w1 bi oi w.heap.size bd od pd x lo hi n W) ?reg ?rest
  case reg =>
    have s0 : SR w1 bi oi w.heap.size bd od pd x lo hi n w1 := ⟨⟨hxc2, f1, hlo2, hhi2, f10⟩, Below.refl _ _, ⟨by omega, by omega, by omega⟩, Sx.J_kept hA1 hj⟩
    go_region_held3 (fun V => (V.cell? ⟨bi, oi, none⟩ = some (.int .i32 x) ∧ V.cell? ⟨w.heap.size, 1, none⟩ = some (.slice (some ⟨bd, od, none⟩) 1 pd) ∧ V.cell? ⟨bd, od, none⟩ = some (.int .i32 lo) ∧ V.cell? ⟨bd, od + 1, none⟩ = some (.int .i32 hi) ∧ V.cell? ⟨w.heap.size, 10, none⟩ = some (.int .i32 n)) ∧ Below w1.heap.size w1 V ∧ (bi < w1.heap.size ∧ w.heap.size < w1.heap.size ∧ bd < w1.heap.size) ∧ Sx.J w1)
      (first | exact SR.kD s0 | exact SR.kD (by assumption) | exact SR.kB (by assumption) (by assumption) | assumption)
      (first
        | (go_at_call 21; refine (within_any _ _ _ _).mono ?_; rintro e w9 ⟨rfl, hB9⟩)
        | (go_at_call 20; refine (rpow_any _ _ (in32 hx hlo' hhi') hn _ (SR.j (by assumption))).mono ?_; rintro e w9 ⟨⟨c9, rfl⟩, hI9, hB9⟩; rw [← HP.out]; rw [← HP.out] at hI9))
    all_goals exact ⟨rfl, c9, rfl, hI9, by assumption⟩
  case rest =>
    rintro a' W ⟨c, rfl, hI, hS⟩
    simp only [Act.put, List.setIfInBounds_toArray, List.set_cons_zero, List.set_cons_succ]
    obtain ⟨⟨hS1, hS2, hS3, hS4, hS0⟩, hS5, ⟨hS6, hS7, hS8⟩, hS9⟩ := hS
    have hAW := andB hA1 hS5
    have hbx := Box14.on ⟨f0, f1, f2, g3, g4, g5, g6, g7, f8, f9, f10, g11, g12, g13⟩ hS5 hS7
    have hwW : w.heap.size < W.heap.size := Nat.lt_of_lt_of_le hS7 hS5.size
    obtain ⟨i0, hin, hz0, hz1, hz2⟩ := info_parts info27
    obtain ⟨c1, c2, c3, c4, c5, c6⟩ := chk_zero HC.out
    obtain ⟨L, eL⟩ : ∃ L, L = (ends0 xs ys).length := ⟨_, rfl⟩
    have hxy : xs.length = ys.length := by rw [← HF.out.c0.1, ← HF.out.c1.1]; exact c3
    have eL2 : L = (ends1 xs ys).length := by rw [eL]; exact (endsL_ends0 hxy).2.symm
    have hL4 : L ≤ 4 := by
      have := (ends_len xs ys).1
      rw [← eL, ← HF.out.c0.1, ← HF.out.c1.1] at this
      split at this <;> omega
    have hrl : rl = 0 ∨ rl = L := by
      have h1 := HF.out.r.1
      have := (ends_len xs ys).1
      rw [← eL, ← HF.out.c0.1, ← HF.out.c1.1] at this
      rcases c5 with c5 | c5
      · left; omega
      · right; split at this <;> omega
    have HXY := Lib.hid hxy
    have EL := Lib.hid eL
    have EL2 := Lib.hid eL2
    have HRL := Lib.hid hrl
    have HR := Lib.hid (fun (j : Nat) (hj : j < rs.length) => rng_at (chkF_lt c6).1 hj)
    clear hxy eL eL2 hrl c1 c2 c3 c4 c5 c6 f0 f1 f2 g3 g4 g5 g6 g7 f8 f9 f10 g11 g12 g13 hS1 hS2 hS3 hS4 hS0 hS5 hS6 hS7 hS8 hS9 hlo2 hhi2 hxc2 hB1 hA1 hlo hhi hxc
    obtain ⟨k0, k1, k2, k3, k4, k5, k6, k7, k8, k9, k10, k11, k12, k13⟩ := hbx
    go_wp2_with (first
      | (go_at_call 22; refine (rends_any _ _ _ _ _ _ _ _ _ _ _ _ _ _ _ _ _ _ xs ys _ (HF.out.on hAW).c0 (HF.out.on hAW).c1).mono ?_; rintro e w2 ⟨⟨b0, b1, m0, m1, q0, q1, rfl, hE0, hE1⟩, hB2⟩; have hA2 := andB hAW hB2; replace k2 := (hB2.cell (p := ⟨w.heap.size, 2, none⟩) hwW).trans k2; obtain rfl : L = m0 := (hE0.1.trans EL.out.symm).symm; obtain rfl : L = m1 := (hE1.1.trans EL2.out.symm).symm; have hsz2 := Nat.lt_of_lt_of_le hwW hB2.size; clear k0 k1 k3 k4 k5 k6 k7 k8 k9 k10 k11 k12 k13))
    have HE0 := Lib.hid hE0
    have HE1 := Lib.hid hE1
    clear hE0 hE1
    go_loopw [11, 12] (fun v i V => ∃ (k : Nat) (vv : Value), vv = v ∧ k ≤ L ∧ i = .int .i64 k ∧ Go.RowKit.Hid (V.ownsRow w2.heap.size 27 1 vv k ((upto (oF P rs xs ys) k).map (.int .i32))) ∧ Below w2.heap.size w2 V) (fun _ i _ => L - (intOf i).toNat)
    case atStart => exact ⟨0, _, rfl, Nat.zero_le _, rfl, Lib.hid ⟨rfl, .inl ⟨rfl, rfl⟩⟩, Below.refl _ _⟩
    case round =>
      obtain ⟨k, vv, rfl, hk, rfl, hrow, hB⟩ := hrel
      have hszV := hB.size
      by_cases hlt : k < L
      · obtain ⟨ba, oa, ea, hba, hca⟩ := fixs_cells (a := b0) (xs := ends0 xs ys) (by rw [← EL.out]; exact HE0.out.below hB) (EL.out ▸ hlt)
        obtain ⟨bb, ob, eb, hbb, hcb⟩ := fixs_cells (a := b1) (xs := ends1 xs ys) (by rw [← EL2.out]; exact HE1.out.below hB) (EL2.out ▸ hlt)
        subst ea eb
        have hAI := (allI_ends HF.out.ix HF.out.iy).1 k
        have hBI := (allI_ends HF.out.ix HF.out.iy).2 k
        obtain ⟨A, eA⟩ : ∃ A, A = (ends0 xs ys)[k]?.getD 0 := ⟨_, rfl⟩
        obtain ⟨B, eB⟩ : ∃ B, B = (ends1 xs ys)[k]?.getD 0 := ⟨_, rfl⟩
        rw [← eA] at hca hAI
        rw [← eB] at hcb hBI
        have EA := Lib.hid eA
        have EB := Lib.hid eB
        clear eA eB
        have hmb := mulB hI hAI hBI
        unfold I32 at hAI hBI
        have hPI : -2147483648 ≤ P ∧ P ≤ 2147483647 := hI
        have hlt2 : (k : Int) < L := by omega
        have hsatB : -9223372036854775808 ≤ A + (P * (B - A) + 32768) / 65536 ∧ A + (P * (B - A) + 32768) / 65536 ≤ 9223372036854775807 := by
          generalize P * (B - A) = z at hmb ⊢
          omega
        have hsatJ : ∀ nq, Sx.J (wr.drewN nq) := fun nq => Sx.J_kept (andB hA2 (below_drewN hB nq)) hj
        have k2V := (hB.cell (p := ⟨w.heap.size, 2, none⟩) hsz2).trans k2
        by_cases hr0 : rl = 0
        · subst hr0
          have hout : clamp32 (A + (P * (B - A) + 32768) / 65536) = oF P rs xs ys k := by
            have h0 : ¬ (k < rs.length) := by have := HF.out.r.1; omega
            simp only [oF, outAt, pr, if_neg h0]
            rw [← EA.out, ← EB.out]
          have HO := Lib.hid hout
          clear hout
          go_wp2_with (fail)
          go_quiet (fail)
          go_wp2_with (first
            | (go_at_call 23; refine (rsat_any _ hsatB _ (hsatJ _)).mono ?_; rintro e w3 ⟨rfl, hB3⟩; have hC3 : Below w2.heap.size w2 w3 := (below_drewN hB _).trans (hB3.mono hB.size); have hrow3 := Lib.hid (row_below (W := wr.drewN _) hrow.out hB3); have k2c := (hB3.cell (p := ⟨w.heap.size, 2, none⟩) (Nat.lt_of_lt_of_le hsz2 hB.size)).trans k2V)
            | (at_builtin; refine wpList_append_own _ rfl _ _ 26 rfl w2.heap.size 27 i0 (.int .i32 0) 1 4 Tryd.underlying26 hin hz0 hz1 hz2 rfl (by decide) _ _ _ rfl (hrow3.out.alloc _) ⟨w3.heap.size, 0, none⟩ 1 1 [_] rfl rfl (cell_one_new _ _ _) (by simp [Value.oneCell']) (by unfold maxLen; omega) (by omega) (by simp; have := hC3.size; omega) ?_; intro v' w6 hown6 hgrow6 hnil6))
          go_roundw
          case rel =>
            refine ⟨k + 1, v', rfl, by omega, by simp, Lib.hid ?_, (hC3.alloc hC3.size _).grown hgrow6 (by simp; have := hC3.size; omega) (own_ge hrow3.out)⟩
            rw [upto_succ, List.map_append, List.map_cons, List.map_nil, ← HO.out]
            exact hown6
          case measure => simp [intOf]; omega
        · obtain rfl : rl = L := HRL.out.resolve_left hr0
          have hrl3 : (0 : Int) < rl := by omega
          obtain ⟨br, or, rfl, hbr, hcr1, hcr2⟩ := rngs_cells3 HF.out.r hlt
          obtain ⟨lk, elk⟩ : ∃ lk, lk = (rs[k]?.getD (0, 0)).1 := ⟨_, rfl⟩
          obtain ⟨uk, euk⟩ : ∃ uk, uk = (rs[k]?.getD (0, 0)).2 := ⟨_, rfl⟩
          rw [← elk] at hcr1
          rw [← euk] at hcr2
          have hout : max lk (min uk (clamp32 (A + (P * (B - A) + 32768) / 65536))) = oF P rs xs ys k := by
            have h0 : k < rs.length := by have := HF.out.r.1; omega
            simp only [oF, outAt, pr, if_pos h0]
            rw [← EA.out, ← EB.out, ← elk, ← euk]
            exact held_both (by rw [elk, euk]; exact HR.out k h0)
          have HO := Lib.hid hout
          have ELK := Lib.hid (And.intro elk euk)
          clear hout elk euk
          go_wp2_with (fail)
          go_quiet (fail)
          go_wp2_with (first
            | (go_at_call 23; refine (rsat_any _ hsatB _ (hsatJ _)).mono ?_; rintro e w3 ⟨rfl, hB3⟩; have hC3 : Below w2.heap.size w2 w3 := (below_drewN hB _).trans (hB3.mono hB.size); have hrow3 := Lib.hid (row_below (W := wr.drewN _) hrow.out hB3); have k2c := (hB3.cell (p := ⟨w.heap.size, 2, none⟩) (Nat.lt_of_lt_of_le hsz2 hB.size)).trans k2V; have hr1 := ((andB hA2 hC3).cell (p := ⟨br, or + k * 2, none⟩) hbr).trans hcr1; have hr2 := ((andB hA2 hC3).cell (p := ⟨br, or + k * 2 + 1, none⟩) hbr).trans hcr2)
            | (go_at_call 21; refine (within_any _ _ _ _).mono ?_; rintro e w4 ⟨rfl, hB4⟩; have hC4 : Below w2.heap.size w2 w4 := hC3.trans (hB4.mono hC3.size); have hrow4 := Lib.hid (row_below hrow3.out hB4))
            | (at_builtin; refine wpList_append_own _ rfl _ _ 26 rfl w2.heap.size 27 i0 (.int .i32 0) 1 4 Tryd.underlying26 hin hz0 hz1 hz2 rfl (by decide) _ _ _ rfl (hrow4.out.alloc _) ⟨w4.heap.size, 0, none⟩ 1 1 [_] rfl rfl (cell_one_new _ _ _) (by simp [Value.oneCell']) (by unfold maxLen; omega) (by omega) (by simp; have := hC4.size; omega) ?_; intro v' w6 hown6 hgrow6 hnil6))
          go_roundw
          case rel =>
            refine ⟨k + 1, v', rfl, by omega, by simp, Lib.hid ?_, (hC4.alloc hC4.size _).grown hgrow6 (by simp; have := hC4.size; omega) (own_ge hrow4.out)⟩
            rw [upto_succ, List.map_append, List.map_cons, List.map_nil, ← HO.out]
            exact hown6
          case measure => simp [intOf]; omega
      · obtain rfl : k = L := by omega
        go_wp2_with (fail)
        go_ret2
        refine ⟨⟨vv, rfl, ?_⟩, andB hA2 hB⟩
        rw [outs_upto P rs HXY.out, (endsL_ends0 HXY.out).1, ← EL.out]
        exact lowerRow hrow.out (by omega)
end Go.Proofs.YtogcbmadcgjljaaDoor
