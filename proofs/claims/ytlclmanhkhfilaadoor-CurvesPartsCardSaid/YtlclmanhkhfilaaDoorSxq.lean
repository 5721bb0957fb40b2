/-
  From a row's premise on its laid variable to what the frame asks of a world; a law's statement out of its contract.
-/
import Derived.Test.YtlclmanhkhfilaaDoorSxp
import Derived.Test.YtlclmanhkhfilaaDoorTie
import Derived.Test.YtlclmanhkhfilaaDoorCards
import Derived.ProofKit
import Derived.LaidMore
import Derived.OpenShut
import Derived.Stop.Joined
import Derived.SevenTiedAt
set_option maxRecDepth 100000
namespace Go.Proofs.YtlclmanhkhfilaaDoor.Sx
open Go Go.RowKit Go.ChangeShapes Go.WideShapes Go.ChangeAt

def laidL : List (String × DataW Unit) := [("gouache/fixeds.adds", Rows.laid_gouache_fixeds_adds)]
theorem gVar : Tryd.prog.globalNamed "gouache/fixeds.adds" = some 0 := by kernel_rfl
def tyA : TypeId := 59
theorem tVar : (Tryd.prog.globals[0]?).map (·.type) = some tyA := by kernel_rfl
def tyE : TypeId := 2
theorem uA : Tryd.prog.underlying tyA = some (.array 3 tyE) := by kernel_rfl
theorem uE : Tryd.prog.underlying tyE = some (.int .i64) := by kernel_rfl
theorem cE : Tryd.prog.cellsOf tyE = 1 := by kernel_rfl
theorem cA : Tryd.prog.cellsOf tyA = 3 := by kernel_rfl

theorem door_met (os : Os) (args : Array Value) : laidMetH Tryd.prog laidL ((World.doorLaid Tryd.prog 400 os).forCall (fun _ _ => 0) ⟨#[], args, []⟩).memory :=
  laidMetH_of_parts3 (fuel := 8) (laidMet_of_run' 8 (by kernel_rfl) (by kernel_rfl)) (by kernel_rfl) (by kernel_rfl)

theorem J_of_laid {W : World} (h : laidMetH Tryd.prog laidL W) : J W := by
  rw [MakeChecks.laidMetH_plain _ _ _ (by kernel_rfl)] at h
  obtain ⟨ps, ⟨g0, t0, cs0, f0, p0, q0, hg0, ht0, hv0, hd0, _, _⟩, _, _⟩ := h
  obtain rfl := Option.some.inj (gVar.symm.trans hg0)
  obtain rfl := Option.some.inj (tVar.symm.trans ht0)
  obtain ⟨xs, m1, rfl, hx1, hlen, hn3, hel⟩ := DataW.trod_array uA hd0
  simp only [Prod.mk.injEq, Rows.laid_gouache_fixeds_adds, DataW.agg.injEq] at hx1
  rw [cA] at hlen
  have hcell : ∀ (i : Nat) (r : Int), i < 3 → (xs.map (·.1))[i]? = some (.lit (.int .i64 r)) → cs0.toList[i]? = some (.int .i64 r) := by
    intro i r hi hr
    have h0 := hel i hi
    simp only [List.getElem?_map, Option.map_eq_some_iff] at hr
    obtain ⟨x, hx, hx2⟩ := hr
    rw [hx, cE] at h0
    obtain ⟨k, e1, e2, _⟩ := DataW.trod_int uE h0
    have hl : i < cs0.toList.length := by omega
    have e3 : (cs0.toList.drop (i * 1)).take 1 = [cs0.toList[i]] := by
      rw [Nat.mul_one, List.drop_eq_getElem_cons hl]
      rfl
    rw [e3] at e1
    rw [e2] at hx2
    simp only [DataW.lit.injEq, Lit.int.injEq, true_and] at hx2
    rw [List.getElem?_eq_getElem hl, List.cons.inj e1 |>.1, hx2]
  rw [← hx1.1] at hcell
  have hcs : cs0 = gcells (0, [(.i64, 0), (.i64, 65535), (.i64, 32768)]) := by
    apply Array.ext'
    apply List.ext_getElem?
    intro i
    by_cases hi : i < 3
    · match i, hi with
      | 0, _ => exact hcell 0 0 (by omega) rfl
      | 1, _ => exact hcell 1 65535 (by omega) rfl
      | 2, _ => exact hcell 2 32768 (by omega) rfl
    · rw [List.getElem?_eq_none (by omega), List.getElem?_eq_none (by simp [gcells]; omega)]
  intro g hg
  obtain rfl := List.mem_singleton.1 hg
  simp only [World.var?, hg0, Option.bind_some] at hv0
  split at hv0
  · rename_i cs ty fr hh
    cases hv0
    exact ⟨fr, ty, by rw [← hcs]; exact hh⟩
  · cases hv0

/-- a law that a pure contract shows true meets its row. -/
theorem law_lifted_laid {os : Os} {H : Type} {enc : TypeId × Value → H} {f : FuncId} {fn : Func} {s : ChangeSpec} {conds : List PathCond} {ash : List ShA} {tb : TypeId}
    (own : ownKnob Tryd.checked.prog.godebug = none) (started : os.Started) (noInit : Tryd.checked.prog.inits.idxOf? f = none) (hfn : Tryd.checked.prog.funcs[f]? = some fn)
    (laid : laidOutB Tryd.checked.prog = true) (hsh : shasOf Tryd.checked.prog fn.params.toList = some ash)
    (hrd : (fn.params.toList.all fun t => Tryd.checked.prog.readableRec t && decide (t < Tryd.checked.prog.types.size)) = true)
    (hvars : s.vars = []) (hspec : ∀ ds : List (DataW H), ds.length = fn.params.size → s.fn H ds = { results := [.lit (.bool true)], args := ds })
    (hres : fn.resultTypes = #[tb]) (hb : Tryd.checked.prog.underlying tb = some .bool)
    (witness : ∃ (w : World) (tape : Tape) (i : Input), w.os = os ∧ (w.forCall tape i).Shaped Tryd.checked.prog ∧ i.vars = [] ∧ Input.okWide Tryd.checked.prog (w.forCall tape i) .any w.heap.size f i ∧
      ((s.pre enc Tryd.checked.prog fn conds false (w.forCall tape i).memory i.args ∧ laidMetH Tryd.prog laidL (w.forCall tape i).memory) ∧ sizedMet enc Tryd.checked.prog fn (OpenSpec.ofChange s) false (w.forCall tape i).memory i.args) ∧ Assume.holds {} Tryd.checked.prog (lone (Frame.enter Tryd.checked.prog f i.args .normal) [] (w.forCall tape i)))
    (walk : ∀ args : List Value, shaFits ash args → Pure Tryd.checked.prog f args.toArray fun v => v = .bool true) :
    ReturnsInHanded {} Tryd.checked os f .any (fun w args => (s.pre enc Tryd.checked.prog fn conds false w args ∧ laidMetH Tryd.prog laidL w) ∧ sizedMet enc Tryd.checked.prog fn (OpenSpec.ofChange s) false w args) (s.post enc Tryd.checked.prog fn false true false false) := by
  refine returnsInHanded_of_change_and (X := fun w _ => laidMetH Tryd.prog laidL w) (fun _ _ _ hh h => h.of_heap hh) own started noInit hfn witness ?_
  intro W base args ds gs before hval hW _ _ hL _
  have hW' := hW
  obtain ⟨p, q, hA, hV, rfl, hfz, hnd⟩ := hW
  rw [hvars] at hV
  obtain ⟨rfl, rfl⟩ := trodVars_none hV
  obtain ⟨l1, l2⟩ := trodAll_len hA
  have hfit : shaFits ash args.toList := shasOf_fits (w := W) (r := .any) (base := base) hsh l1 fun i t v ht hv => hval i t v (by simpa using ht) (by simpa using hv)
  refine (walk args.toList hfit W (J_of_laid hL)).mono ?_
  rintro e W' ⟨v, rfl, rfl, hs⟩
  have hlt : ∀ x ∈ p, x.block < W.heap.size := fun x hx => by simpa using hW'.lt x (by simpa using hx)
  have hsp := hspec ds (by simpa using l2)
  have hr : ∀ t ∈ fn.params.toList, Tryd.checked.prog.readableRec t = true ∧ t < Tryd.checked.prog.types.size := by
    intro t ht
    have := List.all_eq_true.1 hrd t ht
    simpa using this
  refine ⟨_, rfl, ds, [], p ++ [], [], p, [], hW', ?_, ?_, ?_, hs.1.frame _, fun h => by cases h⟩
  · rw [List.append_nil, hsp, hres]
    exact trodAll_mk1 (shut_bool hb _)
  · rw [List.append_nil, hsp]
    exact trodAll_below laid hs.1 hA hr hlt
  · rw [List.append_nil, hsp, hvars]
    rfl

end Go.Proofs.YtlclmanhkhfilaaDoor.Sx
