/-
  A frame of our own for walks, part p: from a function's contract to the statement of its row: arguments that are numbers, truth values, and structs and arrays of these.
-/
import Derived.Test.YtogcbmadcgjljaaDoorSxo
import Derived.WalkKit
import Derived.ProofKit
import Derived.OpenShut
import Derived.ShutString
import Derived.ChangeOld
import Derived.Below
import Derived.Carry
namespace Go.Proofs.YtogcbmadcgjljaaDoor.Sx
open Go Go.RowKit Go.ChangeShapes Go.WideShapes Go.ChangeAt

def shOf (P : Program) (t : TypeId) : Option Sh :=
  match P.underlying t with
  | some .bool => some .bool
  | some (.int k) => some (.int k k.min k.max)
  | _ => none

def shsOf (P : Program) : List TypeId → Option (List Sh)
  | [] => some []
  | t :: r => match shOf P t, shsOf P r with
    | some a, some b => some (a :: b)
    | _, _ => none

def shaOf (P : Program) (t : TypeId) : Option ShA :=
  match P.underlying t with
  | some (.struct _) | some (.array _ _) => ((P.cellTypes P.depth t).bind (shsOf P)).bind fun l => if l.length = P.cellsOf t then some (.agg l) else none
  | _ => (shOf P t).map .s

def shasOf (P : Program) : List TypeId → Option (List ShA)
  | [] => some []
  | t :: r => match shaOf P t, shasOf P r with
    | some a, some b => some (a :: b)
    | _, _ => none

variable {P : Program}

theorem shOf_fits {w : World} {r : Reach} {base : Nat} {t : TypeId} {v : Value} {sh : Sh} (h : shOf P t = some sh) (hv : Cell.okWide P w r base t v) : sh.fits v := by
  unfold shOf at h
  unfold Cell.okWide Cell.ok at hv
  split at h
  · rename_i ht
    cases h
    rw [ht] at hv
    cases v <;> first | exact ⟨_, rfl⟩ | (simp at hv; done)
  · rename_i k ht
    cases h
    rw [ht] at hv
    cases v <;> first | (simp at hv; done) | skip
    rename_i k' n
    simp only [IntKind.has] at hv
    obtain ⟨rfl, h1, h2⟩ := hv
    exact ⟨n, rfl, h1, h2⟩
  · cases h

theorem shsOf_fits {w : World} {r : Reach} {base : Nat} : ∀ {ts : List TypeId} {l : List Sh}, shsOf P ts = some l → ∀ {vs : List Value}, vs.length = ts.length →
    (∀ (i : Nat) (v : Value), vs[i]? = some v → ∃ u, ts[i]? = some u ∧ Cell.okWide P w r base u v) → shFits l vs
  | [], l, h, vs, hl, _ => by
    cases h
    cases vs with
    | nil => rfl
    | cons _ _ => simp at hl
  | t :: ts, l, h, vs, hl, hv => by
    simp only [shsOf] at h
    split at h
    · rename_i a b ha hb
      cases h
      cases vs with
      | nil => simp at hl
      | cons v vs =>
        refine ⟨v, vs, rfl, ?_, shsOf_fits (w := w) (r := r) (base := base) hb (by simpa using hl) fun i u hu => ?_⟩
        · obtain ⟨u, hu, hk⟩ := hv 0 v rfl
          simp at hu; subst hu
          exact shOf_fits (w := w) (r := r) (base := base) ha hk
        · obtain ⟨q, hq, hk⟩ := hv (i + 1) u (by simpa using hu)
          exact ⟨q, by simpa using hq, hk⟩
    · cases h

theorem shsOf_len : ∀ {ts : List TypeId} {l : List Sh}, shsOf P ts = some l → l.length = ts.length
  | [], l, h => by cases h; rfl
  | t :: ts, l, h => by
    simp only [shsOf] at h
    split at h
    · rename_i a b ha hb
      cases h
      simp [shsOf_len hb]
    · cases h

theorem shaOf_agg {w : World} {r : Reach} {base : Nat} {t : TypeId} {v : Value} {sh : ShA}
    (h : (((P.cellTypes P.depth t).bind (shsOf P)).bind fun l => if l.length = P.cellsOf t then some (ShA.agg l) else none) = some sh)
    (hv : ∃ cs, v = .agg cs ∧ cs.size = P.cellsOf t ∧ Row.okWide P w r base t cs) : sh.fits v := by
  cases hc : P.cellTypes P.depth t with
  | none => simp [hc] at h
  | some ts =>
    cases hs : shsOf P ts with
    | none => simp [hc, hs] at h
    | some l =>
      simp only [hc, hs, Option.bind_some] at h
      split at h
      · rename_i hl
        cases h
        obtain ⟨cs, rfl, hsz, ts', hts, _, hcell⟩ := hv
        rw [hc] at hts
        cases hts
        have e := shsOf_len hs
        refine ⟨cs.toList, by simp, shsOf_fits (w := w) (r := r) (base := base) hs (by simp; omega) fun i v hi => ?_⟩
        have hi' : cs[i]? = some v := by simpa using hi
        have hlt : i < ts.length := by
          have := Array.getElem?_eq_some_iff.1 hi' |>.1
          omega
        obtain ⟨u, hu, hk⟩ := hcell i v hi'
        rw [Nat.mod_eq_of_lt hlt] at hu
        exact ⟨u, hu, hk⟩
      · cases h

theorem shaOf_fits {w : World} {r : Reach} {base : Nat} {t : TypeId} {v : Value} {sh : ShA} (h : shaOf P t = some sh) (hv : Value.okWide P w r base t v) : sh.fits v := by
  unfold shaOf at h
  unfold Value.okWide at hv
  split at h
  · rename_i ht; rw [ht] at hv; exact shaOf_agg h hv
  · rename_i ht; rw [ht] at hv; exact shaOf_agg h hv
  · rename_i h1 h2
    cases hs : shOf P t with
    | none => rw [hs] at h; cases h
    | some s =>
      rw [hs] at h; cases h
      refine shOf_fits (w := w) (r := r) (base := base) hs ?_
      split at hv
      · rename_i ht; exact absurd ht (h1 _)
      · rename_i ht; exact absurd ht (h2 _ _)
      · exact hv

theorem shasOf_fits {w : World} {r : Reach} {base : Nat} : ∀ {ts : List TypeId} {l : List ShA}, shasOf P ts = some l → ∀ {vs : List Value}, vs.length = ts.length →
    (∀ (i : Nat) (t : TypeId) (v : Value), ts[i]? = some t → vs[i]? = some v → Value.okWide P w r base t v) → shaFits l vs
  | [], l, h, vs, hl, _ => by
    cases h
    cases vs with
    | nil => rfl
    | cons _ _ => simp at hl
  | t :: ts, l, h, vs, hl, hv => by
    simp only [shasOf] at h
    split at h
    · rename_i a b ha hb
      cases h
      cases vs with
      | nil => simp at hl
      | cons v vs =>
        exact ⟨v, vs, rfl, shaOf_fits (w := w) (r := r) (base := base) ha (hv 0 t v rfl rfl), shasOf_fits (w := w) (r := r) (base := base) hb (by simpa using hl) fun i u q hu hq => hv (i + 1) u q (by simpa using hu) (by simpa using hq)⟩
    · cases h

theorem trodAll_len {H : Type} {enc : TypeId × Value → H} {w : World} {base : Nat} {spare : Nat → Bool} {held : Bool} :
    ∀ {ts : List TypeId} {vs : List Value} {ds : List (DataW H)} {p : List MemPlace}, DataW.TrodAll enc P w base spare held ts vs ds p → vs.length = ts.length ∧ ds.length = ts.length
  | [], _, _, _, h => by
    obtain ⟨rfl, rfl, rfl⟩ := trodAll_nil h
    exact ⟨rfl, rfl⟩
  | _ :: _, _, _, _, h => by
    obtain ⟨v, vs, d, ds, a, b, rfl, rfl, rfl, h1, h2⟩ := trodAll_cons h
    have := trodAll_len h2
    exact ⟨by simp [this.1], by simp [this.2]⟩

theorem trodAll_below {H : Type} {enc : TypeId × Value → H} (hl : laidOutB P = true) {W W' : World} (hb : Below W.heap.size W W') :
    ∀ {ts : List TypeId} {vs : List Value} {ds : List (DataW H)} {p : List MemPlace}, DataW.TrodAll enc P W 0 (fun _ => true) true ts vs ds p →
      (∀ t ∈ ts, P.readableRec t = true ∧ t < P.types.size) → (∀ x ∈ p, x.block < W.heap.size) → DataW.TrodAll enc P W' 0 (fun b => decide (b < W.heap.size)) true ts vs ds p
  | [], _, _, _, h, _, _ => by
    obtain ⟨rfl, rfl, rfl⟩ := trodAll_nil h
    exact trodAll_mk0
  | t :: _, _, _, _, h, hr, hp => by
    obtain ⟨v, vs, d, ds, a, b, rfl, rfl, rfl, h1, h2⟩ := trodAll_cons h
    exact trodAll_cons_mk (Below.trod hl (hr t (by simp)).1 (hr t (by simp)).2 h1 hb fun x hx => hp x (by simp [hx]))
      (trodAll_below hl hb h2 (fun t ht => hr t (by simp [ht])) fun x hx => hp x (by simp [hx]))

/-- a law that a pure contract shows true meets its row. -/
theorem law_lifted {C : Checked} {os : Os} {H : Type} {enc : TypeId × Value → H} {f : FuncId} {fn : Func} {s : ChangeSpec} {conds : List PathCond} {ash : List ShA} {tb : TypeId}
    (own : ownKnob C.prog.godebug = none) (started : os.Started) (noInit : C.prog.inits.idxOf? f = none) (hfn : C.prog.funcs[f]? = some fn)
    (laid : laidOutB C.prog = true) (hsh : shasOf C.prog fn.params.toList = some ash)
    (hrd : (fn.params.toList.all fun t => C.prog.readableRec t && decide (t < C.prog.types.size)) = true)
    (hvars : s.vars = []) (hspec : ∀ ds : List (DataW H), ds.length = fn.params.size → s.fn H ds = { results := [.lit (.bool true)], args := ds })
    (hres : fn.resultTypes = #[tb]) (hb : C.prog.underlying tb = some .bool)
    (witness : ∃ (w : World) (tape : Tape) (i : Input), w.os = os ∧ (w.forCall tape i).Shaped C.prog ∧ i.vars = [] ∧ Input.okWide C.prog (w.forCall tape i) .any w.heap.size f i ∧
      s.pre6 enc C.prog fn conds false (w.forCall tape i).memory i.args ∧ Assume.holds {} C.prog (lone (Frame.enter C.prog f i.args .normal) [] (w.forCall tape i)))
    (hJ : ∀ W : World, J W)
    (walk : ∀ args : List Value, shaFits ash args → Pure C.prog f args.toArray fun v => v = .bool true) :
    ReturnsInHanded {} C os f .any (s.pre6 enc C.prog fn conds false) (s.post enc C.prog fn false true false false) := by
  refine returnsInHanded_of_change own started noInit hfn witness ?_
  intro W base args ds gs before hval hW _ _
  have hW' := hW
  obtain ⟨p, q, hA, hV, rfl, hfz, hnd⟩ := hW
  rw [hvars] at hV
  obtain ⟨rfl, rfl⟩ := trodVars_none hV
  obtain ⟨l1, l2⟩ := trodAll_len hA
  have hfit : shaFits ash args.toList := shasOf_fits (w := W) (r := .any) (base := base) hsh l1 fun i t v ht hv => hval i t v (by simpa using ht) (by simpa using hv)
  refine (walk args.toList hfit W (hJ W)).mono ?_
  rintro e W' ⟨v, rfl, rfl, hs⟩
  have hlt : ∀ x ∈ p, x.block < W.heap.size := fun x hx => by simpa using hW'.lt x (by simpa using hx)
  have hsp := hspec ds (by simpa using l2)
  have hr : ∀ t ∈ fn.params.toList, C.prog.readableRec t = true ∧ t < C.prog.types.size := by
    intro t ht
    have := List.all_eq_true.1 hrd t ht
    simpa using this
  refine ⟨_, rfl, ds, [], p ++ [], [], p, [], hW', ?_, ?_, ?_, hs.1.frame _, fun h => by cases h⟩
  · rw [List.append_nil, hsp, hres]
    exact trodAll_mk1 (shut_bool hb _)
  · rw [List.append_nil, hsp]
    exact trodAll_below laid hs.1 hA hr hlt
  · rw [List.append_nil, hsp, hvars]
    rfl

end Go.Proofs.YtogcbmadcgjljaaDoor.Sx
