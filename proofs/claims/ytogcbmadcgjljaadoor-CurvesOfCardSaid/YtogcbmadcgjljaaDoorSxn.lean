/-
  A frame of our own for walks, part n: a loop by its relation: what its head is, and that it is met again.
-/
import Derived.Test.YtogcbmadcgjljaaDoorSxm
namespace Go.Proofs.YtogcbmadcgjljaaDoor.Sx
open Go Go.RowKit

variable {P : Program} {ds : List Deferred}

/-! ### slots -/
def setV (t : List Value) : List Nat → List Value → List Value
  | i :: is, v :: vs => setV (t.set i v) is vs
  | _, _ => t

theorem setAll_ev : ∀ (is : List Nat) (t : List V) (vs : List V), (setAll t is vs).map V.ev = setV (t.map V.ev) is (vs.map V.ev)
  | [], t, vs => by cases vs <;> rfl
  | i :: is, t, [] => rfl
  | i :: is, t, v :: vs => by
    simp only [setAll, List.map_cons, setV]
    rw [setAll_ev is]
    congr 1
    exact List.map_set

theorem setV_length : ∀ (is : List Nat) (t vs : List Value), (setV t is vs).length = t.length
  | [], t, vs => by cases vs <;> rfl
  | i :: is, t, [] => rfl
  | i :: is, t, v :: vs => by simp only [setV]; rw [setV_length is]; simp

theorem setV_get (g : Nat → Value) : ∀ (is : List Nat) (t : List Value) (i : Nat), (setV t is (is.map g))[i]? = if i ∈ is then (if i < t.length then some (g i) else none) else t[i]?
  | [], t, i => rfl
  | j :: is, t, i => by
    simp only [List.map_cons, setV]
    rw [setV_get g is]
    simp only [List.length_set, List.mem_cons]
    by_cases h1 : i ∈ is
    · simp [h1]
    · by_cases h2 : i = j
      · subst h2
        simp only [h1, if_false, true_or, if_true]
        rw [List.getElem?_set]
        simp
      · simp only [h1, h2, or_self, if_false]
        rw [List.getElem?_set_ne (Ne.symm h2)]

theorem headT_ev (W slots : List Nat) (tmps : List V) (ys : List S) (vs : List Value) : (headT W slots tmps ys vs).map V.ev = setV (setV (tmps.map V.ev) W vs) slots (ys.map S.ev) := by
  unfold headT
  rw [setAll_ev, setAll_ev]
  simp only [List.map_map]
  congr 1
  congr 1
  exact List.map_id vs

theorem actOf_eq {s t : List V} (h : s.map V.ev = t.map V.ev) : actOf ds s = actOf ds t := by simp only [actOf, h]

theorem slotS_ev {tmps : List V} {i : Nat} {x : S} (h : slotS tmps i = some x) : (tmps.map V.ev)[i]? = some x.ev := by
  unfold slotS at h
  split at h
  · rename_i y hy; cases h; simp [hy, V.ev, A.ev]
  · cases h

theorem slotsS_ev {tmps : List V} : ∀ (is : List Nat) {xs : List S}, slotsS tmps is = some xs → xs.map S.ev = is.map fun i => ((tmps.map V.ev)[i]?).getD undef
  | [], xs, h => by cases h; rfl
  | i :: is, xs, h => by
    simp only [slotsS] at h
    split at h
    · rename_i x ys hx hy
      cases h
      simp only [List.map_cons, slotsS_ev is hy, slotS_ev hx, Option.getD_some]
    · cases h

theorem slotsS_ok {bs : List Nat} {tmps : List V} (ht : ∀ v ∈ tmps, v.ok bs) : ∀ (is : List Nat) {xs : List S}, slotsS tmps is = some xs → ∀ x ∈ xs, x.ok bs
  | [], xs, h => by cases h; intro x hx; cases hx
  | i :: is, xs, h => by
    simp only [slotsS] at h
    split at h
    · rename_i x ys hx hy
      cases h
      intro z hz
      rcases List.mem_cons.1 hz with rfl | hz
      · unfold slotS at hx
        split at hx
        · rename_i y hy'; cases hx; exact ht _ (List.mem_of_getElem? hy')
        · cases hx
      · exact slotsS_ok ht is hy z hz
    · cases h

/-- what the slots hold is told by the words that stand there. -/
theorem headT_meets {W slots : List Nat} {tmps tmps' : List V} {ws : List S} (hlen : tmps'.length = tmps.length)
    (hf : ∀ i, i ∉ W → (tmps'.map V.ev)[i]? = (tmps.map V.ev)[i]?) (hs : slotsS tmps' slots = some ws) :
    actOf ds tmps' = actOf ds (headT W slots tmps ws (W.map fun i => ((tmps'.map V.ev)[i]?).getD undef)) := by
  apply actOf_eq
  rw [headT_ev, slotsS_ev _ hs]
  apply List.ext_getElem?
  intro i
  rw [setV_get, setV_get, setV_length]
  have hin : i < (tmps.map V.ev).length → (tmps'.map V.ev)[i]? = some (((tmps'.map V.ev)[i]?).getD undef) := by
    intro h
    have : i < (tmps'.map V.ev).length := by simpa [hlen] using h
    rw [List.getElem?_eq_getElem this]; rfl
  have hout : ¬ i < (tmps.map V.ev).length → (tmps'.map V.ev)[i]? = none := by
    intro h
    exact List.getElem?_eq_none (by simp [hlen] at h ⊢; omega)
  by_cases h1 : i ∈ slots
  · simp only [h1, if_true]
    split
    · rename_i h; exact hin h
    · rename_i h; exact hout h
  · simp only [h1, if_false]
    by_cases h2 : i ∈ W
    · simp only [h2, if_true]
      split
      · rename_i h; exact hin h
      · rename_i h; exact hout h
    · simp only [h2, if_false]
      exact hf i h2

theorem setAll_ok {bs : List Nat} : ∀ (is : List Nat) (t vs : List V), (∀ v ∈ t, v.ok bs) → (∀ v ∈ vs, v.ok bs) → ∀ v ∈ setAll t is vs, v.ok bs
  | [], t, vs, h, _ => by cases vs <;> exact h
  | i :: is, t, [], h, _ => h
  | i :: is, t, v :: vs, h, hv => setAll_ok is _ vs (set_ok h (hv v (by simp))) fun u hu => hv u (by simp [hu])

theorem setAll_fr (W : List Nat) : ∀ (is : List Nat) (t vs : List V), (∀ i ∈ is, i ∈ W) → Fr W t (setAll t is vs)
  | [], t, vs, _ => by cases vs <;> exact Fr.refl _ _
  | i :: is, t, [], _ => Fr.refl _ _
  | i :: is, t, v :: vs, h => ((Fr.set t i v).mono (by intro j hj; simp at hj; subst hj; exact h _ (by simp))).trans (setAll_fr W is _ vs fun j hj => h j (by simp [hj]))

/-! ### shapes -/
theorem shFits_append : ∀ {s t : List Sh} {us vs : List Value}, shFits s us → shFits t vs → shFits (s ++ t) (us ++ vs)
  | [], t, us, vs, h, k => by cases h; exact k
  | x :: s, t, us, vs, h, k => by
    obtain ⟨u, us', rfl, h1, h2⟩ := h
    exact ⟨u, us' ++ vs, rfl, h1, shFits_append h2 k⟩

theorem shFits_len : ∀ {s : List Sh} {us : List Value}, shFits s us → us.length = s.length
  | [], us, h => by cases h; rfl
  | x :: s, us, h => by
    obtain ⟨u, us', rfl, _, h2⟩ := h
    simp [shFits_len h2]

theorem blksS_fits {mem : List SB} (H : MemOk mem) : ∀ (blks : List (Nat × List Sh)) {xs : List S}, blksS mem blks = some xs → shFits (blks.flatMap (·.2)) (xs.map S.ev) ∧ ∀ x ∈ xs, x.ok (bsOf mem)
  | [], xs, h => by cases h; exact ⟨rfl, fun x hx => by cases hx⟩
  | (id, sh) :: r, xs, h => by
    simp only [blksS] at h
    split at h
    · rename_i x ys hx hy
      split at h
      · rename_i hc
        simp only [Bool.and_eq_true, Bool.not_eq_true'] at hc
        cases h
        obtain ⟨h1, h2⟩ := blksS_fits H r hy
        have hok := H.ok x (List.mem_of_getElem? hx)
        refine ⟨?_, ?_⟩
        · rw [List.map_append, List.flatMap_cons]
          exact shFits_append (takesL_fits hc.1 hok) h1
        · intro z hz
          rcases List.mem_append.1 hz with hz | hz
          · exact hok z hz
          · exact h2 z hz
      · cases h
    · cases h

/-! ### blocks -/
def vb (x : SB) : Nat × Blk := (x.b, x.blk)

theorem memOf_vb {mem mem' : List SB} (h : mem.map vb = mem'.map vb) : memOf mem = memOf mem' := by
  funext k
  induction mem generalizing mem' with
  | nil => cases mem' with
    | nil => rfl
    | cons y ys => cases h
  | cons x xs ih =>
    cases mem' with
    | nil => cases h
    | cons y ys =>
      simp only [List.map_cons, List.cons.injEq, vb, Prod.mk.injEq] at h
      obtain ⟨⟨h1, h2⟩, h3⟩ := h
      have := ih h3
      simp only [memOf, List.find?_cons] at this ⊢
      rw [h1]
      cases y.b == k with
      | true => simp [h2]
      | false => exact this

theorem vb_bs {mem mem' : List SB} (h : mem.map vb = mem'.map vb) : bsOf mem = bsOf mem' := by
  have := congrArg (List.map Prod.fst) h
  simpa [bsOf, List.map_map, Function.comp_def, vb] using this

theorem setBlks_vb : ∀ (blks : List (Nat × List Sh)) (mem mem' : List SB) (ys ys' : List S), mem.map vb = mem'.map vb → ys.map S.ev = ys'.map S.ev →
    (setBlks mem blks ys).map vb = (setBlks mem' blks ys').map vb
  | [], mem, mem', _, _, h, _ => h
  | (id, sh) :: r, mem, mem', ys, ys', h, hy => by
    simp only [setBlks]
    refine setBlks_vb r _ _ _ _ ?_ (by rw [List.map_drop, List.map_drop, hy])
    have hid : (mem.map vb)[id]? = (mem'.map vb)[id]? := by rw [h]
    simp only [List.getElem?_map] at hid
    cases hm : mem[id]? with
    | none =>
      cases hm' : mem'[id]? with
      | none => exact h
      | some y => rw [hm, hm'] at hid; cases hid
    | some x =>
      cases hm' : mem'[id]? with
      | none => rw [hm, hm'] at hid; cases hid
      | some y =>
        rw [hm, hm'] at hid
        simp only [Option.map_some, Option.some.injEq, vb, Prod.mk.injEq, SB.blk, Blk.mk.injEq] at hid
        simp only [List.map_set, h]
        congr 1
        simp only [vb, SB.blk, List.map_take, hy, hid.1, hid.2.2.1, hid.2.2.2]

theorem setBlks_bs : ∀ (blks : List (Nat × List Sh)) (mem : List SB) (ys : List S), bsOf (setBlks mem blks ys) = bsOf mem
  | [], mem, _ => rfl
  | (id, sh) :: r, mem, ys => by
    simp only [setBlks]
    rw [setBlks_bs r]
    cases hm : mem[id]? with
    | none => rfl
    | some x =>
      simp only [bsOf, List.map_set]
      apply List.ext_getElem?
      intro i
      rw [List.getElem?_set]
      split
      · rename_i hi; subst hi
        obtain ⟨hlt, he⟩ := List.getElem?_eq_some_iff.1 hm
        simp [hlt, he]
      · rfl

theorem setBlks_get : ∀ (blks : List (Nat × List Sh)) (mem : List SB) (ys : List S), ys.length = (blks.flatMap (·.2)).length → ∀ (id : Nat) (x : SB), mem[id]? = some x →
    (∀ p ∈ blks, p.1 = id → p.2.length = x.cells.length) →
    ∃ y, (setBlks mem blks ys)[id]? = some y ∧ y.b = x.b ∧ y.ty = x.ty ∧ y.own = x.own ∧ y.cells.length = x.cells.length ∧ (id ∉ blks.map (·.1) → y = x)
  | [], mem, ys, _, id, x, hx, _ => ⟨x, hx, rfl, rfl, rfl, rfl, fun _ => rfl⟩
  | (j, sh) :: r, mem, ys, hl, id, x, hx, hlen => by
    simp only [setBlks]
    simp only [List.flatMap_cons, List.length_append] at hl
    have hl' : (ys.drop sh.length).length = (r.flatMap (·.2)).length := by simp only [List.length_drop]; omega
    by_cases hj : j = id
    · subst hj
      rw [hx]
      have hlt := (List.getElem?_eq_some_iff.1 hx).1
      have hsl : sh.length = x.cells.length := hlen (j, sh) (by simp) rfl
      obtain ⟨y, h1, h2, h3, h4, h5, _⟩ := setBlks_get r (mem.set j { x with cells := ys.take sh.length, lock := false }) (ys.drop sh.length) hl' j { x with cells := ys.take sh.length, lock := false }
        (by rw [List.getElem?_set_self hlt]) (fun p hp e => by
          have := hlen p (by simp [hp]) e
          simp; omega)
      refine ⟨y, h1, h2, h3, h4, ?_, ?_⟩
      · rw [h5]; simp; omega
      · intro h; simp at h
    · have hx' : (match mem[j]? with | some x => mem.set j { x with cells := ys.take sh.length, lock := false } | none => mem)[id]? = some x := by
        cases hm : mem[j]? with
        | none => exact hx
        | some z => simp only; rw [List.getElem?_set_ne hj]; exact hx
      obtain ⟨y, h1, h2, h3, h4, h5, h6⟩ := setBlks_get r _ (ys.drop sh.length) hl' id x hx' (fun p hp e => hlen p (by simp [hp]) e)
      refine ⟨y, h1, h2, h3, h4, h5, fun h => h6 ?_⟩
      simp only [List.map_cons, List.mem_cons, not_or] at h
      exact h.2

theorem setBlks_ok {bs : List Nat} : ∀ (blks : List (Nat × List Sh)) (mem : List SB) (ys : List S), (∀ x ∈ mem, ∀ c ∈ x.cells, c.ok bs) → (∀ y ∈ ys, y.ok bs) → ∀ x ∈ setBlks mem blks ys, ∀ c ∈ x.cells, c.ok bs
  | [], mem, ys, h, _ => h
  | (j, sh) :: r, mem, ys, h, hy => by
    simp only [setBlks]
    refine setBlks_ok r _ _ ?_ fun y hy' => hy y (List.mem_of_mem_drop hy')
    cases hm : mem[j]? with
    | none => exact h
    | some z =>
      intro x hx
      rcases List.mem_or_eq_of_mem_set hx with hx | rfl
      · exact h x hx
      · exact fun c hc => hy c (List.mem_of_mem_take hc)

/-- told by a memory's own words: each of these blocks has that memory's cells. -/
theorem setBlks_told {mem' : List SB} : ∀ (blks : List (Nat × List Sh)) (mem : List SB) {ws : List S}, blksS mem' blks = some ws → ∀ (id : Nat) (y : SB), (setBlks mem blks ws)[id]? = some y → id ∈ blks.map (·.1) →
    ∃ z, mem'[id]? = some z ∧ y.cells = z.cells
  | [], _, _, _, _, _, _, h => by cases h
  | (j, sh) :: r, mem, ws, h, id, y, hy, hin => by
    simp only [blksS] at h
    split at h
    · rename_i x xs hx hr
      split at h
      · rename_i hc
        simp only [Bool.and_eq_true, Bool.not_eq_true'] at hc
        cases h
        have hl := takesL_len hc.1
        simp only [setBlks] at hy
        rw [show (x.cells ++ xs).drop sh.length = xs by rw [← hl]; simp, show (x.cells ++ xs).take sh.length = x.cells by rw [← hl]; simp] at hy
        by_cases hin' : id ∈ r.map (·.1)
        · exact setBlks_told r _ hr id y hy hin'
        · have hj : id = j := by simpa [hin'] using hin
          subst hj
          refine ⟨x, hx, ?_⟩
          have other := setBlks_other r hin' hy
          cases hm : mem[id]? with
          | none => rw [hm] at other; simp only at other; rw [hm] at other; cases other
          | some z =>
            rw [hm] at other
            simp only at other
            rw [List.getElem?_set_self (List.getElem?_eq_some_iff.1 hm).1] at other
            cases other; rfl
      · cases h
    · cases h
where
  setBlks_other : ∀ (blks : List (Nat × List Sh)) {mem : List SB} {ys : List S} {id : Nat} {y : SB}, id ∉ blks.map (·.1) → (setBlks mem blks ys)[id]? = some y → mem[id]? = some y
  | [], _, _, _, _, _, h => h
  | (j, sh) :: r, mem, ys, id, y, hn, h => by
    simp only [List.map_cons, List.mem_cons, not_or] at hn
    simp only [setBlks] at h
    have := setBlks_other r hn.2 h
    cases hm : mem[j]? with
    | none => rw [hm] at this; exact this
    | some z =>
      rw [hm] at this
      simp only at this
      rw [List.getElem?_set_ne (Ne.symm hn.1)] at this
      exact this

theorem lockAll_vb (mem : List SB) : (lockAll mem).map vb = mem.map vb := by
  simp [lockAll, List.map_map, Function.comp_def, vb, SB.blk]

theorem lockAll_get {mem : List SB} {id : Nat} {x : SB} (h : mem[id]? = some x) : (lockAll mem)[id]? = some { x with lock := true } := by
  simp [lockAll, h]

theorem unlock_vb : ∀ (old mem : List SB), (unlock old mem).map vb = mem.map vb
  | _, [] => by simp [unlock]
  | [], x :: xs => by simp only [unlock, List.map_cons, unlock_vb [] xs]; rfl
  | o :: os, x :: xs => by simp only [unlock, List.map_cons, unlock_vb os xs]; rfl

theorem unlock_get : ∀ (old mem : List SB) (id : Nat) (z : SB), mem[id]? = some z → ∃ l, (unlock old mem)[id]? = some { z with lock := l } ∧ ∀ o, old[id]? = some o → l = o.lock
  | _, [], _, _, h => by simp at h
  | [], x :: xs, 0, z, h => by simp at h; subst h; exact ⟨false, rfl, fun o ho => by simp at ho⟩
  | [], x :: xs, n + 1, z, h => by
    simp at h
    obtain ⟨l, h1, h2⟩ := unlock_get [] xs n z h
    exact ⟨l, by simpa [unlock] using h1, fun o ho => by simp at ho⟩
  | o :: os, x :: xs, 0, z, h => by simp at h; subst h; exact ⟨o.lock, rfl, fun o' ho => by simp at ho; rw [ho]⟩
  | o :: os, x :: xs, n + 1, z, h => by
    simp at h
    obtain ⟨l, h1, h2⟩ := unlock_get os xs n z h
    exact ⟨l, by simpa [unlock] using h1, fun o' ho => h2 o' (by simpa using ho)⟩

theorem Holds.sub_mem {w0 w : World} {m m' : Mem} (h : Holds w0 m w) (hs : ∀ b x, m' b = some x → m b = some x) : Holds w0 m' w := ⟨h.sm, h.j, fun b x hx => h.blk b x (hs b x hx)⟩

theorem memOf_mem {mem : List SB} {b : Nat} {x : Blk} (h : memOf mem b = some x) : ∃ (id : Nat) (y : SB), mem[id]? = some y ∧ y.b = b ∧ y.blk = x := by
  simp only [memOf, Option.map_eq_some_iff] at h
  obtain ⟨y, hy, rfl⟩ := h
  obtain ⟨id, hid⟩ := List.getElem?_of_mem (List.mem_of_find?_eq_some hy)
  exact ⟨id, y, hid, by have := List.find?_some hy; simpa using this, rfl⟩

/-- the loop's head is met by a memory whose own words tell it. -/
theorem headM_meets {w0 w : World} {mem mem' : List SB} {blks : List (Nat × List Sh)} {ws : List S} (H' : MemOk mem') (hb : blksS mem' blks = some ws)
    (hsame : ∀ (id : Nat) (x : SB), mem[id]? = some x → ∃ z : SB, mem'[id]? = some z ∧ z.b = x.b ∧ z.ty = x.ty ∧ z.own = x.own ∧ (id ∉ blks.map (·.1) → z.cells = x.cells))
    (hlen : ∀ (id : Nat) (x : SB), mem[id]? = some x → ∀ p ∈ blks, p.1 = id → p.2.length = x.cells.length) (hw : Holds w0 (memOf mem') w) : Holds w0 (memOf (headM blks mem ws)) w := by
  refine hw.sub_mem fun b x hx => ?_
  obtain ⟨id, y, hy, rfl, rfl⟩ := memOf_mem hx
  have hidx : ∃ x0, mem[id]? = some x0 := by
    have hl : id < (headM blks mem ws).length := (List.getElem?_eq_some_iff.1 hy).1
    have e : (headM blks mem ws).length = mem.length := by
      have := congrArg List.length (setBlks_bs blks (lockAll mem) ws)
      simpa [bsOf, headM, lockAll] using this
    exact ⟨_, List.getElem?_eq_getElem (by omega)⟩
  obtain ⟨x0, hx0⟩ := hidx
  obtain ⟨z, hz, h1, h2, h3, h4⟩ := hsame id x0 hx0
  have hwl : ws.length = (blks.flatMap (·.2)).length := by
    have := shFits_len (blksS_fits H' blks hb).1
    simpa using this
  obtain ⟨y', g1, g2, g3, g4, _, g6⟩ := setBlks_get blks (lockAll mem) ws hwl id _ (lockAll_get hx0) (hlen id x0 hx0)
  unfold headM at hy
  rw [g1] at hy
  cases hy
  have hcell : y.cells = z.cells := by
    by_cases hin : id ∈ blks.map (·.1)
    · obtain ⟨z', hz', e⟩ := setBlks_told blks (lockAll mem) hb id y g1 hin
      rw [hz] at hz'; cases hz'; exact e
    · rw [g6 hin]; exact (h4 hin).symm
  have e1 : y.blk = z.blk := by
    simp only [SB.blk, hcell, g3, g4, h2, h3]
  have e2 : y.b = z.b := by rw [g2, h1]
  rw [e1, e2]
  exact memOf_get H'.nodup hz

theorem setC_ok {mem : List SB} (H : MemOk mem) {id : Nat} {x : SB} (hx : mem[id]? = some x) (hl : ¬ x.lock = true) {cs : List S} (h1 : cs.map S.ev = x.cells.map S.ev) (h2 : ∀ c ∈ cs, c.ok (bsOf mem)) :
    memOf (mem.set id { x with cells := cs }) = memOf mem ∧ bsOf (mem.set id { x with cells := cs }) = bsOf mem ∧ Ext mem (mem.set id { x with cells := cs }) ∧ MemOk (mem.set id { x with cells := cs }) := by
  obtain ⟨hxl, hxe⟩ := List.getElem?_eq_some_iff.1 hx
  have hbs : bsOf (mem.set id { x with cells := cs }) = bsOf mem := by
    simp only [bsOf, List.map_set]
    apply List.ext_getElem?
    intro j
    rw [List.getElem?_set]
    split
    · rename_i e; subst e
      simp [hxl, hxe]
    · rfl
  have hmo : memOf (mem.set id { x with cells := cs }) = memOf mem := by
    refine memOf_vb ?_
    apply List.ext_getElem?
    intro j
    simp only [List.getElem?_map, List.getElem?_set]
    split
    · rename_i e; subst e
      simp [hxl, hxe, SB.blk, vb, h1]
    · rfl
  have hext : Ext mem (mem.set id { x with cells := cs }) := by
    intro j y hy
    by_cases e : id = j
    · subst e
      rw [hx] at hy; cases hy
      refine ⟨{ x with cells := cs }, by simp [hxl], rfl, rfl, rfl, rfl, ?_, fun hl' => absurd hl' hl⟩
      have := congrArg List.length h1
      simpa using this
    · exact ⟨y, by rw [List.getElem?_set_ne e]; exact hy, SB.Is.refl y⟩
  have HM : MemOk (mem.set id { x with cells := cs }) := by
    refine ⟨by rw [hbs]; exact H.nodup, ?_⟩
    rw [hbs]
    intro y hy c hc
    rcases List.mem_or_eq_of_mem_set hy with hy | rfl
    · exact H.ok y hy c hc
    · exact h2 c hc
  exact ⟨hmo, hbs, hext, HM⟩

theorem astM_ok {E : Ctx} {tmps : List V} : ∀ (l : List (List (Nat × Bool) × Nat × Nat × Int)) {mem : List SB}, MemOk mem → ∀ {K : List SB → T}, sat E (astM tmps l mem K) →
    ∃ mem' : List SB, memOf mem' = memOf mem ∧ bsOf mem' = bsOf mem ∧ Ext mem mem' ∧ MemOk mem' ∧ sat E (K mem')
  | [], mem, H, K, h => ⟨mem, rfl, rfl, Ext.refl _, H, h⟩
  | (sl, id, c, n) :: r, mem, H, K, h => by
    simp only [astM] at h
    split at h
    · split at h
      · rename_i x hx
        split at h
        · exact h.elim
        · rename_i hl
          split at h
          · rename_i kd y hc
            obtain ⟨hp, h⟩ := h
            have hev : y.ev = n := by
              have := (B.pr_ev (.eq y (.lit n))).1 hp
              simpa [B.ev, X.ev] using this
            obtain ⟨hcl, hce⟩ := List.getElem?_eq_some_iff.1 hc
            have e1 : (x.cells.set c (.int kd (.lit n))).map S.ev = x.cells.map S.ev := by
              apply List.ext_getElem?
              intro j
              simp only [List.getElem?_map, List.getElem?_set]
              split
              · rename_i e; subst e
                simp [hcl, hce, S.ev, X.ev, hev]
              · rfl
            obtain ⟨g1, g2, g3, g4⟩ := setC_ok H hx hl e1 (fun c' hc' => by
              rcases List.mem_or_eq_of_mem_set hc' with h | rfl
              · exact H.ok x (List.mem_of_getElem? hx) c' h
              · exact trivial)
            obtain ⟨m', k1, k2, k3, k4, k5⟩ := astM_ok r g4 h
            exact ⟨m', k1.trans g1, k2.trans g2, g3.trans k3, k4, k5⟩
          · exact h.elim
      · exact h.elim
    · exact astM_ok r H h

theorem fitB_ok {E : Ctx} : ∀ (l : List (Nat × List Sh)) {mem : List SB}, MemOk mem → ∀ {K : List SB → T}, sat E (fitB l mem K) →
    ∃ mem' : List SB, memOf mem' = memOf mem ∧ bsOf mem' = bsOf mem ∧ Ext mem mem' ∧ MemOk mem' ∧ sat E (K mem')
  | [], mem, H, K, h => ⟨mem, rfl, rfl, Ext.refl _, H, h⟩
  | (id, sh) :: r, mem, H, K, h => by
    simp only [fitB] at h
    split at h
    · rename_i x hx
      split at h
      · exact fitB_ok r H h
      · rename_i hl
        obtain ⟨cs, h1, h2, h3⟩ := fitL_ok _ _ (H.ok x (List.mem_of_getElem? hx)) h
        obtain ⟨hxl, hxe⟩ := List.getElem?_eq_some_iff.1 hx
        have hbs : bsOf (mem.set id { x with cells := cs }) = bsOf mem := by
          simp only [bsOf, List.map_set]
          apply List.ext_getElem?
          intro j
          rw [List.getElem?_set]
          split
          · rename_i e; subst e
            simp [hxl, hxe]
          · rfl
        have hmo : memOf (mem.set id { x with cells := cs }) = memOf mem := by
          refine memOf_vb ?_
          apply List.ext_getElem?
          intro j
          simp only [List.getElem?_map, List.getElem?_set]
          split
          · rename_i e; subst e
            simp [hxl, hxe, SB.blk, vb, h1]
          · rfl
        have hext : Ext mem (mem.set id { x with cells := cs }) := by
          intro j y hy
          by_cases e : id = j
          · subst e
            rw [hx] at hy; cases hy
            refine ⟨{ x with cells := cs }, by simp [hxl], rfl, rfl, rfl, rfl, ?_, fun hl' => absurd hl' hl⟩
            have := congrArg List.length h1
            simpa using this
          · exact ⟨y, by rw [List.getElem?_set_ne e]; exact hy, SB.Is.refl y⟩
        have HM : MemOk (mem.set id { x with cells := cs }) := by
          refine ⟨by rw [hbs]; exact H.nodup, ?_⟩
          rw [hbs]
          intro y hy c hc
          rcases List.mem_or_eq_of_mem_set hy with hy | rfl
          · exact H.ok y hy c hc
          · exact h2 c hc
        obtain ⟨m', g1, g2, g3, g4, g5⟩ := fitB_ok r HM h3
        exact ⟨m', g1.trans hmo, g2.trans hbs, hext.trans g3, g4, g5⟩
    · exact fitB_ok r H h

end Go.Proofs.YtogcbmadcgjljaaDoor.Sx
