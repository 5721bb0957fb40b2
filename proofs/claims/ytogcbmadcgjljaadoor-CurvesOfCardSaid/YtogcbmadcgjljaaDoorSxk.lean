/-
  A frame of our own for walks, part k: stores, calls, one operation with its guard, a region's list.
-/
import Derived.Test.YtogcbmadcgjljaaDoorSxj
namespace Go.Proofs.YtogcbmadcgjljaaDoor.Sx
open Go Go.RowKit

variable {P : Program} {ds : List Deferred}

/-! ### stores -/
theorem wev_bind {α β : Type} (s : Sem α) (f : α → Sem β) : ∀ (m : Mem), wev P (s >>= f) m = (wev P s m).bind fun r => wev P (f r.1) r.2 := by
  show ∀ (m : Mem), wev P (s.bind f) m = _
  induction s with
  | pure a => intro m; rfl
  | load md a k ih =>
    intro m
    simp only [Sem.bind, wev]
    split
    · exact ih _ m
    · rfl
  | store md a v k ih =>
    intro m
    simp only [Sem.bind, wev]
    split
    · split
      · exact ih _
      · rfl
    · rfl
  | program k ih => intro m; exact ih P m
  | mark mk k ih => intro m; exact ih m
  | _ => intro m; rfl

theorem nev_wev {α : Type} (s : Sem α) : ∀ {r : α} {m : Mem}, nev P s = some r → wev P s m = some (r, m) := by
  induction s with
  | pure a => intro r m h; cases h; rfl
  | program k ih => intro r m h; exact ih P h
  | mark mk k ih => intro r m h; exact ih h
  | _ => intro r m h; cases h

theorem wev_storeCells {b off : Nat} : ∀ (vs : List Value) (i : Nat) {m : Mem} {x : Blk}, m b = some x → x.own = true → off + i + vs.length ≤ x.cells.size → (∀ v ∈ vs, flat v = true) →
    wev P (storeCells ⟨b, off, none⟩ vs i) m = some ((), m.add b { x with cells := putA x.cells (off + i) vs })
  | [], i, m, x, hm, _, _, _ => by
    simp only [storeCells, putA]
    show some ((), m) = _
    congr 2
    funext k
    simp only [Mem.add]
    split
    · rename_i e; subst e; exact hm
    · rfl
  | v :: vs, i, m, x, hm, ho, hl, hf => by
    simp only [storeCells]
    rw [wev_bind]
    have hfl := hf v (by simp)
    simp only [List.length_cons] at hl
    simp only [store, add_plain, wev, hm, hfl, ho, Bool.and_true, Option.isNone_none, show off + i < x.cells.size by omega, decide_true, if_true, Option.bind_some]
    have hset : (m.set ⟨b, off + i, none⟩ v) b = some { x with cells := x.cells.setIfInBounds (off + i) v } := by
      simp only [Mem.set, if_true, hm, Option.map_some]
    rw [wev_storeCells vs (i + 1) hset ho (by simp; omega) (fun u hu => hf u (by simp [hu]))]
    congr 2
    funext k
    simp only [Mem.add, Mem.set]
    by_cases hk : k = b
    · subst hk; simp only [if_true, putA, ho]; rw [Nat.add_assoc]
    · simp only [hk, if_false]

theorem memOf_set {mem : List SB} (h : (bsOf mem).Nodup) {id : Nat} {x : SB} (hx : mem[id]? = some x) (cs : List S) :
    memOf (mem.set id { x with cells := cs }) = (memOf mem).add x.b ⟨(cs.map S.ev).toArray, x.ty, x.own⟩ ∧ bsOf (mem.set id { x with cells := cs }) = bsOf mem := by
  induction mem generalizing id with
  | nil => simp at hx
  | cons y ys ih =>
    simp only [bsOf, List.map_cons, List.nodup_cons] at h
    cases id with
    | zero =>
      simp at hx; subst hx
      refine ⟨?_, rfl⟩
      funext k
      simp only [memOf, List.set_cons_zero, List.find?_cons, Mem.add]
      by_cases hk : k = y.b
      · subst hk; simp [SB.blk]
      · have : (y.b == k) = false := by simpa using Ne.symm hk
        simp [this, hk]
    | succ n =>
      simp at hx
      obtain ⟨h1, h2⟩ := ih h.2 hx
      have hne : y.b ≠ x.b := by
        intro e
        exact h.1 (by rw [e]; exact List.mem_map.2 ⟨x, List.mem_of_getElem? hx, rfl⟩)
      refine ⟨?_, by simp only [bsOf, List.set_cons_succ, List.map_cons] at h2 ⊢; rw [h2]⟩
      funext k
      have h1' := congrFun h1 k
      simp only [memOf, List.set_cons_succ, List.find?_cons, Mem.add] at h1' ⊢
      by_cases hk : y.b = k
      · subst hk; simp [hne]
      · rw [show (y.b == k) = false by simpa using hk]
        exact h1'

def storeS (P : Program) (mem : List SB) (t : TypeId) (id off : Nat) (cs : List S) : Option (List SB) :=
  match mem[id]?, sizeT P t with
  | some sb, some n => if sb.own && cs.length == n && decide (off + n ≤ sb.cells.length) && !sb.lock then some (mem.set id { sb with cells := putS sb.cells off cs }) else none
  | _, _ => none

theorem storeS_ok {mem : List SB} (H : MemOk mem) {t : TypeId} {id b off : Nat} (hp : (bsOf mem)[id]? = some b) {cs : List S} (hc : ∀ c ∈ cs, c.ok (bsOf mem)) {mem' : List SB}
    (h : storeS P mem t id off cs = some mem') {v : Value} (hv : v.cells = (cs.map S.ev).toArray) (hf : ∀ c ∈ cs, flat c.ev = true) :
    MemOk mem' ∧ bsOf mem' = bsOf mem ∧ Ext mem mem' ∧ wev P (storeVar t ⟨b, off, none⟩ v) (memOf mem) = some ((), memOf mem') := by
  unfold storeS at h
  split at h
  · rename_i sb n hx hn
    split at h
    · rename_i hcond
      simp only [Bool.and_eq_true, beq_iff_eq, decide_eq_true_eq, Bool.not_eq_true'] at hcond
      obtain ⟨⟨⟨h1, h2⟩, h3⟩, h4⟩ := hcond
      cases h
      obtain ⟨e1, e2⟩ := memOf_set H.nodup hx (putS sb.cells off cs)
      obtain ⟨e3, e4⟩ := ok_at H hp hx
      refine ⟨⟨by rw [e2]; exact H.nodup, ?_⟩, e2, Ext.set hx h4 (putS_length _ _ _), ?_⟩
      · intro y hy c hcy
        rw [e2]
        rcases List.mem_or_eq_of_mem_set hy with hy | rfl
        · exact H.ok y hy c hcy
        · exact putS_ok _ _ _ (H.ok sb (List.mem_of_getElem? hx)) hc c hcy
      · unfold storeVar
        rw [wev_bind, nev_wev _ (nev_size hn)]
        simp only [Option.bind_some]
        rw [if_neg (by simp [hv, h2])]
        rw [hv, List.toList_toArray]
        rw [wev_storeCells (cs.map S.ev) 0 e4 h1 (by simp [SB.blk]; omega) (by
          intro u hu
          obtain ⟨c, hc', rfl⟩ := List.mem_map.1 hu
          exact hf c hc')]
        rw [e1, e3]
        simp only [SB.blk, Nat.add_zero, putA_map]
    · cases h
  · cases h

/-- numbers stored to a place that is one of several. -/
def putPxs (n : Nat) (i : X) (len : Nat) : List S → Nat → List (IntKind × X) → Option (List S)
  | cells, _, [] => some cells
  | cells, off, (kd, v) :: r => match putPx1 cells n i kd v off 0 len with
    | some cs => putPxs n i len cs (off + 1) r
    | none => none

def intS (c : IntKind × X) : S := .int c.1 c.2

theorem putS_congr (xs : List S) : ∀ (a b : List S) (off : Nat), a.map S.ev = b.map S.ev → (putS a off xs).map S.ev = (putS b off xs).map S.ev := by
  induction xs with
  | nil => intro a b off h; exact h
  | cons x xs ih =>
    intro a b off h
    simp only [putS]
    exact ih _ _ _ (by simp only [List.map_set, h])

theorem putPxs_ok {bs : List Nat} {n : Nat} (hn : 0 < n) {i : X} (hi : i.ok) {len : Nat} (h0 : 0 ≤ i.ev) (h1 : i.ev < len) : ∀ (vs : List (IntKind × X)) (cells : List S) (off : Nat), (∀ c ∈ cells, c.ok bs) → (∀ v ∈ vs, v.2.ok) → ∀ {cs : List S}, putPxs n i len cells off vs = some cs →
    cs.length = cells.length ∧ (∀ c ∈ cs, c.ok bs) ∧ cs.map S.ev = (putS cells (off + i.ev.toNat * n) (vs.map intS)).map S.ev ∧ (vs ≠ [] → off + i.ev.toNat * n + vs.length ≤ cells.length)
  | [], cells, off, hc, _, cs, h => by
    cases h
    exact ⟨rfl, hc, rfl, fun h => absurd rfl h⟩
  | (kd, v) :: r, cells, off, hc, hv, cs, h => by
    simp only [putPxs] at h
    split at h
    · rename_i c1 h2
      obtain ⟨a1, a2, a3, _, a5⟩ := putPx1_ok hc hn hi (hv (kd, v) (by simp)) len off 0 h2
      have hq : i.ev.toNat < len := by omega
      have hlt := a3 _ hq
      have hev : c1.map S.ev = (cells.set (off + i.ev.toNat * n) (intS (kd, v))).map S.ev := by
        apply List.ext_getElem?
        intro j
        rw [a5 j]
        simp only [List.map_set, List.getElem?_set, List.length_map]
        by_cases hj : off + i.ev.toNat * n = j
        · subst hj
          rw [if_pos ⟨i.ev.toNat, hq, rfl, by simp; omega⟩, if_pos rfl, if_pos hlt]
          rfl
        · rw [if_neg hj, if_neg]
          rintro ⟨q, _, g2, g3⟩
          have : q = i.ev.toNat := by omega
          subst this; exact hj g2.symm
      obtain ⟨b1, b2, b3, b4⟩ := putPxs_ok hn hi h0 h1 r c1 (off + 1) a2 (fun u hu => hv u (by simp [hu])) h
      refine ⟨b1.trans a1, b2, ?_, fun _ => ?_⟩
      · rw [b3]
        simp only [List.map_cons, putS]
        rw [show off + 1 + i.ev.toNat * n = off + i.ev.toNat * n + 1 by omega]
        exact putS_congr _ _ _ _ hev
      · cases r with
        | nil => simp only [List.length_singleton]; omega
        | cons y r =>
          have := b4 (by simp)
          rw [a1] at this
          simp only [List.length_cons] at this ⊢
          omega
    · cases h

def storePx (P : Program) (mem : List SB) (t : TypeId) (id off : Nat) (i : X) (len n : Nat) (vs : List (IntKind × X)) : Option (List SB) :=
  match mem[id]?, sizeT P t with
  | some sb, some k => if sb.own && !sb.lock && decide (0 < n) && !vs.isEmpty && vs.length == k then (putPxs n i len sb.cells off vs).map fun cs => mem.set id { sb with cells := cs } else none
  | _, _ => none

theorem storePx_ok {mem : List SB} (H : MemOk mem) {t : TypeId} {id b off : Nat} (hp : (bsOf mem)[id]? = some b) {i : X} (hi : i.ok) {len n : Nat} (h0 : 0 ≤ i.ev) (h1 : i.ev < len) {vs : List (IntKind × X)} (hv : ∀ v ∈ vs, v.2.ok) {mem' : List SB}
    (h : storePx P mem t id off i len n vs = some mem') {v : Value} (hcv : v.cells = ((vs.map intS).map S.ev).toArray) :
    MemOk mem' ∧ bsOf mem' = bsOf mem ∧ Ext mem mem' ∧ wev P (storeVar t ⟨b, off + i.ev.toNat * n, none⟩ v) (memOf mem) = some ((), memOf mem') := by
  unfold storePx at h
  split at h
  · rename_i sb k hx hn
    split at h
    · rename_i hcond
      simp only [Bool.and_eq_true, Bool.not_eq_true', decide_eq_true_eq, beq_iff_eq, List.isEmpty_eq_false_iff] at hcond
      obtain ⟨⟨⟨⟨c1, c2⟩, c3⟩, c4⟩, c5⟩ := hcond
      cases hcs : putPxs n i len sb.cells off vs with
      | none => rw [hcs] at h; cases h
      | some cs =>
        rw [hcs] at h; cases h
        have hok := H.ok sb (List.mem_of_getElem? hx)
        obtain ⟨a1, a2, a3, a4⟩ := putPxs_ok c3 hi h0 h1 vs sb.cells off hok hv hcs
        have hlt := a4 c4
        -- the plain store at the place that the index names
        have hs : storeS P mem t id (off + i.ev.toNat * n) (vs.map intS) = some (mem.set id { sb with cells := putS sb.cells (off + i.ev.toNat * n) (vs.map intS) }) := by
          simp only [storeS, hx, hn, c1, c2, Bool.not_false, Bool.and_true, List.length_map, c5, beq_self_eq_true, Bool.true_and]
          rw [if_pos (by simp only [decide_eq_true_eq]; omega)]
        obtain ⟨b1, b2, b3, b4⟩ := storeS_ok H hp (cs := vs.map intS) (by intro c hc; obtain ⟨u, hu, rfl⟩ := List.mem_map.1 hc; exact hv u hu) hs (v := v) hcv (by intro c hc; obtain ⟨u, hu, rfl⟩ := List.mem_map.1 hc; rfl)
        obtain ⟨e1, e2⟩ := memOf_set H.nodup hx cs
        obtain ⟨e3, _⟩ := memOf_set H.nodup hx (putS sb.cells (off + i.ev.toNat * n) (vs.map intS))
        refine ⟨⟨by rw [e2]; exact H.nodup, ?_⟩, e2, Ext.set hx c2 a1, ?_⟩
        · intro y hy c hcy
          rw [e2]
          rcases List.mem_or_eq_of_mem_set hy with hy | rfl
          · exact H.ok y hy c hcy
          · exact a2 c hcy
        · rw [b4, e1, e3, a3]
    · cases h
  · cases h

/-! ### calls -/
def toAs : List V → Option (List A)
  | [] => some []
  | .a x :: r => (toAs r).map (x :: ·)
  | _ => none

theorem toAs_ok : ∀ (l : List V) {r : List A}, toAs l = some r → l = r.map V.a
  | [], r, h => by cases h; rfl
  | .a x :: l, r, h => by
    simp only [toAs] at h
    cases hr : toAs l with
    | none => rw [hr] at h; cases h
    | some q => rw [hr] at h; cases h; simp [← toAs_ok l hr]
  | .tup x :: l, r, h => by cases h

def capA (c : Nat × Nat × Nat) : A := .s (.ptr c.1 c.2.1 c.2.2)

def w64 : Int := 18446744073709551616
theorem w64_eq : w64 = 18446744073709551616 := rfl

def mkMod64 (x : X) : X := match x with | .lit n => .lit (n % w64) | x => if 0 ≤ x.iv.1 && decide (x.iv.2 < w64) then x else .mod x w64
def mkDiv64 (x : X) : X := match x with | .lit n => .lit (n / w64) | x => if 0 ≤ x.iv.1 && decide (x.iv.2 < w64) then .lit 0 else .div x w64

theorem mkMod64_ok {x : X} (h : x.ok) : (mkMod64 x).ok ∧ (mkMod64 x).ev = x.ev % 18446744073709551616 := by
  have hi := X.iv_ok x h
  unfold mkMod64
  split
  · exact ⟨trivial, rfl⟩
  · split
    · rename_i hc
      simp only [Bool.and_eq_true, decide_eq_true_eq] at hc
      have hw := w64_eq
      exact ⟨h, (Int.emod_eq_of_lt (by omega) (by omega)).symm⟩
    · exact ⟨⟨h, by decide⟩, rfl⟩

theorem mkDiv64_ok {x : X} (h : x.ok) : (mkDiv64 x).ok ∧ (mkDiv64 x).ev = x.ev / 18446744073709551616 := by
  have hi := X.iv_ok x h
  unfold mkDiv64
  split
  · exact ⟨trivial, rfl⟩
  · split
    · rename_i hc
      simp only [Bool.and_eq_true, decide_eq_true_eq] at hc
      have hw := w64_eq
      exact ⟨trivial, (Int.ediv_eq_zero_of_lt (by omega) (by omega)).symm⟩
    · exact ⟨⟨h, by decide⟩, rfl⟩

def in64 (x : X) : Bool := decide (0 ≤ x.iv.1) && decide (x.iv.2 < w64)

def symExt (kind : Bool) (args : List A) : Option V :=
  match args with
  | [.s (.int .u64 x), .s (.int .u64 y), .s (.int .u64 c)] =>
    if in64 x && in64 y && decide (0 ≤ c.iv.1) && decide (c.iv.2 ≤ 1) then
      (if kind then
        let s := mkAdd (mkAdd x y) c
        some (.tup [.s (.int .u64 (mkMod64 s)), .s (.int .u64 (mkDiv64 s))])
      else
        let s := mkSub (mkSub x y) c
        some (.tup [.s (.int .u64 (mkMod64 s)), .s (.int .u64 (mkSub (.lit 0) (mkDiv64 s)))]))
    else none
  | _ => none

theorem symExt_ok {bs : List Nat} {f : FuncId} {kind : Bool} (hE : ExtOk P f kind) {args : List A} (ha : ∀ a ∈ args, a.ok bs) {v : V} (h : symExt kind args = some v) (m : Mem) :
    v.ok bs ∧ qev P (callFunc f (args.map A.ev).toArray) m = some (.value v.ev) := by
  unfold symExt at h
  split at h
  · rename_i x y c
    have hx : x.ok := ha (.s (.int .u64 x)) (by simp)
    have hy : y.ok := ha (.s (.int .u64 y)) (by simp)
    have hc : c.ok := ha (.s (.int .u64 c)) (by simp)
    have ix := X.iv_ok x hx; have iy := X.iv_ok y hy; have ic := X.iv_ok c hc
    split at h
    · rename_i hcond
      simp only [Bool.and_eq_true, decide_eq_true_eq, in64] at hcond
      have hw := w64_eq
      split at h
      · rename_i hk
        cases h
        have hk' : kind = true := hk
        subst hk'
        obtain ⟨a1, a2⟩ := mkAdd_ok hx hy
        obtain ⟨a3, a4⟩ := mkAdd_ok a1 hc
        obtain ⟨b1, b2⟩ := mkMod64_ok a3
        obtain ⟨c1, c2⟩ := mkDiv64_ok a3
        refine ⟨?_, ?_⟩
        · intro z hz
          rcases List.mem_cons.1 hz with rfl | hz
          · exact b1
          · rcases List.mem_cons.1 hz with rfl | hz
            · exact c1
            · cases hz
        · simp only [List.map_cons, List.map_nil, A.ev, S.ev, V.ev, b2, c2, a4, a2]
          exact ext_add hE (by omega) (by omega) (by omega) (by omega) (by omega) (by omega) m
      · rename_i hk
        cases h
        have hk' : kind = false := by simpa using hk
        subst hk'
        obtain ⟨a1, a2⟩ := mkSub_ok hx hy
        obtain ⟨a3, a4⟩ := mkSub_ok a1 hc
        obtain ⟨b1, b2⟩ := mkMod64_ok a3
        obtain ⟨c1, c2⟩ := mkDiv64_ok a3
        obtain ⟨d1, d2⟩ := mkSub_ok (a := .lit 0) trivial c1
        refine ⟨?_, ?_⟩
        · intro z hz
          rcases List.mem_cons.1 hz with rfl | hz
          · exact b1
          · rcases List.mem_cons.1 hz with rfl | hz
            · exact d1
            · cases hz
        · simp only [List.map_cons, List.map_nil, A.ev, S.ev, V.ev, b2, d2, c2, a4, a2]
          exact ext_sub hE (by omega) (by omega) (by omega) (by omega) (by omega) (by omega) m
    · cases h
  · cases h

def callable (P : Program) (f : FuncId) : Bool :=
  match P.funcs[f]? with
  | some fn => !(fn.name == "runtime.NumGoroutine") && fn.body.isSome
  | none => false

/-! ### a call that turns nothing -/
def S.plain : S → Bool
  | .int .. => true
  | .bool _ => true
  | .raw _ => true
  | _ => false
def A.plain : A → Bool
  | .s x => x.plain
  | .agg xs => xs.all S.plain
def V.plain : V → Bool
  | .a x => x.plain
  | .tup xs => xs.all A.plain

theorem S.plain_ok {bs bs' : List Nat} {x : S} (h : x.plain = true) (hx : x.ok bs) : x.ok bs' := by
  cases x <;> first | exact hx | cases h
theorem A.plain_ok {bs bs' : List Nat} {x : A} (h : x.plain = true) (hx : x.ok bs) : x.ok bs' := by
  cases x with
  | s x => exact S.plain_ok h hx
  | agg xs => exact fun c hc => S.plain_ok (List.all_eq_true.1 h c hc) (hx c hc)
theorem V.plain_ok {bs bs' : List Nat} {x : V} (h : x.plain = true) (hx : x.ok bs) : x.ok bs' := by
  cases x with
  | a x => exact A.plain_ok h hx
  | tup xs => exact fun c hc => A.plain_ok (List.all_eq_true.1 h c hc) (hx c hc)

/-- the same blocks, none of which may be written. -/
def frz (mem : List SB) : List SB := mem.map fun x => { x with own := false }

theorem bsOf_frz (mem : List SB) : bsOf (frz mem) = bsOf mem := by simp [bsOf, frz, List.map_map, Function.comp_def]

theorem frz_ok {mem : List SB} (H : MemOk mem) : MemOk (frz mem) := by
  refine ⟨by rw [bsOf_frz]; exact H.nodup, fun y hy c hc => ?_⟩
  obtain ⟨x, hx, rfl⟩ := List.mem_map.1 hy
  rw [bsOf_frz]
  exact H.ok x hx c hc

theorem frz_get {mem : List SB} {b : Nat} {x : Blk} (h : memOf (frz mem) b = some x) : x.own = false ∧ ∃ y, memOf mem b = some y ∧ y.cells = x.cells ∧ y.ty = x.ty := by
  simp only [memOf, frz, List.find?_map, Option.map_map] at h
  rw [Option.map_eq_some_iff] at h
  obtain ⟨z, hz, rfl⟩ := h
  refine ⟨rfl, z.blk, ?_, rfl, rfl⟩
  have : mem.find? (fun x => x.b == b) = some z := hz
  simp only [memOf, this, Option.map_some]

theorem frz_holds {w0 w : World} {mem : List SB} (h : Holds w0 (memOf mem) w) : Holds w (memOf (frz mem)) w := by
  refine ⟨Sm.refl w, h.sm.j h.j, fun b x hx => ?_⟩
  obtain ⟨h1, y, h2, h3, h4⟩ := frz_get hx
  obtain ⟨fr, cs, ty, h5, h6, _⟩ := h.blk b y h2
  exact ⟨fr, cs, ty, h5, by rw [← h3]; exact h6, fun e => by rw [h1] at e; cases e⟩

/-- which function a value is, and what is bound to it. -/
def fnOf : V → Option (FuncId × List A × List (Nat × Nat × Nat))
  | .a (.s (.fn f caps)) => some (f, [], caps)
  | .a (.s (.mth f ks)) => some (f, [.agg (ks.map fun c => .int c.1 c.2)], [])
  | _ => none

theorem fnOf_ok {bs : List Nat} {v : V} {f : FuncId} {pre : List A} {caps : List (Nat × Nat × Nat)} (hv : v.ok bs) (h : fnOf v = some (f, pre, caps)) :
    v.ev = .func (.func f) (pre.map A.ev).toArray (caps.map capVal).toArray ∧ (∀ a ∈ pre, a.ok bs) ∧ ∀ c ∈ caps, bs[c.1]? = some c.2.1 := by
  unfold fnOf at h
  split at h
  · cases h
    exact ⟨rfl, (fun a ha => by cases ha), hv⟩
  · rename_i f' ks
    cases h
    refine ⟨?_, ?_, (fun c hc => by cases hc)⟩
    · simp only [V.ev, A.ev, S.ev, List.map_cons, List.map_nil, List.map_map]
      rfl
    · intro a ha
      simp only [List.mem_singleton] at ha
      subst ha
      intro c hc
      obtain ⟨d, hd, rfl⟩ := List.mem_map.1 hc
      exact hv d hd
  · cases h

/-! ### the ways of a call that tells a truth come together again -/
def notB (b : B) : B :=
  match b with
  | .not c => c
  | .lit c => .lit (!c)
  | b => .not b

/-- what a tree tells whose ends are truths. -/
def joinT : T → Option B
  | .is b => some b
  | .must _ t => joinT t
  | .newb k => joinT (k 0)
  | .ite c t e => match joinT t, joinT e with
    | some (.lit true), some y => some (notB (.and (notB c) (notB y)))
    | some (.lit false), some y => some (.and (notB c) y)
    | some x, some y => some (notB (.and (notB (.and c x)) (notB (.and (notB c) y))))
    | _, _ => none
  | _ => none

def markK (v : V) : T :=
  match v with
  | .a (.s (.bool b)) => .is b
  | _ => .fail "no truth"

def isK (b : B) (v : V) : T :=
  match v with
  | .a (.s (.bool (.lit true))) => .is b
  | .a (.s (.bool (.lit false))) => .is (.not b)
  | .a (.s (.bool x)) => .is (.beq x b)
  | _ => .fail "no truth"

theorem isK_ok {E : Ctx} {b : B} {v : V} (h : sat E (isK b v)) : v.ev = .bool b.ev := by
  unfold isK at h
  split at h
  · have := (B.pr_ev b).1 h
    simp only [V.ev, A.ev, S.ev, B.ev, this]
  · have := (B.pr_ev (.not b)).1 h
    simp only [B.ev, Bool.not_eq_true'] at this
    simp only [V.ev, A.ev, S.ev, B.ev, this]
  · rename_i x _ _
    have := (B.pr_ev (.beq x b)).1 h
    simp only [B.ev, beq_iff_eq] at this
    simp only [V.ev, A.ev, S.ev, this]
  · exact h.elim

def mergeT (inl : Inl) (f : FuncId) (xs : List A) (mem : List SB) (K : V → List SB → T) : T :=
  match joinT (inl f xs (frz mem) fun v _ => markK v) with
  | some b => .both (inl f xs (frz mem) fun v _ => isK b v) (.ite b (K (.a (.s (.bool (.lit true)))) mem) (K (.a (.s (.bool (.lit false)))) mem))
  | none => .fail "no truth"

def isLits : List (IntKind × Int) → List A → Bool
  | [], [] => true
  | c :: cs, .s (.int k (.lit n)) :: xs => c.1 == k && c.2 == n && isLits cs xs
  | _, _ => false

theorem isLits_ok : ∀ {cs : List (IntKind × Int)} {xs : List A}, isLits cs xs = true → xs.map A.ev = cs.map litV
  | [], [], _ => rfl
  | [], _ :: _, h => by cases h
  | c :: cs, [], h => by cases h
  | c :: cs, x :: xs, h => by
    match x, h with
    | .s (.int k (.lit n)), h =>
      simp only [isLits, Bool.and_eq_true, beq_iff_eq] at h
      obtain ⟨⟨h1, h2⟩, h3⟩ := h
      subst h1; subst h2
      simp only [List.map_cons, isLits_ok h3]
      rfl

/-- a slice that is made: its block is new, and is not written. -/
def newT (x : New) (xs : List A) (mem : List SB) (K : V → List SB → T) : T :=
  if isLits x.args xs then .newb fun b => .newb fun cap => K (.a (.s (.sl mem.length b 0 x.len cap))) (mem ++ [⟨b, x.cells.map litS, 0, false, false⟩])
  else .fail "the numbers that a slice is made of"

def symCall (P : Program) (tab : Tab) (inl : Inl) (draw : Lv) (fv : V) (args : List V) (mem : List SB) (K : V → List SB → T) : T :=
  match fnOf fv, toAs args with
  | some (f, pre, caps), some xs =>
    let xs := pre ++ xs ++ caps.map capA
    match tab.ext f with
    | some kind => match symExt kind xs with
      | some v => K v mem
      | none => .fail "extern"
    | none =>
      match tab.con f with
      | some (ash, sh) => bindAs xs fun xs => fitAs ash xs fun xs => if takesAs ash xs then .pre f xs (sh.all fun v => .post f xs v (K v mem)) else .fail "the shapes of the arguments"
      | none => if callable P f then match draw with
          | .no => .fail "a call in a region that draws"
          | .near => if tab.mrgs.contains f then bindAs xs fun xs => mergeT inl f xs mem K else bindAs xs fun xs => inl f xs (frz mem) fun v _ => if v.plain then K v mem else .fail "a call in a region that draws"
          | .all => match tab.new f with
            | some x => newT x xs mem K
            | none => if tab.mrgs.contains f then bindAs xs fun xs => mergeT inl f xs mem K else bindAs xs fun xs => inl f xs mem K
        else .fail "no such function"
  | _, _ => .fail "call"

def InlOk (P : Program) (w0 : World) (E : Ctx) (inl : Inl) : Prop :=
  ∀ f args mem (K : V → List SB → T) (Kd : Value → Mem → Prop), sat E (inl f args mem K) → MemOk mem → (∀ a ∈ args, a.ok (bsOf mem)) →
    (∀ v mem', Ext mem mem' → MemOk mem' → v.ok (bsOf mem') → sat E (K v mem') → Kd v.ev (memOf mem')) → Gen P w0 f (args.map A.ev).toArray (memOf mem) Kd

theorem mergeT_ok {E : Ctx} {w0 : World} {inl : Inl} (hI : ∀ w0, InlOk P w0 E inl) {f : FuncId} {xs : List A} {mem : List SB} (H : MemOk mem) (hx : ∀ a ∈ xs, a.ok (bsOf mem)) {K : V → List SB → T} (h : sat E (mergeT inl f xs mem K)) :
    ∃ b : Bool, sat E (K (.a (.s (.bool (.lit b)))) mem) ∧ ∀ w, Holds w0 (memOf mem) w → Calls P f (xs.map A.ev).toArray w fun e w' => ∃ v, e = .returned v ∧ v = .bool b ∧ Sm w w' := by
  unfold mergeT at h
  split at h
  · rename_i b hb
    obtain ⟨h1, h2⟩ := h
    refine ⟨b.ev, ?_, fun w Hw => ?_⟩
    · cases hc : b.ev with
      | true => exact ite_true h2 hc
      | false => exact ite_false h2 hc
    · have := hI w f xs (frz mem) _ (fun v _ => v = .bool b.ev) h1 (frz_ok H) (by rw [bsOf_frz]; exact hx) (fun v mem' _ _ _ hs => isK_ok hs) w (frz_holds Hw)
      refine this.mono ?_
      rintro e w' ⟨v, m', h5, h6, h7⟩
      exact ⟨_, h5, h7, h6.sm⟩
  · exact h.elim

theorem lits_ev (cs : List (IntKind × Int)) : (cs.map litS).map S.ev = cs.map litV := by
  rw [List.map_map]; rfl

theorem newT_ok {E : Ctx} {w0 : World} {f : FuncId} {x : New} (hN : NewOk P f x) {xs : List A} {mem : List SB} (H : MemOk mem) {K : V → List SB → T} (h : sat E (newT x xs mem K)) {Kd : Value → Mem → Prop}
    (hk : ∀ v mem', Ext mem mem' → MemOk mem' → v.ok (bsOf mem') → sat E (K v mem') → Kd v.ev (memOf mem')) : Gen P w0 f (xs.map A.ev).toArray (memOf mem) Kd := by
  unfold newT at h
  split at h
  · rename_i hl
    rw [isLits_ok hl]
    intro w Hw
    refine (hN w (Hw.sm.j Hw.j)).mono ?_
    rintro e w' ⟨b, cap, rfl, hs, hb, fr, cs, ty, hc, hp⟩
    have hfr : b ∉ bsOf mem := by
      intro hm
      obtain ⟨y, hy, e⟩ := List.mem_map.1 hm
      obtain ⟨id, hid⟩ := List.mem_iff_getElem?.1 hy
      have := Hw.size (memOf_get H.nodup hid)
      have e' : y.b = b := e
      omega
    have hbs : bsOf (mem ++ [⟨b, x.cells.map litS, 0, false, false⟩]) = bsOf mem ++ [b] := by simp [bsOf]
    refine ⟨_, _, rfl, ?_, hk _ _ (Ext.snoc mem _) ⟨?_, ?_⟩ ?_ (h b cap)⟩
    · rw [memOf_snoc (by exact hfr)]
      have Hw' := Hw.sub hs
      refine ⟨Hw'.sm, Hw'.j, fun c y hy => ?_⟩
      simp only [Mem.add] at hy
      split at hy
      · rename_i e; subst e
        cases hy
        refine ⟨fr, cs, ty, hc, ?_, fun h => by cases h⟩
        simp only [SB.blk, List.getElem?_toArray, lits_ev]
        exact hp
      · exact Hw'.blk c y hy
    · rw [hbs]
      refine List.nodup_append.2 ⟨H.nodup, by simp, ?_⟩
      intro a ha c hc e
      rw [List.mem_singleton.1 hc] at e
      exact hfr (e ▸ ha)
    · intro y hy c hc
      rcases List.mem_append.1 hy with hy | hy
      · exact S.ok_mono (hbs ▸ List.prefix_append _ _) (H.ok y hy c hc)
      · rw [List.mem_singleton.1 hy] at hc
        obtain ⟨d, _, rfl⟩ := List.mem_map.1 hc
        trivial
    · show (bsOf _)[mem.length]? = some b
      rw [hbs, List.getElem?_append_right (by simp [bsOf])]
      simp [bsOf]
  · exact h.elim

theorem qev_call {f : Operand} {args : Array Operand} {ts : Array TypeId} {ρ : Operand → Value} {fid : FuncId} {pre caps : Array Value} (hf : ρ f = .func (.func fid) pre caps)
    (dst : Option Tmp) (ty : TypeId) (pos : String) (after : Array Edge) (guard : Option (Nat × Bool)) (m : Mem) :
    qev P (execOp ρ { dst, op := .call { callee := .value f, args, argTypes := ts }, type := ty, pos, after, guard }) m = qev P (callFunc fid (pre ++ args.map ρ ++ caps)) m := by
  simp only [execOp, resolve, hf, Deferred.ofValue]
  rw [qev_bind]
  simp only [qev_pure, Option.bind_some, invoke]

theorem symCall_ok {tab : Tab} {E : Ctx} (hV : Valid P tab E) {w0 : World} {inl : Inl} (hI : ∀ w0, InlOk P w0 E inl) {draw : Lv} {mem : List SB} (H : MemOk mem) {tmps : List V} (ht : ∀ v ∈ tmps, v.ok (bsOf mem))
    {f : Operand} {args : Array Operand} {ts : Array TypeId} {dst : Option Tmp} {ty : TypeId} {pos : String} {after : Array Edge} {guard : Option (Nat × Bool)} {K : V → List SB → T}
    (h : sat E (symCall P tab inl draw (opv tmps f) (args.toList.map (opv tmps)) mem K)) {Kd : Act → Mem → Prop}
    (hk : ∀ v mem', Ext mem mem' → MemOk mem' → v.ok (bsOf mem') → sat E (K v mem') → Kd ((actOf ds tmps).put dst v.ev) (memOf mem')) :
    opD P w0 (gam tab E) draw { dst, op := .call { callee := .value f, args, argTypes := ts }, type := ty, pos, after, guard } Kd (actOf ds tmps) (memOf mem) := by
  unfold symCall at h
  split at h
  · rename_i fid pre caps xs hf has
    obtain ⟨hfe, hpre, hcaps⟩ := fnOf_ok (opv_ok ht f) hf
    have hargs := toAs_ok _ has
    have hasok : ∀ a ∈ pre ++ xs ++ caps.map capA, a.ok (bsOf mem) := by
      intro a ha
      rw [List.append_assoc] at ha
      rcases List.mem_append.1 ha with ha | ha
      · exact hpre a ha
      rcases List.mem_append.1 ha with ha | ha
      · have : V.a a ∈ args.toList.map (opv tmps) := by rw [hargs]; exact List.mem_map.2 ⟨a, ha, rfl⟩
        obtain ⟨x, _, hx⟩ := List.mem_map.1 this
        have := opv_ok ht x
        rw [hx] at this; exact this
      · obtain ⟨c, hc, rfl⟩ := List.mem_map.1 ha
        exact hcaps c hc
    have hfv : (actOf ds tmps).eval f = .func (.func fid) (pre.map A.ev).toArray (caps.map capVal).toArray := by rw [opv_ev, hfe]
    have hav : (pre.map A.ev).toArray ++ args.map (actOf ds tmps).eval ++ (caps.map capVal).toArray = ((pre ++ xs ++ caps.map capA).map A.ev).toArray := by
      apply Array.ext'
      have e1 : args.toList.map (actOf ds tmps).eval = xs.map A.ev := by
        have : args.toList.map (actOf ds tmps).eval = (args.toList.map (opv tmps)).map V.ev := by
          rw [List.map_map]; exact List.map_congr_left fun x _ => opv_ev tmps x
        rw [this, hargs, List.map_map]; rfl
      simp only [Array.toList_append, Array.toList_map, e1, List.map_append, List.map_map]
      rfl
    have hq := qev_call (P := P) (args := args) (ts := ts) hfv dst ty pos after guard (memOf mem)
    rw [hav] at hq
    unfold opD
    simp only [cls]
    simp only at h
    split at h
    · rename_i kind hkind
      split at h
      · rename_i v hv
        obtain ⟨h1, h2⟩ := symExt_ok (hV.ext fid kind hkind) hasok hv (memOf mem)
        exact ⟨_, hq.trans h2, hk v mem (Ext.refl _) H h1 h⟩
      · exact h.elim
    · split at h
      · rename_i ash sh hsh
        obtain ⟨xs0, k1, k2, k3⟩ := bindAs_ok _ hasok h
        obtain ⟨xs', h1, h2, h3⟩ := fitAs_ok _ _ k2 k3
        rw [k1] at h1
        split at h3
        · rename_i htk
          obtain ⟨⟨fn, c, hfn, hnm, hbd⟩, hpure⟩ := hV.con fid ash sh hsh
          obtain ⟨hpre, hall⟩ := h3
          rw [← h1] at hq
          have hints : xs'.map A.ints = (xs'.map A.ev).map vints := by rw [List.map_map]; rfl
          refine ⟨_, hq.trans (qev_callFunc hfn hnm hbd _ _), Or.inl ⟨(hpure _ (takesAs_fits htk h2) (by rw [← hints]; exact hpre)).mono fun v ⟨a, b⟩ => ⟨ash, sh, hsh, a, b⟩, ?_⟩⟩
          rintro v ⟨ash', sh', hsh', hfit, hpost⟩
          rw [hsh] at hsh'; cases hsh'
          obtain ⟨y, rfl, hy2, hy3⟩ := ShV.all_ok hall hfit (bsOf mem)
          exact hk y mem (Ext.refl _) H hy2 (hy3 (by rw [hints]; exact hpost))
        · exact h3.elim
      · split at h
        · rename_i hc
          unfold callable at hc
          split at hc
          · rename_i fn hfn
            simp only [Bool.and_eq_true, Bool.not_eq_true'] at hc
            obtain ⟨hnm, hbd⟩ := hc
            obtain ⟨c, hbd⟩ := Option.isSome_iff_exists.1 hbd
            have hm : ∀ (g : Lv), g ≠ .no → ∀ {T' : T}, sat E (bindAs (pre ++ xs ++ caps.map capA) fun xs => mergeT inl fid xs mem K) →
                ∃ r, qev P (execOp (actOf ds tmps).eval { dst, op := .call { callee := .value f, args, argTypes := ts }, type := ty, pos, after, guard }) (memOf mem) = some r ∧ uponD P w0 (gam tab E) g dst Kd (actOf ds tmps) (memOf mem) r := by
              intro g hg _ h
              obtain ⟨xs', h1, h2, h3⟩ := bindAs_ok _ hasok h
              rw [← h1] at hq
              obtain ⟨b, g1, g2⟩ := mergeT_ok (w0 := w0) hI H h2 h3
              refine ⟨_, hq.trans (qev_callFunc hfn hnm hbd _ _), Or.inr (Or.inr ⟨hg, fun w Hw => ?_⟩)⟩
              refine (g2 w Hw).mono ?_
              rintro e w' ⟨v, h5, rfl, h7⟩
              exact ⟨_, h5, hk (.a (.s (.bool (.lit b)))) mem (Ext.refl _) H trivial g1, h7⟩
            split at h
            · exact h.elim
            · split at h
              · exact hm _ (by simp) (T' := .fail "") h
              obtain ⟨xs', h1, h2, h3⟩ := bindAs_ok _ hasok h
              rw [← h1] at hq
              refine ⟨_, hq.trans (qev_callFunc hfn hnm hbd _ _), Or.inr (Or.inr ⟨by simp, fun w Hw => ?_⟩)⟩
              have := hI w fid xs' (frz mem) _ (fun v _ => ∃ y : V, y.ev = v ∧ y.ok (bsOf mem) ∧ sat E (K y mem)) h3 (frz_ok H) (by rw [bsOf_frz]; exact h2) (by
                intro v mem' _ _ hv hs
                split at hs
                · rename_i hp
                  exact ⟨v, rfl, V.plain_ok hp hv, hs⟩
                · exact hs.elim) w (frz_holds Hw)
              refine this.mono ?_
              rintro e w' ⟨v, m', h5, h6, y, rfl, h8, h9⟩
              exact ⟨_, h5, hk y mem (Ext.refl _) H h8 h9, h6.sm⟩
            · split at h
              · rename_i nw hnw
                exact ⟨_, hq.trans (qev_callFunc hfn hnm hbd _ _), Or.inr (Or.inl ⟨rfl, newT_ok (hV.new fid nw hnw) H h hk⟩)⟩
              split at h
              · exact hm _ (by simp) (T' := .fail "") h
              obtain ⟨xs', h1, h2, h3⟩ := bindAs_ok _ hasok h
              rw [← h1] at hq
              refine ⟨_, hq.trans (qev_callFunc hfn hnm hbd _ _), Or.inr (Or.inl ⟨rfl, ?_⟩)⟩
              exact hI _ _ _ _ _ _ h3 H h2 hk
          · cases hc
        · exact h.elim
  · exact h.elim

/-! ### builtins -/
def mkMax (a b : X) : X :=
  match a, b with
  | .lit m, .lit n => .lit (Max.max m n)
  | a, b => if a.iv.2 ≤ b.iv.1 then b else if b.iv.2 ≤ a.iv.1 then a else .max a b
def mkMin (a b : X) : X :=
  match a, b with
  | .lit m, .lit n => .lit (Min.min m n)
  | a, b => if a.iv.2 ≤ b.iv.1 then a else if b.iv.2 ≤ a.iv.1 then b else .min a b

theorem mkMax_ok {a b : X} (ha : a.ok) (hb : b.ok) : (mkMax a b).ok ∧ (mkMax a b).ev = Max.max a.ev b.ev := by
  have h1 := X.iv_ok a ha; have h2 := X.iv_ok b hb
  unfold mkMax
  split
  · exact ⟨trivial, rfl⟩
  · split
    · exact ⟨hb, by omega⟩
    · split
      · exact ⟨ha, by omega⟩
      · exact ⟨⟨ha, hb⟩, rfl⟩
theorem mkMin_ok {a b : X} (ha : a.ok) (hb : b.ok) : (mkMin a b).ok ∧ (mkMin a b).ev = Min.min a.ev b.ev := by
  have h1 := X.iv_ok a ha; have h2 := X.iv_ok b hb
  unfold mkMin
  split
  · exact ⟨trivial, rfl⟩
  · split
    · exact ⟨ha, by omega⟩
    · split
      · exact ⟨hb, by omega⟩
      · exact ⟨⟨ha, hb⟩, rfl⟩

def foldX (f : X → X → X) : X → List V → Option X
  | x, [] => some x
  | x, .a (.s (.int _ y)) :: r => foldX f (f x y) r
  | _, _ => none

theorem foldX_max {bs : List Nat} {k : IntKind} (m : Mem) : ∀ (l : List V) (x : X), x.ok → (∀ v ∈ l, v.ok bs) → ∀ {r : X}, foldX mkMax x l = some r →
    r.ok ∧ qev P ((l.map V.ev).foldlM Builtin.max2 (.int k x.ev)) m = some (.int k r.ev)
  | [], x, hx, _, r, h => by cases h; exact ⟨hx, rfl⟩
  | .a (.s (.int k' y)) :: l, x, hx, hl, r, h => by
    have hy : y.ok := hl (.a (.s (.int k' y))) (by simp)
    obtain ⟨h1, h2⟩ := mkMax_ok hx hy
    obtain ⟨h3, h4⟩ := foldX_max m l _ h1 (fun v hv => hl v (by simp [hv])) h
    refine ⟨h3, ?_⟩
    simp only [List.map_cons, List.foldlM_cons, V.ev, A.ev, S.ev]
    rw [qev_bind]
    have : qev P (Builtin.max2 (.int k x.ev) (.int k' y.ev)) m = some (.int k (mkMax x y).ev) := by
      simp only [Builtin.max2, qev_pure, h2]
      congr 2
      split <;> omega
    rw [this]
    exact h4
  | .a (.s (.bool _)) :: l, x, _, _, r, h => by cases h
  | .a (.s (.ptr _ _ _)) :: l, x, _, _, r, h => by cases h
  | .a (.s (.raw _)) :: l, x, _, _, r, h => by cases h
  | .a (.s (.fn _ _)) :: l, x, _, _, r, h => by cases h
  | .a (.s (.sl _ _ _ _ _)) :: l, x, _, _, r, h => by cases h
  | .a (.s (.px _ _ _ _ _ _)) :: l, x, _, _, r, h => by cases h
  | .a (.s (.mth _ _)) :: l, x, _, _, r, h => by cases h
  | .a (.agg _) :: l, x, _, _, r, h => by cases h
  | .tup _ :: l, x, _, _, r, h => by cases h

theorem foldX_min {bs : List Nat} {k : IntKind} (m : Mem) : ∀ (l : List V) (x : X), x.ok → (∀ v ∈ l, v.ok bs) → ∀ {r : X}, foldX mkMin x l = some r →
    r.ok ∧ qev P ((l.map V.ev).foldlM Builtin.min2 (.int k x.ev)) m = some (.int k r.ev)
  | [], x, hx, _, r, h => by cases h; exact ⟨hx, rfl⟩
  | .a (.s (.int k' y)) :: l, x, hx, hl, r, h => by
    have hy : y.ok := hl (.a (.s (.int k' y))) (by simp)
    obtain ⟨h1, h2⟩ := mkMin_ok hx hy
    obtain ⟨h3, h4⟩ := foldX_min m l _ h1 (fun v hv => hl v (by simp [hv])) h
    refine ⟨h3, ?_⟩
    simp only [List.map_cons, List.foldlM_cons, V.ev, A.ev, S.ev]
    rw [qev_bind]
    have : qev P (Builtin.min2 (.int k x.ev) (.int k' y.ev)) m = some (.int k (mkMin x y).ev) := by
      simp only [Builtin.min2, qev_pure, h2]
      congr 2
      split <;> omega
    rw [this]
    exact h4
  | .a (.s (.bool _)) :: l, x, _, _, r, h => by cases h
  | .a (.s (.ptr _ _ _)) :: l, x, _, _, r, h => by cases h
  | .a (.s (.raw _)) :: l, x, _, _, r, h => by cases h
  | .a (.s (.fn _ _)) :: l, x, _, _, r, h => by cases h
  | .a (.s (.sl _ _ _ _ _)) :: l, x, _, _, r, h => by cases h
  | .a (.s (.px _ _ _ _ _ _)) :: l, x, _, _, r, h => by cases h
  | .a (.s (.mth _ _)) :: l, x, _, _, r, h => by cases h
  | .a (.agg _) :: l, x, _, _, r, h => by cases h
  | .tup _ :: l, x, _, _, r, h => by cases h

def symBuiltin (P : Program) (b : Builtin) (ts : Array TypeId) (args : List V) : Option S :=
  match b, args with
  | .max, .a (.s (.int k x)) :: r => (foldX mkMax x r).map (.int k)
  | .min, .a (.s (.int k x)) :: r => (foldX mkMin x r).map (.int k)
  | .len, x :: _ =>
    match ts[0]? with
    | some t =>
      match P.underlying t, x with
      | some (.array n _), _ => some (.int .i64 (.lit n))
      | some (.slice _), .a (.s (.sl _ _ _ len _)) => some (.int .i64 (.lit len))
      | _, _ => none
    | none => none
  | _, _ => none

theorem symBuiltin_ok {bs : List Nat} {b : Builtin} {ts : Array TypeId} {args : List V} (ha : ∀ v ∈ args, v.ok bs) {r : S} (h : symBuiltin P b ts args = some r) (ty : TypeId) (cs : Array Bool) (m : Mem) :
    r.ok bs ∧ qev P (builtin b ts ty cs (args.map V.ev).toArray) m = some (.value r.ev) := by
  unfold symBuiltin at h
  split at h
  · rename_i k x l
    cases hf : foldX mkMax x l with
    | none => rw [hf] at h; cases h
    | some y =>
      rw [hf] at h; cases h
      obtain ⟨h1, h2⟩ := foldX_max (k := k) m l x (ha (.a (.s (.int k x))) (by simp)) (fun v hv => ha v (by simp [hv])) hf
      exact ⟨h1, vq (by simpa only [Builtin.max_, List.map_cons, V.ev, A.ev, S.ev] using h2)⟩
  · rename_i k x l
    cases hf : foldX mkMin x l with
    | none => rw [hf] at h; cases h
    | some y =>
      rw [hf] at h; cases h
      obtain ⟨h1, h2⟩ := foldX_min (k := k) m l x (ha (.a (.s (.int k x))) (by simp)) (fun v hv => ha v (by simp [hv])) hf
      exact ⟨h1, vq (by simpa only [Builtin.min_, List.map_cons, V.ev, A.ev, S.ev] using h2)⟩
  · rename_i x l
    split at h
    · rename_i t ht
      split at h
      · rename_i n e hu
        cases h
        refine ⟨trivial, vq ?_⟩
        simp only [Builtin.len_, ht, List.map_cons, List.getElem?_toArray, List.getElem?_cons_zero]
        rw [qev_bind, qev_underlying hu]
        rfl
      · rename_i id b off len cap hu
        cases h
        refine ⟨trivial, vq ?_⟩
        simp only [Builtin.len_, ht, List.map_cons, List.getElem?_toArray, List.getElem?_cons_zero]
        rw [qev_bind, qev_underlying hu]
        rfl
      · cases h
    · cases h
  · cases h

end Go.Proofs.YtogcbmadcgjljaaDoor.Sx
