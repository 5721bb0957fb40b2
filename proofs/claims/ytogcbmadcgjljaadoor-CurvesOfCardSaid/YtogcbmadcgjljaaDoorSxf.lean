/-
  A frame of our own for walks, part f: values over numbers as trees; what an operation that only reads comes to.
-/
import Derived.Test.YtogcbmadcgjljaaDoorSxe
namespace Go.Proofs.YtogcbmadcgjljaaDoor.Sx
open Go Go.RowKit

inductive S where
  | int (k : IntKind) (x : X)
  | bool (b : B)
  | ptr (id b off : Nat)
  | raw (v : Value)
  | fn (f : FuncId) (caps : List (Nat × Nat × Nat))
  | sl (id b off len cap : Nat)
  | px (id b off : Nat) (i : X) (len n : Nat)
  | mth (f : FuncId) (ks : List (IntKind × X))

inductive A where
  | s (x : S)
  | agg (xs : List S)

inductive V where
  | a (x : A)
  | tup (xs : List A)

def capVal (c : Nat × Nat × Nat) : Value := .pointer (some ⟨c.2.1, c.2.2, none⟩)

def intVal (c : IntKind × X) : Value := .int c.1 c.2.ev

def S.ev : S → Value
  | .int k x => .int k x.ev
  | .bool b => .bool b.ev
  | .ptr _ b off => .pointer (some ⟨b, off, none⟩)
  | .raw v => v
  | .fn f caps => .func (.func f) #[] (caps.map capVal).toArray
  | .sl _ b off len cap => .slice (some ⟨b, off, none⟩) len cap
  | .px _ b off i _ n => .pointer (some ⟨b, off + i.ev.toNat * n, none⟩)
  | .mth f ks => .func (.func f) #[.agg (ks.map intVal).toArray] #[]

def S.ok (bs : List Nat) : S → Prop
  | .int _ x => x.ok
  | .bool b => b.ok
  | .ptr id b _ => bs[id]? = some b
  | .raw _ => True
  | .fn _ caps => ∀ c ∈ caps, bs[c.1]? = some c.2.1
  | .sl id b _ _ _ => bs[id]? = some b
  | .px id b _ i len _ => bs[id]? = some b ∧ i.ok ∧ 0 ≤ i.ev ∧ i.ev < len
  | .mth _ ks => ∀ c ∈ ks, c.2.ok

def S.fl : S → Bool
  | .raw v => flat v
  | _ => true

def A.ev : A → Value
  | .s x => x.ev
  | .agg xs => .agg (xs.map S.ev).toArray

def A.ok (bs : List Nat) : A → Prop
  | .s x => x.ok bs
  | .agg xs => ∀ x ∈ xs, x.ok bs

def A.cells : A → List S
  | .s x => [x]
  | .agg xs => xs

def A.fl : A → Bool
  | .s x => x.fl
  | .agg _ => true

def V.ev : V → Value
  | .a x => x.ev
  | .tup xs => .tuple (xs.map A.ev).toArray

def V.ok (bs : List Nat) : V → Prop
  | .a x => x.ok bs
  | .tup xs => ∀ x ∈ xs, x.ok bs

theorem prefix_get {bs bs' : List Nat} (h : bs <+: bs') {i b : Nat} (hi : bs[i]? = some b) : bs'[i]? = some b := by
  obtain ⟨t, rfl⟩ := h
  rw [List.getElem?_append_left (List.getElem?_eq_some_iff.1 hi).1]; exact hi

theorem S.ok_mono {bs bs' : List Nat} (h : bs <+: bs') : ∀ {x : S}, x.ok bs → x.ok bs'
  | .int _ _, hx => hx
  | .bool _, hx => hx
  | .ptr _ _ _, hx => prefix_get h hx
  | .raw _, _ => trivial
  | .fn _ _, hx => fun c hc => prefix_get h (hx c hc)
  | .sl _ _ _ _ _, hx => prefix_get h hx
  | .px _ _ _ _ _ _, hx => ⟨prefix_get h hx.1, hx.2⟩
  | .mth _ _, hx => hx

theorem A.ok_mono {bs bs' : List Nat} (h : bs <+: bs') : ∀ {x : A}, x.ok bs → x.ok bs'
  | .s _, hx => S.ok_mono h hx
  | .agg _, hx => fun c hc => S.ok_mono h (hx c hc)

theorem V.ok_mono {bs bs' : List Nat} (h : bs <+: bs') : ∀ {x : V}, x.ok bs → x.ok bs'
  | .a _, hx => A.ok_mono h hx
  | .tup _, hx => fun c hc => A.ok_mono h (hx c hc)

theorem S.fl_flat : ∀ {x : S}, x.fl = true → flat x.ev = true
  | .int _ _, _ => rfl
  | .bool _, _ => rfl
  | .ptr _ _ _, _ => rfl
  | .raw _, h => h
  | .fn _ _, _ => rfl
  | .sl _ _ _ _ _, _ => rfl
  | .px _ _ _ _ _ _, _ => rfl
  | .mth _ _, _ => rfl

theorem A.ev_cells {x : A} (h : x.fl = true) : x.ev.cells = (x.cells.map S.ev).toArray := by
  cases x with
  | s x =>
    have := S.fl_flat (x := x) h
    simp only [A.ev, A.cells]
    cases hx : x.ev <;> simp_all [flat, Value.cells]
  | agg xs => rfl

/-! ### known blocks -/
structure SB where
  b : Nat
  cells : List S
  ty : TypeId
  own : Bool
  lock : Bool := false

def SB.blk (x : SB) : Blk := ⟨(x.cells.map S.ev).toArray, x.ty, x.own⟩

def bsOf (mem : List SB) : List Nat := mem.map (·.b)

def memOf (mem : List SB) : Mem := fun k => (mem.find? (fun x => x.b == k)).map SB.blk

structure MemOk (mem : List SB) : Prop where
  nodup : (bsOf mem).Nodup
  ok : ∀ x ∈ mem, ∀ c ∈ x.cells, c.ok (bsOf mem)

theorem memOf_get {mem : List SB} (h : (bsOf mem).Nodup) {id : Nat} {x : SB} (hx : mem[id]? = some x) : memOf mem x.b = some x.blk := by
  induction mem generalizing id with
  | nil => simp at hx
  | cons y ys ih =>
    simp only [bsOf, List.map_cons, List.nodup_cons] at h
    cases id with
    | zero =>
      simp at hx; subst hx
      simp [memOf]
    | succ n =>
      simp at hx
      have hne : y.b ≠ x.b := by
        intro e
        exact h.1 (by rw [e]; exact List.mem_map.2 ⟨x, List.mem_of_getElem? hx, rfl⟩)
      have := ih h.2 hx
      simp only [memOf, List.find?_cons] at this ⊢
      rw [show (y.b == x.b) = false by simpa using hne]
      exact this

theorem memOf_none {mem : List SB} {b : Nat} (h : memOf mem b = none) : b ∉ bsOf mem := by
  intro hb
  obtain ⟨x, hx, e⟩ := List.mem_map.1 hb
  simp only [memOf, Option.map_eq_none_iff, List.find?_eq_none] at h
  exact h x hx (by simpa using e)

theorem memOf_snoc {mem : List SB} {x : SB} (h : x.b ∉ bsOf mem) : memOf (mem ++ [x]) = (memOf mem).add x.b x.blk := by
  funext k
  simp only [memOf, Mem.add, List.find?_append]
  by_cases hk : k = x.b
  · subst hk
    have : mem.find? (fun y => y.b == x.b) = none := by
      rw [List.find?_eq_none]
      intro y hy e
      exact h (List.mem_map.2 ⟨y, hy, by simpa using e⟩)
    simp [this]
  · have : (x.b == k) = false := by simpa using Ne.symm hk
    simp [this, hk]

theorem ok_at {mem : List SB} (H : MemOk mem) {id b : Nat} (h : (bsOf mem)[id]? = some b) {x : SB} (hx : mem[id]? = some x) : x.b = b ∧ memOf mem b = some x.blk := by
  have : x.b = b := by
    simp only [bsOf, List.getElem?_map, hx, Option.map_some, Option.some.injEq] at h
    exact h
  exact ⟨this, this ▸ memOf_get H.nodup hx⟩

/-- what follows: each block is still there, with as many cells; what is locked holds what it held. -/
structure SB.Is (x x' : SB) : Prop where
  b : x'.b = x.b
  ty : x'.ty = x.ty
  own : x'.own = x.own
  lock : x'.lock = x.lock
  len : x'.cells.length = x.cells.length
  same : x.lock = true → x'.cells = x.cells

theorem SB.Is.refl (x : SB) : SB.Is x x := ⟨rfl, rfl, rfl, rfl, rfl, fun _ => rfl⟩
theorem SB.Is.trans {x y z : SB} (h : SB.Is x y) (k : SB.Is y z) : SB.Is x z :=
  ⟨k.b.trans h.b, k.ty.trans h.ty, k.own.trans h.own, k.lock.trans h.lock, k.len.trans h.len, fun e => (k.same (h.lock.trans e)).trans (h.same e)⟩

def Ext (mem mem' : List SB) : Prop := ∀ (id : Nat) (x : SB), mem[id]? = some x → ∃ x', mem'[id]? = some x' ∧ SB.Is x x'

theorem Ext.refl (mem : List SB) : Ext mem mem := fun _ x h => ⟨x, h, SB.Is.refl x⟩
theorem Ext.trans {a b c : List SB} (h : Ext a b) (k : Ext b c) : Ext a c := fun id x hx =>
  let ⟨y, hy, i⟩ := h id x hx
  let ⟨z, hz, j⟩ := k id y hy
  ⟨z, hz, i.trans j⟩
theorem Ext.get {a b : List SB} (h : Ext a b) {id n : Nat} (hn : (bsOf a)[id]? = some n) : (bsOf b)[id]? = some n := by
  simp only [bsOf, List.getElem?_map, Option.map_eq_some_iff] at hn ⊢
  obtain ⟨x, hx, rfl⟩ := hn
  obtain ⟨y, hy, i⟩ := h id x hx
  exact ⟨y, hy, i.b⟩
theorem Ext.len {a b : List SB} (h : Ext a b) : a.length ≤ b.length := by
  apply Nat.le_of_not_lt
  intro hl
  have e := List.getElem?_eq_getElem hl
  obtain ⟨y, hy, _⟩ := h b.length a[b.length] e
  rw [List.getElem?_eq_none (Nat.le_refl _)] at hy; cases hy
theorem Ext.pre {a b : List SB} (h : Ext a b) : bsOf a <+: bsOf b := by
  refine ⟨(bsOf b).drop a.length, ?_⟩
  apply List.ext_getElem?
  intro i
  by_cases hi : i < a.length
  · rw [List.getElem?_append_left (by simpa [bsOf] using hi)]
    have e : (bsOf a)[i]? = some a[i].b := by simp [bsOf, hi]
    rw [e, h.get e]
  · rw [List.getElem?_append_right (by simp [bsOf]; omega)]
    simp only [List.getElem?_drop]
    congr 1
    simp [bsOf]; omega
theorem Ext.snoc (mem : List SB) (x : SB) : Ext mem (mem ++ [x]) := fun id y h =>
  ⟨y, by rw [List.getElem?_append_left (List.getElem?_eq_some_iff.1 h).1]; exact h, SB.Is.refl y⟩
theorem Ext.set {mem : List SB} {id : Nat} {x : SB} (h : mem[id]? = some x) (hl : x.lock = false) {cs : List S} (hc : cs.length = x.cells.length) : Ext mem (mem.set id { x with cells := cs }) := by
  intro i y hy
  by_cases hi : id = i
  · subst hi
    rw [h] at hy; cases hy
    have hlt := (List.getElem?_eq_some_iff.1 h).1
    exact ⟨{ x with cells := cs }, by rw [List.getElem?_set_self hlt], ⟨rfl, rfl, rfl, rfl, hc, (fun e => by rw [hl] at e; cases e)⟩⟩
  · exact ⟨y, by rw [List.getElem?_set_ne hi]; exact hy, SB.Is.refl y⟩

/-! ### the laid variables' blocks -/
def gsb (g : Nat × List (IntKind × Int)) : SB := ⟨g.1, g.2.map (fun c => .int c.1 (.lit c.2)), 0, false, false⟩
def globS : List SB := globB.map gsb

theorem globS_bs : bsOf globS = globB.map (·.1) := by
  simp only [bsOf, globS, List.map_map]; rfl

theorem globS_ok : MemOk globS := by
  refine ⟨by rw [globS_bs]; exact globB_nodup, ?_⟩
  intro x hx c hc
  obtain ⟨g, _, rfl⟩ := List.mem_map.1 hx
  obtain ⟨d, _, rfl⟩ := List.mem_map.1 hc
  trivial

theorem Holds.startG (w : World) (j : J w) : Holds w (memOf globS) w := by
  refine ⟨Sm.refl w, j, ?_⟩
  intro b x hx
  simp only [memOf, Option.map_eq_some_iff] at hx
  obtain ⟨y, hy, rfl⟩ := hx
  have hb : y.b = b := by simpa using List.find?_some hy
  obtain ⟨g, hg, rfl⟩ := List.mem_map.1 (List.mem_of_find?_eq_some hy)
  obtain ⟨fr, ty, e⟩ := j g hg
  refine ⟨fr, gcells g, ty, by rw [← hb]; exact e, ?_, fun h => by cases h⟩
  have hc : (gsb g).blk.cells = gcells g := by
    simp only [gsb, SB.blk, gcells, List.map_map]; rfl
  rw [hc]
  exact fun _ _ h => h

/-- a laid variable's place, as a place in the known memory. -/
def unrawS (mem : List SB) (x : S) : S :=
  match x with
  | .raw (.pointer (some ⟨b, off, none⟩)) =>
    match globB.findIdx? (fun g => g.1 == b) with
    | some id => match mem[id]? with
      | some y => if y.b = b then .ptr id b off else x
      | none => x
    | none => x
  | x => x

theorem unrawS_ok (mem : List SB) {x : S} (h : x.ok (bsOf mem)) : (unrawS mem x).ok (bsOf mem) ∧ (unrawS mem x).ev = x.ev := by
  unfold unrawS
  split
  · split
    · split
      · rename_i y hy
        split
        · rename_i hb
          refine ⟨?_, rfl⟩
          show (bsOf mem)[_]? = some _
          simp [bsOf, hy, hb]
        · exact ⟨h, rfl⟩
      · exact ⟨h, rfl⟩
    · exact ⟨h, rfl⟩
  · exact ⟨h, rfl⟩

def unraw (mem : List SB) (x : V) : V :=
  match x with
  | .a (.s x) => .a (.s (unrawS mem x))
  | x => x

theorem unraw_ok (mem : List SB) {x : V} (h : x.ok (bsOf mem)) : (unraw mem x).ok (bsOf mem) ∧ (unraw mem x).ev = x.ev := by
  unfold unraw
  split
  · exact unrawS_ok mem h
  · exact ⟨h, rfl⟩

/-! ### slots: but for some, they hold what they held -/
def Fr (W : List Nat) (t t' : List V) : Prop := t'.length = t.length ∧ ∀ i, i ∉ W → (t'.map V.ev)[i]? = (t.map V.ev)[i]?
theorem Fr.refl (W : List Nat) (t : List V) : Fr W t t := ⟨rfl, fun _ _ => rfl⟩
theorem Fr.trans {W : List Nat} {a b c : List V} (h : Fr W a b) (k : Fr W b c) : Fr W a c := ⟨k.1.trans h.1, fun i hi => (k.2 i hi).trans (h.2 i hi)⟩
theorem Fr.mono {W W' : List Nat} {a b : List V} (h : Fr W a b) (hw : ∀ i ∈ W, i ∈ W') : Fr W' a b := ⟨h.1, fun i hi => h.2 i fun e => hi (hw i e)⟩
theorem Fr.set (t : List V) (d : Nat) (v : V) : Fr [d] t (t.set d v) := by
  refine ⟨by simp, fun i hi => ?_⟩
  have : d ≠ i := by rintro rfl; simp at hi
  simp [this]

/-! ### values told by a text -/
def ofS : Value → S
  | .int k n => .int k (.lit n)
  | .bool b => .bool (.lit b)
  | v => .raw v

theorem ofS_ev (v : Value) : (ofS v).ev = v := by cases v <;> rfl
theorem ofS_ok (bs : List Nat) (v : Value) : (ofS v).ok bs := by cases v <;> simp [ofS, S.ok, X.ok, B.ok]

def ofA : Value → A
  | .agg cs => .agg (cs.toList.map ofS)
  | v => .s (ofS v)

theorem ofA_ev (v : Value) : (ofA v).ev = v := by
  cases v with
  | agg cs =>
    simp only [ofA, A.ev, List.map_map]
    rw [show S.ev ∘ ofS = id from funext ofS_ev]
    simp
  | _ => simp only [ofA, A.ev, ofS_ev]

theorem ofA_ok (bs : List Nat) (v : Value) : (ofA v).ok bs := by
  cases v with
  | agg cs =>
    intro x hx
    obtain ⟨c, _, rfl⟩ := List.mem_map.1 hx
    exact ofS_ok bs c
  | _ => simp only [ofA, A.ok, ofS_ok]

def opv (tmps : List V) : Operand → V
  | .tmp t => tmps.getD t (.tup [])
  | .const v => .a (ofA v)
  | .global g => .a (.s (.raw (.pointer (some ⟨g, 0, none⟩))))
  | .func f => .a (.s (.fn f []))

def actOf (ds : List Deferred) (tmps : List V) : Act := { tmps := (tmps.map V.ev).toArray, defers := ds }
variable {ds : List Deferred}


theorem opv_ev (tmps : List V) (x : Operand) : (actOf ds tmps).eval x = (opv tmps x).ev := by
  cases x with
  | tmp t =>
    simp only [Act.eval, actOf, opv, List.getD_eq_getElem?_getD]
    simp only [Array.getD_eq_getD_getElem?, List.getElem?_toArray, List.getElem?_map]
    cases tmps[t]? <;> rfl
  | const v => exact (ofA_ev v).symm
  | global g => rfl
  | func f => rfl

theorem opv_ok {bs : List Nat} {tmps : List V} (h : ∀ v ∈ tmps, v.ok bs) (x : Operand) : (opv tmps x).ok bs := by
  cases x with
  | tmp t =>
    simp only [opv, List.getD_eq_getElem?_getD]
    cases ht : tmps[t]? with
    | none => intro x hx; cases hx
    | some v => exact h v (List.mem_of_getElem? ht)
  | const v => exact ofA_ok bs v
  | global g => trivial
  | func f => intro c hc; cases hc

theorem actOf_put (tmps : List V) (d : Option Tmp) (v : V) : (actOf ds tmps).put d v.ev = actOf ds (match d with | some d => tmps.set d v | none => tmps) := by
  cases d with
  | none => rfl
  | some d => simp [Act.put, actOf, List.map_set]

/-! ### qev, step by step -/
variable {P : Program}

theorem qev_bind {α β : Type} (s : Sem α) (f : α → Sem β) : ∀ (m : Mem), qev P (s >>= f) m = (qev P s m).bind fun r => qev P (f r) m := by
  show ∀ (m : Mem), qev P (s.bind f) m = _
  induction s with
  | pure a => intro m; rfl
  | load md a k ih =>
    intro m
    simp only [Sem.bind, qev]
    split
    · exact ih _ m
    · rfl
  | program k ih => intro m; exact ih P m
  | mark mk k ih => intro m; exact ih m
  | _ => intro m; rfl

@[simp] theorem qev_pure {α : Type} (a : α) (m : Mem) : qev P (pure a : Sem α) m = some a := rfl
@[simp] theorem qev_program (m : Mem) : qev P program m = some P := rfl

theorem qev_underlying {t : TypeId} {d : TypeDesc} (h : P.underlying t = some d) (m : Mem) : qev P (underlying t) m = some d := by
  unfold underlying
  rw [qev_bind]
  simp [h]

theorem qev_typeInfo {t : TypeId} {i : TypeInfo} (h : P.info? t = some i) (m : Mem) : qev P (typeInfo t) m = some i := by
  unfold typeInfo
  rw [qev_bind]
  simp only [qev_program, Option.bind_some]
  rw [show P.toTables.info? t = some i from h]
  rfl

theorem qev_sizeOf {t : TypeId} {i : TypeInfo} (h : P.info? t = some i) (m : Mem) : qev P (sizeOf t) m = some i.size := by
  unfold sizeOf
  rw [qev_bind, qev_typeInfo h]
  rfl

def aggOf : TypeDesc → Bool
  | .struct _ | .array _ _ => true
  | _ => false

theorem qev_isAgg {t : TypeId} {d : TypeDesc} (h : P.underlying t = some d) (m : Mem) : qev P (isAgg t) m = some (aggOf d) := by
  unfold isAgg
  rw [qev_bind, qev_underlying h]
  cases d <;> rfl

theorem add_plain (b off n : Nat) : Addr.add ⟨b, off, none⟩ n = ⟨b, off + n, none⟩ := by
  unfold Addr.add; split
  · rename_i h; subst h; rfl
  · rfl

theorem qev_load {a : Addr} {v : Value} {m : Mem} (h : m.cell a = some v) : qev P (load a) m = some v := by
  simp only [load, qev, h]

theorem qev_loadCellsFrom {m : Mem} {b off : Nat} {x : Blk} (hm : m b = some x) : ∀ (n i : Nat) (acc : Array Value), off + i + n ≤ x.cells.size →
    qev P (loadCellsFrom ⟨b, off, none⟩ i n acc) m = some (acc ++ x.cells.extract (off + i) (off + i + n)) := by
  intro n
  induction n with
  | zero => intro i acc h; simp [loadCellsFrom]; omega
  | succ n ih =>
    intro i acc h
    simp only [loadCellsFrom]
    rw [qev_bind, qev_load (v := x.cells[off + i]) (by simp [add_plain, Mem.cell, hm, show off + i < x.cells.size by omega])]
    simp only [Option.bind_some]
    rw [ih (i + 1) _ (by omega)]
    congr 1
    apply Array.ext'
    simp only [Array.toList_append, Array.toList_push, Array.toList_extract, List.append_assoc, List.extract_eq_take_drop]
    congr 1
    have e1 : off + (i + 1) + n - (off + (i + 1)) = n := by omega
    have e2 : off + i + (n + 1) - (off + i) = n + 1 := by omega
    rw [e1, e2]
    have hlt : off + i < x.cells.toList.length := by simpa using (show off + i < x.cells.size by omega)
    rw [List.drop_eq_getElem_cons hlt, List.take_succ_cons]
    simp [Nat.add_assoc]

def isAggT (P : Program) (t : TypeId) : Option Bool := (P.underlying t).map aggOf
def sizeT (P : Program) (t : TypeId) : Option Nat := (P.info? t).map (·.size)

theorem isAggT_some {t : TypeId} {b : Bool} (h : isAggT P t = some b) (m : Mem) : qev P (isAgg t) m = some b := by
  unfold isAggT at h
  cases hd : P.underlying t with
  | none => rw [hd] at h; cases h
  | some d => rw [hd] at h; cases h; exact qev_isAgg hd m

theorem sizeT_some {t : TypeId} {n : Nat} (h : sizeT P t = some n) (m : Mem) : qev P (sizeOf t) m = some n := by
  unfold sizeT at h
  cases hd : P.info? t with
  | none => rw [hd] at h; cases h
  | some d => rw [hd] at h; cases h; exact qev_sizeOf hd m

def loadS (P : Program) (mem : List SB) (t : TypeId) (id off : Nat) : Option A :=
  match mem[id]?, isAggT P t with
  | some x, some true =>
    match sizeT P t with
    | some n => if off + n ≤ x.cells.length then some (.agg ((x.cells.drop off).take n)) else none
    | none => none
  | some x, some false => (x.cells[off]?).map .s
  | _, _ => none

theorem loadS_ok {mem : List SB} (H : MemOk mem) {t : TypeId} {id b off : Nat} (hp : (bsOf mem)[id]? = some b) {r : A} (h : loadS P mem t id off = some r) :
    r.ok (bsOf mem) ∧ qev P (loadVar t ⟨b, off, none⟩) (memOf mem) = some r.ev := by
  unfold loadS at h
  split at h
  · rename_i x hx ha
    split at h
    · rename_i n hn
      split at h
      · rename_i hl
        cases h
        obtain ⟨_, hm⟩ := ok_at H hp hx
        refine ⟨fun c hc => H.ok x (List.mem_of_getElem? hx) c (List.mem_of_mem_drop (List.mem_of_mem_take hc)), ?_⟩
        unfold loadVar
        rw [qev_bind, isAggT_some ha]
        simp only [Option.bind_some, if_true]
        rw [qev_bind, sizeT_some hn]
        simp only [Option.bind_some, loadCells]
        rw [qev_bind, qev_loadCellsFrom hm _ _ _ (by simpa [SB.blk] using hl)]
        simp only [Option.bind_some, qev_pure, A.ev, SB.blk]
        congr 2
        apply Array.ext'
        simp [List.map_take, List.map_drop, List.extract_eq_take_drop]
      · cases h
    · cases h
  · rename_i x hx ha
    cases hc : x.cells[off]? with
    | none => rw [hc] at h; cases h
    | some c =>
      rw [hc] at h; cases h
      obtain ⟨_, hm⟩ := ok_at H hp hx
      refine ⟨H.ok x (List.mem_of_getElem? hx) c (List.mem_of_getElem? hc), ?_⟩
      unfold loadVar
      rw [qev_bind, isAggT_some ha]
      simp only [Option.bind_some, Bool.false_eq_true, if_false]
      refine qev_load ?_
      simp [Mem.cell, hm, SB.blk, hc, A.ev]
  · cases h

/-- a part of a row of cells. -/
def partS (P : Program) (t : TypeId) (cs : List S) (off : Nat) : Option A :=
  match isAggT P t with
  | some true => (sizeT P t).map fun n => .agg ((cs.drop off).take n)
  | some false => (cs[off]?).map .s
  | none => none

theorem partS_ok {bs : List Nat} {t : TypeId} {cs : List S} {off : Nat} (hcs : ∀ c ∈ cs, c.ok bs) {r : A} (h : partS P t cs off = some r) (m : Mem) :
    r.ok bs ∧ qev P (part t (cs.map S.ev).toArray off) m = some r.ev := by
  unfold partS at h
  split at h
  · rename_i ha
    cases hn : sizeT P t with
    | none => rw [hn] at h; cases h
    | some n =>
      rw [hn] at h; cases h
      refine ⟨fun c hc => hcs c (List.mem_of_mem_drop (List.mem_of_mem_take hc)), ?_⟩
      unfold part
      rw [qev_bind, isAggT_some ha]
      simp only [Option.bind_some, if_true]
      rw [qev_bind, sizeT_some hn]
      simp only [Option.bind_some, qev_pure, A.ev]
      congr 2
      apply Array.ext'
      simp [List.map_take, List.map_drop, List.extract_eq_take_drop]
  · rename_i ha
    cases hc : cs[off]? with
    | none => rw [hc] at h; cases h
    | some c =>
      rw [hc] at h; cases h
      refine ⟨hcs c (List.mem_of_getElem? hc), ?_⟩
      unfold part
      rw [qev_bind, isAggT_some ha]
      simp [hc, A.ev]
  · cases h

end Go.Proofs.YtogcbmadcgjljaaDoor.Sx
