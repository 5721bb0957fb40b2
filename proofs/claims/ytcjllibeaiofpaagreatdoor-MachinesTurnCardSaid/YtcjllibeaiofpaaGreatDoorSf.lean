/-
  The frame: blocks, operators, calls, soundness.
-/
import Derived.Test.YtcjllibeaiofpaaGreatDoorSa
import Derived.Laws.Externs
import Derived.Stop.Asserts
namespace Go.Proofs.YtcjllibeaiofpaaGreatDoor.Sx
open Go Go.RowKit
inductive S where
 | int (k : IntKind) (x : X)
 | bool (b : B)
 | ptr (id b off : Nat)
 | raw (v : Value)
 | fn (f : FuncId) (caps : List (Nat × Nat × Nat))
 | sl (id b off len cap : Nat)
 | px (id b off : Nat) (i : X) (len n : Nat)
 | mth (f : FuncId) (ks : List (IntKind × X))
inductive A where
 | s (x : S)
 | agg (xs : List S)
inductive V where
 | a (x : A)
 | tup (xs : List A)
def capVal (c : Nat × Nat × Nat) : Value := .pointer (some ⟨c.2.1, c.2.2, none⟩)
def intVal (c : IntKind × X) : Value := .int c.1 c.2.ev
def S.ev : S -> Value
 | .int k x => .int k x.ev
 | .bool b => .bool b.ev
 | .ptr _ b off => .pointer (some ⟨b, off, none⟩)
 | .raw v => v
 | .fn f caps => .func (.func f) #[] (caps.map capVal).toArray
 | .sl _ b off len cap => .slice (some ⟨b, off, none⟩) len cap
 | .px _ b off i _ n => .pointer (some ⟨b, off + i.ev.toNat * n, none⟩)
 | .mth f ks => .func (.func f) #[.agg (ks.map intVal).toArray] #[]
def S.ok (bs : List Nat) : S -> Prop
 | .int _ x => x.ok
 | .bool b => b.ok
 | .ptr id b _ => bs[id]? = some b
 | .raw _ => True
 | .fn _ caps => ∀ c ∈ caps, bs[c.1]? = some c.2.1
 | .sl id b _ _ _ => bs[id]? = some b
 | .px id b _ i len _ => bs[id]? = some b /\ i.ok /\ 0 <= i.ev /\ i.ev < len
 | .mth _ ks => ∀ c ∈ ks, c.2.ok
def S.fl : S -> Bool
 | .raw v => flat v
 | _ => true
def A.ev : A -> Value
 | .s x => x.ev
 | .agg xs => .agg (xs.map S.ev).toArray
def A.ok (bs : List Nat) : A -> Prop
 | .s x => x.ok bs
 | .agg xs => ∀ x ∈ xs, x.ok bs
def A.cells : A -> List S
 | .s x => [x]
 | .agg xs => xs
def A.fl : A -> Bool
 | .s x => x.fl
 | .agg _ => true
def V.ev : V -> Value
 | .a x => x.ev
 | .tup xs => .tuple (xs.map A.ev).toArray
def V.ok (bs : List Nat) : V -> Prop
 | .a x => x.ok bs
 | .tup xs => ∀ x ∈ xs, x.ok bs
theorem prefix_get {bs bs' : List Nat} (h : bs <+: bs') {i b : Nat} (hi : bs[i]? = some b) : bs'[i]? = some b := by
 obtain ⟨t, rfl⟩ := h
 rw [List.getElem?_append_left (List.getElem?_eq_some_iff.1 hi).1]; exact hi
theorem S.ok_mono {bs bs' : List Nat} (h : bs <+: bs') : ∀ {x : S}, x.ok bs -> x.ok bs'
 | .int _ _, hx => hx
 | .bool _, hx => hx
 | .ptr _ _ _, hx => prefix_get h hx
 | .raw _, _ => trivial
 | .fn _ _, hx => fun c hc => prefix_get h (hx c hc)
 | .sl _ _ _ _ _, hx => prefix_get h hx
 | .px _ _ _ _ _ _, hx => ⟨prefix_get h hx.1, hx.2⟩
 | .mth _ _, hx => hx
theorem A.ok_mono {bs bs' : List Nat} (h : bs <+: bs') : ∀ {x : A}, x.ok bs -> x.ok bs'
 | .s _, hx => S.ok_mono h hx
 | .agg _, hx => fun c hc => S.ok_mono h (hx c hc)
theorem V.ok_mono {bs bs' : List Nat} (h : bs <+: bs') : ∀ {x : V}, x.ok bs -> x.ok bs'
 | .a _, hx => A.ok_mono h hx
 | .tup _, hx => fun c hc => A.ok_mono h (hx c hc)
theorem S.fl_flat : ∀ {x : S}, x.fl = true -> flat x.ev = true
 | .int _ _, _ => rfl
 | .bool _, _ => rfl
 | .ptr _ _ _, _ => rfl
 | .raw _, h => h
 | .fn _ _, _ => rfl
 | .sl _ _ _ _ _, _ => rfl
 | .px _ _ _ _ _ _, _ => rfl
 | .mth _ _, _ => rfl
theorem A.ev_cells {x : A} (h : x.fl = true) : x.ev.cells = (x.cells.map S.ev).toArray := by
 cases x with
 | s x =>
  have := S.fl_flat (x := x) h
  simp only [A.ev, A.cells]
  cases hx : x.ev <;> simp_all [flat, Value.cells]
 | agg xs => rfl
structure SB where
 b : Nat
 cells : List S
 ty : TypeId
 own : Bool
 lock : Bool := false
def SB.blk (x : SB) : Blk := ⟨(x.cells.map S.ev).toArray, x.ty, x.own⟩
def bsOf (mem : List SB) : List Nat := mem.map (·.b)
def memOf (mem : List SB) : Mem := fun k => (mem.find? (fun x => x.b == k)).map SB.blk
structure MemOk (mem : List SB) : Prop where
 nodup : (bsOf mem).Nodup
 ok : ∀ x ∈ mem, ∀ c ∈ x.cells, c.ok (bsOf mem)
theorem memOf_get {mem : List SB} (h : (bsOf mem).Nodup) {id : Nat} {x : SB} (hx : mem[id]? = some x) : memOf mem x.b = some x.blk := by
 induction mem generalizing id with
 | nil => simp at hx
 | cons y ys ih =>
  simp only [bsOf, List.map_cons, List.nodup_cons] at h
  cases id with
  | zero =>
   simp at hx; subst hx
   simp [memOf]
  | succ n =>
   simp at hx
   have hne : y.b ≠ x.b := by
    intro e
    exact h.1 (by rw [e]; exact List.mem_map.2 ⟨x, List.mem_of_getElem? hx, rfl⟩)
   have := ih h.2 hx
   simp only [memOf, List.find?_cons] at this ⊢
   rw [show (y.b == x.b) = false by simpa using hne]
   exact this
theorem memOf_none {mem : List SB} {b : Nat} (h : memOf mem b = none) : b ∉ bsOf mem := by
 intro hb
 obtain ⟨x, hx, e⟩ := List.mem_map.1 hb
 simp only [memOf, Option.map_eq_none_iff, List.find?_eq_none] at h
 exact h x hx (by simpa using e)
theorem memOf_snoc {mem : List SB} {x : SB} (h : x.b ∉ bsOf mem) : memOf (mem ++ [x]) = (memOf mem).add x.b x.blk := by
 funext k
 simp only [memOf, Mem.add, List.find?_append]
 by_cases hk : k = x.b
 ·subst hk
  have : mem.find? (fun y => y.b == x.b) = none := by
   rw [List.find?_eq_none]
   intro y hy e
   exact h (List.mem_map.2 ⟨y, hy, by simpa using e⟩)
  simp [this]
 ·have : (x.b == k) = false := by simpa using Ne.symm hk
  simp [this, hk]
theorem ok_at {mem : List SB} (H : MemOk mem) {id b : Nat} (h : (bsOf mem)[id]? = some b) {x : SB} (hx : mem[id]? = some x) : x.b = b /\ memOf mem b = some x.blk := by
 have : x.b = b := by
  simp only [bsOf, List.getElem?_map, hx, Option.map_some, Option.some.injEq] at h
  exact h
 exact ⟨this, this ▸ memOf_get H.nodup hx⟩
structure SB.Is (x x' : SB) : Prop where
 b : x'.b = x.b
 ty : x'.ty = x.ty
 own : x'.own = x.own
 lock : x'.lock = x.lock
 len : x'.cells.length = x.cells.length
 same : x.lock = true -> x'.cells = x.cells
theorem SB.Is.refl (x : SB) : SB.Is x x := ⟨rfl, rfl, rfl, rfl, rfl, fun _ => rfl⟩
theorem SB.Is.trans {x y z : SB} (h : SB.Is x y) (k : SB.Is y z) : SB.Is x z :=
 ⟨k.b.trans h.b, k.ty.trans h.ty, k.own.trans h.own, k.lock.trans h.lock, k.len.trans h.len, fun e => (k.same (h.lock.trans e)).trans (h.same e)⟩
def Ext (mem mem' : List SB) : Prop := ∀ (id : Nat) (x : SB), mem[id]? = some x -> ∃ x', mem'[id]? = some x' /\ SB.Is x x'
theorem Ext.refl (mem : List SB) : Ext mem mem := fun _ x h => ⟨x, h, SB.Is.refl x⟩
theorem Ext.trans {a b c : List SB} (h : Ext a b) (k : Ext b c) : Ext a c := fun id x hx =>
 let ⟨y, hy, i⟩ := h id x hx
 let ⟨z, hz, j⟩ := k id y hy
 ⟨z, hz, i.trans j⟩
theorem Ext.get {a b : List SB} (h : Ext a b) {id n : Nat} (hn : (bsOf a)[id]? = some n) : (bsOf b)[id]? = some n := by
 simp only [bsOf, List.getElem?_map, Option.map_eq_some_iff] at hn ⊢
 obtain ⟨x, hx, rfl⟩ := hn
 obtain ⟨y, hy, i⟩ := h id x hx
 exact ⟨y, hy, i.b⟩
theorem Ext.len {a b : List SB} (h : Ext a b) : a.length <= b.length := by
 apply Nat.le_of_not_lt
 intro hl
 have e := List.getElem?_eq_getElem hl
 obtain ⟨y, hy, _⟩ := h b.length a[b.length] e
 rw [List.getElem?_eq_none (Nat.le_refl _)] at hy; cases hy
theorem Ext.pre {a b : List SB} (h : Ext a b) : bsOf a <+: bsOf b := by
 refine ⟨(bsOf b).drop a.length, ?_⟩
 apply List.ext_getElem?
 intro i
 by_cases hi : i < a.length
 ·rw [List.getElem?_append_left (by simpa [bsOf] using hi)]
  have e : (bsOf a)[i]? = some a[i].b := by simp [bsOf, hi]
  rw [e, h.get e]
 ·rw [List.getElem?_append_right (by simp [bsOf]; omega)]
  simp only [List.getElem?_drop]
  congr 1
  simp [bsOf]; omega
theorem Ext.snoc (mem : List SB) (x : SB) : Ext mem (mem ++ [x]) := fun id y h =>
 ⟨y, by rw [List.getElem?_append_left (List.getElem?_eq_some_iff.1 h).1]; exact h, SB.Is.refl y⟩
theorem Ext.set {mem : List SB} {id : Nat} {x : SB} (h : mem[id]? = some x) (hl : x.lock = false) {cs : List S} (hc : cs.length = x.cells.length) : Ext mem (mem.set id { x with cells := cs }) := by
 intro i y hy
 by_cases hi : id = i
 ·subst hi
  rw [h] at hy; cases hy
  have hlt := (List.getElem?_eq_some_iff.1 h).1
  exact ⟨{ x with cells := cs }, by rw [List.getElem?_set_self hlt], ⟨rfl, rfl, rfl, rfl, hc, (fun e => by rw [hl] at e; cases e)⟩⟩
 ·exact ⟨y, by rw [List.getElem?_set_ne hi]; exact hy, SB.Is.refl y⟩
def gsb (g : Nat × List (IntKind × Int)) : SB := ⟨g.1, g.2.map (fun c => .int c.1 (.lit c.2)), 0, false, false⟩
def globS : List SB := globB.map gsb
theorem globS_bs : bsOf globS = globB.map (·.1) := by
 simp only [bsOf, globS, List.map_map]; rfl
theorem globS_ok : MemOk globS := by
 refine ⟨by rw [globS_bs]; exact globB_nodup, ?_⟩
 intro x hx c hc
 obtain ⟨g, _, rfl⟩ := List.mem_map.1 hx
 obtain ⟨d, _, rfl⟩ := List.mem_map.1 hc
 trivial
theorem Holds.startG (w : World) (j : J w) : Holds w (memOf globS) w := by
 refine ⟨Sm.refl w, j, ?_⟩
 intro b x hx
 simp only [memOf, Option.map_eq_some_iff] at hx
 obtain ⟨y, hy, rfl⟩ := hx
 have hb : y.b = b := by simpa using List.find?_some hy
 obtain ⟨g, hg, rfl⟩ := List.mem_map.1 (List.mem_of_find?_eq_some hy)
 obtain ⟨fr, ty, e⟩ := j g hg
 refine ⟨fr, gcells g, ty, by rw [<- hb]; exact e, ?_, fun h => by cases h⟩
 have hc : (gsb g).blk.cells = gcells g := by
  simp only [gsb, SB.blk, gcells, List.map_map]; rfl
 rw [hc]
 exact fun _ _ h => h
def unrawS (mem : List SB) (x : S) : S :=
 match x with
 | .raw (.pointer (some ⟨b, off, none⟩)) =>
  match globB.findIdx? (fun g => g.1 == b) with
  | some id => match mem[id]? with
   | some y => if y.b = b then .ptr id b off else x
   | none => x
  | none => x
 | x => x
theorem unrawS_ok (mem : List SB) {x : S} (h : x.ok (bsOf mem)) : (unrawS mem x).ok (bsOf mem) /\ (unrawS mem x).ev = x.ev := by
 unfold unrawS
 split
 ·split
  ·split
   ·rename_i y hy
    split
    ·rename_i hb
     refine ⟨?_, rfl⟩
     show (bsOf mem)[_]? = some _
     simp [bsOf, hy, hb]
    ·exact ⟨h, rfl⟩
   ·exact ⟨h, rfl⟩
  ·exact ⟨h, rfl⟩
 ·exact ⟨h, rfl⟩
def unraw (mem : List SB) (x : V) : V :=
 match x with
 | .a (.s x) => .a (.s (unrawS mem x))
 | x => x
theorem unraw_ok (mem : List SB) {x : V} (h : x.ok (bsOf mem)) : (unraw mem x).ok (bsOf mem) /\ (unraw mem x).ev = x.ev := by
 unfold unraw
 split
 ·exact unrawS_ok mem h
 ·exact ⟨h, rfl⟩
def Fr (W : List Nat) (t t' : List V) : Prop := t'.length = t.length /\ ∀ i, i ∉ W -> (t'.map V.ev)[i]? = (t.map V.ev)[i]?
theorem Fr.refl (W : List Nat) (t : List V) : Fr W t t := ⟨rfl, fun _ _ => rfl⟩
theorem Fr.trans {W : List Nat} {a b c : List V} (h : Fr W a b) (k : Fr W b c) : Fr W a c := ⟨k.1.trans h.1, fun i hi => (k.2 i hi).trans (h.2 i hi)⟩
theorem Fr.mono {W W' : List Nat} {a b : List V} (h : Fr W a b) (hw : ∀ i ∈ W, i ∈ W') : Fr W' a b := ⟨h.1, fun i hi => h.2 i fun e => hi (hw i e)⟩
theorem Fr.set (t : List V) (d : Nat) (v : V) : Fr [d] t (t.set d v) := by
 refine ⟨by simp, fun i hi => ?_⟩
 have : d ≠ i := by rintro rfl; simp at hi
 simp [this]
def ofS : Value -> S
 | .int k n => .int k (.lit n)
 | .bool b => .bool (.lit b)
 | v => .raw v
theorem ofS_ev (v : Value) : (ofS v).ev = v := by cases v <;> rfl
theorem ofS_ok (bs : List Nat) (v : Value) : (ofS v).ok bs := by cases v <;> simp [ofS, S.ok, X.ok, B.ok]
def ofA : Value -> A
 | .agg cs => .agg (cs.toList.map ofS)
 | v => .s (ofS v)
theorem ofA_ev (v : Value) : (ofA v).ev = v := by
 cases v with
 | agg cs =>
  simp only [ofA, A.ev, List.map_map]
  rw [show S.ev ∘ ofS = id from funext ofS_ev]
  simp
 | _ => simp only [ofA, A.ev, ofS_ev]
theorem ofA_ok (bs : List Nat) (v : Value) : (ofA v).ok bs := by
 cases v with
 | agg cs =>
  intro x hx
  obtain ⟨c, _, rfl⟩ := List.mem_map.1 hx
  exact ofS_ok bs c
 | _ => simp only [ofA, A.ok, ofS_ok]
def opv (tmps : List V) : Operand -> V
 | .tmp t => tmps.getD t (.tup [])
 | .const v => .a (ofA v)
 | .global g => .a (.s (.raw (.pointer (some ⟨g, 0, none⟩))))
 | .func f => .a (.s (.fn f []))
def actOf (ds : List Deferred) (tmps : List V) : Act := { tmps := (tmps.map V.ev).toArray, defers := ds }
variable {ds : List Deferred}
theorem opv_ev (tmps : List V) (x : Operand) : (actOf ds tmps).eval x = (opv tmps x).ev := by
 cases x with
 | tmp t =>
  simp only [Act.eval, actOf, opv, List.getD_eq_getElem?_getD]
  simp only [Array.getD_eq_getD_getElem?, List.getElem?_toArray, List.getElem?_map]
  cases tmps[t]? <;> rfl
 | const v => exact (ofA_ev v).symm
 | global g => rfl
 | func f => rfl
theorem opv_ok {bs : List Nat} {tmps : List V} (h : ∀ v ∈ tmps, v.ok bs) (x : Operand) : (opv tmps x).ok bs := by
 cases x with
 | tmp t =>
  simp only [opv, List.getD_eq_getElem?_getD]
  cases ht : tmps[t]? with
  | none => intro x hx; cases hx
  | some v => exact h v (List.mem_of_getElem? ht)
 | const v => exact ofA_ok bs v
 | global g => trivial
 | func f => intro c hc; cases hc
theorem actOf_put (tmps : List V) (d : Option Tmp) (v : V) : (actOf ds tmps).put d v.ev = actOf ds (match d with | some d => tmps.set d v | none => tmps) := by
 cases d with
 | none => rfl
 | some d => simp [Act.put, actOf, List.map_set]
variable {P : Program}
theorem qev_bind {α β : Type} (s : Sem α) (f : α -> Sem β) : ∀ (m : Mem), qev P (s >>= f) m = (qev P s m).bind fun r => qev P (f r) m := by
 show ∀ (m : Mem), qev P (s.bind f) m = _
 induction s with
 | pure a => intro m; rfl
 | load md a k ih =>
  intro m
  simp only [Sem.bind, qev]
  split
  ·exact ih _ m
  ·rfl
 | program k ih => intro m; exact ih P m
 | mark mk k ih => intro m; exact ih m
 | _ => intro m; rfl
@[simp] theorem qev_pure {α : Type} (a : α) (m : Mem) : qev P (pure a : Sem α) m = some a := rfl
@[simp] theorem qev_program (m : Mem) : qev P program m = some P := rfl
theorem qev_underlying {t : TypeId} {d : TypeDesc} (h : P.underlying t = some d) (m : Mem) : qev P (underlying t) m = some d := by
 unfold underlying
 rw [qev_bind]
 simp [h]
theorem qev_typeInfo {t : TypeId} {i : TypeInfo} (h : P.info? t = some i) (m : Mem) : qev P (typeInfo t) m = some i := by
 unfold typeInfo
 rw [qev_bind]
 simp only [qev_program, Option.bind_some]
 rw [show P.toTables.info? t = some i from h]
 rfl
theorem qev_sizeOf {t : TypeId} {i : TypeInfo} (h : P.info? t = some i) (m : Mem) : qev P (sizeOf t) m = some i.size := by
 unfold sizeOf
 rw [qev_bind, qev_typeInfo h]
 rfl
def aggOf : TypeDesc -> Bool
 | .struct _ | .array _ _ => true
 | _ => false
theorem qev_isAgg {t : TypeId} {d : TypeDesc} (h : P.underlying t = some d) (m : Mem) : qev P (isAgg t) m = some (aggOf d) := by
 unfold isAgg
 rw [qev_bind, qev_underlying h]
 cases d <;> rfl
theorem add_plain (b off n : Nat) : Addr.add ⟨b, off, none⟩ n = ⟨b, off + n, none⟩ := by
 unfold Addr.add; split
 ·rename_i h; subst h; rfl
 ·rfl
theorem qev_load {a : Addr} {v : Value} {m : Mem} (h : m.cell a = some v) : qev P (load a) m = some v := by
 simp only [load, qev, h]
theorem qev_loadCellsFrom {m : Mem} {b off : Nat} {x : Blk} (hm : m b = some x) : ∀ (n i : Nat) (acc : Array Value), off + i + n <= x.cells.size ->
  qev P (loadCellsFrom ⟨b, off, none⟩ i n acc) m = some (acc ++ x.cells.extract (off + i) (off + i + n)) := by
 intro n
 induction n with
 | zero => intro i acc h; simp [loadCellsFrom]; omega
 | succ n ih =>
  intro i acc h
  simp only [loadCellsFrom]
  rw [qev_bind, qev_load (v := x.cells[off + i]) (by simp [add_plain, Mem.cell, hm, show off + i < x.cells.size by omega])]
  simp only [Option.bind_some]
  rw [ih (i + 1) _ (by omega)]
  congr 1
  apply Array.ext'
  simp only [Array.toList_append, Array.toList_push, Array.toList_extract, List.append_assoc, List.extract_eq_take_drop]
  congr 1
  have e1 : off + (i + 1) + n - (off + (i + 1)) = n := by omega
  have e2 : off + i + (n + 1) - (off + i) = n + 1 := by omega
  rw [e1, e2]
  have hlt : off + i < x.cells.toList.length := by simpa using (show off + i < x.cells.size by omega)
  rw [List.drop_eq_getElem_cons hlt, List.take_succ_cons]
  simp [Nat.add_assoc]
def isAggT (P : Program) (t : TypeId) : Option Bool := (P.underlying t).map aggOf
def sizeT (P : Program) (t : TypeId) : Option Nat := (P.info? t).map (·.size)
theorem isAggT_some {t : TypeId} {b : Bool} (h : isAggT P t = some b) (m : Mem) : qev P (isAgg t) m = some b := by
 unfold isAggT at h
 cases hd : P.underlying t with
 | none => rw [hd] at h; cases h
 | some d => rw [hd] at h; cases h; exact qev_isAgg hd m
theorem sizeT_some {t : TypeId} {n : Nat} (h : sizeT P t = some n) (m : Mem) : qev P (sizeOf t) m = some n := by
 unfold sizeT at h
 cases hd : P.info? t with
 | none => rw [hd] at h; cases h
 | some d => rw [hd] at h; cases h; exact qev_sizeOf hd m
def loadS (P : Program) (mem : List SB) (t : TypeId) (id off : Nat) : Option A :=
 match mem[id]?, isAggT P t with
 | some x, some true =>
  match sizeT P t with
  | some n => if off + n <= x.cells.length then some (.agg ((x.cells.drop off).take n)) else none
  | none => none
 | some x, some false => (x.cells[off]?).map .s
 | _, _ => none
theorem loadS_ok {mem : List SB} (H : MemOk mem) {t : TypeId} {id b off : Nat} (hp : (bsOf mem)[id]? = some b) {r : A} (h : loadS P mem t id off = some r) :
  r.ok (bsOf mem) /\ qev P (loadVar t ⟨b, off, none⟩) (memOf mem) = some r.ev := by
 unfold loadS at h
 split at h
 ·rename_i x hx ha
  split at h
  ·rename_i n hn
   split at h
   ·rename_i hl
    cases h
    obtain ⟨_, hm⟩ := ok_at H hp hx
    refine ⟨fun c hc => H.ok x (List.mem_of_getElem? hx) c (List.mem_of_mem_drop (List.mem_of_mem_take hc)), ?_⟩
    unfold loadVar
    rw [qev_bind, isAggT_some ha]
    simp only [Option.bind_some, if_true]
    rw [qev_bind, sizeT_some hn]
    simp only [Option.bind_some, loadCells]
    rw [qev_bind, qev_loadCellsFrom hm _ _ _ (by simpa [SB.blk] using hl)]
    simp only [Option.bind_some, qev_pure, A.ev, SB.blk]
    congr 2
    apply Array.ext'
    simp [List.map_take, List.map_drop, List.extract_eq_take_drop]
   ·cases h
  ·cases h
 ·rename_i x hx ha
  cases hc : x.cells[off]? with
  | none => rw [hc] at h; cases h
  | some c =>
   rw [hc] at h; cases h
   obtain ⟨_, hm⟩ := ok_at H hp hx
   refine ⟨H.ok x (List.mem_of_getElem? hx) c (List.mem_of_getElem? hc), ?_⟩
   unfold loadVar
   rw [qev_bind, isAggT_some ha]
   simp only [Option.bind_some, Bool.false_eq_true, if_false]
   refine qev_load ?_
   simp [Mem.cell, hm, SB.blk, hc, A.ev]
 ·cases h
def partS (P : Program) (t : TypeId) (cs : List S) (off : Nat) : Option A :=
 match isAggT P t with
 | some true => (sizeT P t).map fun n => .agg ((cs.drop off).take n)
 | some false => (cs[off]?).map .s
 | none => none
theorem partS_ok {bs : List Nat} {t : TypeId} {cs : List S} {off : Nat} (hcs : ∀ c ∈ cs, c.ok bs) {r : A} (h : partS P t cs off = some r) (m : Mem) :
  r.ok bs /\ qev P (part t (cs.map S.ev).toArray off) m = some r.ev := by
 unfold partS at h
 split at h
 ·rename_i ha
  cases hn : sizeT P t with
  | none => rw [hn] at h; cases h
  | some n =>
   rw [hn] at h; cases h
   refine ⟨fun c hc => hcs c (List.mem_of_mem_drop (List.mem_of_mem_take hc)), ?_⟩
   unfold part
   rw [qev_bind, isAggT_some ha]
   simp only [Option.bind_some, if_true]
   rw [qev_bind, sizeT_some hn]
   simp only [Option.bind_some, qev_pure, A.ev]
   congr 2
   apply Array.ext'
   simp [List.map_take, List.map_drop, List.extract_eq_take_drop]
 ·rename_i ha
  cases hc : cs[off]? with
  | none => rw [hc] at h; cases h
  | some c =>
   rw [hc] at h; cases h
   refine ⟨hcs c (List.mem_of_getElem? hc), ?_⟩
   unfold part
   rw [qev_bind, isAggT_some ha]
   simp [hc, A.ev]
 ·cases h
variable {P : Program}
def symAll {ι : Type} (e : ι -> Option B) : List ι -> Option B
 | [] => some (.lit true)
 | i :: r =>
  match e i, symAll e r with
  | some a, some b => some (mkAndB a b)
  | _, _ => none
def stepOf (b : Bool) : ForInStep (Option Bool × Unit) := if b then .yield (none, ()) else .done (some false, ())
def endOf (b : Bool) : Option Bool × Unit := if b then (none, ()) else (some false, ())
theorem qev_forIn {ι : Type} {e : ι -> Option B} {body : ι -> Option Bool × Unit -> Sem (ForInStep (Option Bool × Unit))} {m : Mem} :
  ∀ (l : List ι), (∀ i ∈ l, ∀ b, e i = some b -> b.ok /\ qev P (body i (none, ())) m = some (stepOf b.ev)) -> ∀ {b : B}, symAll e l = some b ->
   b.ok /\ qev P (forIn l (none, ()) body) m = some (endOf b.ev)
 | [], _, b, h => by cases h; exact ⟨trivial, rfl⟩
 | i :: r, hl, b, h => by
  simp only [symAll] at h
  cases ha : e i with
  | none => rw [ha] at h; cases h
  | some a =>
   cases hb : symAll e r with
   | none => rw [ha, hb] at h; cases h
   | some c =>
    rw [ha, hb] at h; cases h
    obtain ⟨h1, h2⟩ := hl i (by simp) a ha
    obtain ⟨h3, h4⟩ := qev_forIn r (fun j hj => hl j (by simp [hj])) hb
    obtain ⟨h5, h6⟩ := mkAndB_ok h1 h3
    refine ⟨h5, ?_⟩
    rw [List.forIn_cons, qev_bind, h2, h6]
    cases hae : a.ev with
    | false => simp [stepOf, endOf]
    | true => simpa [stepOf] using h4
def eqPart (P : Program) (eq : TypeId -> A -> A -> Option B) (t : TypeId) (xs ys : List S) (off : Nat) : Option B :=
 match partS P t xs off, partS P t ys off with
 | some a, some b => eq t a b
 | _, _ => none
def symEq (P : Program) : Nat -> TypeId -> A -> A -> Option B
 | 0, _, _, _ => none
 | d + 1, t, x, y =>
  match P.underlying t, x, y with
  | some .bool, .s (.bool a), .s (.bool b) => some (mkBeq a b)
  | some (.int _), .s (.int k a), .s (.int k' b) => if k = k' then some (mkEq a b) else none
  | some (.struct fields), .agg xs, .agg ys =>
   if P.stoodInHeld t then none
   else symAll (fun f : Field => if f.name = "_" then some (.lit true) else eqPart P (symEq P d) f.type xs ys f.offset) fields.toList
  | some (.array len elem), .agg xs, .agg ys =>
   match sizeT P elem with
   | some n => symAll (fun i : Nat => eqPart P (symEq P d) elem xs ys (i * n)) (List.range' 0 len)
   | none => none
  | _, _, _ => none
theorem eqPart_ok {bs : List Nat} {d : Nat} (ih : ∀ t (x y : A) (b : B), x.ok bs -> y.ok bs -> symEq P d t x y = some b -> ∀ m, b.ok /\ qev P (Op.equalIn d t x.ev y.ev) m = some b.ev)
  {t : TypeId} {xs ys : List S} {off : Nat} (hx : ∀ c ∈ xs, c.ok bs) (hy : ∀ c ∈ ys, c.ok bs) {b : B} (h : eqPart P (symEq P d) t xs ys off = some b) (m : Mem) :
  b.ok /\ ∃ u v, qev P (part t (xs.map S.ev).toArray off) m = some u /\ qev P (part t (ys.map S.ev).toArray off) m = some v /\ qev P (Op.equalIn d t u v) m = some b.ev := by
 unfold eqPart at h
 split at h
 ·rename_i a c ha hc
  obtain ⟨h1, h2⟩ := partS_ok hx ha m
  obtain ⟨h3, h4⟩ := partS_ok hy hc m
  obtain ⟨h5, h6⟩ := ih _ _ _ _ h1 h3 h m
  exact ⟨h5, _, _, h2, h4, h6⟩
 ·cases h
theorem symEq_ok {bs : List Nat} : ∀ (d : Nat) (t : TypeId) (x y : A) (b : B), x.ok bs -> y.ok bs -> symEq P d t x y = some b -> ∀ m, b.ok /\ qev P (Op.equalIn d t x.ev y.ev) m = some b.ev := by
  intro d
  induction d with
  | zero => intro t x y b _ _ h; cases h
  | succ d ih =>
    intro t x y b hx hy h m
    unfold symEq at h
    split at h
    · rename_i a c hu
      cases h
      obtain ⟨h1, h2⟩ := mkBeq_ok (a := a) (b := c) hx hy
      refine ⟨h1, ?_⟩
      simp only [Op.equalIn, A.ev, S.ev]
      rw [qev_bind, qev_underlying hu, h2]
      rfl
    · rename_i kk k a k' c hu
      split at h
      · rename_i hk; subst hk
        cases h
        obtain ⟨h1, h2⟩ := mkEq_ok (a := a) (b := c) hx hy
        refine ⟨h1, ?_⟩
        simp only [Op.equalIn, A.ev, S.ev]
        rw [qev_bind, qev_underlying hu, h2]
        simp
      · cases h
    · rename_i fields xs ys hu
      split at h
      · cases h
      · rename_i hs
        have hb := qev_forIn (P := P) (m := m) (body := fun f __s => if f.name ≠ "_" then do
                    let a <- part f.type (xs.map S.ev).toArray f.offset
                    let b <- part f.type (ys.map S.ev).toArray f.offset
                    let c <- Op.equalIn d f.type a b
                    if (!c) = true then pure (ForInStep.done (some false, ()))
                      else pure (ForInStep.yield (none, ()))
                  else pure (ForInStep.yield (none, ()))) fields.toList (by
          intro f _ b hf
          split at hf
          · rename_i hn
            cases hf
            exact ⟨trivial, by simp [hn, stepOf, B.ev]⟩
          · rename_i hn
            obtain ⟨h1, u, v, h2, h3, h4⟩ := eqPart_ok ih hx hy hf m
            refine ⟨h1, ?_⟩
            simp only [ne_eq, hn, not_false_eq_true, if_true, qev_bind, h2, h3, h4, Option.bind_some]
            cases b.ev <;> rfl) h
        refine ⟨hb.1, ?_⟩
        simp only [Op.equalIn, A.ev]
        rw [qev_bind, qev_underlying hu]
        simp only [Option.bind_some]
        rw [qev_bind]
        simp only [qev_program, Option.bind_some, hs]
        rw [<- Array.forIn_toList]
        simp only [Bool.false_eq_true, if_false]
        rw [qev_bind, hb.2]
        cases b.ev <;> rfl
    · rename_i len elem xs ys hu
      split at h
      · rename_i n hn
        have hb := qev_forIn (P := P) (m := m) (body := fun i __s => do
                    let a <- part elem (xs.map S.ev).toArray (i * n)
                    let b <- part elem (ys.map S.ev).toArray (i * n)
                    let c <- Op.equalIn d elem a b
                    if (!c) = true then pure (ForInStep.done (some false, ()))
                      else pure (ForInStep.yield (none, ()))) (List.range' 0 len) (by
          intro f _ b hf
          obtain ⟨h1, u, v, h2, h3, h4⟩ := eqPart_ok ih hx hy hf m
          refine ⟨h1, ?_⟩
          simp only [qev_bind, h2, h3, h4, Option.bind_some]
          cases b.ev <;> rfl) h
        refine ⟨hb.1, ?_⟩
        simp only [Op.equalIn, A.ev]
        rw [qev_bind, qev_underlying hu]
        simp only [Option.bind_some]
        rw [qev_bind, sizeT_some hn]
        simp only [Option.bind_some]
        rw [Std.Legacy.Range.forIn_eq_forIn_range']
        simp only [Std.Legacy.Range.size, Nat.sub_zero, Nat.add_sub_cancel, Nat.div_one]
        rw [qev_bind, hb.2]
        cases b.ev <;> rfl
      · cases h
    · cases h
def symBin (P : Program) (op : BinOp) (t : TypeId) (x y : V) : Option S :=
 match x, y with
 | .a (.s (.int k a)), .a (.s (.int k' b)) =>
  match op with
  | .shl =>
   match b with
   | .lit n => if 0 <= n then some (.int k (mkWrap k (mkMul a (.lit (2 ^ (Min.min n.toNat k.bits)))))) else none
   | b => if 0 <= b.iv.1 then some (.int k (.shv .shl k a b)) else none
  | .shr =>
   match b with
   | .lit n => if 0 <= n then some (.int k (mkShr a (Min.min n.toNat k.bits))) else none
   | b => if 0 <= b.iv.1 then some (.int k (.shv .shr k a b)) else none
  | op =>
   if k = k' then
    match op with
    | .add => some (.int k (mkWrap k (mkAdd a b)))
    | .sub => some (.int k (mkWrap k (mkSub a b)))
    | .mul => some (.int k (mkWrap k (mkMul a b)))
    | .quo => if 0 < b.iv.1 || b.iv.2 < 0 then some (.int k (mkWrap k (mkQuo a b))) else none
    | .rem => if 0 < b.iv.1 || b.iv.2 < 0 then some (.int k (mkRem a b)) else none
    | .and => some (.int k (mkBits .and k a b))
    | .or => some (.int k (mkBits .or k a b))
    | .xor => some (.int k (mkBits .xor k a b))
    | .andNot => some (.int k (mkBits .andNot k a b))
    | .eql => some (.bool (mkEq a b))
    | .neq => some (.bool (mkNotB (mkEq a b)))
    | .lss => some (.bool (mkLt a b))
    | .leq => some (.bool (mkLe a b))
    | .gtr => some (.bool (mkLt b a))
    | .geq => some (.bool (mkLe b a))
    | _ => none
   else none
 | .a (.s (.bool a)), .a (.s (.bool b)) =>
  match op with
  | .eql => (symEq P Op.maxDepth t (.s (.bool a)) (.s (.bool b))).map .bool
  | .neq => (symEq P Op.maxDepth t (.s (.bool a)) (.s (.bool b))).map fun b => .bool (mkNotB b)
  | _ => none
 | .a (.agg a), .a (.agg b) =>
  if P.eqGuardType P.depth t then none else
  match op with
  | .eql => (symEq P Op.maxDepth t (.agg a) (.agg b)).map .bool
  | .neq => (symEq P Op.maxDepth t (.agg a) (.agg b)).map fun b => .bool (mkNotB b)
  | _ => none
 | _, _ => none
theorem guard_int (op : BinOp) (t : TypeId) (x y : Operand) (k k' : IntKind) (a b : Int) (m : Mem) : qev P (eqGuard op t x y (.int k a) (.int k' b)) m = some () := by
 cases op <;> rfl
theorem guard_bool (op : BinOp) (t : TypeId) (x y : Operand) (a b : Bool) (m : Mem) : qev P (eqGuard op t x y (.bool a) (.bool b)) m = some () := by
 cases op <;> rfl
theorem guard_agg (op : BinOp) (t : TypeId) (x y : Operand) (a b : Array Value) (m : Mem) (h : P.eqGuardType P.depth t = false) : qev P (eqGuard op t x y (.agg a) (.agg b)) m = some () := by
 cases op <;> first | rfl | simp [eqGuard, qev_bind, h]
theorem symBin_ok {bs : List Nat} {op : BinOp} {t : TypeId} {x y : V} (ox oy : Operand) (hx : x.ok bs) (hy : y.ok bs) {r : S} (h : symBin P op t x y = some r) (m : Mem) :
  r.ok bs /\ qev P (do eqGuard op t ox oy x.ev y.ev; binOp op t x.ev y.ev) m = some r.ev := by
 unfold symBin at h
 split at h
 ·rename_i k a k' b
  have ha : a.ok := hx
  have hb : b.ok := hy
  have hbi := X.iv_ok b hb
  have key : ∀ (v : Value), qev P (binOp op t (.int k a.ev) (.int k' b.ev)) m = some v -> qev P (do eqGuard op t ox oy (V.a (A.s (S.int k a))).ev (V.a (A.s (S.int k' b))).ev; binOp op t (V.a (A.s (S.int k a))).ev (V.a (A.s (S.int k' b))).ev) m = some v := by
   intro v hv
   rw [qev_bind]
   simp only [V.ev, A.ev, S.ev, guard_int, Option.bind_some]
   exact hv
  split at h
  ·split at h
   ·rename_i n
    split at h
    ·rename_i hn
     cases h
     obtain ⟨h1, h2⟩ := mkMul_ok (a := a) (b := .lit (2 ^ (Min.min n.toNat k.bits))) ha trivial
     obtain ⟨h3, h4⟩ := mkWrap_ok (k := k) h1
     refine ⟨h3, key _ ?_⟩
     have hn' : ¬ (X.lit n).ev < 0 := by simp only [X.ev]; omega
     simp only [binOp, Op.shift, if_neg hn', qev_pure, S.ev, h4, h2]; rfl
    ·cases h
   ·split at h
    ·rename_i hn
     cases h
     refine ⟨⟨ha, hb⟩, key _ ?_⟩
     simp only [binOp, Op.shift, if_neg (show ¬ b.ev < 0 by omega), qev_pure, S.ev, X.ev, shI]
    ·cases h
  ·split at h
   ·rename_i n
    split at h
    ·rename_i hn
     cases h
     obtain ⟨h1, h2⟩ := mkShr_ok (a := a) (n := Min.min n.toNat k.bits) ha
     refine ⟨h1, key _ ?_⟩
     have hn' : ¬ (X.lit n).ev < 0 := by simp only [X.ev]; omega
     simp only [binOp, Op.shift, if_neg hn', qev_pure, S.ev, h2]; rfl
    ·cases h
   ·split at h
    ·rename_i hn
     cases h
     refine ⟨⟨ha, hb⟩, key _ ?_⟩
     simp only [binOp, Op.shift, if_neg (show ¬ b.ev < 0 by omega), qev_pure, S.ev, X.ev, shI]
    ·cases h
  ·split at h
   ·rename_i hk; subst hk
    split at h
    case h_1 =>
     cases h
     obtain ⟨h1, h2⟩ := mkAdd_ok ha hb; obtain ⟨h3, h4⟩ := mkWrap_ok (k := k) h1
     exact ⟨h3, key _ (by simp [binOp, Op.intArith, S.ev, h4, h2])⟩
    case h_2 =>
     cases h
     obtain ⟨h1, h2⟩ := mkSub_ok ha hb; obtain ⟨h3, h4⟩ := mkWrap_ok (k := k) h1
     exact ⟨h3, key _ (by simp [binOp, Op.intArith, S.ev, h4, h2])⟩
    case h_3 =>
     cases h
     obtain ⟨h1, h2⟩ := mkMul_ok ha hb; obtain ⟨h3, h4⟩ := mkWrap_ok (k := k) h1
     exact ⟨h3, key _ (by simp [binOp, Op.intArith, S.ev, h4, h2])⟩
    case h_4 =>
     split at h
     ·rename_i hz
      cases h
      simp only [Bool.or_eq_true, decide_eq_true_eq] at hz
      obtain ⟨h1, h2⟩ := mkQuo_ok ha hb; obtain ⟨h3, h4⟩ := mkWrap_ok (k := k) h1
      exact ⟨h3, key _ (by simp [binOp, Op.intDiv, S.ev, h4, h2, show ¬ b.ev = 0 by omega])⟩
     ·cases h
    case h_5 =>
     split at h
     ·rename_i hz
      cases h
      simp only [Bool.or_eq_true, decide_eq_true_eq] at hz
      obtain ⟨h1, h2⟩ := mkRem_ok ha hb
      exact ⟨h1, key _ (by simp [binOp, Op.intDiv, S.ev, h2, show ¬ b.ev = 0 by omega])⟩
     ·cases h
    case h_6 => cases h; obtain ⟨h1, h2⟩ := mkBits_ok (op := .and) (k := k) ha hb; exact ⟨h1, key _ (by simp [binOp, Op.intBits, S.ev, h2, bitsI])⟩
    case h_7 => cases h; obtain ⟨h1, h2⟩ := mkBits_ok (op := .or) (k := k) ha hb; exact ⟨h1, key _ (by simp [binOp, Op.intBits, S.ev, h2, bitsI])⟩
    case h_8 => cases h; obtain ⟨h1, h2⟩ := mkBits_ok (op := .xor) (k := k) ha hb; exact ⟨h1, key _ (by simp [binOp, Op.intBits, S.ev, h2, bitsI])⟩
    case h_9 => cases h; obtain ⟨h1, h2⟩ := mkBits_ok (op := .andNot) (k := k) ha hb; exact ⟨h1, key _ (by simp [binOp, Op.intBits, S.ev, h2, bitsI])⟩
    case h_10 => cases h; obtain ⟨h1, h2⟩ := mkEq_ok ha hb; exact ⟨h1, key _ (by simp [binOp, Op.intCmp, S.ev, h2])⟩
    case h_11 => cases h; obtain ⟨h1, h2⟩ := mkEq_ok ha hb; obtain ⟨h3, h4⟩ := mkNotB_ok h1; exact ⟨h3, key _ (by simp [binOp, Op.intCmp, S.ev, h4, h2, bne])⟩
    case h_12 => cases h; obtain ⟨h1, h2⟩ := mkLt_ok ha hb; exact ⟨h1, key _ (by simp [binOp, Op.intCmp, S.ev, h2])⟩
    case h_13 => cases h; obtain ⟨h1, h2⟩ := mkLe_ok ha hb; exact ⟨h1, key _ (by simp [binOp, Op.intCmp, S.ev, h2])⟩
    case h_14 => cases h; obtain ⟨h1, h2⟩ := mkLt_ok hb ha; exact ⟨h1, key _ (by simp [binOp, Op.intCmp, S.ev, h2])⟩
    case h_15 => cases h; obtain ⟨h1, h2⟩ := mkLe_ok hb ha; exact ⟨h1, key _ (by simp [binOp, Op.intCmp, S.ev, h2])⟩
    case h_16 => cases h
   ·cases h
 ·rename_i a b
  split at h
  ·cases hs : symEq P Op.maxDepth t (.s (.bool a)) (.s (.bool b)) with
   | none => rw [hs] at h; cases h
   | some c =>
    rw [hs] at h; cases h
    obtain ⟨h1, h2⟩ := symEq_ok (bs := bs) _ _ (.s (.bool a)) (.s (.bool b)) _ hx hy hs m
    refine ⟨h1, ?_⟩
    rw [qev_bind]
    simp only [V.ev, A.ev, S.ev, guard_bool, Option.bind_some] at h2 ⊢
    simp only [binOp, qev_bind, Op.equal, h2]
    rfl
  ·cases hs : symEq P Op.maxDepth t (.s (.bool a)) (.s (.bool b)) with
   | none => rw [hs] at h; cases h
   | some c =>
    rw [hs] at h; cases h
    obtain ⟨h1, h2⟩ := symEq_ok (bs := bs) _ _ (.s (.bool a)) (.s (.bool b)) _ hx hy hs m
    obtain ⟨h3, h4⟩ := mkNotB_ok h1
    refine ⟨h3, ?_⟩
    rw [qev_bind]
    simp only [V.ev, A.ev, S.ev, guard_bool, Option.bind_some] at h2 ⊢
    simp only [binOp, qev_bind, Op.equal, h2, h4]
    rfl
  ·cases h
 ·rename_i a b
  split at h
  ·cases h
  ·rename_i hg
   split at h
   ·cases hs : symEq P Op.maxDepth t (.agg a) (.agg b) with
    | none => rw [hs] at h; cases h
    | some c =>
     rw [hs] at h; cases h
     obtain ⟨h1, h2⟩ := symEq_ok (bs := bs) _ _ (.agg a) (.agg b) _ hx hy hs m
     refine ⟨h1, ?_⟩
     rw [qev_bind]
     simp only [V.ev, A.ev, guard_agg _ _ _ _ _ _ _ (by simpa using hg), Option.bind_some] at h2 ⊢
     simp only [binOp, qev_bind, Op.equal, h2]
     rfl
   ·cases hs : symEq P Op.maxDepth t (.agg a) (.agg b) with
    | none => rw [hs] at h; cases h
    | some c =>
     rw [hs] at h; cases h
     obtain ⟨h1, h2⟩ := symEq_ok (bs := bs) _ _ (.agg a) (.agg b) _ hx hy hs m
     obtain ⟨h3, h4⟩ := mkNotB_ok h1
     refine ⟨h3, ?_⟩
     rw [qev_bind]
     simp only [V.ev, A.ev, guard_agg _ _ _ _ _ _ _ (by simpa using hg), Option.bind_some] at h2 ⊢
     simp only [binOp, qev_bind, Op.equal, h2, h4, S.ev]
     rfl
   ·cases h
 ·cases h
variable {P : Program}
def symFieldAddr (P : Program) (s : TypeId) (x : V) (f : Nat) : Option S :=
 match P.underlying s, x with
 | some (.struct fields), .a (.s (.ptr id b off)) =>
  match fields[f]? with
  | some fd => match sizeT P fd.type with
   | some n => if n = 0 then none else some (.ptr id b (off + fd.offset))
   | none => none
  | none => none
 | some (.struct fields), .a (.s (.px id b off i len st)) =>
  match fields[f]? with
  | some fd => match sizeT P fd.type with
   | some n => if n = 0 then none else some (.px id b (off + fd.offset) i len st)
   | none => none
  | none => none
 | _, _ => none
theorem symFieldAddr_ok {bs : List Nat} {s : TypeId} {x : V} {f : Nat} (hx : x.ok bs) {r : S} (h : symFieldAddr P s x f = some r) (m : Mem) :
  r.ok bs /\ qev P (Instr.fieldAt s x.ev f) m = some r.ev := by
 unfold symFieldAddr at h
 split at h
 ·rename_i fields id b off hu
  split at h
  ·rename_i fd hf
   split at h
   ·rename_i n hn
    split at h
    ·cases h
    ·rename_i hz
     cases h
     refine ⟨hx, ?_⟩
     unfold Instr.fieldAt
     rw [qev_bind, qev_underlying hu]
     simp only [Option.bind_some, hf, V.ev, A.ev, S.ev]
     rw [qev_bind]
     simp only [Instr.sureAddr, qev_pure, Option.bind_some]
     rw [qev_bind]
     unfold fieldPlace
     rw [qev_bind, sizeT_some hn]
     simp [hz, add_plain]
   ·cases h
  ·cases h
 ·rename_i fields id b off i len st hu
  split at h
  ·rename_i fd hf
   split at h
   ·rename_i n hn
    split at h
    ·cases h
    ·rename_i hz
     cases h
     refine ⟨hx, ?_⟩
     unfold Instr.fieldAt
     rw [qev_bind, qev_underlying hu]
     simp only [Option.bind_some, hf, V.ev, A.ev, S.ev]
     rw [qev_bind]
     simp only [Instr.sureAddr, qev_pure, Option.bind_some]
     rw [qev_bind]
     unfold fieldPlace
     rw [qev_bind, sizeT_some hn]
     simp only [Option.bind_some, hz, if_false, add_plain, qev_pure, Nat.add_assoc, Option.some.injEq, Value.pointer.injEq, Addr.mk.injEq, true_and, and_true]
     omega
   ·cases h
  ·cases h
 ·cases h
def symField (P : Program) (t : TypeId) (x : V) (f : Nat) : Option A :=
 match P.underlying t, x with
 | some (.struct fields), .a (.agg cs) =>
  match fields[f]? with
  | some fd => partS P fd.type cs fd.offset
  | none => none
 | _, _ => none
theorem symField_ok {bs : List Nat} {t : TypeId} {x : V} {f : Nat} (hx : x.ok bs) {r : A} (h : symField P t x f = some r) (m : Mem) :
  r.ok bs /\ qev P (Instr.field t x.ev f) m = some r.ev := by
 unfold symField at h
 split at h
 ·rename_i fields cs hu
  split at h
  ·rename_i fd hf
   obtain ⟨h1, h2⟩ := partS_ok hx h m
   refine ⟨h1, ?_⟩
   unfold Instr.field
   rw [qev_bind, qev_underlying hu]
   rw [show (V.a (A.agg cs)).ev = .agg (cs.map S.ev).toArray from rfl]
   simp only [Option.bind_some, hf]
   rw [qev_bind]
   simpa only [asAgg, qev_pure, Option.bind_some] using h2
  ·cases h
 ·cases h
def symIndexAddr (P : Program) (t : TypeId) (x : V) (j : Int) : Option S :=
 match P.underlying t, x with
 | some (.array len elem), .a (.s (.ptr id b off)) =>
  match sizeT P elem with
  | some n => if 0 <= j /\ j < len then some (.ptr id b (off + j.toNat * n)) else none
  | none => none
 | some (.array len elem), .a (.s (.px id b off i l st)) =>
  match sizeT P elem with
  | some n => if 0 <= j /\ j < len then some (.px id b (off + j.toNat * n) i l st) else none
  | none => none
 | some (.slice elem), .a (.s (.sl id b off len _)) =>
  match sizeT P elem with
  | some n => if 0 <= j /\ j < len then some (.ptr id b (off + j.toNat * n)) else none
  | none => none
 | _, _ => none
theorem symIndexAddr_ok {bs : List Nat} {t : TypeId} {x : V} {j : Int} (k : IntKind) (hx : x.ok bs) {r : S} (h : symIndexAddr P t x j = some r) (m : Mem) :
  r.ok bs /\ qev P (Instr.indexAt t x.ev (.int k j)) m = some r.ev := by
 unfold symIndexAddr at h
 split at h
 ·rename_i len elem id b off hu
  split at h
  ·rename_i n hn
   split at h
   ·rename_i hj
    cases h
    refine ⟨hx, ?_⟩
    unfold Instr.indexAt
    simp only [asIntOf, qev_bind, qev_pure, Option.bind_some, qev_underlying hu, V.ev, A.ev, S.ev, Instr.sureAddr, hj, and_self, if_true, sizeT_some hn, add_plain]
   ·cases h
  ·cases h
 ·rename_i len elem id b off i l st hu
  split at h
  ·rename_i n hn
   split at h
   ·rename_i hj
    cases h
    refine ⟨hx, ?_⟩
    unfold Instr.indexAt
    simp only [asIntOf, qev_bind, qev_pure, Option.bind_some, qev_underlying hu, V.ev, A.ev, S.ev, Instr.sureAddr, hj, and_self, if_true, sizeT_some hn, add_plain]
    congr 4
    omega
   ·cases h
  ·cases h
 ·rename_i elem id b off len cap hu
  split at h
  ·rename_i n hn
   split at h
   ·rename_i hj
    cases h
    refine ⟨hx, ?_⟩
    unfold Instr.indexAt
    simp only [asIntOf, qev_bind, qev_pure, Option.bind_some, qev_underlying hu, V.ev, A.ev, S.ev, hj, and_self, if_true, sizeT_some hn, add_plain]
   ·cases h
  ·cases h
 ·cases h
def symIndex (P : Program) (t : TypeId) (x : V) (j : Int) : Option A :=
 match P.underlying t, x with
 | some (.array len elem), .a (.agg cs) =>
  match sizeT P elem with
  | some n => if 0 <= j /\ j < len then partS P elem cs (j.toNat * n) else none
  | none => none
 | _, _ => none
theorem symIndex_ok {bs : List Nat} {t : TypeId} {x : V} {j : Int} (k : IntKind) (hx : x.ok bs) {r : A} (h : symIndex P t x j = some r) (m : Mem) :
  r.ok bs /\ qev P (Instr.index t x.ev (.int k j)) m = some r.ev := by
 unfold symIndex at h
 split at h
 ·rename_i len elem cs hu
  split at h
  ·rename_i n hn
   split at h
   ·rename_i hj
    obtain ⟨h1, h2⟩ := partS_ok hx h m
    refine ⟨h1, ?_⟩
    unfold Instr.index
    simp only [asIntOf, qev_bind, qev_pure, Option.bind_some, qev_underlying hu, V.ev, A.ev, hj, and_self, if_true, sizeT_some hn]
    exact h2
   ·cases h
  ·cases h
 ·cases h
def symIndexX (P : Program) (t : TypeId) (x : V) (j : X) : Option S :=
 match P.underlying t, x with
 | some (.array len elem), .a (.s (.ptr id b off)) => (sizeT P elem).map fun n => .px id b off j len n
 | some (.slice elem), .a (.s (.sl id b off len _)) => (sizeT P elem).map fun n => .px id b off j len n
 | _, _ => none
def lenX (P : Program) (t : TypeId) (x : V) : Int :=
 match P.underlying t, x with
 | some (.array len _), _ => len
 | some (.slice _), .a (.s (.sl _ _ _ len _)) => len
 | _, _ => 0
theorem symIndexX_ok {bs : List Nat} {t : TypeId} {x : V} {j : X} (k : IntKind) (hx : x.ok bs) (hj : j.ok) (h0 : 0 <= j.ev) (h1 : j.ev < lenX P t x) {r : S} (h : symIndexX P t x j = some r) (m : Mem) :
  r.ok bs /\ qev P (Instr.indexAt t x.ev (.int k j.ev)) m = some r.ev := by
 unfold symIndexX at h
 split at h
 ·rename_i len elem id b off hu
  cases hn : sizeT P elem with
  | none => rw [hn] at h; cases h
  | some n =>
   rw [hn] at h; cases h
   simp only [lenX, hu] at h1
   refine ⟨⟨hx, hj, h0, h1⟩, ?_⟩
   unfold Instr.indexAt
   simp only [asIntOf, qev_bind, qev_pure, Option.bind_some, qev_underlying hu, V.ev, A.ev, S.ev, Instr.sureAddr, h0, h1, and_self, if_true, sizeT_some hn, add_plain]
 ·rename_i elem id b off len cap hu
  cases hn : sizeT P elem with
  | none => rw [hn] at h; cases h
  | some n =>
   rw [hn] at h; cases h
   simp only [lenX, hu] at h1
   refine ⟨⟨hx, hj, h0, h1⟩, ?_⟩
   unfold Instr.indexAt
   simp only [asIntOf, qev_bind, qev_pure, Option.bind_some, qev_underlying hu, V.ev, A.ev, S.ev, h0, h1, and_self, if_true, sizeT_some hn, add_plain]
 ·cases h
def kindAt (cells : List S) (off : Nat) : IntKind :=
 match cells[off]? with
 | some (.int k _) => k
 | _ => .i64
def collectX (cells : List S) (n : Nat) (kd : IntKind) : Nat -> Nat -> Option (List X)
 | _, 0 => some []
 | off, l + 1 => match cells[off]? with
  | some (.int k x) => if k = kd then (collectX cells n kd (off + n) l).map (x :: ·) else none
  | _ => none
theorem collectX_ok {cells : List S} {n : Nat} {kd : IntKind} : ∀ (l off : Nat) {xs : List X}, collectX cells n kd off l = some xs -> xs.length = l /\ ∀ q x, xs[q]? = some x -> cells[off + q * n]? = some (.int kd x)
 | 0, off, xs, h => by cases h; exact ⟨rfl, fun q x hx => by simp at hx⟩
 | l + 1, off, xs, h => by
  simp only [collectX] at h
  split at h
  ·rename_i k x hc
   split at h
   ·rename_i hk; subst hk
    cases hr : collectX cells n k (off + n) l with
    | none => rw [hr] at h; cases h
    | some ys =>
     rw [hr] at h; cases h
     obtain ⟨h1, h2⟩ := collectX_ok l (off + n) hr
     refine ⟨by simp [h1], fun q y hy => ?_⟩
     cases q with
     | zero => simp at hy; subst hy; simpa using hc
     | succ q =>
      have := h2 q y (by simpa using hy)
      rw [<- this]; congr 1; rw [Nat.succ_mul]; omega
   ·cases h
  ·cases h
def cellPx (cells : List S) (off : Nat) (i : X) (len n : Nat) : Option S :=
 (collectX cells n (kindAt cells off) off len).map fun xs => .int (kindAt cells off) (selB i xs)
theorem cellPx_ok {bs : List Nat} {cells : List S} (hc : ∀ c ∈ cells, c.ok bs) {off : Nat} {i : X} (hi : i.ok) {len n : Nat} (h0 : 0 <= i.ev) (h1 : i.ev < len) {r : S} (h : cellPx cells off i len n = some r) :
  r.ok bs /\ ∃ y, cells[off + i.ev.toNat * n]? = some y /\ y.ev = r.ev := by
 unfold cellPx at h
 cases hx : collectX cells n (kindAt cells off) off len with
 | none => rw [hx] at h; cases h
 | some xs =>
  rw [hx] at h; cases h
  obtain ⟨h2, h3⟩ := collectX_ok _ _ hx
  have hq : i.ev.toNat < xs.length := by omega
  have e := h3 i.ev.toNat xs[i.ev.toNat] (List.getElem?_eq_getElem hq)
  have hok : ∀ x ∈ xs, x.ok := by
   intro x hx'
   obtain ⟨q, hq'⟩ := List.getElem?_of_mem hx'
   exact hc _ (List.mem_of_getElem? (h3 q x hq'))
  obtain ⟨g1, g2⟩ := selB_ok hi xs i.ev.toNat hok hq (by omega)
  refine ⟨g1, _, e, ?_⟩
  simp only [S.ev, g2 _ (List.getElem?_eq_getElem hq)]
def cellsPx (cells : List S) (i : X) (len n : Nat) : Nat -> Nat -> Option (List S)
 | _, 0 => some []
 | off, m + 1 => match cellPx cells off i len n, cellsPx cells i len n (off + 1) m with
  | some c, some cs => some (c :: cs)
  | _, _ => none
theorem cellsPx_ok {bs : List Nat} {cells : List S} (hc : ∀ c ∈ cells, c.ok bs) {i : X} (hi : i.ok) {len n : Nat} (h0 : 0 <= i.ev) (h1 : i.ev < len) : ∀ (m off : Nat) {rs : List S}, cellsPx cells i len n off m = some rs ->
  (∀ r ∈ rs, r.ok bs) /\ rs.map S.ev = ((cells.drop (off + i.ev.toNat * n)).take m).map S.ev /\ (0 < m -> off + i.ev.toNat * n + m <= cells.length)
 | 0, off, rs, h => by cases h; exact ⟨(fun r hr => by cases hr), by simp, fun h => absurd h (by simp)⟩
 | m + 1, off, rs, h => by
  simp only [cellsPx] at h
  split at h
  ·rename_i c cs hp hr
   cases h
   obtain ⟨g1, y, g2, g3⟩ := cellPx_ok hc hi h0 h1 hp
   obtain ⟨k1, k2, k3⟩ := cellsPx_ok hc hi h0 h1 m (off + 1) hr
   have hlt := (List.getElem?_eq_some_iff.1 g2).1
   have hy := (List.getElem?_eq_some_iff.1 g2).2
   refine ⟨?_, ?_, fun _ => ?_⟩
   ·intro r hr'
    rcases List.mem_cons.1 hr' with rfl | hr'
    ·exact g1
    ·exact k1 r hr'
   ·rw [List.drop_eq_getElem_cons hlt, List.take_succ_cons, List.map_cons, List.map_cons, k2, hy, g3]
    rw [show off + 1 + i.ev.toNat * n = off + i.ev.toNat * n + 1 by omega]
   ·cases m with
    | zero => omega
    | succ m => have := k3 (by omega); omega
  ·cases h
def loadPx (P : Program) (mem : List SB) (t : TypeId) (id off : Nat) (i : X) (len n : Nat) : Option A :=
 match mem[id]?, isAggT P t with
 | some x, some true =>
  match sizeT P t with
  | some (m + 1) => (cellsPx x.cells i len n off (m + 1)).map .agg
  | _ => none
 | some x, some false => (cellPx x.cells off i len n).map .s
 | _, _ => none
theorem loadPx_ok {mem : List SB} (H : MemOk mem) {t : TypeId} {id b off : Nat} (hp : (bsOf mem)[id]? = some b) {i : X} (hi : i.ok) {len n : Nat} (h0 : 0 <= i.ev) (h1 : i.ev < len) {r : A} (h : loadPx P mem t id off i len n = some r) :
  r.ok (bsOf mem) /\ qev P (loadVar t ⟨b, off + i.ev.toNat * n, none⟩) (memOf mem) = some r.ev := by
 unfold loadPx at h
 split at h
 ·rename_i x hx ha
  split at h
  ·rename_i m hm
   cases hc : cellsPx x.cells i len n off (m + 1) with
   | none => rw [hc] at h; cases h
   | some rs =>
    rw [hc] at h; cases h
    obtain ⟨g1, g2, g3⟩ := cellsPx_ok (H.ok x (List.mem_of_getElem? hx)) hi h0 h1 _ _ hc
    have hl : loadS P mem t id (off + i.ev.toNat * n) = some (.agg ((x.cells.drop (off + i.ev.toNat * n)).take (m + 1))) := by
     simp only [loadS, hx, ha, hm]
     rw [if_pos (g3 (by omega))]
    obtain ⟨k1, k2⟩ := loadS_ok H hp hl
    refine ⟨g1, ?_⟩
    rw [k2]
    simp only [A.ev, g2]
  ·cases h
 ·rename_i x hx ha
  cases hc : cellPx x.cells off i len n with
  | none => rw [hc] at h; cases h
  | some c =>
   rw [hc] at h; cases h
   obtain ⟨g1, y, g2, g3⟩ := cellPx_ok (H.ok x (List.mem_of_getElem? hx)) hi h0 h1 hc
   have hl : loadS P mem t id (off + i.ev.toNat * n) = some (.s y) := by
    simp only [loadS, hx, ha, g2, Option.map_some]
   obtain ⟨k1, k2⟩ := loadS_ok H hp hl
   exact ⟨g1, by rw [k2]; simp only [A.ev, g3]⟩
 ·cases h
def putPx1 (cells : List S) (n : Nat) (i : X) (kd : IntKind) (v : X) : Nat -> Nat -> Nat -> Option (List S)
 | _, _, 0 => some cells
 | off, k, l + 1 => match putPx1 cells n i kd v (off + n) (k + 1) l with
  | some cs => match cells[off]? with
   | some (.int k' old) => if k' = kd then some (cs.set off (.int kd (mkIte i k v old))) else none
   | _ => none
  | none => none
theorem putPx1_ok {bs : List Nat} {cells : List S} (hc : ∀ c ∈ cells, c.ok bs) {n : Nat} (hn : 0 < n) {i : X} (hi : i.ok) {kd : IntKind} {v : X} (hv : v.ok) : ∀ (l off k : Nat) {cs : List S}, putPx1 cells n i kd v off k l = some cs ->
  cs.length = cells.length /\ (∀ c ∈ cs, c.ok bs) /\ (∀ q, q < l -> off + q * n < cells.length) /\ (∀ j, j < off -> cs[j]? = cells[j]?) /\
  ∀ j, (cs.map S.ev)[j]? = if (∃ q, q < l /\ j = off + q * n /\ i.ev = ((k + q : Nat) : Int)) then some (.int kd v.ev) else (cells.map S.ev)[j]?
 | 0, off, k, cs, h => by
  cases h
  refine ⟨rfl, hc, fun q hq => absurd hq (by omega), fun j _ => rfl, fun j => ?_⟩
  rw [if_neg]
  rintro ⟨q, hq, _⟩; omega
 | l + 1, off, k, cs, h => by
  simp only [putPx1] at h
  split at h
  ·rename_i cs' hr
   split at h
   ·rename_i k' old hold
    split at h
    ·rename_i hk; subst hk
     cases h
     obtain ⟨a1, a2, a3, a4, a5⟩ := putPx1_ok hc hn hi hv l (off + n) (k + 1) hr
     have hlt := (List.getElem?_eq_some_iff.1 hold).1
     obtain ⟨e1, e2⟩ := mkIte_ok (k : Int) hi hv (show old.ok from hc _ (List.mem_of_getElem? hold))
     refine ⟨by simp [a1], ?_, ?_, ?_, ?_⟩
     ·intro c hc'
      rcases List.mem_or_eq_of_mem_set hc' with h1 | h1
      ·exact a2 c h1
      ·subst h1; exact e1
     ·intro q hq
      cases q with
      | zero => simpa using hlt
      | succ q => have := a3 q (by omega); rw [Nat.succ_mul]; omega
     ·intro j hj
      rw [List.getElem?_set_ne (by omega)]
      exact a4 j (by omega)
     ·intro j
      rw [List.map_set, List.getElem?_set]
      by_cases hj : off = j
      ·subst hj
       rw [if_pos rfl, if_pos (by simp [a1]; exact hlt)]
       simp only [S.ev, e2]
       by_cases hik : i.ev = (k : Int)
       ·rw [if_pos hik, if_pos ⟨0, by omega, by simp, by simpa using hik⟩]
       ·rw [if_neg hik, if_neg]
        ·simp [hold, S.ev]
        ·rintro ⟨q, hq, h1, h2⟩
         have : q = 0 := by
          cases q with
          | zero => rfl
          | succ q => rw [Nat.succ_mul] at h1; omega
         subst this
         exact hik (by simpa using h2)
      ·rw [if_neg hj, a5 j]
       by_cases hex : ∃ q, q < l /\ j = off + n + q * n /\ i.ev = ((k + 1 + q : Nat) : Int)
       ·rw [if_pos hex, if_pos]
        obtain ⟨q, h1, h2, h3⟩ := hex
        exact ⟨q + 1, by omega, by rw [Nat.succ_mul]; omega, by rw [h3]; congr 1; omega⟩
       ·rw [if_neg hex, if_neg]
        rintro ⟨q, h1, h2, h3⟩
        cases q with
        | zero => exact hj (by simpa using h2.symm)
        | succ q => exact hex ⟨q, by omega, by rw [Nat.succ_mul] at h2; omega, by rw [h3]; congr 1; omega⟩
    ·cases h
   ·cases h
  ·cases h
def putS (cs : List S) (off : Nat) : List S -> List S
 | [] => cs
 | x :: xs => putS (cs.set off x) (off + 1) xs
theorem putS_length (xs : List S) : ∀ (cs : List S) (off : Nat), (putS cs off xs).length = cs.length := by
 induction xs with
 | nil => intro cs off; rfl
 | cons x xs ih => intro cs off; simp [putS, ih]
theorem putS_ok {bs : List Nat} (xs : List S) : ∀ (cs : List S) (off : Nat), (∀ c ∈ cs, c.ok bs) -> (∀ c ∈ xs, c.ok bs) -> ∀ c ∈ putS cs off xs, c.ok bs := by
 induction xs with
 | nil => intro cs off h _; exact h
 | cons x xs ih =>
  intro cs off h hx
  refine ih _ _ (fun c hc => ?_) fun c hc => hx c (by simp [hc])
  rcases List.mem_or_eq_of_mem_set hc with h1 | h1
  ·exact h c h1
  ·subst h1; exact hx _ (by simp)
def putA (cs : Array Value) (off : Nat) : List Value -> Array Value
 | [] => cs
 | x :: xs => putA (cs.setIfInBounds off x) (off + 1) xs
theorem putA_map (xs : List S) : ∀ (cs : List S) (off : Nat), putA (cs.map S.ev).toArray off (xs.map S.ev) = ((putS cs off xs).map S.ev).toArray := by
 induction xs with
 | nil => intro cs off; rfl
 | cons x xs ih => intro cs off; simp only [List.map_cons, putA, putS, List.setIfInBounds_toArray]; rw [<- List.map_set]; exact ih _ _
theorem foldl_put (l : List Value) : ∀ (cs : Array Value) (off k : Nat), (l.zipIdx k).foldl (fun cs (x : Value × Nat) => cs.setIfInBounds (off + x.2) x.1) cs = putA cs (off + k) l := by
 induction l with
 | nil => intro cs off k; rfl
 | cons x xs ih => intro cs off k; simp only [List.zipIdx_cons, List.foldl_cons, putA]; exact ih _ _ _
def fillS (place : Nat -> Option (Nat × Nat)) (cells : List S) : List (Nat × A) -> Option (List S)
 | [] => some cells
 | (i, v) :: rest =>
  match place i with
  | none => none
  | some (off, size) =>
   if v.cells.length ≠ size || off + v.cells.length > cells.length || !v.fl then none
   else fillS place (putS cells off v.cells) rest
theorem fillS_ok {bs : List Nat} {place : Nat -> Option (Nat × Nat)} : ∀ (l : List (Nat × A)) (cells : List S), (∀ c ∈ cells, c.ok bs) -> (∀ x ∈ l, x.2.ok bs) -> ∀ {r : List S}, fillS place cells l = some r ->
  (∀ c ∈ r, c.ok bs) /\ Instr.fill place (cells.map S.ev).toArray (l.map fun x => (x.1, x.2.ev)) = some (r.map S.ev).toArray
 | [], cells, hc, _, r, h => by cases h; exact ⟨hc, rfl⟩
 | (i, v) :: rest, cells, hc, hl, r, h => by
  simp only [fillS] at h
  cases hp : place i with
  | none => rw [hp] at h; cases h
  | some p =>
   obtain ⟨off, size⟩ := p
   rw [hp] at h
   simp only at h
   split at h
   ·cases h
   ·rename_i hcond
    simp only [ne_eq, Bool.or_eq_true, decide_eq_true_eq, Bool.not_eq_true', not_or, Bool.not_eq_false, Decidable.not_not] at hcond
    obtain ⟨⟨h1, h2⟩, h3⟩ := hcond
    have hv : v.ok bs := hl (i, v) (by simp)
    have hvc : ∀ c ∈ v.cells, c.ok bs := by
     cases v with
     | s x => intro c hc'; simp [A.cells] at hc'; subst hc'; exact hv
     | agg xs => exact hv
    obtain ⟨h4, h5⟩ := fillS_ok rest _ (putS_ok _ _ _ hc hvc) (fun x hx => hl x (by simp [hx])) h
    refine ⟨h4, ?_⟩
    simp only [List.map_cons, Instr.fill, hp]
    have e1 : v.ev.cells = (v.cells.map S.ev).toArray := A.ev_cells h3
    rw [if_neg (by simp [e1, h1]; omega)]
    rw [<- h5]
    congr 1
    rw [e1]
    have := foldl_put (v.cells.map S.ev) (cells.map S.ev).toArray off 0
    rw [Nat.add_zero, putA_map] at this
    rw [<- this, <- Array.foldl_toList]
    simp
def zeroCells (P : Program) (t : TypeId) : Option (List S) :=
 match P.info? t with
 | some i => match i.zero with
  | some z => if (ofA z).fl then some (ofA z).cells else none
  | none => none
 | none => none
theorem zeroCells_ok {t : TypeId} {cs : List S} (h : zeroCells P t = some cs) (bs : List Nat) :
  (∀ c ∈ cs, c.ok bs) /\ ∃ z, nev P (zeroValue t) = some z /\ z.cells = (cs.map S.ev).toArray := by
 unfold zeroCells at h
 split at h
 ·rename_i i hi
  split at h
  ·rename_i z hz
   split at h
   ·rename_i hf
    cases h
    refine ⟨?_, z, ?_, ?_⟩
    ·have := ofA_ok bs z
     cases hz' : ofA z with
     | s x => rw [hz'] at this; intro c hc; simp [A.cells] at hc; subst hc; exact this
     | agg xs => rw [hz'] at this; exact this
    ·unfold zeroValue typeInfo
     show nev P ((program.bind fun p => _).bind _) = _
     have hi' : P.toTables.info? t = some i := hi
     simp [Sem.bind, program, nev, hi', hz, pure]
    ·have := A.ev_cells hf
     rw [ofA_ev] at this; exact this
   ·cases h
  ·cases h
 ·cases h
def agsOf : List (Nat × V) -> Option (List (Nat × A))
 | [] => some []
 | (i, .a x) :: r => (agsOf r).map ((i, x) :: ·)
 | _ => none
theorem agsOf_ok : ∀ (l : List (Nat × V)) {r : List (Nat × A)}, agsOf l = some r -> l = r.map fun x => (x.1, V.a x.2)
 | [], r, h => by cases h; rfl
 | (i, .a x) :: l, r, h => by
  simp only [agsOf] at h
  cases hr : agsOf l with
  | none => rw [hr] at h; cases h
  | some q => rw [hr] at h; cases h; simp [<- agsOf_ok l hr]
 | (i, .tup x) :: l, r, h => by cases h
def placesOf (P : Program) : List Field -> Option (List (Nat × Nat))
 | [] => some []
 | f :: r =>
  match sizeT P f.type, placesOf P r with
  | some n, some q => some ((f.offset, n) :: q)
  | _, _ => none
theorem qev_mapM_places : ∀ (l : List Field) {q : List (Nat × Nat)}, placesOf P l = some q -> ∀ m, qev P (l.mapM fun f => do pure (f.offset, <- sizeOf f.type)) m = some q
 | [], q, h, m => by cases h; rfl
 | f :: r, q, h, m => by
  simp only [placesOf] at h
  cases hn : sizeT P f.type with
  | none => rw [hn] at h; cases h
  | some n =>
   cases hr : placesOf P r with
   | none => rw [hn, hr] at h; cases h
   | some q' =>
    rw [hn, hr] at h; cases h
    simp only [List.mapM_cons, qev_bind, sizeT_some hn, Option.bind_some, qev_pure, qev_mapM_places r hr]
def symBuild (P : Program) (t : TypeId) (parts : List (Nat × V)) : Option A :=
 match zeroCells P t, agsOf parts, P.underlying t with
 | some z, some l, some (.struct fields) =>
  match placesOf P fields.toList with
  | some q => (fillS (q.toArray[·]?) z l).map .agg
  | none => none
 | some z, some l, some (.array _ elem) =>
  match sizeT P elem with
  | some n => (fillS (fun i => some (i * n, n)) z l).map .agg
  | none => none
 | _, _, _ => none
theorem symBuild_ok {bs : List Nat} {t : TypeId} {parts : List (Nat × V)} (hp : ∀ x ∈ parts, x.2.ok bs) {r : A} (h : symBuild P t parts = some r) (m : Mem) :
  r.ok bs /\ qev P (Instr.build t (parts.map fun x => (x.1, x.2.ev)).toArray) m = some r.ev := by
 unfold symBuild at h
 split at h
 ·rename_i z l fields hz hl hu
  obtain ⟨hz1, zv, hz2, hz3⟩ := zeroCells_ok hz bs
  split at h
  ·rename_i q hq
   cases hf : fillS (q.toArray[·]?) z l with
   | none => rw [hf] at h; cases h
   | some cs =>
    rw [hf] at h; cases h
    have e := agsOf_ok _ hl
    obtain ⟨h1, h2⟩ := fillS_ok l z hz1 (fun x hx => by
     have := hp (x.1, V.a x.2) (by rw [e]; exact List.mem_map.2 ⟨x, hx, rfl⟩); exact this) hf
    refine ⟨h1, ?_⟩
    unfold Instr.build
    rw [qev_bind, nev_qev _ hz2]
    simp only [Option.bind_some]
    rw [qev_bind, qev_underlying hu]
    simp only [Option.bind_some]
    rw [qev_bind]
    have e2 : qev P (fields.mapM fun f => do pure (f.offset, <- sizeOf f.type)) m = some q.toArray := by
     rw [Array.mapM_eq_mapM_toList]
     refine (qev_bind _ (fun a => pure (List.toArray a)) m).trans ?_
     rw [qev_mapM_places _ hq]; rfl
    rw [e2]
    simp only [Option.bind_some]
    rw [hz3, e]
    simp only [List.map_map, Function.comp_def, V.ev]
    rw [h2]
    rfl
  ·cases h
 ·rename_i z l len elem hz hl hu
  obtain ⟨hz1, zv, hz2, hz3⟩ := zeroCells_ok hz bs
  split at h
  ·rename_i n hn
   cases hf : fillS (fun i => some (i * n, n)) z l with
   | none => rw [hf] at h; cases h
   | some cs =>
    rw [hf] at h; cases h
    have e := agsOf_ok _ hl
    obtain ⟨h1, h2⟩ := fillS_ok l z hz1 (fun x hx => by
     have := hp (x.1, V.a x.2) (by rw [e]; exact List.mem_map.2 ⟨x, hx, rfl⟩); exact this) hf
    refine ⟨h1, ?_⟩
    unfold Instr.build
    rw [qev_bind, nev_qev _ hz2]
    simp only [Option.bind_some]
    rw [qev_bind, qev_underlying hu]
    simp only [Option.bind_some]
    rw [qev_bind, sizeT_some hn]
    simp only [Option.bind_some]
    rw [hz3, e]
    simp only [List.map_map, Function.comp_def, V.ev]
    rw [h2]
    rfl
  ·cases h
 ·cases h
def symUn (op : UnOp) (x : V) : Option S :=
 match op, x with
 | .neg, .a (.s (.int k a)) => some (.int k (mkWrap k (mkSub (.lit 0) a)))
 | .xor, .a (.s (.int k a)) => some (.int k (mkNot k a))
 | .not, .a (.s (.bool b)) => some (.bool (mkNotB b))
 | _, _ => none
theorem symUn_ok {bs : List Nat} {op : UnOp} {x : V} (hx : x.ok bs) {r : S} (h : symUn op x = some r) (m : Mem) : r.ok bs /\ qev P (Op.unary op x.ev) m = some r.ev := by
 unfold symUn at h
 split at h
 ·rename_i k a
  cases h
  obtain ⟨h1, h2⟩ := mkSub_ok (a := .lit 0) (b := a) trivial hx
  obtain ⟨h3, h4⟩ := mkWrap_ok (k := k) h1
  exact ⟨h3, by simp only [V.ev, A.ev, S.ev, Op.unary, Op.intArith, h4, h2]; rfl⟩
 ·rename_i k a
  cases h
  obtain ⟨h1, h2⟩ := mkNot_ok (k := k) (a := a) hx
  exact ⟨h1, by simp only [V.ev, A.ev, S.ev, Op.unary, Op.intBits, h2, bitsI]; rfl⟩
 ·cases h
  obtain ⟨h1, h2⟩ := mkNotB_ok hx
  exact ⟨h1, by simp only [V.ev, A.ev, S.ev, Op.unary, h2]; rfl⟩
 ·cases h
def symConv (P : Program) (src dst : TypeId) (x : V) : Option S :=
 match P.underlying src, P.underlying dst, x with
 | some _, some (.int k), .a (.s (.int _ a)) => some (.int k (mkWrap k a))
 | _, _, _ => none
theorem symConv_ok {bs : List Nat} {src dst : TypeId} {x : V} (hx : x.ok bs) {r : S} (h : symConv P src dst x = some r) (m : Mem) : r.ok bs /\ qev P (convert src dst x.ev) m = some r.ev := by
 unfold symConv at h
 split at h
 ·rename_i d k k' a hs hd
  cases h
  obtain ⟨h3, h4⟩ := mkWrap_ok (k := k) (x := a) hx
  refine ⟨h3, ?_⟩
  unfold convert
  rw [qev_bind, qev_underlying hs]
  simp only [Option.bind_some]
  rw [qev_bind, qev_underlying hd]
  simp only [Option.bind_some, V.ev, A.ev, S.ev, Conv.intToInt, qev_pure, h4]
 ·cases h
variable {P : Program}
inductive Sh where
 | int (k : IntKind) (lo hi : Int)
 | bool
 | fn (f : FuncId)
inductive ShA where
 | s (x : Sh)
 | agg (xs : List Sh)
inductive ShV where
 | a (x : ShA)
 | tup (xs : List ShA)
inductive T where
 | given (f : FuncId) (args : List A) (t : T)
 | done (f : FuncId) (args : List A) (v : V)
 | ite (c : B) (t e : T)
 | bind (x : X) (lo hi : Int) (k : Int -> T)
 | newb (k : Nat -> T)
 | all (lo hi : Int) (k : Int -> T)
 | allb (k : Bool -> T)
 | hav (n : Nat) (k : List Value -> T)
 | must (c : B) (t : T)
 | pre (f : FuncId) (args : List A) (t : T)
 | post (f : FuncId) (args : List A) (res : V) (t : T)
 | inv (l : Nat) (fs ws : List S) (t : T)
 | hyp (l : Nat) (fs ys : List S) (t : T)
 | again (l : Nat) (fs ys ws : List S)
 | is (c : B)
 | both (s t : T)
 | fail (why : String)
def b2i (b : Bool) : Int := if b then 1 else 0
def vint : Value -> Int
 | .int _ n => n
 | .bool b => b2i b
 | _ => 0
def vints : Value -> List Int
 | .agg cs => cs.toList.map vint
 | v => [vint v]
def vres : Value -> List (List Int)
 | .tuple vs => vs.toList.map vints
 | v => [vints v]
def S.i (x : S) : Int := vint x.ev
def A.ints (x : A) : List Int := vints x.ev
def V.res (x : V) : List (List Int) := vres x.ev
structure Ctx where
 pre : FuncId -> List (List Int) -> Prop
 post : FuncId -> List (List Int) -> List (List Int) -> Prop
 inv : Nat -> List Int -> List Int -> Prop
 mea : Nat -> List Int -> List Int -> Nat
def sat (E : Ctx) : T -> Prop
 | .given f args t => E.pre f (args.map A.ints) -> sat E t
 | .done f args v => E.post f (args.map A.ints) v.res
 | .ite c t e => (c.pr -> sat E t) /\ (¬ c.pr -> sat E e)
 | .bind x lo hi k => ∀ n, n = x.ev -> lo <= n -> n <= hi -> sat E (k n)
 | .newb k => ∀ b, sat E (k b)
 | .all lo hi k => ∀ n, lo <= n -> n <= hi -> sat E (k n)
 | .allb k => ∀ b, sat E (k b)
 | .hav n k => ∀ vs : List Value, vs.length = n -> sat E (k vs)
 | .must c t => c.pr /\ sat E t
 | .pre f args t => E.pre f (args.map A.ints) /\ sat E t
 | .post f args res t => E.post f (args.map A.ints) res.res -> sat E t
 | .inv l fs ws t => E.inv l (fs.map S.i) (ws.map S.i) /\ sat E t
 | .hyp l fs ys t => E.inv l (fs.map S.i) (ys.map S.i) -> sat E t
 | .again l fs ys ws => E.inv l (fs.map S.i) (ws.map S.i) /\ E.mea l (fs.map S.i) (ws.map S.i) < E.mea l (fs.map S.i) (ys.map S.i)
 | .is c => c.pr
 | .both s t => sat E s /\ sat E t
 | .fail _ => False
def mkMust (c : B) (t : T) : T :=
 match c with
 | .lit true => t
 | c => .must c t
theorem mkMust_ok {E : Ctx} {c : B} {t : T} (h : sat E (mkMust c t)) : c.ev = true /\ sat E t := by
 unfold mkMust at h
 split at h
 ·exact ⟨rfl, h⟩
 ·exact ⟨(B.pr_ev _).1 h.1, h.2⟩
theorem ite_true {E : Ctx} {c : B} {t e : T} (h : sat E (.ite c t e)) (hc : c.ev = true) : sat E t := h.1 ((B.pr_ev c).2 hc)
theorem ite_false {E : Ctx} {c : B} {t e : T} (h : sat E (.ite c t e)) (hc : c.ev = false) : sat E e := h.2 fun hp => by rw [(B.pr_ev c).1 hp] at hc; cases hc
def isLeaf : X -> Bool
 | .lit _ => true
 | .v _ _ _ => true
 | _ => false
def bindS (x : S) (K : S -> T) : T :=
 match x with
 | .int k x => if isLeaf x then K (.int k x) else .bind x x.iv.1 x.iv.2 fun n => K (.int k (.v n x.iv.1 x.iv.2))
 | x => K x
theorem bindS_ok {E : Ctx} {bs : List Nat} {x : S} (hx : x.ok bs) {K : S -> T} (h : sat E (bindS x K)) : ∃ y : S, y.ev = x.ev /\ y.ok bs /\ y.fl = x.fl /\ sat E (K y) := by
 unfold bindS at h
 split at h
 ·rename_i k x
  split at h
  ·exact ⟨_, rfl, hx, rfl, h⟩
  ·have hi := X.iv_ok x hx
   exact ⟨.int k (.v x.ev x.iv.1 x.iv.2), rfl, hi, rfl, h _ rfl hi.1 hi.2⟩
 ·exact ⟨x, rfl, hx, rfl, h⟩
def bindL : List S -> (List S -> T) -> T
 | [], K => K []
 | x :: xs, K => bindS x fun y => bindL xs fun ys => K (y :: ys)
theorem bindL_ok {E : Ctx} {bs : List Nat} : ∀ (xs : List S), (∀ x ∈ xs, x.ok bs) -> ∀ {K : List S -> T}, sat E (bindL xs K) ->
  ∃ ys : List S, ys.map S.ev = xs.map S.ev /\ (∀ y ∈ ys, y.ok bs) /\ ys.length = xs.length /\ sat E (K ys)
 | [], _, K, h => ⟨[], rfl, (fun y hy => by cases hy), rfl, h⟩
 | x :: xs, hx, K, h => by
  obtain ⟨y, h1, h2, _, h3⟩ := bindS_ok (hx x (by simp)) h
  obtain ⟨ys, h4, h5, h6, h7⟩ := bindL_ok xs (fun x hx' => hx x (by simp [hx'])) h3
  refine ⟨y :: ys, by simp [h1, h4], ?_, by simp [h6], h7⟩
  intro z hz
  rcases List.mem_cons.1 hz with rfl | hz
  ·exact h2
  ·exact h5 z hz
def bindA (x : A) (K : A -> T) : T :=
 match x with
 | .s x => bindS x fun y => K (.s y)
 | .agg xs => bindL xs fun ys => K (.agg ys)
theorem bindA_ok {E : Ctx} {bs : List Nat} {x : A} (hx : x.ok bs) {K : A -> T} (h : sat E (bindA x K)) : ∃ y : A, y.ev = x.ev /\ y.ok bs /\ y.fl = x.fl /\ sat E (K y) := by
 unfold bindA at h
 split at h
 ·obtain ⟨y, h1, h2, h3, h4⟩ := bindS_ok hx h
  exact ⟨.s y, h1, h2, h3, h4⟩
 ·obtain ⟨ys, h1, h2, _, h3⟩ := bindL_ok _ hx h
  exact ⟨.agg ys, by simp only [A.ev, h1], h2, rfl, h3⟩
def bindV (x : V) (K : V -> T) : T :=
 match x with
 | .a x => bindA x fun y => K (.a y)
 | x => K x
theorem bindV_ok {E : Ctx} {bs : List Nat} {x : V} (hx : x.ok bs) {K : V -> T} (h : sat E (bindV x K)) : ∃ y : V, y.ev = x.ev /\ y.ok bs /\ sat E (K y) := by
 unfold bindV at h
 split at h
 ·obtain ⟨y, h1, h2, _, h3⟩ := bindA_ok hx h
  exact ⟨.a y, h1, h2, h3⟩
 ·exact ⟨x, rfl, hx, h⟩
def bindAs : List A -> (List A -> T) -> T
 | [], K => K []
 | x :: xs, K => bindA x fun y => bindAs xs fun ys => K (y :: ys)
theorem bindAs_ok {E : Ctx} {bs : List Nat} : ∀ (xs : List A), (∀ x ∈ xs, x.ok bs) -> ∀ {K : List A -> T}, sat E (bindAs xs K) ->
  ∃ ys : List A, ys.map A.ev = xs.map A.ev /\ (∀ y ∈ ys, y.ok bs) /\ sat E (K ys)
 | [], _, K, h => ⟨[], rfl, (fun y hy => by cases hy), h⟩
 | x :: xs, hx, K, h => by
  obtain ⟨y, h1, h2, _, h3⟩ := bindA_ok (hx x (by simp)) h
  obtain ⟨ys, h4, h5, h7⟩ := bindAs_ok xs (fun x hx' => hx x (by simp [hx'])) h3
  refine ⟨y :: ys, by simp [h1, h4], ?_, h7⟩
  intro z hz
  rcases List.mem_cons.1 hz with rfl | hz
  ·exact h2
  ·exact h5 z hz
def Sh.all (x : Sh) (K : S -> T) : T :=
 match x with
 | .int k lo hi => if lo = hi then K (.int k (.lit lo)) else .all lo hi fun n => K (.int k (.v n lo hi))
 | .bool => .allb fun b => K (.bool (.v b))
 | .fn f => K (.fn f [])
def Sh.fits : Sh -> Value -> Prop
 | .int k lo hi, v => ∃ n, v = .int k n /\ lo <= n /\ n <= hi
 | .bool, v => ∃ b, v = .bool b
 | .fn f, v => v = .func (.func f) #[] #[]
theorem Sh.all_ok {E : Ctx} {x : Sh} {K : S -> T} (h : sat E (x.all K)) {v : Value} (hv : x.fits v) (bs : List Nat) : ∃ y : S, y.ev = v /\ y.ok bs /\ sat E (K y) := by
 cases x with
 | int k lo hi =>
  obtain ⟨n, rfl, h1, h2⟩ := hv
  simp only [Sh.all] at h
  split at h
  ·rename_i he
   have : n = lo := by omega
   subst this
   exact ⟨.int k (.lit n), rfl, trivial, h⟩
  ·exact ⟨.int k (.v n lo hi), rfl, ⟨h1, h2⟩, h n h1 h2⟩
 | bool =>
  obtain ⟨b, rfl⟩ := hv
  exact ⟨.bool (.v b), rfl, trivial, h b⟩
 | fn f => exact ⟨.fn f [], hv.symm, (fun c hc => by cases hc), h⟩
def shAll : List Sh -> (List S -> T) -> T
 | [], K => K []
 | x :: xs, K => x.all fun y => shAll xs fun ys => K (y :: ys)
def shFits : List Sh -> List Value -> Prop
 | [], vs => vs = []
 | x :: xs, vs => ∃ u us, vs = u :: us /\ x.fits u /\ shFits xs us
theorem shAll_ok {E : Ctx} (bs : List Nat) : ∀ (xs : List Sh) {K : List S -> T}, sat E (shAll xs K) -> ∀ {vs : List Value}, shFits xs vs -> ∃ ys : List S, ys.map S.ev = vs /\ (∀ y ∈ ys, y.ok bs) /\ sat E (K ys)
 | [], K, h, vs, hv => ⟨[], hv.symm, fun y hy => (by cases hy), h⟩
 | x :: xs, K, h, vs, hv => by
  obtain ⟨u, us, rfl, h1, h2⟩ := hv
  obtain ⟨y, h3, h4, h5⟩ := Sh.all_ok h h1 bs
  obtain ⟨ys, h6, h7, h8⟩ := shAll_ok bs xs h5 h2
  refine ⟨y :: ys, by simp [h3, h6], ?_, h8⟩
  intro z hz
  rcases List.mem_cons.1 hz with rfl | hz
  ·exact h4
  ·exact h7 z hz
def ShA.all (x : ShA) (K : A -> T) : T :=
 match x with
 | .s x => x.all fun y => K (.s y)
 | .agg xs => shAll xs fun ys => K (.agg ys)
def ShA.fits : ShA -> Value -> Prop
 | .s x, v => x.fits v
 | .agg xs, v => ∃ vs, v = .agg vs.toArray /\ shFits xs vs
theorem ShA.all_ok {E : Ctx} {x : ShA} {K : A -> T} (h : sat E (x.all K)) {v : Value} (hv : x.fits v) (bs : List Nat) : ∃ y : A, y.ev = v /\ y.ok bs /\ sat E (K y) := by
 cases x with
 | s x =>
  obtain ⟨y, h1, h2, h3⟩ := Sh.all_ok (x := x) (K := fun y => K (.s y)) h hv bs
  exact ⟨.s y, h1, h2, h3⟩
 | agg xs =>
  obtain ⟨vs, rfl, h1⟩ := hv
  obtain ⟨ys, h2, h3, h4⟩ := shAll_ok bs xs h h1
  exact ⟨.agg ys, by simp only [A.ev, h2], h3, h4⟩
def shaAll : List ShA -> (List A -> T) -> T
 | [], K => K []
 | x :: xs, K => x.all fun y => shaAll xs fun ys => K (y :: ys)
def shaFits : List ShA -> List Value -> Prop
 | [], vs => vs = []
 | x :: xs, vs => ∃ u us, vs = u :: us /\ x.fits u /\ shaFits xs us
theorem shaAll_ok {E : Ctx} (bs : List Nat) : ∀ (xs : List ShA) {K : List A -> T}, sat E (shaAll xs K) -> ∀ {vs : List Value}, shaFits xs vs -> ∃ ys : List A, ys.map A.ev = vs /\ (∀ y ∈ ys, y.ok bs) /\ sat E (K ys)
 | [], K, h, vs, hv => ⟨[], hv.symm, fun y hy => (by cases hy), h⟩
 | x :: xs, K, h, vs, hv => by
  obtain ⟨u, us, rfl, h1, h2⟩ := hv
  obtain ⟨y, h3, h4, h5⟩ := ShA.all_ok h h1 bs
  obtain ⟨ys, h6, h7, h8⟩ := shaAll_ok bs xs h5 h2
  refine ⟨y :: ys, by simp [h3, h6], ?_, h8⟩
  intro z hz
  rcases List.mem_cons.1 hz with rfl | hz
  ·exact h4
  ·exact h7 z hz
def ShV.all (x : ShV) (K : V -> T) : T :=
 match x with
 | .a x => x.all fun y => K (.a y)
 | .tup xs => shaAll xs fun ys => K (.tup ys)
def ShV.fits : ShV -> Value -> Prop
 | .a x, v => x.fits v
 | .tup xs, v => ∃ vs, v = .tuple vs.toArray /\ shaFits xs vs
theorem ShV.all_ok {E : Ctx} {x : ShV} {K : V -> T} (h : sat E (x.all K)) {v : Value} (hv : x.fits v) (bs : List Nat) : ∃ y : V, y.ev = v /\ y.ok bs /\ sat E (K y) := by
 cases x with
 | a x =>
  obtain ⟨y, h1, h2, h3⟩ := ShA.all_ok (x := x) (K := fun y => K (.a y)) h hv bs
  exact ⟨.a y, h1, h2, h3⟩
 | tup xs =>
  obtain ⟨vs, rfl, h1⟩ := hv
  obtain ⟨ys, h2, h3, h4⟩ := shaAll_ok bs xs h h1
  exact ⟨.tup ys, by simp only [V.ev, h2], h3, h4⟩
def Sh.takes : Sh -> S -> Bool
 | .int k lo hi, .int k' x => k == k' && decide (lo <= x.iv.1) && decide (x.iv.2 <= hi)
 | .bool, .bool _ => true
 | .fn f, .fn g cs => f == g && cs.isEmpty
 | _, _ => false
def takesL : List Sh -> List S -> Bool
 | [], [] => true
 | h :: hs, x :: xs => h.takes x && takesL hs xs
 | _, _ => false
def ShA.takes : ShA -> A -> Bool
 | .s h, .s x => h.takes x
 | .agg hs, .agg xs => takesL hs xs
 | _, _ => false
def takesAs : List ShA -> List A -> Bool
 | [], [] => true
 | h :: hs, x :: xs => h.takes x && takesAs hs xs
 | _, _ => false
def ShV.takes : ShV -> V -> Bool
 | .a h, .a x => h.takes x
 | .tup hs, .tup xs => takesAs hs xs
 | _, _ => false
theorem takes_fits {sh : Sh} {x : S} (h : sh.takes x = true) {bs : List Nat} (hx : x.ok bs) : sh.fits x.ev := by
 cases sh with
 | int k lo hi =>
  cases x <;> simp only [Sh.takes, Bool.and_eq_true, beq_iff_eq, decide_eq_true_eq, Bool.false_eq_true] at h
  rename_i k' x
  obtain ⟨⟨rfl, h1⟩, h2⟩ := h
  have := X.iv_ok x hx
  exact ⟨x.ev, rfl, by omega, by omega⟩
 | bool =>
  cases x <;> simp only [Sh.takes, Bool.false_eq_true] at h
  exact ⟨_, rfl⟩
 | fn f =>
  cases x <;> simp only [Sh.takes, Bool.false_eq_true] at h
  rename_i g cs
  simp only [Bool.and_eq_true, beq_iff_eq, List.isEmpty_iff] at h
  obtain ⟨rfl, rfl⟩ := h
  rfl
theorem takesL_fits {bs : List Nat} : ∀ {sh : List Sh} {xs : List S}, takesL sh xs = true -> (∀ x ∈ xs, x.ok bs) -> shFits sh (xs.map S.ev)
 | [], [], _, _ => rfl
 | [], _ :: _, h, _ => by cases h
 | _ :: _, [], h, _ => by cases h
 | s :: sh, x :: xs, h, hx => by
  simp only [takesL, Bool.and_eq_true] at h
  exact ⟨_, _, rfl, takes_fits h.1 (hx x (by simp)), takesL_fits h.2 fun y hy => hx y (by simp [hy])⟩
theorem takesL_len : ∀ {sh : List Sh} {xs : List S}, takesL sh xs = true -> xs.length = sh.length
 | [], [], _ => rfl
 | [], _ :: _, h => by cases h
 | _ :: _, [], h => by cases h
 | _ :: sh, _ :: xs, h => by
  simp only [takesL, Bool.and_eq_true] at h
  simp [takesL_len h.2]
theorem takesA_fits {bs : List Nat} {sh : ShA} {x : A} (h : sh.takes x = true) (hx : x.ok bs) : sh.fits x.ev := by
 cases sh with
 | s s => cases x with
  | s x => exact takes_fits h hx
  | agg xs => cases h
 | agg s => cases x with
  | s x => cases h
  | agg xs => exact ⟨_, rfl, takesL_fits h hx⟩
theorem takesAs_fits {bs : List Nat} : ∀ {sh : List ShA} {xs : List A}, takesAs sh xs = true -> (∀ x ∈ xs, x.ok bs) -> shaFits sh (xs.map A.ev)
 | [], [], _, _ => rfl
 | [], _ :: _, h, _ => by cases h
 | _ :: _, [], h, _ => by cases h
 | s :: sh, x :: xs, h, hx => by
  simp only [takesAs, Bool.and_eq_true] at h
  exact ⟨_, _, rfl, takesA_fits h.1 (hx x (by simp)), takesAs_fits h.2 fun y hy => hx y (by simp [hy])⟩
theorem takesV_fits {bs : List Nat} {sh : ShV} {x : V} (h : sh.takes x = true) (hx : x.ok bs) : sh.fits x.ev := by
 cases sh with
 | a s => cases x with
  | a x => exact takesA_fits h hx
  | tup xs => cases h
 | tup s => cases x with
  | a x => cases h
  | tup xs => exact ⟨_, rfl, takesAs_fits h hx⟩
def fitS (sh : Sh) (x : S) (K : S -> T) : T :=
 match sh, x with
 | .int k lo hi, .int k' x =>
  if k == k' && !(decide (lo <= x.iv.1) && decide (x.iv.2 <= hi)) then mkMust (mkLe (.lit lo) x) (mkMust (mkLe x (.lit hi)) (.bind x lo hi fun n => K (.int k' (.v n lo hi))))
  else K (.int k' x)
 | _, x => K x
theorem fitS_ok {E : Ctx} {bs : List Nat} {sh : Sh} {x : S} (hx : x.ok bs) {K : S -> T} (h : sat E (fitS sh x K)) : ∃ y : S, y.ev = x.ev /\ y.ok bs /\ sat E (K y) := by
 unfold fitS at h
 split at h
 ·rename_i k lo hi k' x
  split at h
  ·obtain ⟨m1, h⟩ := mkMust_ok h
   obtain ⟨m2, h⟩ := mkMust_ok h
   rw [(mkLe_ok (a := .lit lo) trivial hx).2] at m1
   rw [(mkLe_ok (b := .lit hi) hx trivial).2] at m2
   replace m1 : lo <= x.ev := of_decide_eq_true m1
   replace m2 : x.ev <= hi := of_decide_eq_true m2
   exact ⟨.int k' (.v x.ev lo hi), rfl, ⟨m1, m2⟩, h x.ev rfl m1 m2⟩
  ·exact ⟨_, rfl, hx, h⟩
 ·exact ⟨_, rfl, hx, h⟩
def fitL : List Sh -> List S -> (List S -> T) -> T
 | h :: hs, x :: xs, K => fitS h x fun y => fitL hs xs fun ys => K (y :: ys)
 | _, xs, K => K xs
theorem fitL_ok {E : Ctx} {bs : List Nat} : ∀ (sh : List Sh) (xs : List S), (∀ x ∈ xs, x.ok bs) -> ∀ {K : List S -> T}, sat E (fitL sh xs K) -> ∃ ys : List S, ys.map S.ev = xs.map S.ev /\ (∀ y ∈ ys, y.ok bs) /\ sat E (K ys)
 | [], xs, hx, K, h => ⟨xs, rfl, hx, by cases xs <;> exact h⟩
 | _ :: _, [], hx, K, h => ⟨[], rfl, hx, h⟩
 | s :: sh, x :: xs, hx, K, h => by
  obtain ⟨y, h1, h2, h3⟩ := fitS_ok (hx x (by simp)) h
  obtain ⟨ys, h4, h5, h7⟩ := fitL_ok sh xs (fun x hx' => hx x (by simp [hx'])) h3
  refine ⟨y :: ys, by simp [h1, h4], ?_, h7⟩
  intro z hz
  rcases List.mem_cons.1 hz with rfl | hz
  ·exact h2
  ·exact h5 z hz
def fitA (sh : ShA) (x : A) (K : A -> T) : T :=
 match sh, x with
 | .s h, .s x => fitS h x fun y => K (.s y)
 | .agg hs, .agg xs => fitL hs xs fun ys => K (.agg ys)
 | _, x => K x
theorem fitA_ok {E : Ctx} {bs : List Nat} {sh : ShA} {x : A} (hx : x.ok bs) {K : A -> T} (h : sat E (fitA sh x K)) : ∃ y : A, y.ev = x.ev /\ y.ok bs /\ sat E (K y) := by
 unfold fitA at h
 split at h
 ·obtain ⟨y, h1, h2, h3⟩ := fitS_ok hx h
  exact ⟨.s y, h1, h2, h3⟩
 ·obtain ⟨y, h1, h2, h3⟩ := fitL_ok _ _ hx h
  exact ⟨.agg y, by simp only [A.ev, h1], h2, h3⟩
 ·exact ⟨_, rfl, hx, h⟩
def fitAs : List ShA -> List A -> (List A -> T) -> T
 | h :: hs, x :: xs, K => fitA h x fun y => fitAs hs xs fun ys => K (y :: ys)
 | _, xs, K => K xs
theorem fitAs_ok {E : Ctx} {bs : List Nat} : ∀ (sh : List ShA) (xs : List A), (∀ x ∈ xs, x.ok bs) -> ∀ {K : List A -> T}, sat E (fitAs sh xs K) -> ∃ ys : List A, ys.map A.ev = xs.map A.ev /\ (∀ y ∈ ys, y.ok bs) /\ sat E (K ys)
 | [], xs, hx, K, h => ⟨xs, rfl, hx, by cases xs <;> exact h⟩
 | _ :: _, [], hx, K, h => ⟨[], rfl, hx, h⟩
 | s :: sh, x :: xs, hx, K, h => by
  obtain ⟨y, h1, h2, h3⟩ := fitA_ok (hx x (by simp)) h
  obtain ⟨ys, h4, h5, h7⟩ := fitAs_ok sh xs (fun x hx' => hx x (by simp [hx'])) h3
  refine ⟨y :: ys, by simp [h1, h4], ?_, h7⟩
  intro z hz
  rcases List.mem_cons.1 hz with rfl | hz
  ·exact h2
  ·exact h5 z hz
def fitV (sh : ShV) (x : V) (K : V -> T) : T :=
 match sh, x with
 | .a h, .a x => fitA h x fun y => K (.a y)
 | .tup hs, .tup xs => fitAs hs xs fun ys => K (.tup ys)
 | _, x => K x
theorem fitV_ok {E : Ctx} {bs : List Nat} {sh : ShV} {x : V} (hx : x.ok bs) {K : V -> T} (h : sat E (fitV sh x K)) : ∃ y : V, y.ev = x.ev /\ y.ok bs /\ sat E (K y) := by
 unfold fitV at h
 split at h
 ·obtain ⟨y, h1, h2, h3⟩ := fitA_ok hx h
  exact ⟨.a y, h1, h2, h3⟩
 ·obtain ⟨y, h1, h2, h3⟩ := fitAs_ok _ _ hx h
  exact ⟨.tup y, by simp only [V.ev, h1], h2, h3⟩
 ·exact ⟨_, rfl, hx, h⟩
structure Ann where
 l : Nat
 slots : List (Nat × Sh)
 blks : List (Nat × List Sh)
 fro : List Nat
structure New where
 args : List (IntKind × Int)
 cells : List (IntKind × Int)
 len : Nat
def litV (c : IntKind × Int) : Value := .int c.1 c.2
def litS (c : IntKind × Int) : S := .int c.1 (.lit c.2)
structure Tab where
 cons : List (FuncId × List ShA × ShV)
 exts : List (FuncId × Bool)
 anns : List (FuncId × Nat × Ann) := []
 spls : List (FuncId × Nat × Nat) := []
 mrgs : List FuncId := []
 asts : List (FuncId × Nat × List (List (Nat × Bool) × Nat × Nat × Int)) := []
 news : List (FuncId × New) := []
def Tab.new (t : Tab) (f : FuncId) : Option New := (t.news.find? (·.1 == f)).map (·.2)
def Tab.con (t : Tab) (f : FuncId) : Option (List ShA × ShV) := (t.cons.find? (·.1 == f)).map (·.2)
def Tab.ast (t : Tab) (f : FuncId) (r : Nat) : List (List (Nat × Bool) × Nat × Nat × Int) := ((t.asts.find? fun x => x.1 == f && x.2.1 == r).map (·.2.2)).getD []
def Tab.ext (t : Tab) (f : FuncId) : Option Bool := (t.exts.find? (·.1 == f)).map (·.2)
def Tab.spl (t : Tab) (f : FuncId) (r : Nat) : Option Nat := (t.spls.find? (fun x => x.1 == f && x.2.1 == r)).map (·.2.2)
def Tab.ann (t : Tab) (f : FuncId) (r : Nat) : Option Ann := (t.anns.find? (fun x => x.1 == f && x.2.1 == r)).map (·.2.2)
def addE : Array Value -> Sem Value := fun args => do
 let (x, y, c) <- Extern.MathBitsCarry.three "Add64" args
 pure (Extern.MathBitsCarry.pair ((x + y + c) % Extern.MathBitsCarry.m64) ((x + y + c) / Extern.MathBitsCarry.m64))
def subE : Array Value -> Sem Value := fun args => do
 let (x, y, b) <- Extern.MathBitsCarry.three "Sub64" args
 pure (Extern.MathBitsCarry.pair ((x + Extern.MathBitsCarry.m64 - y - b) % Extern.MathBitsCarry.m64) (if x < y + b then 1 else 0))
def ExtOk (P : Program) (f : FuncId) (kind : Bool) : Prop :=
 ∃ fn, P.funcs[f]? = some fn /\ (fn.name == "runtime.NumGoroutine") = false /\ fn.body.isNone = true /\ (Extern.findNext fn).isNone = true /\ Extern.find fn = some (if kind then addE else subE)
def NewOk (P : Program) (f : FuncId) (x : New) : Prop :=
 ∀ w, J w -> Calls P f (x.args.map litV).toArray w fun e w' => ∃ b cap, e = .returned (.slice (some ⟨b, 0, none⟩) x.len cap) /\ Sm w w' /\ w.heap.size <= b /\
  ∃ fr cs ty, w'.heap[b]? = some (.cells cs ty fr) /\ ∀ (i : Nat) (v : Value), (x.cells.map litV)[i]? = some v -> cs[i]? = some v
structure Valid (P : Program) (t : Tab) (E : Ctx) : Prop where
 con : ∀ f ash sh, t.con f = some (ash, sh) -> (∃ fn c, P.funcs[f]? = some fn /\ (fn.name == "runtime.NumGoroutine") = false /\ fn.body = some c) /\
  ∀ args : List Value, shaFits ash args -> E.pre f (args.map vints) -> Pure P f args.toArray fun v => sh.fits v /\ E.post f (args.map vints) (vres v)
 ext : ∀ f kind, t.ext f = some kind -> ExtOk P f kind
 new : ∀ f x, t.new f = some x -> NewOk P f x
def gam (t : Tab) (E : Ctx) (f : FuncId) (args : Array Value) (v : Value) : Prop := ∃ ash sh, t.con f = some (ash, sh) /\ sh.fits v /\ E.post f (args.toList.map vints) (vres v)
theorem Pure.mono {f : FuncId} {args : Array Value} {R R' : Value -> Prop} (h : Pure P f args R) (hr : ∀ v, R v -> R' v) : Pure P f args R' :=
 fun w j => (h w j).mono fun _ _ ⟨v, h1, h2, h3⟩ => ⟨v, h1, hr v h2, h3⟩
theorem qev_callFunc {f : FuncId} {fn : Func} {c : Code} (hf : P.funcs[f]? = some fn) (hn : (fn.name == "runtime.NumGoroutine") = false) (hb : fn.body = some c) (args : Array Value) (m : Mem) :
  qev P (callFunc f args) m = some (.enter f args) := by
 unfold callFunc
 rw [qev_bind]
 simp only [qev_program, Option.bind_some, hf, hn, hb]
 rfl
theorem three_ev {what : String} {x y c : Int} (hc : 0 <= c) (hc' : c <= 1) (m : Mem) :
  qev P (Extern.MathBitsCarry.three what #[.int .u64 x, .int .u64 y, .int .u64 c]) m = some (x.toNat, y.toNat, c.toNat) := by
 have : c = 0 \/ c = 1 := by omega
 rcases this with rfl | rfl <;> rfl
theorem ext_add {f : FuncId} (h : ExtOk P f true) {x y c : Int} (hx : 0 <= x) (hx' : x < 18446744073709551616) (hy : 0 <= y) (hy' : y < 18446744073709551616) (hc : 0 <= c) (hc' : c <= 1) (m : Mem) :
  qev P (callFunc f #[.int .u64 x, .int .u64 y, .int .u64 c]) m = some (.value (.tuple #[.int .u64 ((x + y + c) % 18446744073709551616), .int .u64 ((x + y + c) / 18446744073709551616)])) := by
 obtain ⟨fn, h1, h2, h3, h4, h5⟩ := h
 have h4' : Extern.findNext fn = none := by simpa using h4
 unfold callFunc
 rw [qev_bind]
 simp only [qev_program, Option.bind_some, h1, h2, h3, h4', h5, Bool.false_eq_true, if_false, if_true, addE]
 rw [qev_bind]
 simp only [mark, qev, Option.bind_some]
 rw [qev_bind, qev_bind, three_ev hc hc']
 have e1 : Int.ofNat ((x.toNat + y.toNat + c.toNat) % 2 ^ 64) = (x + y + c) % 18446744073709551616 := by
  simp only [Int.ofNat_eq_natCast]; omega
 have e2 : Int.ofNat ((x.toNat + y.toNat + c.toNat) / 2 ^ 64) = (x + y + c) / 18446744073709551616 := by
  simp only [Int.ofNat_eq_natCast]; omega
 simp only [Option.bind_some, qev_pure, Extern.MathBitsCarry.pair, Extern.MathBitsCarry.m64, e1, e2]
theorem ext_sub {f : FuncId} (h : ExtOk P f false) {x y c : Int} (hx : 0 <= x) (hx' : x < 18446744073709551616) (hy : 0 <= y) (hy' : y < 18446744073709551616) (hc : 0 <= c) (hc' : c <= 1) (m : Mem) :
  qev P (callFunc f #[.int .u64 x, .int .u64 y, .int .u64 c]) m = some (.value (.tuple #[.int .u64 ((x - y - c) % 18446744073709551616), .int .u64 (0 - (x - y - c) / 18446744073709551616)])) := by
 obtain ⟨fn, h1, h2, h3, h4, h5⟩ := h
 have h4' : Extern.findNext fn = none := by simpa using h4
 unfold callFunc
 rw [qev_bind]
 simp only [qev_program, Option.bind_some, h1, h2, h3, h4', h5, Bool.false_eq_true, if_false, if_true, subE]
 rw [qev_bind]
 simp only [mark, qev, Option.bind_some]
 rw [qev_bind, qev_bind, three_ev hc hc']
 have e1 : Int.ofNat ((x.toNat + 2 ^ 64 - y.toNat - c.toNat) % 2 ^ 64) = (x - y - c) % 18446744073709551616 := by
  simp only [Int.ofNat_eq_natCast]; omega
 have e2 : Int.ofNat (if x.toNat < y.toNat + c.toNat then 1 else 0) = 0 - (x - y - c) / 18446744073709551616 := by
  simp only [Int.ofNat_eq_natCast]; split <;> omega
 simp only [Option.bind_some, qev_pure, Extern.MathBitsCarry.pair, Extern.MathBitsCarry.m64, e1, e2]
variable {P : Program} {ds : List Deferred}
def Inl := FuncId -> List A -> List SB -> (V -> List SB -> T) -> T
def capsOf : List V -> Option (List (Nat × Nat × Nat))
 | [] => some []
 | .a (.s (.ptr id b off)) :: r => (capsOf r).map ((id, b, off) :: ·)
 | _ => none
theorem capsOf_ok {bs : List Nat} : ∀ (l : List V), (∀ v ∈ l, v.ok bs) -> ∀ {r : List (Nat × Nat × Nat)}, capsOf l = some r -> l.map V.ev = r.map capVal /\ ∀ c ∈ r, bs[c.1]? = some c.2.1
 | [], _, r, h => by cases h; exact ⟨rfl, fun c hc => by cases hc⟩
 | v :: l, hl, r, h => by
  unfold capsOf at h
  split at h
  ·rename_i e; cases e
  ·rename_i id b off l' e
   cases e
   cases hr : capsOf l with
   | none => rw [hr] at h; cases h
   | some q =>
    rw [hr] at h; cases h
    obtain ⟨h1, h2⟩ := capsOf_ok l (fun v hv => hl v (by simp [hv])) hr
    refine ⟨by simp only [List.map_cons, h1]; rfl, fun c hc => ?_⟩
    rcases List.mem_cons.1 hc with rfl | hc
    ·exact hl (.a (.s (.ptr id b off))) (by simp)
    ·exact h2 c hc
  ·cases h
def intsOf : List S -> Option (List (IntKind × X))
 | [] => some []
 | .int k x :: r => (intsOf r).map ((k, x) :: ·)
 | _ => none
theorem intsOf_ok {bs : List Nat} : ∀ (l : List S), (∀ v ∈ l, v.ok bs) -> ∀ {r : List (IntKind × X)}, intsOf l = some r -> l.map S.ev = r.map intVal /\ ∀ c ∈ r, c.2.ok
 | [], _, r, h => by cases h; exact ⟨rfl, fun c hc => by cases hc⟩
 | v :: l, hl, r, h => by
  unfold intsOf at h
  split at h
  ·rename_i e; cases e
  ·rename_i k x l' e
   cases e
   cases hr : intsOf l with
   | none => rw [hr] at h; cases h
   | some q =>
    rw [hr] at h; cases h
    obtain ⟨h1, h2⟩ := intsOf_ok l (fun v hv => hl v (by simp [hv])) hr
    refine ⟨by simp only [List.map_cons, h1]; rfl, fun c hc => ?_⟩
    rcases List.mem_cons.1 hc with rfl | hc
    ·exact hl (.int k x) (by simp)
    ·exact h2 c hc
  ·cases h
def symMk (f : FuncId) (first : List V) (caps : Option (List (Nat × Nat × Nat))) : Option V :=
 match first, caps with
 | [], some cs => some (.a (.s (.fn f cs)))
 | [.a (.agg xs)], some [] => (intsOf xs).map fun ks => .a (.s (.mth f ks))
 | _, _ => none
def symQ (P : Program) (mem : List SB) (op : Op) (ρ : Operand -> V) : Option V :=
 match op with
 | .move x => some (ρ x)
 | .nilCheck x => match ρ x with
  | .a (.s (.ptr i b o)) => some (.a (.s (.ptr i b o)))
  | .a (.s (.fn f cs)) => some (.a (.s (.fn f cs)))
  | _ => none
 | .load t x => match ρ x with
  | .a (.s (.ptr id _ off)) => (loadS P mem t id off).map .a
  | .a (.s (.px id _ off i len n)) => (loadPx P mem t id off i len n).map .a
  | _ => none
 | .binOp op t x y _ => (symBin P op t (ρ x) (ρ y)).map fun s => .a (.s s)
 | .unOp op _ x => (symUn op (ρ x)).map fun s => .a (.s s)
 | .convert src dst x => (symConv P src dst (ρ x)).map fun s => .a (.s s)
 | .fieldAddr s x f => (symFieldAddr P s (ρ x) f).map fun s => .a (.s s)
 | .field s x f => (symField P s (ρ x) f).map .a
 | .build t parts => (symBuild P t (parts.toList.map fun x => (x.1, ρ x.2))).map .a
 | .extract x i => match ρ x with
  | .tup xs => (xs[i]?).map .a
  | _ => none
 | .makeFunc fn first caps => match fn with
  | .func f => symMk f (first.toList.map ρ) (capsOf (caps.toList.map ρ))
  | _ => none
 | _ => none
theorem vq {s : Sem Value} {v : Value} {m : Mem} (h : qev P s m = some v) : qev P (do pure (Next.value (<- s))) m = some (.value v) := by
 rw [qev_bind, h]; rfl
theorem symQ_ok {mem : List SB} (H : MemOk mem) {o : Oper} {tmps : List V} (ht : ∀ v ∈ tmps, v.ok (bsOf mem)) {v : V} (h : symQ P mem o.op (opv tmps) = some v) :
  cls o.op = .q /\ v.ok (bsOf mem) /\ qev P (execOp (actOf ds tmps).eval o) (memOf mem) = some (.value v.ev) := by
 obtain ⟨dst, op, ty, pos, after, guard⟩ := o
 have hr : (actOf ds tmps).eval = fun x => (opv tmps x).ev := funext (opv_ev tmps)
 have hk : ∀ x, (opv tmps x).ok (bsOf mem) := opv_ok ht
 dsimp only at h ⊢
 rw [hr]
 cases op <;> simp only [symQ] at h <;> try (cases h; done)
 case move x => cases h; exact ⟨rfl, hk x, rfl⟩
 case nilCheck x =>
  have hx := hk x
  split at h
  ·rename_i i b o hp
   cases h
   rw [hp] at hx
   refine ⟨rfl, hx, ?_⟩
   simp only [execOp, hp, V.ev, A.ev, S.ev]; rfl
  ·rename_i f cs hp
   cases h
   rw [hp] at hx
   refine ⟨rfl, hx, ?_⟩
   simp only [execOp, hp, V.ev, A.ev, S.ev]; rfl
  ·cases h
 case load t x =>
  have hx := hk x
  split at h
  ·rename_i id b off hp
   rw [hp] at hx
   cases hl : loadS P mem t id off with
   | none => rw [hl] at h; cases h
   | some r =>
    rw [hl] at h; cases h
    obtain ⟨h1, h2⟩ := loadS_ok H hx hl
    refine ⟨rfl, h1, ?_⟩
    simp only [execOp, hp]
    apply vq
    simp only [V.ev, A.ev, S.ev, Instr.loadAt, Instr.sureAddr]
    rw [qev_bind]
    exact h2
  ·rename_i id b off i len n hp
   rw [hp] at hx
   obtain ⟨hx1, hx2, hx3, hx4⟩ := hx
   cases hl : loadPx P mem t id off i len n with
   | none => rw [hl] at h; cases h
   | some r =>
    rw [hl] at h; cases h
    obtain ⟨h1, h2⟩ := loadPx_ok H hx1 hx2 hx3 hx4 hl
    refine ⟨rfl, h1, ?_⟩
    simp only [execOp, hp]
    apply vq
    simp only [V.ev, A.ev, S.ev, Instr.loadAt, Instr.sureAddr]
    rw [qev_bind]
    exact h2
  ·cases h
 case binOp op t x y yt =>
  cases hb : symBin P op t (opv tmps x) (opv tmps y) with
  | none => rw [hb] at h; cases h
  | some r =>
   rw [hb] at h; cases h
   obtain ⟨h1, h2⟩ := symBin_ok x y (hk x) (hk y) hb (memOf mem)
   exact ⟨rfl, h1, vq h2⟩
 case unOp op t x =>
  cases hb : symUn op (opv tmps x) with
  | none => rw [hb] at h; cases h
  | some r =>
   rw [hb] at h; cases h
   obtain ⟨h1, h2⟩ := symUn_ok (P := P) (hk x) hb (memOf mem)
   exact ⟨rfl, h1, vq h2⟩
 case convert src d x =>
  cases hb : symConv P src d (opv tmps x) with
  | none => rw [hb] at h; cases h
  | some r =>
   rw [hb] at h; cases h
   obtain ⟨h1, h2⟩ := symConv_ok (hk x) hb (memOf mem)
   exact ⟨rfl, h1, vq h2⟩
 case fieldAddr s x f =>
  cases hb : symFieldAddr P s (opv tmps x) f with
  | none => rw [hb] at h; cases h
  | some r =>
   rw [hb] at h; cases h
   obtain ⟨h1, h2⟩ := symFieldAddr_ok (hk x) hb (memOf mem)
   exact ⟨rfl, h1, vq h2⟩
 case field s x f =>
  cases hb : symField P s (opv tmps x) f with
  | none => rw [hb] at h; cases h
  | some r =>
   rw [hb] at h; cases h
   obtain ⟨h1, h2⟩ := symField_ok (hk x) hb (memOf mem)
   exact ⟨rfl, h1, vq h2⟩
 case build t parts =>
  cases hb : symBuild P t (parts.toList.map fun x => (x.1, opv tmps x.2)) with
  | none => rw [hb] at h; cases h
  | some r =>
   rw [hb] at h; cases h
   obtain ⟨h1, h2⟩ := symBuild_ok (bs := bsOf mem) (fun x hx => by
    obtain ⟨y, _, rfl⟩ := List.mem_map.1 hx; exact hk _) hb (memOf mem)
   refine ⟨rfl, h1, vq ?_⟩
   have e : (parts.map fun (i, x) => (i, (opv tmps x).ev)) = (List.map (fun x => (x.1, x.2.ev)) (List.map (fun x => (x.1, opv tmps x.2)) parts.toList)).toArray := by
    apply Array.ext'
    simp
   rw [e]; exact h2
 case makeFunc fn first caps =>
  split at h
  ·rename_i f
   have hl : ∀ l : Array Operand, ∀ v ∈ l.toList.map (opv tmps), v.ok (bsOf mem) := by
    intro l v hv
    obtain ⟨x, _, rfl⟩ := List.mem_map.1 hv
    exact hk x
   have ha : ∀ l : Array Operand, (l.map fun x => (opv tmps x).ev) = ((l.toList.map (opv tmps)).map V.ev).toArray := by
    intro l
    apply Array.ext'
    simp
   have hq : ∀ v : V, v.ev = .func (.func f) (first.map fun x => (opv tmps x).ev) (caps.map fun x => (opv tmps x).ev) -> qev P (execOp (fun x => (opv tmps x).ev) { dst, op := .makeFunc (.func f) first caps, type := ty, pos, after, guard }) (memOf mem) = some (.value v.ev) := by
    intro v hv
    rw [hv]; rfl
   unfold symMk at h
   split at h
   ·rename_i cs hf hc
    cases h
    obtain ⟨h1, h2⟩ := capsOf_ok _ (hl caps) hc
    refine ⟨rfl, h2, hq _ ?_⟩
    rw [ha first, ha caps, hf, h1]; rfl
   ·rename_i xs hf hc
    obtain ⟨h1, h2⟩ := capsOf_ok _ (hl caps) hc
    cases hi : intsOf xs with
    | none => rw [hi] at h; cases h
    | some ks =>
     rw [hi] at h; cases h
     have hxs : ∀ x ∈ xs, x.ok (bsOf mem) := hl first (.a (.agg xs)) (by rw [hf]; simp)
     obtain ⟨g1, g2⟩ := intsOf_ok xs hxs hi
     refine ⟨rfl, g2, hq _ ?_⟩
     rw [ha first, ha caps, hf, h1]
     simp only [V.ev, A.ev, S.ev, List.map_cons, List.map_nil, g1]
   ·cases h
  ·cases h
 case extract x i =>
  have hx := hk x
  split at h
  ·rename_i xs hp
   rw [hp] at hx
   cases hi : xs[i]? with
   | none => rw [hi] at h; cases h
   | some r =>
    rw [hi] at h; cases h
    refine ⟨rfl, hx r (List.mem_of_getElem? hi), ?_⟩
    simp only [execOp, hp]
    apply vq
    simp [V.ev, Instr.extract, hi]
  ·cases h
def setD (tmps : List V) (d : Option Tmp) (v : V) : List V := match d with | some d => tmps.set d v | none => tmps
theorem setD_ok {bs : List Nat} {tmps : List V} {d : Option Tmp} {v : V} (h : ∀ v ∈ tmps, v.ok bs) (hv : v.ok bs) : ∀ u ∈ setD tmps d v, u.ok bs := by
 intro u hu
 unfold setD at hu
 split at hu
 ·rcases List.mem_or_eq_of_mem_set hu with h1 | h1
  ·exact h u h1
  ·subst h1; exact hv
 ·exact h u hu
theorem setD_fr (tmps : List V) (d : Option Tmp) (v : V) : Fr d.toList tmps (setD tmps d v) := by
 cases d with
 | none => exact Fr.refl _ _
 | some d => exact Fr.set tmps d v
theorem setD_act (tmps : List V) (d : Option Tmp) (v : V) : (actOf ds tmps).put d v.ev = actOf ds (setD tmps d v) := actOf_put tmps d v
def partPx (P : Program) (t : TypeId) (cs : List S) (i : X) : Option (A × Int) :=
 match P.underlying t with
 | some (.array len elem) =>
  match sizeT P elem, isAggT P elem with
  | some (n + 1), some true => (cellsPx cs i len (n + 1) 0 (n + 1)).map fun c => (.agg c, (len : Int))
  | some n, some false => (cellPx cs 0 i len n).map fun c => (.s c, (len : Int))
  | _, _ => none
 | _ => none
theorem partPx_ok {bs : List Nat} {t : TypeId} {cs : List S} {i : X} (k : IntKind) (hc : ∀ c ∈ cs, c.ok bs) (hi : i.ok) {r : A} {len : Int} (h : partPx P t cs i = some (r, len)) (h0 : 0 <= i.ev) (h1 : i.ev < len) (m : Mem) :
  r.ok bs /\ qev P (Instr.index t (V.a (.agg cs)).ev (.int k i.ev)) m = some r.ev := by
 unfold partPx at h
 split at h
 ·rename_i len' elem hu
  split at h
  ·rename_i n hn ha
   cases hp : cellsPx cs i len' (n + 1) 0 (n + 1) with
   | none => rw [hp] at h; cases h
   | some rs =>
    rw [hp] at h; cases h
    obtain ⟨g1, g2, g3⟩ := cellsPx_ok hc hi h0 h1 _ _ hp
    refine ⟨g1, ?_⟩
    have hs : partS P elem cs (i.ev.toNat * (n + 1)) = some (.agg ((cs.drop (i.ev.toNat * (n + 1))).take (n + 1))) := by simp only [partS, ha, hn, Option.map_some]
    obtain ⟨k1, k2⟩ := partS_ok hc hs m
    unfold Instr.index
    simp only [asIntOf, qev_bind, qev_pure, Option.bind_some, qev_underlying hu, V.ev, A.ev, h0, h1, and_self, if_true, sizeT_some hn]
    rw [k2]
    simp only [A.ev, g2, Nat.zero_add]
  ·rename_i n hn ha
   cases hp : cellPx cs 0 i len' n with
   | none => rw [hp] at h; cases h
   | some c =>
    rw [hp] at h; cases h
    obtain ⟨g1, y, g2, g3⟩ := cellPx_ok hc hi h0 h1 hp
    refine ⟨g1, ?_⟩
    rw [Nat.zero_add] at g2
    have hs : partS P elem cs (i.ev.toNat * n) = some (.s y) := by simp only [partS, ha, g2, Option.map_some]
    obtain ⟨k1, k2⟩ := partS_ok hc hs m
    unfold Instr.index
    simp only [asIntOf, qev_bind, qev_pure, Option.bind_some, qev_underlying hu, V.ev, A.ev, h0, h1, and_self, if_true, sizeT_some hn]
    rw [k2]
    simp only [A.ev, g3]
  ·cases h
 ·cases h
inductive Mk where
 | ptr
 | sl (len : Nat)
def Mk.s (k : Mk) (id b : Nat) : S :=
 match k with
 | .ptr => .ptr id b 0
 | .sl len => .sl id b 0 len len
def zeroRow (P : Program) (t : TypeId) (len n : Nat) : Option (List S) :=
 if len * n = 0 then some [] else (zeroCells P t).bind fun z => if z.length = n then some ((List.replicate len z).flatten) else none
def symAl (P : Program) (op : Op) (ρ : Operand -> V) : Option (List S × TypeId × Mk) :=
 match op with
 | .alloc t => (zeroCells P t).map (·, t, .ptr)
 | .box t x => match ρ x with
  | .a x => if x.fl then some (x.cells, t, .ptr) else none
  | _ => none
 | .buildSlice t len parts =>
  match P.underlying t with
  | some (.slice elem) =>
   match sizeT P elem, agsOf (parts.toList.map fun x => (x.1, ρ x.2)) with
   | some n, some l => if len * n <= 16777216 then (zeroRow P elem len n).bind fun z => (fillS (fun i => some (i * n, n)) z l).map (·, elem, .sl len) else none
   | _, _ => none
  | _ => none
 | _ => none
theorem nev_bind_pure {α β : Type} (s : Sem α) (f : α -> β) : ∀ {r : α}, nev P s = some r -> nev P (do pure (f (<- s))) = some (f r) := by
 show ∀ {r : α}, nev P s = some r -> nev P (s.bind fun x => .pure (f x)) = some (f r)
 induction s with
 | pure a => intro r h; cases h; rfl
 | program k ih => intro r h; exact ih P h
 | mark mk k ih => intro r h; exact ih h
 | _ => intro r h; cases h
theorem flat_get {n : Nat} (c : List S) (hl : c.length = n) : ∀ (len i : Nat) (hi : i < len * n), (List.replicate len c).flatten[i]'(by simp [hl]; exact hi) = c[i % n]'(by rw [hl]; exact Nat.mod_lt _ (by rcases Nat.eq_zero_or_pos n with h0 | h0; (subst h0; simp at hi); exact h0)) := by
 intro len
 induction len with
 | zero => intro i hi; simp at hi
 | succ m ih =>
  intro i hi
  simp only [List.replicate_succ, List.flatten_cons]
  rw [List.getElem_append]
  split
  ·rename_i h
   congr 1
   rw [Nat.mod_eq_of_lt (by omega)]
  ·rename_i h
   rw [Nat.succ_mul] at hi
   have := ih (i - c.length) (by omega)
   rw [this]
   congr 1
   rw [hl]
   exact (Nat.mod_eq_sub_mod (by omega)).symm
theorem zeroRow_ok {t : TypeId} {len n : Nat} {z : List S} (hn : sizeT P t = some n) (h : zeroRow P t len n = some z) (bs : List Nat) :
  (∀ c ∈ z, c.ok bs) /\ ∃ zv : Array Value, nev P (if len * n = 0 then (pure #[] : Sem (Array Value)) else do pure (<- zeroValue t).cells) = some zv /\ (Array.range (len * n)).map (fun i => zv[i % zv.size]!) = (z.map S.ev).toArray := by
 unfold zeroRow at h
 split at h
 ·rename_i e
  cases h
  refine ⟨(fun c hc => by cases hc), #[], by rw [if_pos e]; rfl, ?_⟩
  simp [e]
 ·rename_i e
  cases hz : zeroCells P t with
  | none => rw [hz] at h; cases h
  | some c =>
   rw [hz] at h
   simp only [Option.bind_some] at h
   split at h
   ·rename_i hl
    cases h
    obtain ⟨h1, zv, h2, h3⟩ := zeroCells_ok hz bs
    refine ⟨?_, zv.cells, ?_, ?_⟩
    ·intro x hx
     obtain ⟨l, hl', hx'⟩ := List.mem_flatten.1 hx
     rw [List.eq_of_mem_replicate hl'] at hx'
     exact h1 x hx'
    ·rw [if_neg e]
     exact nev_bind_pure _ _ h2
    ·have hsz : zv.cells.size = n := by rw [h3]; simp [hl]
     apply Array.ext
     ·simp [hl]
     ·intro i hi1 hi2
      have hin : i < len * n := by simpa using hi1
      have hn0 : 0 < n := by
       rcases Nat.eq_zero_or_pos n with h0 | h0
       ·subst h0; simp at hin
       ·exact h0
      have hm : i % n < c.length := by rw [hl]; exact Nat.mod_lt _ hn0
      simp only [Array.getElem_map, Array.getElem_range, List.getElem_toArray, List.getElem_map]
      rw [hsz, h3]
      rw [getElem!_pos _ _ (by simpa using hm)]
      simp only [List.getElem_toArray, List.getElem_map]
      congr 1
      exact (flat_get c hl len i hin).symm
   ·cases h
theorem A.cells_ok {bs : List Nat} {x : A} (h : x.ok bs) : ∀ c ∈ x.cells, c.ok bs := by
 cases x with
 | s x => intro c hc; simp [A.cells] at hc; subst hc; exact h
 | agg xs => exact h
theorem aev_bind_nev {α β : Type} (s : Sem α) (f : α -> Sem β) : ∀ {r : α}, nev P s = some r -> aev P (s >>= f) = aev P (f r) := by
 show ∀ {r : α}, nev P s = some r -> aev P (s.bind f) = _
 induction s with
 | pure a => intro r h; cases h; rfl
 | program k ih => intro r h; exact ih P h
 | mark mk k ih => intro r h; exact ih h
 | _ => intro r h; cases h
theorem sem_assoc {α β γ : Type} (s : Sem α) (f : α -> Sem β) (g : β -> Sem γ) : (s >>= f) >>= g = s >>= fun x => f x >>= g := by
 show (s.bind f).bind g = s.bind fun x => (f x).bind g
 induction s with
 | pure a => rfl
 | load m a k ih => simp only [Sem.bind]; congr 1; funext v; exact ih v
 | store m a v k ih => simp only [Sem.bind]; congr 1
 | new o k ih => simp only [Sem.bind]; congr 1; funext v; exact ih v
 | shape r k ih => simp only [Sem.bind]; congr 1; funext v; exact ih v
 | freeze a n k ih => simp only [Sem.bind]; congr 1
 | frozen a k ih => simp only [Sem.bind]; congr 1; funext v; exact ih v
 | getObj r k ih => simp only [Sem.bind]; congr 1; funext v; exact ih v
 | setObj r o k ih => simp only [Sem.bind]; congr 1
 | choose q k ih => simp only [Sem.bind]; congr 1; funext v; exact ih v
 | sys c k ih => simp only [Sem.bind]; congr 1; funext v; exact ih v
 | program k ih => simp only [Sem.bind]; congr 1; funext v; exact ih v
 | mark m k ih => simp only [Sem.bind]; congr 1
 | halt h => rfl
theorem nev_underlying {t : TypeId} {d : TypeDesc} (h : P.underlying t = some d) : nev P (underlying t) = some d := by
 show nev P (program.bind fun p => _) = _
 simp only [Sem.bind, program, nev, h]
 rfl
theorem nev_size {t : TypeId} {n : Nat} (h : sizeT P t = some n) : nev P (sizeOf t) = some n := by
 unfold sizeT at h
 cases hd : P.info? t with
 | none => rw [hd] at h; cases h
 | some d =>
  rw [hd] at h; cases h
  have hd' : P.toTables.info? t = some d := hd
  show nev P (((program.bind fun p => _)).bind _) = _
  simp only [Sem.bind, program, nev, hd']
  rfl
theorem nev_bind {α β : Type} (s : Sem α) (f : α -> Sem β) : nev P (s >>= f) = (nev P s).bind fun r => nev P (f r) := by
 show nev P (s.bind f) = _
 induction s with
 | pure a => rfl
 | program k ih => exact ih P
 | mark mk k ih => exact ih
 | _ => rfl
theorem symAl_ok {mem : List SB} {o : Oper} {tmps : List V} (ht : ∀ v ∈ tmps, v.ok (bsOf mem)) {cs : List S} {t : TypeId} {mk : Mk} (h : symAl P o.op (opv tmps) = some (cs, t, mk)) :
  cls o.op = .al /\ (∀ c ∈ cs, c.ok (bsOf mem)) /\ ∃ k, aev P (execOp (actOf ds tmps).eval o) = some ((cs.map S.ev).toArray, t, k) /\ ∀ b, nev P (k b) = some (.value (mk.s mem.length b).ev) := by
 obtain ⟨dst, op, ty, pos, after, guard⟩ := o
 have hr : (actOf ds tmps).eval = fun x => (opv tmps x).ev := funext (opv_ev tmps)
 have hk : ∀ x, (opv tmps x).ok (bsOf mem) := opv_ok ht
 dsimp only at h ⊢
 rw [hr]
 cases op <;> simp only [symAl] at h <;> try (cases h; done)
 case alloc t' =>
  cases hz : zeroCells P t' with
  | none => rw [hz] at h; cases h
  | some z =>
   rw [hz] at h
   simp only [Option.map_some, Option.some.injEq, Prod.mk.injEq] at h
   obtain ⟨rfl, rfl, rfl⟩ := h
   obtain ⟨h1, zv, h2, h3⟩ := zeroCells_ok hz (bsOf mem)
   refine ⟨rfl, h1, ?_⟩
   simp only [execOp, Instr.alloc]
   have : ∀ (f : Value -> Sem Value) (g : Value -> Sem Next), aev P ((zeroValue t' >>= f) >>= g) = aev P (f zv >>= g) := by
    intro f g
    rw [sem_assoc, aev_bind_nev _ _ h2]
   rw [this]
   simp only [newVar, newRow, newObj, h3]
   exact ⟨_, rfl, fun b => rfl⟩
 case box t' x =>
  have hx := hk x
  split at h
  ·rename_i y hp
   split at h
   ·rename_i hf
    cases h
    rw [hp] at hx
    refine ⟨rfl, A.cells_ok hx, ?_⟩
    simp only [execOp, Instr.box, hp, newVar, newRow, newObj]
    rw [show (V.a y).ev.cells = (y.cells.map S.ev).toArray from A.ev_cells hf]
    exact ⟨_, rfl, fun b => rfl⟩
   ·cases h
  ·cases h
 case buildSlice t' len parts =>
  split at h
  ·rename_i elem hu
   split at h
   ·rename_i n l hn hl
    split at h
    ·rename_i hle
     cases hz : zeroRow P elem len n with
     | none => rw [hz] at h; cases h
     | some z =>
      rw [hz] at h
      simp only [Option.bind_some] at h
      cases hf : fillS (fun i => some (i * n, n)) z l with
      | none => rw [hf] at h; cases h
      | some rs =>
       rw [hf] at h
       simp only [Option.map_some, Option.some.injEq, Prod.mk.injEq] at h
       obtain ⟨rfl, rfl, rfl⟩ := h
       obtain ⟨z1, zv, z2, z3⟩ := zeroRow_ok hn hz (bsOf mem)
       have e := agsOf_ok _ hl
       obtain ⟨h1, h2⟩ := fillS_ok l z z1 (fun x hx => by
        have : (x.1, V.a x.2) ∈ parts.toList.map fun x => (x.1, opv tmps x.2) := by rw [e]; exact List.mem_map.2 ⟨x, hx, rfl⟩
        obtain ⟨y, _, hy⟩ := List.mem_map.1 this
        have hy2 : opv tmps y.2 = V.a x.2 := congrArg Prod.snd hy
        have := hk y.2
        rw [hy2] at this; exact this) hf
       refine ⟨rfl, h1, ?_⟩
       have e2 : (parts.map fun (x : Nat × Operand) => (x.1, (opv tmps x.2).ev)).toList = l.map fun x => (x.1, x.2.ev) := by
        have : (parts.toList.map fun x => (x.1, opv tmps x.2)).map (fun x => (x.1, V.ev x.2)) = (l.map fun x => (x.1, V.a x.2)).map fun x => (x.1, V.ev x.2) := by rw [e]
        simp only [List.map_map, Function.comp_def] at this
        simp only [Array.toList_map]
        exact this
       simp only [execOp, Instr.buildSlice]
       refine ⟨fun b => ((Sem.pure (⟨b, 0, none⟩ : Addr)).bind fun a => Sem.pure (Value.slice (some a) len len)).bind fun v => Sem.pure (Next.value v), ?_, fun b => rfl⟩
       rw [sem_assoc, aev_bind_nev _ _ (nev_underlying hu)]
       rw [sem_assoc, aev_bind_nev _ _ (nev_size hn)]
       rw [if_neg (by omega)]
       by_cases h0 : len * n = 0
       ·rw [if_pos h0] at z2 ⊢
        have hz0 : zv = #[] := by cases z2; rfl
        subst hz0
        rw [sem_assoc, aev_bind_nev (pure #[] : Sem (Array Value)) _ (r := #[]) rfl]
        simp only [z3, e2, h2]
        rfl
       ·rw [if_neg h0] at z2 ⊢
        rw [nev_bind] at z2
        cases hy : nev P (zeroValue elem) with
        | none => rw [hy] at z2; cases z2
        | some y =>
         rw [hy] at z2
         have hz1 : y.cells = zv := by cases z2; rfl
         rw [sem_assoc, aev_bind_nev _ _ hy, sem_assoc, aev_bind_nev (pure y.cells : Sem (Array Value)) _ (r := y.cells) rfl, hz1]
         simp only [z3, e2, h2]
         rfl
    ·cases h
   ·cases h
  ·cases h
variable {P : Program} {ds : List Deferred}
theorem wev_bind {α β : Type} (s : Sem α) (f : α -> Sem β) : ∀ (m : Mem), wev P (s >>= f) m = (wev P s m).bind fun r => wev P (f r.1) r.2 := by
 show ∀ (m : Mem), wev P (s.bind f) m = _
 induction s with
 | pure a => intro m; rfl
 | load md a k ih =>
  intro m
  simp only [Sem.bind, wev]
  split
  ·exact ih _ m
  ·rfl
 | store md a v k ih =>
  intro m
  simp only [Sem.bind, wev]
  split
  ·split
   ·exact ih _
   ·rfl
  ·rfl
 | program k ih => intro m; exact ih P m
 | mark mk k ih => intro m; exact ih m
 | _ => intro m; rfl
theorem nev_wev {α : Type} (s : Sem α) : ∀ {r : α} {m : Mem}, nev P s = some r -> wev P s m = some (r, m) := by
 induction s with
 | pure a => intro r m h; cases h; rfl
 | program k ih => intro r m h; exact ih P h
 | mark mk k ih => intro r m h; exact ih h
 | _ => intro r m h; cases h
theorem wev_storeCells {b off : Nat} : ∀ (vs : List Value) (i : Nat) {m : Mem} {x : Blk}, m b = some x -> x.own = true -> off + i + vs.length <= x.cells.size -> (∀ v ∈ vs, flat v = true) ->
  wev P (storeCells ⟨b, off, none⟩ vs i) m = some ((), m.add b { x with cells := putA x.cells (off + i) vs })
 | [], i, m, x, hm, _, _, _ => by
  simp only [storeCells, putA]
  show some ((), m) = _
  congr 2
  funext k
  simp only [Mem.add]
  split
  ·rename_i e; subst e; exact hm
  ·rfl
 | v :: vs, i, m, x, hm, ho, hl, hf => by
  simp only [storeCells]
  rw [wev_bind]
  have hfl := hf v (by simp)
  simp only [List.length_cons] at hl
  simp only [store, add_plain, wev, hm, hfl, ho, Bool.and_true, Option.isNone_none, show off + i < x.cells.size by omega, decide_true, if_true, Option.bind_some]
  have hset : (m.set ⟨b, off + i, none⟩ v) b = some { x with cells := x.cells.setIfInBounds (off + i) v } := by
   simp only [Mem.set, if_true, hm, Option.map_some]
  rw [wev_storeCells vs (i + 1) hset ho (by simp; omega) (fun u hu => hf u (by simp [hu]))]
  congr 2
  funext k
  simp only [Mem.add, Mem.set]
  by_cases hk : k = b
  ·subst hk; simp only [if_true, putA, ho]; rw [Nat.add_assoc]
  ·simp only [hk, if_false]
theorem memOf_set {mem : List SB} (h : (bsOf mem).Nodup) {id : Nat} {x : SB} (hx : mem[id]? = some x) (cs : List S) :
  memOf (mem.set id { x with cells := cs }) = (memOf mem).add x.b ⟨(cs.map S.ev).toArray, x.ty, x.own⟩ /\ bsOf (mem.set id { x with cells := cs }) = bsOf mem := by
 induction mem generalizing id with
 | nil => simp at hx
 | cons y ys ih =>
  simp only [bsOf, List.map_cons, List.nodup_cons] at h
  cases id with
  | zero =>
   simp at hx; subst hx
   refine ⟨?_, rfl⟩
   funext k
   simp only [memOf, List.set_cons_zero, List.find?_cons, Mem.add]
   by_cases hk : k = y.b
   ·subst hk; simp [SB.blk]
   ·have : (y.b == k) = false := by simpa using Ne.symm hk
    simp [this, hk]
  | succ n =>
   simp at hx
   obtain ⟨h1, h2⟩ := ih h.2 hx
   have hne : y.b ≠ x.b := by
    intro e
    exact h.1 (by rw [e]; exact List.mem_map.2 ⟨x, List.mem_of_getElem? hx, rfl⟩)
   refine ⟨?_, by simp only [bsOf, List.set_cons_succ, List.map_cons] at h2 ⊢; rw [h2]⟩
   funext k
   have h1' := congrFun h1 k
   simp only [memOf, List.set_cons_succ, List.find?_cons, Mem.add] at h1' ⊢
   by_cases hk : y.b = k
   ·subst hk; simp [hne]
   ·rw [show (y.b == k) = false by simpa using hk]
    exact h1'
def storeS (P : Program) (mem : List SB) (t : TypeId) (id off : Nat) (cs : List S) : Option (List SB) :=
 match mem[id]?, sizeT P t with
 | some sb, some n => if sb.own && cs.length == n && decide (off + n <= sb.cells.length) && !sb.lock then some (mem.set id { sb with cells := putS sb.cells off cs }) else none
 | _, _ => none
theorem storeS_ok {mem : List SB} (H : MemOk mem) {t : TypeId} {id b off : Nat} (hp : (bsOf mem)[id]? = some b) {cs : List S} (hc : ∀ c ∈ cs, c.ok (bsOf mem)) {mem' : List SB}
  (h : storeS P mem t id off cs = some mem') {v : Value} (hv : v.cells = (cs.map S.ev).toArray) (hf : ∀ c ∈ cs, flat c.ev = true) :
  MemOk mem' /\ bsOf mem' = bsOf mem /\ Ext mem mem' /\ wev P (storeVar t ⟨b, off, none⟩ v) (memOf mem) = some ((), memOf mem') := by
 unfold storeS at h
 split at h
 ·rename_i sb n hx hn
  split at h
  ·rename_i hcond
   simp only [Bool.and_eq_true, beq_iff_eq, decide_eq_true_eq, Bool.not_eq_true'] at hcond
   obtain ⟨⟨⟨h1, h2⟩, h3⟩, h4⟩ := hcond
   cases h
   obtain ⟨e1, e2⟩ := memOf_set H.nodup hx (putS sb.cells off cs)
   obtain ⟨e3, e4⟩ := ok_at H hp hx
   refine ⟨⟨by rw [e2]; exact H.nodup, ?_⟩, e2, Ext.set hx h4 (putS_length _ _ _), ?_⟩
   ·intro y hy c hcy
    rw [e2]
    rcases List.mem_or_eq_of_mem_set hy with hy | rfl
    ·exact H.ok y hy c hcy
    ·exact putS_ok _ _ _ (H.ok sb (List.mem_of_getElem? hx)) hc c hcy
   ·unfold storeVar
    rw [wev_bind, nev_wev _ (nev_size hn)]
    simp only [Option.bind_some]
    rw [if_neg (by simp [hv, h2])]
    rw [hv, List.toList_toArray]
    rw [wev_storeCells (cs.map S.ev) 0 e4 h1 (by simp [SB.blk]; omega) (by
     intro u hu
     obtain ⟨c, hc', rfl⟩ := List.mem_map.1 hu
     exact hf c hc')]
    rw [e1, e3]
    simp only [SB.blk, Nat.add_zero, putA_map]
  ·cases h
 ·cases h
def putPxs (n : Nat) (i : X) (len : Nat) : List S -> Nat -> List (IntKind × X) -> Option (List S)
 | cells, _, [] => some cells
 | cells, off, (kd, v) :: r => match putPx1 cells n i kd v off 0 len with
  | some cs => putPxs n i len cs (off + 1) r
  | none => none
def intS (c : IntKind × X) : S := .int c.1 c.2
theorem putS_congr (xs : List S) : ∀ (a b : List S) (off : Nat), a.map S.ev = b.map S.ev -> (putS a off xs).map S.ev = (putS b off xs).map S.ev := by
 induction xs with
 | nil => intro a b off h; exact h
 | cons x xs ih =>
  intro a b off h
  simp only [putS]
  exact ih _ _ _ (by simp only [List.map_set, h])
theorem putPxs_ok {bs : List Nat} {n : Nat} (hn : 0 < n) {i : X} (hi : i.ok) {len : Nat} (h0 : 0 <= i.ev) (h1 : i.ev < len) : ∀ (vs : List (IntKind × X)) (cells : List S) (off : Nat), (∀ c ∈ cells, c.ok bs) -> (∀ v ∈ vs, v.2.ok) -> ∀ {cs : List S}, putPxs n i len cells off vs = some cs ->
  cs.length = cells.length /\ (∀ c ∈ cs, c.ok bs) /\ cs.map S.ev = (putS cells (off + i.ev.toNat * n) (vs.map intS)).map S.ev /\ (vs ≠ [] -> off + i.ev.toNat * n + vs.length <= cells.length)
 | [], cells, off, hc, _, cs, h => by
  cases h
  exact ⟨rfl, hc, rfl, fun h => absurd rfl h⟩
 | (kd, v) :: r, cells, off, hc, hv, cs, h => by
  simp only [putPxs] at h
  split at h
  ·rename_i c1 h2
   obtain ⟨a1, a2, a3, _, a5⟩ := putPx1_ok hc hn hi (hv (kd, v) (by simp)) len off 0 h2
   have hq : i.ev.toNat < len := by omega
   have hlt := a3 _ hq
   have hev : c1.map S.ev = (cells.set (off + i.ev.toNat * n) (intS (kd, v))).map S.ev := by
    apply List.ext_getElem?
    intro j
    rw [a5 j]
    simp only [List.map_set, List.getElem?_set, List.length_map]
    by_cases hj : off + i.ev.toNat * n = j
    ·subst hj
     rw [if_pos ⟨i.ev.toNat, hq, rfl, by simp; omega⟩, if_pos rfl, if_pos hlt]
     rfl
    ·rw [if_neg hj, if_neg]
     rintro ⟨q, _, g2, g3⟩
     have : q = i.ev.toNat := by omega
     subst this; exact hj g2.symm
   obtain ⟨b1, b2, b3, b4⟩ := putPxs_ok hn hi h0 h1 r c1 (off + 1) a2 (fun u hu => hv u (by simp [hu])) h
   refine ⟨b1.trans a1, b2, ?_, fun _ => ?_⟩
   ·rw [b3]
    simp only [List.map_cons, putS]
    rw [show off + 1 + i.ev.toNat * n = off + i.ev.toNat * n + 1 by omega]
    exact putS_congr _ _ _ _ hev
   ·cases r with
    | nil => simp only [List.length_singleton]; omega
    | cons y r =>
     have := b4 (by simp)
     rw [a1] at this
     simp only [List.length_cons] at this ⊢
     omega
  ·cases h
def storePx (P : Program) (mem : List SB) (t : TypeId) (id off : Nat) (i : X) (len n : Nat) (vs : List (IntKind × X)) : Option (List SB) :=
 match mem[id]?, sizeT P t with
 | some sb, some k => if sb.own && !sb.lock && decide (0 < n) && !vs.isEmpty && vs.length == k then (putPxs n i len sb.cells off vs).map fun cs => mem.set id { sb with cells := cs } else none
 | _, _ => none
theorem storePx_ok {mem : List SB} (H : MemOk mem) {t : TypeId} {id b off : Nat} (hp : (bsOf mem)[id]? = some b) {i : X} (hi : i.ok) {len n : Nat} (h0 : 0 <= i.ev) (h1 : i.ev < len) {vs : List (IntKind × X)} (hv : ∀ v ∈ vs, v.2.ok) {mem' : List SB}
  (h : storePx P mem t id off i len n vs = some mem') {v : Value} (hcv : v.cells = ((vs.map intS).map S.ev).toArray) :
  MemOk mem' /\ bsOf mem' = bsOf mem /\ Ext mem mem' /\ wev P (storeVar t ⟨b, off + i.ev.toNat * n, none⟩ v) (memOf mem) = some ((), memOf mem') := by
 unfold storePx at h
 split at h
 ·rename_i sb k hx hn
  split at h
  ·rename_i hcond
   simp only [Bool.and_eq_true, Bool.not_eq_true', decide_eq_true_eq, beq_iff_eq, List.isEmpty_eq_false_iff] at hcond
   obtain ⟨⟨⟨⟨c1, c2⟩, c3⟩, c4⟩, c5⟩ := hcond
   cases hcs : putPxs n i len sb.cells off vs with
   | none => rw [hcs] at h; cases h
   | some cs =>
    rw [hcs] at h; cases h
    have hok := H.ok sb (List.mem_of_getElem? hx)
    obtain ⟨a1, a2, a3, a4⟩ := putPxs_ok c3 hi h0 h1 vs sb.cells off hok hv hcs
    have hlt := a4 c4
    have hs : storeS P mem t id (off + i.ev.toNat * n) (vs.map intS) = some (mem.set id { sb with cells := putS sb.cells (off + i.ev.toNat * n) (vs.map intS) }) := by
     simp only [storeS, hx, hn, c1, c2, Bool.not_false, Bool.and_true, List.length_map, c5, beq_self_eq_true, Bool.true_and]
     rw [if_pos (by simp only [decide_eq_true_eq]; omega)]
    obtain ⟨b1, b2, b3, b4⟩ := storeS_ok H hp (cs := vs.map intS) (by intro c hc; obtain ⟨u, hu, rfl⟩ := List.mem_map.1 hc; exact hv u hu) hs (v := v) hcv (by intro c hc; obtain ⟨u, hu, rfl⟩ := List.mem_map.1 hc; rfl)
    obtain ⟨e1, e2⟩ := memOf_set H.nodup hx cs
    obtain ⟨e3, _⟩ := memOf_set H.nodup hx (putS sb.cells (off + i.ev.toNat * n) (vs.map intS))
    refine ⟨⟨by rw [e2]; exact H.nodup, ?_⟩, e2, Ext.set hx c2 a1, ?_⟩
    ·intro y hy c hcy
     rw [e2]
     rcases List.mem_or_eq_of_mem_set hy with hy | rfl
     ·exact H.ok y hy c hcy
     ·exact a2 c hcy
    ·rw [b4, e1, e3, a3]
  ·cases h
 ·cases h
def toAs : List V -> Option (List A)
 | [] => some []
 | .a x :: r => (toAs r).map (x :: ·)
 | _ => none
theorem toAs_ok : ∀ (l : List V) {r : List A}, toAs l = some r -> l = r.map V.a
 | [], r, h => by cases h; rfl
 | .a x :: l, r, h => by
  simp only [toAs] at h
  cases hr : toAs l with
  | none => rw [hr] at h; cases h
  | some q => rw [hr] at h; cases h; simp [<- toAs_ok l hr]
 | .tup x :: l, r, h => by cases h
def capA (c : Nat × Nat × Nat) : A := .s (.ptr c.1 c.2.1 c.2.2)
def w64 : Int := 18446744073709551616
theorem w64_eq : w64 = 18446744073709551616 := rfl
def mkMod64 (x : X) : X := match x with | .lit n => .lit (n % w64) | x => if 0 <= x.iv.1 && decide (x.iv.2 < w64) then x else .mod x w64
def mkDiv64 (x : X) : X := match x with | .lit n => .lit (n / w64) | x => if 0 <= x.iv.1 && decide (x.iv.2 < w64) then .lit 0 else .div x w64
theorem mkMod64_ok {x : X} (h : x.ok) : (mkMod64 x).ok /\ (mkMod64 x).ev = x.ev % 18446744073709551616 := by
 have hi := X.iv_ok x h
 unfold mkMod64
 split
 ·exact ⟨trivial, rfl⟩
 ·split
  ·rename_i hc
   simp only [Bool.and_eq_true, decide_eq_true_eq] at hc
   have hw := w64_eq
   exact ⟨h, (Int.emod_eq_of_lt (by omega) (by omega)).symm⟩
  ·exact ⟨⟨h, by decide⟩, rfl⟩
theorem mkDiv64_ok {x : X} (h : x.ok) : (mkDiv64 x).ok /\ (mkDiv64 x).ev = x.ev / 18446744073709551616 := by
 have hi := X.iv_ok x h
 unfold mkDiv64
 split
 ·exact ⟨trivial, rfl⟩
 ·split
  ·rename_i hc
   simp only [Bool.and_eq_true, decide_eq_true_eq] at hc
   have hw := w64_eq
   exact ⟨trivial, (Int.ediv_eq_zero_of_lt (by omega) (by omega)).symm⟩
  ·exact ⟨⟨h, by decide⟩, rfl⟩
def in64 (x : X) : Bool := decide (0 <= x.iv.1) && decide (x.iv.2 < w64)
def symExt (kind : Bool) (args : List A) : Option V :=
 match args with
 | [.s (.int .u64 x), .s (.int .u64 y), .s (.int .u64 c)] =>
  if in64 x && in64 y && decide (0 <= c.iv.1) && decide (c.iv.2 <= 1) then
   (if kind then
    let s := mkAdd (mkAdd x y) c
    some (.tup [.s (.int .u64 (mkMod64 s)), .s (.int .u64 (mkDiv64 s))])
   else
    let s := mkSub (mkSub x y) c
    some (.tup [.s (.int .u64 (mkMod64 s)), .s (.int .u64 (mkSub (.lit 0) (mkDiv64 s)))]))
  else none
 | _ => none
theorem symExt_ok {bs : List Nat} {f : FuncId} {kind : Bool} (hE : ExtOk P f kind) {args : List A} (ha : ∀ a ∈ args, a.ok bs) {v : V} (h : symExt kind args = some v) (m : Mem) :
  v.ok bs /\ qev P (callFunc f (args.map A.ev).toArray) m = some (.value v.ev) := by
 unfold symExt at h
 split at h
 ·rename_i x y c
  have hx : x.ok := ha (.s (.int .u64 x)) (by simp)
  have hy : y.ok := ha (.s (.int .u64 y)) (by simp)
  have hc : c.ok := ha (.s (.int .u64 c)) (by simp)
  have ix := X.iv_ok x hx; have iy := X.iv_ok y hy; have ic := X.iv_ok c hc
  split at h
  ·rename_i hcond
   simp only [Bool.and_eq_true, decide_eq_true_eq, in64] at hcond
   have hw := w64_eq
   split at h
   ·rename_i hk
    cases h
    have hk' : kind = true := hk
    subst hk'
    obtain ⟨a1, a2⟩ := mkAdd_ok hx hy
    obtain ⟨a3, a4⟩ := mkAdd_ok a1 hc
    obtain ⟨b1, b2⟩ := mkMod64_ok a3
    obtain ⟨c1, c2⟩ := mkDiv64_ok a3
    refine ⟨?_, ?_⟩
    ·intro z hz
     rcases List.mem_cons.1 hz with rfl | hz
     ·exact b1
     ·rcases List.mem_cons.1 hz with rfl | hz
      ·exact c1
      ·cases hz
    ·simp only [List.map_cons, List.map_nil, A.ev, S.ev, V.ev, b2, c2, a4, a2]
     exact ext_add hE (by omega) (by omega) (by omega) (by omega) (by omega) (by omega) m
   ·rename_i hk
    cases h
    have hk' : kind = false := by simpa using hk
    subst hk'
    obtain ⟨a1, a2⟩ := mkSub_ok hx hy
    obtain ⟨a3, a4⟩ := mkSub_ok a1 hc
    obtain ⟨b1, b2⟩ := mkMod64_ok a3
    obtain ⟨c1, c2⟩ := mkDiv64_ok a3
    obtain ⟨d1, d2⟩ := mkSub_ok (a := .lit 0) trivial c1
    refine ⟨?_, ?_⟩
    ·intro z hz
     rcases List.mem_cons.1 hz with rfl | hz
     ·exact b1
     ·rcases List.mem_cons.1 hz with rfl | hz
      ·exact d1
      ·cases hz
    ·simp only [List.map_cons, List.map_nil, A.ev, S.ev, V.ev, b2, d2, c2, a4, a2]
     exact ext_sub hE (by omega) (by omega) (by omega) (by omega) (by omega) (by omega) m
  ·cases h
 ·cases h
def callable (P : Program) (f : FuncId) : Bool :=
 match P.funcs[f]? with
 | some fn => !(fn.name == "runtime.NumGoroutine") && fn.body.isSome
 | none => false
def S.plain : S -> Bool
 | .int .. => true
 | .bool _ => true
 | .raw _ => true
 | _ => false
def A.plain : A -> Bool
 | .s x => x.plain
 | .agg xs => xs.all S.plain
def V.plain : V -> Bool
 | .a x => x.plain
 | .tup xs => xs.all A.plain
theorem S.plain_ok {bs bs' : List Nat} {x : S} (h : x.plain = true) (hx : x.ok bs) : x.ok bs' := by
 cases x <;> first | exact hx | cases h
theorem A.plain_ok {bs bs' : List Nat} {x : A} (h : x.plain = true) (hx : x.ok bs) : x.ok bs' := by
 cases x with
 | s x => exact S.plain_ok h hx
 | agg xs => exact fun c hc => S.plain_ok (List.all_eq_true.1 h c hc) (hx c hc)
theorem V.plain_ok {bs bs' : List Nat} {x : V} (h : x.plain = true) (hx : x.ok bs) : x.ok bs' := by
 cases x with
 | a x => exact A.plain_ok h hx
 | tup xs => exact fun c hc => A.plain_ok (List.all_eq_true.1 h c hc) (hx c hc)
def frz (mem : List SB) : List SB := mem.map fun x => { x with own := false }
theorem bsOf_frz (mem : List SB) : bsOf (frz mem) = bsOf mem := by simp [bsOf, frz, List.map_map, Function.comp_def]
theorem frz_ok {mem : List SB} (H : MemOk mem) : MemOk (frz mem) := by
 refine ⟨by rw [bsOf_frz]; exact H.nodup, fun y hy c hc => ?_⟩
 obtain ⟨x, hx, rfl⟩ := List.mem_map.1 hy
 rw [bsOf_frz]
 exact H.ok x hx c hc
theorem frz_get {mem : List SB} {b : Nat} {x : Blk} (h : memOf (frz mem) b = some x) : x.own = false /\ ∃ y, memOf mem b = some y /\ y.cells = x.cells /\ y.ty = x.ty := by
 simp only [memOf, frz, List.find?_map, Option.map_map] at h
 rw [Option.map_eq_some_iff] at h
 obtain ⟨z, hz, rfl⟩ := h
 refine ⟨rfl, z.blk, ?_, rfl, rfl⟩
 have : mem.find? (fun x => x.b == b) = some z := hz
 simp only [memOf, this, Option.map_some]
theorem frz_holds {w0 w : World} {mem : List SB} (h : Holds w0 (memOf mem) w) : Holds w (memOf (frz mem)) w := by
 refine ⟨Sm.refl w, h.sm.j h.j, fun b x hx => ?_⟩
 obtain ⟨h1, y, h2, h3, h4⟩ := frz_get hx
 obtain ⟨fr, cs, ty, h5, h6, _⟩ := h.blk b y h2
 exact ⟨fr, cs, ty, h5, by rw [<- h3]; exact h6, fun e => by rw [h1] at e; cases e⟩
def fnOf : V -> Option (FuncId × List A × List (Nat × Nat × Nat))
 | .a (.s (.fn f caps)) => some (f, [], caps)
 | .a (.s (.mth f ks)) => some (f, [.agg (ks.map fun c => .int c.1 c.2)], [])
 | _ => none
theorem fnOf_ok {bs : List Nat} {v : V} {f : FuncId} {pre : List A} {caps : List (Nat × Nat × Nat)} (hv : v.ok bs) (h : fnOf v = some (f, pre, caps)) :
  v.ev = .func (.func f) (pre.map A.ev).toArray (caps.map capVal).toArray /\ (∀ a ∈ pre, a.ok bs) /\ ∀ c ∈ caps, bs[c.1]? = some c.2.1 := by
 unfold fnOf at h
 split at h
 ·cases h
  exact ⟨rfl, (fun a ha => by cases ha), hv⟩
 ·rename_i f' ks
  cases h
  refine ⟨?_, ?_, (fun c hc => by cases hc)⟩
  ·simp only [V.ev, A.ev, S.ev, List.map_cons, List.map_nil, List.map_map]
   rfl
  ·intro a ha
   simp only [List.mem_singleton] at ha
   subst ha
   intro c hc
   obtain ⟨d, hd, rfl⟩ := List.mem_map.1 hc
   exact hv d hd
 ·cases h
def notB (b : B) : B :=
 match b with
 | .not c => c
 | .lit c => .lit (!c)
 | b => .not b
def joinT : T -> Option B
 | .is b => some b
 | .must _ t => joinT t
 | .newb k => joinT (k 0)
 | .ite c t e => match joinT t, joinT e with
  | some (.lit true), some y => some (notB (.and (notB c) (notB y)))
  | some (.lit false), some y => some (.and (notB c) y)
  | some x, some y => some (notB (.and (notB (.and c x)) (notB (.and (notB c) y))))
  | _, _ => none
 | _ => none
def markK (v : V) : T :=
 match v with
 | .a (.s (.bool b)) => .is b
 | _ => .fail "no truth"
def isK (b : B) (v : V) : T :=
 match v with
 | .a (.s (.bool (.lit true))) => .is b
 | .a (.s (.bool (.lit false))) => .is (.not b)
 | .a (.s (.bool x)) => .is (.beq x b)
 | _ => .fail "no truth"
theorem isK_ok {E : Ctx} {b : B} {v : V} (h : sat E (isK b v)) : v.ev = .bool b.ev := by
 unfold isK at h
 split at h
 ·have := (B.pr_ev b).1 h
  simp only [V.ev, A.ev, S.ev, B.ev, this]
 ·have := (B.pr_ev (.not b)).1 h
  simp only [B.ev, Bool.not_eq_true'] at this
  simp only [V.ev, A.ev, S.ev, B.ev, this]
 ·rename_i x _ _
  have := (B.pr_ev (.beq x b)).1 h
  simp only [B.ev, beq_iff_eq] at this
  simp only [V.ev, A.ev, S.ev, this]
 ·exact h.elim
def mergeT (inl : Inl) (f : FuncId) (xs : List A) (mem : List SB) (K : V -> List SB -> T) : T :=
 match joinT (inl f xs (frz mem) fun v _ => markK v) with
 | some b => .both (inl f xs (frz mem) fun v _ => isK b v) (.ite b (K (.a (.s (.bool (.lit true)))) mem) (K (.a (.s (.bool (.lit false)))) mem))
 | none => .fail "no truth"
def isLits : List (IntKind × Int) -> List A -> Bool
 | [], [] => true
 | c :: cs, .s (.int k (.lit n)) :: xs => c.1 == k && c.2 == n && isLits cs xs
 | _, _ => false
theorem isLits_ok : ∀ {cs : List (IntKind × Int)} {xs : List A}, isLits cs xs = true -> xs.map A.ev = cs.map litV
 | [], [], _ => rfl
 | [], _ :: _, h => by cases h
 | c :: cs, [], h => by cases h
 | c :: cs, x :: xs, h => by
  match x, h with
  | .s (.int k (.lit n)), h =>
   simp only [isLits, Bool.and_eq_true, beq_iff_eq] at h
   obtain ⟨⟨h1, h2⟩, h3⟩ := h
   subst h1; subst h2
   simp only [List.map_cons, isLits_ok h3]
   rfl
def newT (x : New) (xs : List A) (mem : List SB) (K : V -> List SB -> T) : T :=
 if isLits x.args xs then .newb fun b => .newb fun cap => K (.a (.s (.sl mem.length b 0 x.len cap))) (mem ++ [⟨b, x.cells.map litS, 0, false, false⟩])
 else .fail "the numbers that a slice is made of"
def symCall (P : Program) (tab : Tab) (inl : Inl) (draw : Lv) (fv : V) (args : List V) (mem : List SB) (K : V -> List SB -> T) : T :=
 match fnOf fv, toAs args with
 | some (f, pre, caps), some xs =>
  let xs := pre ++ xs ++ caps.map capA
  match tab.ext f with
  | some kind => match symExt kind xs with
   | some v => K v mem
   | none => .fail "extern"
  | none =>
   match tab.con f with
   | some (ash, sh) => bindAs xs fun xs => fitAs ash xs fun xs => if takesAs ash xs then .pre f xs (sh.all fun v => .post f xs v (K v mem)) else .fail "the shapes of the arguments"
   | none => if callable P f then match draw with
     | .no => .fail "a call in a region that draws"
     | .near => if tab.mrgs.contains f then bindAs xs fun xs => mergeT inl f xs mem K else bindAs xs fun xs => inl f xs (frz mem) fun v _ => if v.plain then K v mem else .fail "a call in a region that draws"
     | .all => match tab.new f with
      | some x => newT x xs mem K
      | none => if tab.mrgs.contains f then bindAs xs fun xs => mergeT inl f xs mem K else bindAs xs fun xs => inl f xs mem K
    else .fail "no such function"
 | _, _ => .fail "call"
def InlOk (P : Program) (w0 : World) (E : Ctx) (inl : Inl) : Prop :=
 ∀ f args mem (K : V -> List SB -> T) (Kd : Value -> Mem -> Prop), sat E (inl f args mem K) -> MemOk mem -> (∀ a ∈ args, a.ok (bsOf mem)) ->
  (∀ v mem', Ext mem mem' -> MemOk mem' -> v.ok (bsOf mem') -> sat E (K v mem') -> Kd v.ev (memOf mem')) -> Gen P w0 f (args.map A.ev).toArray (memOf mem) Kd
theorem mergeT_ok {E : Ctx} {w0 : World} {inl : Inl} (hI : ∀ w0, InlOk P w0 E inl) {f : FuncId} {xs : List A} {mem : List SB} (H : MemOk mem) (hx : ∀ a ∈ xs, a.ok (bsOf mem)) {K : V -> List SB -> T} (h : sat E (mergeT inl f xs mem K)) :
  ∃ b : Bool, sat E (K (.a (.s (.bool (.lit b)))) mem) /\ ∀ w, Holds w0 (memOf mem) w -> Calls P f (xs.map A.ev).toArray w fun e w' => ∃ v, e = .returned v /\ v = .bool b /\ Sm w w' := by
 unfold mergeT at h
 split at h
 ·rename_i b hb
  obtain ⟨h1, h2⟩ := h
  refine ⟨b.ev, ?_, fun w Hw => ?_⟩
  ·cases hc : b.ev with
   | true => exact ite_true h2 hc
   | false => exact ite_false h2 hc
  ·have := hI w f xs (frz mem) _ (fun v _ => v = .bool b.ev) h1 (frz_ok H) (by rw [bsOf_frz]; exact hx) (fun v mem' _ _ _ hs => isK_ok hs) w (frz_holds Hw)
   refine this.mono ?_
   rintro e w' ⟨v, m', h5, h6, h7⟩
   exact ⟨_, h5, h7, h6.sm⟩
 ·exact h.elim
theorem lits_ev (cs : List (IntKind × Int)) : (cs.map litS).map S.ev = cs.map litV := by
 rw [List.map_map]; rfl
theorem newT_ok {E : Ctx} {w0 : World} {f : FuncId} {x : New} (hN : NewOk P f x) {xs : List A} {mem : List SB} (H : MemOk mem) {K : V -> List SB -> T} (h : sat E (newT x xs mem K)) {Kd : Value -> Mem -> Prop}
  (hk : ∀ v mem', Ext mem mem' -> MemOk mem' -> v.ok (bsOf mem') -> sat E (K v mem') -> Kd v.ev (memOf mem')) : Gen P w0 f (xs.map A.ev).toArray (memOf mem) Kd := by
 unfold newT at h
 split at h
 ·rename_i hl
  rw [isLits_ok hl]
  intro w Hw
  refine (hN w (Hw.sm.j Hw.j)).mono ?_
  rintro e w' ⟨b, cap, rfl, hs, hb, fr, cs, ty, hc, hp⟩
  have hfr : b ∉ bsOf mem := by
   intro hm
   obtain ⟨y, hy, e⟩ := List.mem_map.1 hm
   obtain ⟨id, hid⟩ := List.mem_iff_getElem?.1 hy
   have := Hw.size (memOf_get H.nodup hid)
   have e' : y.b = b := e
   omega
  have hbs : bsOf (mem ++ [⟨b, x.cells.map litS, 0, false, false⟩]) = bsOf mem ++ [b] := by simp [bsOf]
  refine ⟨_, _, rfl, ?_, hk _ _ (Ext.snoc mem _) ⟨?_, ?_⟩ ?_ (h b cap)⟩
  ·rw [memOf_snoc (by exact hfr)]
   have Hw' := Hw.sub hs
   refine ⟨Hw'.sm, Hw'.j, fun c y hy => ?_⟩
   simp only [Mem.add] at hy
   split at hy
   ·rename_i e; subst e
    cases hy
    refine ⟨fr, cs, ty, hc, ?_, fun h => by cases h⟩
    simp only [SB.blk, List.getElem?_toArray, lits_ev]
    exact hp
   ·exact Hw'.blk c y hy
  ·rw [hbs]
   refine List.nodup_append.2 ⟨H.nodup, by simp, ?_⟩
   intro a ha c hc e
   rw [List.mem_singleton.1 hc] at e
   exact hfr (e ▸ ha)
  ·intro y hy c hc
   rcases List.mem_append.1 hy with hy | hy
   ·exact S.ok_mono (hbs ▸ List.prefix_append _ _) (H.ok y hy c hc)
   ·rw [List.mem_singleton.1 hy] at hc
    obtain ⟨d, _, rfl⟩ := List.mem_map.1 hc
    trivial
  ·show (bsOf _)[mem.length]? = some b
   rw [hbs, List.getElem?_append_right (by simp [bsOf])]
   simp [bsOf]
 ·exact h.elim
theorem qev_call {f : Operand} {args : Array Operand} {ts : Array TypeId} {ρ : Operand -> Value} {fid : FuncId} {pre caps : Array Value} (hf : ρ f = .func (.func fid) pre caps)
  (dst : Option Tmp) (ty : TypeId) (pos : String) (after : Array Edge) (guard : Option (Nat × Bool)) (m : Mem) :
  qev P (execOp ρ { dst, op := .call { callee := .value f, args, argTypes := ts }, type := ty, pos, after, guard }) m = qev P (callFunc fid (pre ++ args.map ρ ++ caps)) m := by
 simp only [execOp, resolve, hf, Deferred.ofValue]
 rw [qev_bind]
 simp only [qev_pure, Option.bind_some, invoke]
theorem symCall_ok {tab : Tab} {E : Ctx} (hV : Valid P tab E) {w0 : World} {inl : Inl} (hI : ∀ w0, InlOk P w0 E inl) {draw : Lv} {mem : List SB} (H : MemOk mem) {tmps : List V} (ht : ∀ v ∈ tmps, v.ok (bsOf mem))
  {f : Operand} {args : Array Operand} {ts : Array TypeId} {dst : Option Tmp} {ty : TypeId} {pos : String} {after : Array Edge} {guard : Option (Nat × Bool)} {K : V -> List SB -> T}
  (h : sat E (symCall P tab inl draw (opv tmps f) (args.toList.map (opv tmps)) mem K)) {Kd : Act -> Mem -> Prop}
  (hk : ∀ v mem', Ext mem mem' -> MemOk mem' -> v.ok (bsOf mem') -> sat E (K v mem') -> Kd ((actOf ds tmps).put dst v.ev) (memOf mem')) :
  opD P w0 (gam tab E) draw { dst, op := .call { callee := .value f, args, argTypes := ts }, type := ty, pos, after, guard } Kd (actOf ds tmps) (memOf mem) := by
 unfold symCall at h
 split at h
 ·rename_i fid pre caps xs hf has
  obtain ⟨hfe, hpre, hcaps⟩ := fnOf_ok (opv_ok ht f) hf
  have hargs := toAs_ok _ has
  have hasok : ∀ a ∈ pre ++ xs ++ caps.map capA, a.ok (bsOf mem) := by
   intro a ha
   rw [List.append_assoc] at ha
   rcases List.mem_append.1 ha with ha | ha
   ·exact hpre a ha
   rcases List.mem_append.1 ha with ha | ha
   ·have : V.a a ∈ args.toList.map (opv tmps) := by rw [hargs]; exact List.mem_map.2 ⟨a, ha, rfl⟩
    obtain ⟨x, _, hx⟩ := List.mem_map.1 this
    have := opv_ok ht x
    rw [hx] at this; exact this
   ·obtain ⟨c, hc, rfl⟩ := List.mem_map.1 ha
    exact hcaps c hc
  have hfv : (actOf ds tmps).eval f = .func (.func fid) (pre.map A.ev).toArray (caps.map capVal).toArray := by rw [opv_ev, hfe]
  have hav : (pre.map A.ev).toArray ++ args.map (actOf ds tmps).eval ++ (caps.map capVal).toArray = ((pre ++ xs ++ caps.map capA).map A.ev).toArray := by
   apply Array.ext'
   have e1 : args.toList.map (actOf ds tmps).eval = xs.map A.ev := by
    have : args.toList.map (actOf ds tmps).eval = (args.toList.map (opv tmps)).map V.ev := by
     rw [List.map_map]; exact List.map_congr_left fun x _ => opv_ev tmps x
    rw [this, hargs, List.map_map]; rfl
   simp only [Array.toList_append, Array.toList_map, e1, List.map_append, List.map_map]
   rfl
  have hq := qev_call (P := P) (args := args) (ts := ts) hfv dst ty pos after guard (memOf mem)
  rw [hav] at hq
  unfold opD
  simp only [cls]
  simp only at h
  split at h
  ·rename_i kind hkind
   split at h
   ·rename_i v hv
    obtain ⟨h1, h2⟩ := symExt_ok (hV.ext fid kind hkind) hasok hv (memOf mem)
    exact ⟨_, hq.trans h2, hk v mem (Ext.refl _) H h1 h⟩
   ·exact h.elim
  ·split at h
   ·rename_i ash sh hsh
    obtain ⟨xs0, k1, k2, k3⟩ := bindAs_ok _ hasok h
    obtain ⟨xs', h1, h2, h3⟩ := fitAs_ok _ _ k2 k3
    rw [k1] at h1
    split at h3
    ·rename_i htk
     obtain ⟨⟨fn, c, hfn, hnm, hbd⟩, hpure⟩ := hV.con fid ash sh hsh
     obtain ⟨hpre, hall⟩ := h3
     rw [<- h1] at hq
     have hints : xs'.map A.ints = (xs'.map A.ev).map vints := by rw [List.map_map]; rfl
     refine ⟨_, hq.trans (qev_callFunc hfn hnm hbd _ _), Or.inl ⟨(hpure _ (takesAs_fits htk h2) (by rw [<- hints]; exact hpre)).mono fun v ⟨a, b⟩ => ⟨ash, sh, hsh, a, b⟩, ?_⟩⟩
     rintro v ⟨ash', sh', hsh', hfit, hpost⟩
     rw [hsh] at hsh'; cases hsh'
     obtain ⟨y, rfl, hy2, hy3⟩ := ShV.all_ok hall hfit (bsOf mem)
     exact hk y mem (Ext.refl _) H hy2 (hy3 (by rw [hints]; exact hpost))
    ·exact h3.elim
   ·split at h
    ·rename_i hc
     unfold callable at hc
     split at hc
     ·rename_i fn hfn
      simp only [Bool.and_eq_true, Bool.not_eq_true'] at hc
      obtain ⟨hnm, hbd⟩ := hc
      obtain ⟨c, hbd⟩ := Option.isSome_iff_exists.1 hbd
      have hm : ∀ (g : Lv), g ≠ .no -> ∀ {T' : T}, sat E (bindAs (pre ++ xs ++ caps.map capA) fun xs => mergeT inl fid xs mem K) ->
        ∃ r, qev P (execOp (actOf ds tmps).eval { dst, op := .call { callee := .value f, args, argTypes := ts }, type := ty, pos, after, guard }) (memOf mem) = some r /\ uponD P w0 (gam tab E) g dst Kd (actOf ds tmps) (memOf mem) r := by
       intro g hg _ h
       obtain ⟨xs', h1, h2, h3⟩ := bindAs_ok _ hasok h
       rw [<- h1] at hq
       obtain ⟨b, g1, g2⟩ := mergeT_ok (w0 := w0) hI H h2 h3
       refine ⟨_, hq.trans (qev_callFunc hfn hnm hbd _ _), Or.inr (Or.inr ⟨hg, fun w Hw => ?_⟩)⟩
       refine (g2 w Hw).mono ?_
       rintro e w' ⟨v, h5, rfl, h7⟩
       exact ⟨_, h5, hk (.a (.s (.bool (.lit b)))) mem (Ext.refl _) H trivial g1, h7⟩
      split at h
      ·exact h.elim
      ·split at h
       ·exact hm _ (by simp) (T' := .fail "") h
       obtain ⟨xs', h1, h2, h3⟩ := bindAs_ok _ hasok h
       rw [<- h1] at hq
       refine ⟨_, hq.trans (qev_callFunc hfn hnm hbd _ _), Or.inr (Or.inr ⟨by simp, fun w Hw => ?_⟩)⟩
       have := hI w fid xs' (frz mem) _ (fun v _ => ∃ y : V, y.ev = v /\ y.ok (bsOf mem) /\ sat E (K y mem)) h3 (frz_ok H) (by rw [bsOf_frz]; exact h2) (by
        intro v mem' _ _ hv hs
        split at hs
        ·rename_i hp
         exact ⟨v, rfl, V.plain_ok hp hv, hs⟩
        ·exact hs.elim) w (frz_holds Hw)
       refine this.mono ?_
       rintro e w' ⟨v, m', h5, h6, y, rfl, h8, h9⟩
       exact ⟨_, h5, hk y mem (Ext.refl _) H h8 h9, h6.sm⟩
      ·split at h
       ·rename_i nw hnw
        exact ⟨_, hq.trans (qev_callFunc hfn hnm hbd _ _), Or.inr (Or.inl ⟨rfl, newT_ok (hV.new fid nw hnw) H h hk⟩)⟩
       split at h
       ·exact hm _ (by simp) (T' := .fail "") h
       obtain ⟨xs', h1, h2, h3⟩ := bindAs_ok _ hasok h
       rw [<- h1] at hq
       refine ⟨_, hq.trans (qev_callFunc hfn hnm hbd _ _), Or.inr (Or.inl ⟨rfl, ?_⟩)⟩
       exact hI _ _ _ _ _ _ h3 H h2 hk
     ·cases hc
    ·exact h.elim
 ·exact h.elim
def mkMax (a b : X) : X :=
 match a, b with
 | .lit m, .lit n => .lit (Max.max m n)
 | a, b => if a.iv.2 <= b.iv.1 then b else if b.iv.2 <= a.iv.1 then a else .max a b
def mkMin (a b : X) : X :=
 match a, b with
 | .lit m, .lit n => .lit (Min.min m n)
 | a, b => if a.iv.2 <= b.iv.1 then a else if b.iv.2 <= a.iv.1 then b else .min a b
theorem mkMax_ok {a b : X} (ha : a.ok) (hb : b.ok) : (mkMax a b).ok /\ (mkMax a b).ev = Max.max a.ev b.ev := by
 have h1 := X.iv_ok a ha; have h2 := X.iv_ok b hb
 unfold mkMax
 split
 ·exact ⟨trivial, rfl⟩
 ·split
  ·exact ⟨hb, by omega⟩
  ·split
   ·exact ⟨ha, by omega⟩
   ·exact ⟨⟨ha, hb⟩, rfl⟩
theorem mkMin_ok {a b : X} (ha : a.ok) (hb : b.ok) : (mkMin a b).ok /\ (mkMin a b).ev = Min.min a.ev b.ev := by
 have h1 := X.iv_ok a ha; have h2 := X.iv_ok b hb
 unfold mkMin
 split
 ·exact ⟨trivial, rfl⟩
 ·split
  ·exact ⟨ha, by omega⟩
  ·split
   ·exact ⟨hb, by omega⟩
   ·exact ⟨⟨ha, hb⟩, rfl⟩
def foldX (f : X -> X -> X) : X -> List V -> Option X
 | x, [] => some x
 | x, .a (.s (.int _ y)) :: r => foldX f (f x y) r
 | _, _ => none
theorem foldX_max {bs : List Nat} {k : IntKind} (m : Mem) : ∀ (l : List V) (x : X), x.ok -> (∀ v ∈ l, v.ok bs) -> ∀ {r : X}, foldX mkMax x l = some r ->
  r.ok /\ qev P ((l.map V.ev).foldlM Builtin.max2 (.int k x.ev)) m = some (.int k r.ev)
 | [], x, hx, _, r, h => by cases h; exact ⟨hx, rfl⟩
 | .a (.s (.int k' y)) :: l, x, hx, hl, r, h => by
  have hy : y.ok := hl (.a (.s (.int k' y))) (by simp)
  obtain ⟨h1, h2⟩ := mkMax_ok hx hy
  obtain ⟨h3, h4⟩ := foldX_max m l _ h1 (fun v hv => hl v (by simp [hv])) h
  refine ⟨h3, ?_⟩
  simp only [List.map_cons, List.foldlM_cons, V.ev, A.ev, S.ev]
  rw [qev_bind]
  have : qev P (Builtin.max2 (.int k x.ev) (.int k' y.ev)) m = some (.int k (mkMax x y).ev) := by
   simp only [Builtin.max2, qev_pure, h2]
   congr 2
   split <;> omega
  rw [this]
  exact h4
 | .a (.s (.bool _)) :: l, x, _, _, r, h => by cases h
 | .a (.s (.ptr _ _ _)) :: l, x, _, _, r, h => by cases h
 | .a (.s (.raw _)) :: l, x, _, _, r, h => by cases h
 | .a (.s (.fn _ _)) :: l, x, _, _, r, h => by cases h
 | .a (.s (.sl _ _ _ _ _)) :: l, x, _, _, r, h => by cases h
 | .a (.s (.px _ _ _ _ _ _)) :: l, x, _, _, r, h => by cases h
 | .a (.s (.mth _ _)) :: l, x, _, _, r, h => by cases h
 | .a (.agg _) :: l, x, _, _, r, h => by cases h
 | .tup _ :: l, x, _, _, r, h => by cases h
theorem foldX_min {bs : List Nat} {k : IntKind} (m : Mem) : ∀ (l : List V) (x : X), x.ok -> (∀ v ∈ l, v.ok bs) -> ∀ {r : X}, foldX mkMin x l = some r ->
  r.ok /\ qev P ((l.map V.ev).foldlM Builtin.min2 (.int k x.ev)) m = some (.int k r.ev)
 | [], x, hx, _, r, h => by cases h; exact ⟨hx, rfl⟩
 | .a (.s (.int k' y)) :: l, x, hx, hl, r, h => by
  have hy : y.ok := hl (.a (.s (.int k' y))) (by simp)
  obtain ⟨h1, h2⟩ := mkMin_ok hx hy
  obtain ⟨h3, h4⟩ := foldX_min m l _ h1 (fun v hv => hl v (by simp [hv])) h
  refine ⟨h3, ?_⟩
  simp only [List.map_cons, List.foldlM_cons, V.ev, A.ev, S.ev]
  rw [qev_bind]
  have : qev P (Builtin.min2 (.int k x.ev) (.int k' y.ev)) m = some (.int k (mkMin x y).ev) := by
   simp only [Builtin.min2, qev_pure, h2]
   congr 2
   split <;> omega
  rw [this]
  exact h4
 | .a (.s (.bool _)) :: l, x, _, _, r, h => by cases h
 | .a (.s (.ptr _ _ _)) :: l, x, _, _, r, h => by cases h
 | .a (.s (.raw _)) :: l, x, _, _, r, h => by cases h
 | .a (.s (.fn _ _)) :: l, x, _, _, r, h => by cases h
 | .a (.s (.sl _ _ _ _ _)) :: l, x, _, _, r, h => by cases h
 | .a (.s (.px _ _ _ _ _ _)) :: l, x, _, _, r, h => by cases h
 | .a (.s (.mth _ _)) :: l, x, _, _, r, h => by cases h
 | .a (.agg _) :: l, x, _, _, r, h => by cases h
 | .tup _ :: l, x, _, _, r, h => by cases h
def symBuiltin (P : Program) (b : Builtin) (ts : Array TypeId) (args : List V) : Option S :=
 match b, args with
 | .max, .a (.s (.int k x)) :: r => (foldX mkMax x r).map (.int k)
 | .min, .a (.s (.int k x)) :: r => (foldX mkMin x r).map (.int k)
 | .len, x :: _ =>
  match ts[0]? with
  | some t =>
   match P.underlying t, x with
   | some (.array n _), _ => some (.int .i64 (.lit n))
   | some (.slice _), .a (.s (.sl _ _ _ len _)) => some (.int .i64 (.lit len))
   | _, _ => none
  | none => none
 | _, _ => none
theorem symBuiltin_ok {bs : List Nat} {b : Builtin} {ts : Array TypeId} {args : List V} (ha : ∀ v ∈ args, v.ok bs) {r : S} (h : symBuiltin P b ts args = some r) (ty : TypeId) (cs : Array Bool) (m : Mem) :
  r.ok bs /\ qev P (builtin b ts ty cs (args.map V.ev).toArray) m = some (.value r.ev) := by
 unfold symBuiltin at h
 split at h
 ·rename_i k x l
  cases hf : foldX mkMax x l with
  | none => rw [hf] at h; cases h
  | some y =>
   rw [hf] at h; cases h
   obtain ⟨h1, h2⟩ := foldX_max (k := k) m l x (ha (.a (.s (.int k x))) (by simp)) (fun v hv => ha v (by simp [hv])) hf
   exact ⟨h1, vq (by simpa only [Builtin.max_, List.map_cons, V.ev, A.ev, S.ev] using h2)⟩
 ·rename_i k x l
  cases hf : foldX mkMin x l with
  | none => rw [hf] at h; cases h
  | some y =>
   rw [hf] at h; cases h
   obtain ⟨h1, h2⟩ := foldX_min (k := k) m l x (ha (.a (.s (.int k x))) (by simp)) (fun v hv => ha v (by simp [hv])) hf
   exact ⟨h1, vq (by simpa only [Builtin.min_, List.map_cons, V.ev, A.ev, S.ev] using h2)⟩
 ·rename_i x l
  split at h
  ·rename_i t ht
   split at h
   ·rename_i n e hu
    cases h
    refine ⟨trivial, vq ?_⟩
    simp only [Builtin.len_, ht, List.map_cons, List.getElem?_toArray, List.getElem?_cons_zero]
    rw [qev_bind, qev_underlying hu]
    rfl
   ·rename_i id b off len cap hu
    cases h
    refine ⟨trivial, vq ?_⟩
    simp only [Builtin.len_, ht, List.map_cons, List.getElem?_toArray, List.getElem?_cons_zero]
    rw [qev_bind, qev_underlying hu]
    rfl
   ·cases h
  ·cases h
 ·cases h
variable {P : Program} {ds : List Deferred}
def bindX (k : IntKind) (x : X) (K : S -> T) : T := bindS (.int k x) K
def floorOf : BinOp -> Option Int
 | .shl => some 0
 | .shr => some 0
 | .quo => some 1
 | .rem => some 1
 | _ => none
def tight (op : BinOp) (y : V) (K : V -> T) : T :=
 match y, floorOf op with
 | .a (.s (.int k b)), some lo =>
  if lo <= b.iv.1 \/ (b.iv.2 < 0 /\ lo = 1) then K y
  else .must (mkLe (.lit lo) b) (.bind b lo b.iv.2 fun n => K (.a (.s (.int k (.v n lo b.iv.2)))))
 | y, _ => K y
theorem tight_ok {E : Ctx} {bs : List Nat} {op : BinOp} {y : V} (hy : y.ok bs) {K : V -> T} (h : sat E (tight op y K)) : ∃ z : V, z.ev = y.ev /\ z.ok bs /\ sat E (K z) := by
 unfold tight at h
 split at h
 ·rename_i k b lo _
  split at h
  ·exact ⟨_, rfl, hy, h⟩
  ·obtain ⟨h1, h2⟩ := h
   have hb := X.iv_ok b hy
   have h1' : lo <= b.ev := by
    have := (B.pr_ev _).1 h1
    rw [(mkLe_ok (a := .lit lo) trivial hy).2] at this
    exact of_decide_eq_true this
   exact ⟨.a (.s (.int k (.v b.ev lo b.iv.2))), rfl, ⟨h1', hb.2⟩, h2 b.ev rfl h1' hb.2⟩
 ·exact ⟨_, rfl, hy, h⟩
def ofV : Value -> V
 | .tuple vs => .tup (vs.toList.map ofA)
 | v => .a (ofA v)
theorem ofV_ev (v : Value) : (ofV v).ev = v := by
 cases v with
 | tuple vs =>
  simp only [ofV, V.ev, List.map_map]
  rw [show A.ev ∘ ofA = id from funext ofA_ev]
  simp
 | _ => simp only [ofV, V.ev, ofA_ev]
theorem ofV_ok (bs : List Nat) (v : Value) : (ofV v).ok bs := by
 cases v with
 | tuple vs =>
  intro x hx
  obtain ⟨c, _, rfl⟩ := List.mem_map.1 hx
  exact ofA_ok bs c
 | _ => simp only [ofV, V.ok]; exact ofA_ok bs _
def isQ (o : Oper) : Bool := match cls o.op with | .q => true | _ => false
def symGround (P : Program) (o : Oper) (tmps : List V) (mem : List SB) (K : List V -> List SB -> T) : T :=
 if isQ o then
  match nev P (execOp (fun x => (opv tmps x).ev) o) with
  | some (.value v) => K (setD tmps o.dst (ofV v)) mem
  | _ => .fail "op"
 else .fail "op"
def symAssert (P : Program) (x : V) (t : TypeId) : Option Value :=
 match x with
 | .a (.s (.raw (.iface d v))) =>
  match P.underlying t, P.info? d, P.info? t with
  | some (.interface want), some i, some j =>
   match j.zero with
   | some z => if (lacking want i.methods).isEmpty then some (.tuple #[.iface d v, .bool true]) else some (.tuple #[z, .bool false])
   | none => none
  | _, _, _ => none
 | _ => none
theorem qev_info {t : TypeId} {i : TypeInfo} (h : P.info? t = some i) (m : Mem) : qev P (typeInfo t) m = some i := by
 unfold typeInfo
 rw [qev_bind]
 show qev P (match P.toTables.info? t with | some d => _ | none => _) m = some i
 rw [show P.toTables.info? t = some i from h]; rfl
theorem symAssert_ok {x : V} {t xT : TypeId} {r : Value} (h : symAssert P x t = some r) (m : Mem) : qev P (Instr.typeAssert x.ev xT t true) m = some r := by
 unfold symAssert at h
 split at h
 ·rename_i d v
  split at h
  ·rename_i want i j hu hi hj
   split at h
   ·rename_i z hz
    unfold Instr.typeAssert
    simp only [V.ev, A.ev, S.ev, qev_bind, qev_underlying hu, Option.bind_some, qev_info hi]
    split at h
    ·rename_i hl
     cases h
     rw [missingMethod_none (List.isEmpty_iff.1 hl)]
     rfl
    ·rename_i hl
     cases h
     obtain ⟨mm, hm⟩ := missingMethod_some (want := want) (got := i.methods) (fun e => hl (List.isEmpty_iff.2 e))
     rw [hm]
     simp only [if_true, qev_bind, zeroValue, qev_info hj, Option.bind_some, hz]
     rfl
   ·cases h
  ·cases h
 ·cases h
def bodyless (P : Program) (tab : Tab) (v : V) : Bool :=
 match v with
 | .a (.s (.fn f [])) => (tab.ext f).isNone && (match P.funcs[f]? with | some fn => fn.body.isNone | none => false)
 | _ => false
def symStep (P : Program) (tab : Tab) (inl : Inl) (draw : Lv) (o : Oper) (tmps : List V) (mem : List SB) (K : List V -> List SB -> T) : T :=
 match o.op with
 | .assign x => bindV (opv tmps x) fun v => K (setD tmps o.dst v) mem
 | .pick c a b => match opv tmps c with
  | .a (.s (.bool (.lit t))) => K (setD tmps o.dst (if t then opv tmps a else opv tmps b)) mem
  | .a (.s (.bool c')) => .ite c' (K (setD tmps o.dst (opv tmps a)) mem) (K (setD tmps o.dst (opv tmps b)) mem)
  | _ => .fail "pick"
 | .indexAddr t x i => match opv tmps i with
  | .a (.s (.int _ (.lit j))) => match symIndexAddr P t (unraw mem (opv tmps x)) j with
   | some r => K (setD tmps o.dst (.a (.s r))) mem
   | none => .fail "indexAddr"
  | .a (.s (.int _ j)) => match symIndexX P t (unraw mem (opv tmps x)) j with
   | some r => mkMust (mkLe (.lit 0) j) (mkMust (mkLt j (.lit (lenX P t (unraw mem (opv tmps x))))) (K (setD tmps o.dst (.a (.s r))) mem))
   | none => .fail "indexAddr"
  | _ => .fail "indexAddr"
 | .index t x i => match opv tmps i with
  | .a (.s (.int _ (.lit j))) => match symIndex P t (opv tmps x) j with
   | some r => K (setD tmps o.dst (.a r)) mem
   | none => .fail "index"
  | .a (.s (.int _ j)) => match opv tmps x with
   | .a (.agg cs) => match partPx P t cs j with
    | some (r, len) => mkMust (mkLe (.lit 0) j) (mkMust (mkLt j (.lit len)) (bindA r fun r => K (setD tmps o.dst (.a r)) mem))
    | none => .fail "index"
   | .a (.s (.raw (.string s))) => match P.underlying t with
    | some .string => mkMust (mkLe (.lit 0) j) (mkMust (mkLt j (.lit s.size)) (bindX .u8 (.tbl (s.data.toList.map fun b => (b.toNat : Int)) j) fun r => K (setD tmps o.dst (.a (.s r))) mem))
    | _ => .fail "index"
   | _ => .fail "index"
  | _ => .fail "index"
 | .store t a x => match opv tmps a, opv tmps x with
  | .a (.s (.ptr id _ off)), .a x => if x.cells.all S.fl && x.fl then bindL x.cells fun cs => match storeS P mem t id off cs with
    | some mem' => K (setD tmps o.dst (.tup [])) mem'
    | none => .fail "store"
   else .fail "store"
  | .a (.s (.px id _ off i len n)), .a x => if x.fl then bindL x.cells fun ys => match intsOf ys with
    | some vs => match storePx P mem t id off i len n vs with
     | some mem' => K (setD tmps o.dst (.tup [])) mem'
     | none => .fail "store"
    | none => .fail "store"
   else .fail "store"
  | _, _ => .fail "store"
 | .call { callee := .value f, args, .. } => if bodyless P tab (opv tmps f) then symGround P o tmps mem K else symCall P tab inl draw (opv tmps f) (args.toList.map (opv tmps)) mem fun v mem => K (setD tmps o.dst v) mem
 | .call { callee := .invoke .., .. } => symGround P o tmps mem K
 | .call { callee := .builtin b, args, argTypes } => match symBuiltin P b argTypes (args.toList.map (opv tmps)) with
  | some r => K (setD tmps o.dst (.a (.s r))) mem
  | none => .fail "builtin"
 | .alloc _ | .box .. | .buildSlice .. => match symAl P o.op (opv tmps) with
  | some (cs, t, mk) => .newb fun b => K (setD tmps o.dst (.a (.s (mk.s mem.length b)))) (mem ++ [⟨b, cs, t, true, false⟩])
  | none => .fail "alloc"
 | .typeAssert x _ t true => match symAssert P (opv tmps x) t with
  | some v => K (setD tmps o.dst (ofV v)) mem
  | none => .fail "type assertion"
 | .binOp op t x y _ => tight op (opv tmps y) fun y => match symBin P op t (opv tmps x) y with
  | some r => K (setD tmps o.dst (.a (.s r))) mem
  | none => symGround P o tmps mem K
 | op => match symQ P mem op (opv tmps) with
  | some v => K (setD tmps o.dst v) mem
  | none => symGround P o tmps mem K
theorem fl_of_ev {xs ys : List S} (h : ys.map S.ev = xs.map S.ev) (hx : ∀ c ∈ xs, flat c.ev = true) : ∀ c ∈ ys, flat c.ev = true := by
 intro c hc
 have : c.ev ∈ ys.map S.ev := List.mem_map.2 ⟨c, hc, rfl⟩
 rw [h] at this
 obtain ⟨d, hd, he⟩ := List.mem_map.1 this
 rw [<- he]; exact hx d hd
theorem symStep_ok {tab : Tab} {E : Ctx} (hV : Valid P tab E) {w0 : World} {inl : Inl} (hI : ∀ w0, InlOk P w0 E inl) {draw : Lv} {mem : List SB} (H : MemOk mem) {tmps : List V} (ht : ∀ v ∈ tmps, v.ok (bsOf mem))
  {o : Oper} {K : List V -> List SB -> T} (h : sat E (symStep P tab inl draw o tmps mem K)) {Kd : Act -> Mem -> Prop}
  (hk : ∀ tmps' mem', Ext mem mem' -> Fr o.dst.toList tmps tmps' -> MemOk mem' -> (∀ v ∈ tmps', v.ok (bsOf mem')) -> sat E (K tmps' mem') -> Kd (actOf ds tmps') (memOf mem')) :
  opD P w0 (gam tab E) draw o Kd (actOf ds tmps) (memOf mem) := by
 have hr : (actOf ds tmps).eval = fun x => (opv tmps x).ev := funext (opv_ev tmps)
 have ho : ∀ x, (opv tmps x).ok (bsOf mem) := opv_ok ht
 have quiet : ∀ (v : V), cls o.op = .q -> v.ok (bsOf mem) -> qev P (execOp (actOf ds tmps).eval o) (memOf mem) = some (.value v.ev) -> sat E (K (setD tmps o.dst v) mem) ->
   opD P w0 (gam tab E) draw o Kd (actOf ds tmps) (memOf mem) := by
  intro v hc hv hq hs
  unfold opD
  rw [hc]
  refine ⟨_, hq, ?_⟩
  show Kd ((actOf ds tmps).put o.dst v.ev) (memOf mem)
  rw [setD_act]
  exact hk _ _ (Ext.refl _) (setD_fr _ _ _) H (setD_ok ht hv) hs
 have ground : sat E (symGround P o tmps mem K) -> opD P w0 (gam tab E) draw o Kd (actOf ds tmps) (memOf mem) := by
  intro h
  unfold symGround at h
  split at h
  ·rename_i hc
   have hc' : cls o.op = .q := by
    unfold isQ at hc
    split at hc
    ·assumption
    ·cases hc
   split at h
   ·rename_i v hn
    refine quiet (ofV v) hc' (ofV_ok _ v) ?_ h
    rw [hr, ofV_ev]
    exact nev_qev _ hn
   ·exact h.elim
  ·exact h.elim
 obtain ⟨dst, op, ty, pos, after, guard⟩ := o
 cases op
 case assign x =>
  simp only [symStep] at h
  obtain ⟨y, h1, h2, h3⟩ := bindV_ok (ho x) h
  refine quiet y rfl h2 ?_ h3
  rw [hr]; simp only [execOp, h1]; rfl
 case pick c a b =>
  simp only [symStep] at h
  split at h
  ·rename_i t hp
   refine quiet _ rfl (by split <;> exact ho _) ?_ h
   rw [hr]
   simp only [execOp, hp, V.ev, A.ev, S.ev, B.ev]
   cases t <;> rfl
  ·rename_i c' _ hp
   cases hcv : c'.ev with
   | true =>
    refine quiet _ rfl (ho a) ?_ (ite_true h hcv)
    rw [hr]
    simp only [execOp, hp, V.ev, A.ev, S.ev, hcv]; rfl
   | false =>
    refine quiet _ rfl (ho b) ?_ (ite_false h hcv)
    rw [hr]
    simp only [execOp, hp, V.ev, A.ev, S.ev, hcv]; rfl
  ·exact h.elim
 case indexAddr t x i =>
  simp only [symStep] at h
  split at h
  ·rename_i k j hp
   split at h
   ·rename_i r hs
    obtain ⟨g1, g2⟩ := unraw_ok mem (ho x)
    obtain ⟨h1, h2⟩ := symIndexAddr_ok k g1 hs (memOf mem)
    rw [g2] at h2
    refine quiet (.a (.s r)) rfl h1 ?_ h
    rw [hr]
    simp only [execOp, hp]
    exact vq h2
   ·exact h.elim
  ·rename_i k j _ hp
   have hj : j.ok := by have := ho i; rw [hp] at this; exact this
   split at h
   ·rename_i r hs
    obtain ⟨m1, h⟩ := mkMust_ok h
    obtain ⟨m2, h⟩ := mkMust_ok h
    rw [(mkLe_ok (a := .lit 0) trivial hj).2] at m1
    rw [(mkLt_ok (b := .lit _) hj trivial).2] at m2
    replace m1 : (0 : Int) <= j.ev := of_decide_eq_true m1
    replace m2 := of_decide_eq_true m2
    obtain ⟨g1, g2⟩ := unraw_ok mem (ho x)
    obtain ⟨h1, h2⟩ := symIndexX_ok k g1 hj m1 m2 hs (memOf mem)
    rw [g2] at h2
    refine quiet (.a (.s r)) rfl h1 ?_ h
    rw [hr]
    simp only [execOp, hp]
    exact vq h2
   ·exact h.elim
  ·exact h.elim
 case index t x i =>
  simp only [symStep] at h
  split at h
  ·rename_i k j hp
   split at h
   ·rename_i r hs
    obtain ⟨h1, h2⟩ := symIndex_ok k (ho x) hs (memOf mem)
    refine quiet (.a r) rfl h1 ?_ h
    rw [hr]
    simp only [execOp, hp]
    exact vq h2
   ·exact h.elim
  ·rename_i k j _ hp
   have hj : j.ok := by have := ho i; rw [hp] at this; exact this
   split at h
   ·rename_i cs hx
    have hcs : ∀ c ∈ cs, c.ok (bsOf mem) := by have := ho x; rw [hx] at this; exact this
    split at h
    ·rename_i r len hs
     obtain ⟨m1, h⟩ := mkMust_ok h
     obtain ⟨m2, h⟩ := mkMust_ok h
     rw [(mkLe_ok (a := .lit 0) trivial hj).2] at m1
     rw [(mkLt_ok (b := .lit _) hj trivial).2] at m2
     replace m1 : (0 : Int) <= j.ev := of_decide_eq_true m1
     replace m2 := of_decide_eq_true m2
     obtain ⟨h1, h2⟩ := partPx_ok k hcs hj hs m1 m2 (memOf mem)
     obtain ⟨y, y1, y2, _, y3⟩ := bindA_ok h1 h
     refine quiet (.a y) rfl y2 ?_ y3
     rw [hr]
     simp only [execOp, hp, hx]
     refine vq ?_
     show _ = some y.ev
     rw [y1]; exact h2
    ·exact h.elim
   ·rename_i s hx
    split at h
    ·rename_i hu
     obtain ⟨m1, h⟩ := mkMust_ok h
     obtain ⟨m2, h⟩ := mkMust_ok h
     rw [(mkLe_ok (a := .lit 0) trivial hj).2] at m1
     rw [(mkLt_ok (b := .lit _) hj trivial).2] at m2
     replace m1 : (0 : Int) <= j.ev := of_decide_eq_true m1
     replace m2 : j.ev < (s.size : Int) := of_decide_eq_true m2
     obtain ⟨y, y1, y2, _, y3⟩ := bindS_ok (x := .int .u8 (.tbl (s.data.toList.map fun b => (b.toNat : Int)) j)) (bs := bsOf mem) hj h
     refine quiet (.a (.s y)) rfl y2 ?_ y3
     rw [hr]
     simp only [execOp, hp, hx]
     refine vq ?_
     show _ = some y.ev
     rw [y1]
     have hlt : j.ev.toNat < s.data.toList.length := by
      have : s.data.toList.length = s.size := by simp
      omega
     unfold Instr.index
     simp only [V.ev, A.ev, S.ev, asIntOf, qev_bind, qev_pure, Option.bind_some, qev_underlying hu, m1, if_true, X.ev]
     have e : s[j.ev.toNat]? = some s.data.toList[j.ev.toNat] := by
      rw [getElem?_pos s j.ev.toNat (by show j.ev.toNat < s.size; omega)]
      rfl
     rw [e]
     simp only [qev_pure, List.getD_eq_getElem?_getD, List.getElem?_map, List.getElem?_eq_getElem hlt, Option.map_some, Option.getD_some]
    ·exact h.elim
   ·exact h.elim
  ·exact h.elim
 case store t a x =>
  simp only [symStep] at h
  split at h
  ·rename_i id b off y hpa hpx
   split at h
   ·rename_i hf
    simp only [Bool.and_eq_true, List.all_eq_true] at hf
    have hx := ho x
    rw [hpx] at hx
    obtain ⟨ys, h1, h2, _, h3⟩ := bindL_ok _ (A.cells_ok hx) h
    split at h3
    ·rename_i mem' hs
     have hpt : (bsOf mem)[id]? = some b := by have := ho a; rw [hpa] at this; exact this
     have hev : (V.a y).ev.cells = (ys.map S.ev).toArray := by rw [h1]; exact A.ev_cells hf.2
     obtain ⟨e1, e2, e4, e3⟩ := storeS_ok H hpt h2 hs hev (fl_of_ev h1 fun c hc => S.fl_flat (hf.1 c hc))
     unfold opD
     refine ⟨memOf mem', ?_, ?_⟩
     ·rw [hr]
      simp only [execOp, hpa, hpx]
      rw [wev_bind]
      rw [show (V.a (A.s (S.ptr id b off))).ev = .pointer (some ⟨b, off, none⟩) from rfl]
      simp only [Instr.storeAt, Instr.sureAddr]
      rw [wev_bind]
      simp only [show ∀ (x : Addr) (m : Mem), wev P (pure x : Sem Addr) m = some (x, m) from fun _ _ => rfl, Option.bind_some]
      rw [e3]
      rfl
     ·show Kd ((actOf ds tmps).put dst (V.tup []).ev) _
      rw [setD_act]
      refine hk _ _ e4 (setD_fr _ _ _) e1 ?_ h3
      rw [e2]
      exact setD_ok ht (fun x hx => by cases hx)
    ·exact h3.elim
   ·exact h.elim
  ·rename_i id b off i len n y hpa hpx
   have hpt : (bsOf mem)[id]? = some b /\ i.ok /\ 0 <= i.ev /\ i.ev < len := by have := ho a; rw [hpa] at this; exact this
   obtain ⟨p1, p2, p3, p4⟩ := hpt
   split at h
   ·rename_i hf
    have hx := ho x
    rw [hpx] at hx
    obtain ⟨ys, h1, h2, _, h3⟩ := bindL_ok _ (A.cells_ok hx) h
    split at h3
    ·rename_i vs hvs
     obtain ⟨g1, g2⟩ := intsOf_ok ys h2 hvs
     split at h3
     ·rename_i mem' hs
      have hev : (V.a y).ev.cells = ((vs.map intS).map S.ev).toArray := by
       rw [show (vs.map intS).map S.ev = vs.map intVal by rw [List.map_map]; rfl, <- g1, h1]
       exact A.ev_cells hf
      obtain ⟨e1, e2, e4, e3⟩ := storePx_ok H p1 p2 p3 p4 g2 hs hev
      unfold opD
      refine ⟨memOf mem', ?_, ?_⟩
      ·rw [hr]
       simp only [execOp, hpa, hpx]
       rw [wev_bind]
       rw [show (V.a (A.s (S.px id b off i len n))).ev = .pointer (some ⟨b, off + i.ev.toNat * n, none⟩) from rfl]
       simp only [Instr.storeAt, Instr.sureAddr]
       rw [wev_bind]
       simp only [show ∀ (x : Addr) (m : Mem), wev P (pure x : Sem Addr) m = some (x, m) from fun _ _ => rfl, Option.bind_some]
       rw [e3]
       rfl
      ·show Kd ((actOf ds tmps).put dst (V.tup []).ev) _
       rw [setD_act]
       refine hk _ _ e4 (setD_fr _ _ _) e1 ?_ h3
       rw [e2]
       exact setD_ok ht (fun x hx => by cases hx)
     ·exact h3.elim
    ·exact h3.elim
   ·exact h.elim
  ·exact h.elim
 case typeAssert x xT t c =>
  cases c with
  | true =>
   simp only [symStep] at h
   split at h
   ·rename_i v hv
    refine quiet (ofV v) rfl (ofV_ok _ v) ?_ h
    rw [hr, ofV_ev]
    exact vq (symAssert_ok hv (memOf mem))
   ·exact h.elim
  | false =>
   simp only [symStep] at h
   split at h
   ·rename_i v hs
    obtain ⟨h1, h2, h3⟩ := symQ_ok (o := ⟨dst, _, ty, pos, after, guard⟩) H ht hs
    exact quiet v h1 h2 h3 h
   ·exact ground h
 case binOp op t x y yt =>
  simp only [symStep] at h
  obtain ⟨z, z1, z2, h⟩ := tight_ok (ho y) h
  split at h
  ·rename_i r hb
   obtain ⟨h1, h2⟩ := symBin_ok x y (ho x) z2 hb (memOf mem)
   refine quiet (.a (.s r)) rfl h1 ?_ h
   rw [z1] at h2
   rw [hr]
   exact vq h2
  ·exact ground h
 case call c =>
  obtain ⟨callee, args, ts⟩ := c
  cases callee with
  | value f =>
   simp only [symStep] at h
   split at h
   ·exact ground h
   refine symCall_ok hV hI H ht h ?_
   intro v mem' h1 h2 h3 h4
   rw [setD_act]
   exact hk _ _ h1 (setD_fr _ _ _) h2 (setD_ok (fun u hu => V.ok_mono h1.pre (ht u hu)) h3) h4
  | invoke r s => simp only [symStep] at h; exact ground h
  | builtin b =>
   simp only [symStep] at h
   split at h
   ·rename_i r hs
    obtain ⟨h1, h2⟩ := symBuiltin_ok (bs := bsOf mem) (fun v hv => by
     obtain ⟨x, _, rfl⟩ := List.mem_map.1 hv; exact ho x) hs ty (args.map fun | .const _ => true | _ => false) (memOf mem)
    refine quiet (.a (.s r)) rfl h1 ?_ h
    rw [hr]
    simp only [execOp, resolve]
    rw [qev_bind]
    simp only [qev_pure, Option.bind_some, invoke]
    have e : args.map (fun x => (opv tmps x).ev) = ((args.toList.map (opv tmps)).map V.ev).toArray := by
     apply Array.ext'; simp
    rw [e]; exact h2
   ·exact h.elim
 case alloc t =>
  simp only [symStep] at h
  split at h
  ·rename_i cs t' mk hs
   obtain ⟨h1, h2, k, h3, h4⟩ := symAl_ok (o := { dst, op := .alloc t, type := ty, pos, after, guard }) ht hs
   unfold opD
   rw [h1]
   refine ⟨_, _, _, h3, fun b hb _ => ⟨_, h4 b, ?_⟩⟩
   have hnb := memOf_none hb
   show Kd ((actOf ds tmps).put dst (V.a (.s (mk.s mem.length b))).ev) _
   rw [setD_act]
   have e := memOf_snoc (mem := mem) (x := ⟨b, cs, t', true, false⟩) hnb
   rw [show (memOf mem).add b ⟨(cs.map S.ev).toArray, t', true⟩ = memOf (mem ++ [⟨b, cs, t', true, false⟩]) from e.symm]
   have hext : Ext mem (mem ++ [⟨b, cs, t', true, false⟩]) := Ext.snoc _ _
   have hpre := hext.pre
   refine hk _ _ hext (setD_fr _ _ _) ⟨?_, ?_⟩ ?_ (h b)
   ·simp only [bsOf, List.map_append, List.map_cons, List.map_nil]
    refine List.nodup_append.2 ⟨H.nodup, by simp, ?_⟩
    intro x hx y hy
    simp at hy; subst hy
    rintro rfl; exact hnb hx
   ·intro y hy c hc
    rcases List.mem_append.1 hy with hy | hy
    ·exact S.ok_mono hpre (H.ok y hy c hc)
    ·simp at hy; subst hy; exact S.ok_mono hpre (h2 c hc)
   ·refine setD_ok (fun u hu => V.ok_mono hpre (ht u hu)) ?_
    have hb' : (bsOf (mem ++ [⟨b, cs, t', true, false⟩]))[mem.length]? = some b := by simp [bsOf]
    cases mk <;> exact hb'
  ·exact h.elim
 case box t x =>
  simp only [symStep] at h
  split at h
  ·rename_i cs t' mk hs
   obtain ⟨h1, h2, k, h3, h4⟩ := symAl_ok (o := { dst, op := .box t x, type := ty, pos, after, guard }) ht hs
   unfold opD
   rw [h1]
   refine ⟨_, _, _, h3, fun b hb _ => ⟨_, h4 b, ?_⟩⟩
   have hnb := memOf_none hb
   show Kd ((actOf ds tmps).put dst (V.a (.s (mk.s mem.length b))).ev) _
   rw [setD_act]
   have e := memOf_snoc (mem := mem) (x := ⟨b, cs, t', true, false⟩) hnb
   rw [show (memOf mem).add b ⟨(cs.map S.ev).toArray, t', true⟩ = memOf (mem ++ [⟨b, cs, t', true, false⟩]) from e.symm]
   have hext : Ext mem (mem ++ [⟨b, cs, t', true, false⟩]) := Ext.snoc _ _
   have hpre := hext.pre
   refine hk _ _ hext (setD_fr _ _ _) ⟨?_, ?_⟩ ?_ (h b)
   ·simp only [bsOf, List.map_append, List.map_cons, List.map_nil]
    refine List.nodup_append.2 ⟨H.nodup, by simp, ?_⟩
    intro x hx y hy
    simp at hy; subst hy
    rintro rfl; exact hnb hx
   ·intro y hy c hc
    rcases List.mem_append.1 hy with hy | hy
    ·exact S.ok_mono hpre (H.ok y hy c hc)
    ·simp at hy; subst hy; exact S.ok_mono hpre (h2 c hc)
   ·refine setD_ok (fun u hu => V.ok_mono hpre (ht u hu)) ?_
    have hb' : (bsOf (mem ++ [⟨b, cs, t', true, false⟩]))[mem.length]? = some b := by simp [bsOf]
    cases mk <;> exact hb'
  ·exact h.elim
 case buildSlice t len parts =>
  simp only [symStep] at h
  split at h
  ·rename_i cs t' mk hs
   obtain ⟨h1, h2, k, h3, h4⟩ := symAl_ok (o := { dst, op := .buildSlice t len parts, type := ty, pos, after, guard }) ht hs
   unfold opD
   rw [h1]
   refine ⟨_, _, _, h3, fun b hb _ => ⟨_, h4 b, ?_⟩⟩
   have hnb := memOf_none hb
   show Kd ((actOf ds tmps).put dst (V.a (.s (mk.s mem.length b))).ev) _
   rw [setD_act]
   have e := memOf_snoc (mem := mem) (x := ⟨b, cs, t', true, false⟩) hnb
   rw [show (memOf mem).add b ⟨(cs.map S.ev).toArray, t', true⟩ = memOf (mem ++ [⟨b, cs, t', true, false⟩]) from e.symm]
   have hext : Ext mem (mem ++ [⟨b, cs, t', true, false⟩]) := Ext.snoc _ _
   have hpre := hext.pre
   refine hk _ _ hext (setD_fr _ _ _) ⟨?_, ?_⟩ ?_ (h b)
   ·simp only [bsOf, List.map_append, List.map_cons, List.map_nil]
    refine List.nodup_append.2 ⟨H.nodup, by simp, ?_⟩
    intro x hx y hy
    simp at hy; subst hy
    rintro rfl; exact hnb hx
   ·intro y hy c hc
    rcases List.mem_append.1 hy with hy | hy
    ·exact S.ok_mono hpre (H.ok y hy c hc)
    ·simp at hy; subst hy; exact S.ok_mono hpre (h2 c hc)
   ·refine setD_ok (fun u hu => V.ok_mono hpre (ht u hu)) ?_
    have hb' : (bsOf (mem ++ [⟨b, cs, t', true, false⟩]))[mem.length]? = some b := by simp [bsOf]
    cases mk <;> exact hb'
  ·exact h.elim
 all_goals
  simp only [symStep] at h
  split at h
  ·rename_i v hs
   obtain ⟨h1, h2, h3⟩ := symQ_ok (o := ⟨dst, _, ty, pos, after, guard⟩) H ht hs
   exact quiet v h1 h2 h3 h
  ·exact ground h
def symOper (P : Program) (tab : Tab) (inl : Inl) (draw : Lv) (ops : Array Oper) (o : Oper) (tmps : List V) (mem : List SB) (K : List V -> List SB -> T) : T :=
 match o.guard with
 | none => symStep P tab inl draw o tmps mem K
 | some (j, want) =>
  match (ops[j]?).bind (·.dst) with
  | none => K (setD tmps o.dst (.tup [])) mem
  | some d =>
   match tmps[d]? with
   | some (.a (.s (.bool (.lit b)))) => if b == want then symStep P tab inl draw o tmps mem K else K (setD tmps o.dst (.tup [])) mem
   | some (.a (.s (.bool b))) =>
    .ite b (if want then symStep P tab inl draw o (tmps.set d (.a (.s (.bool (.lit true))))) mem K else K (setD (tmps.set d (.a (.s (.bool (.lit true))))) o.dst (.tup [])) mem)
     (if want then K (setD (tmps.set d (.a (.s (.bool (.lit false))))) o.dst (.tup [])) mem else symStep P tab inl draw o (tmps.set d (.a (.s (.bool (.lit false))))) mem K)
   | some (.tup _) => K (setD tmps o.dst (.tup [])) mem
   | _ => .fail "guard"
theorem actOf_same {tmps : List V} {d : Nat} {v v' : V} (h : tmps[d]? = some v) (he : v'.ev = v.ev) : actOf ds (tmps.set d v') = actOf ds tmps := by
 simp only [actOf]
 congr 2
 rw [List.map_set, he]
 apply List.ext_getElem?
 intro i
 rw [List.getElem?_set]
 split
 ·rename_i hi; subst hi
  simp only [List.length_map]
  split
  ·simp [h]
  ·rename_i hl
   rw [List.getElem?_eq_none (by simpa using hl)] at h; cases h
 ·rfl
theorem fr_same {tmps : List V} {d : Nat} {v : V} (h : actOf ds (tmps.set d v) = actOf ds tmps) : Fr [] tmps (tmps.set d v) := by
 refine ⟨by simp, fun i _ => ?_⟩
 have := congrArg (fun a : Act => a.tmps.toList[i]?) h
 simpa [actOf] using this
theorem set_ok {bs : List Nat} {tmps : List V} {d : Nat} {v : V} (h : ∀ v ∈ tmps, v.ok bs) (hv : v.ok bs) : ∀ u ∈ tmps.set d v, u.ok bs := by
 intro u hu
 rcases List.mem_or_eq_of_mem_set hu with h1 | h1
 ·exact h u h1
 ·subst h1; exact hv
theorem yielded_at {ops : Array Oper} {tmps : List V} {j d : Nat} (hd : (ops[j]?).bind (·.dst) = some d) {v : V} (hv : tmps[d]? = some v) :
  yielded ops (actOf ds tmps).tmps j = match v.ev with | .bool b => some b | _ => none := by
 unfold yielded
 rw [hd]
 simp only [Option.bind_some, actOf, List.getElem?_toArray, List.getElem?_map, hv, Option.map_some]
 cases v.ev <;> rfl
theorem symOper_ok {tab : Tab} {E : Ctx} (hV : Valid P tab E) {w0 : World} {inl : Inl} (hI : ∀ w0, InlOk P w0 E inl) {draw : Lv} {ops : Array Oper} {mem : List SB} (H : MemOk mem) {tmps : List V} (ht : ∀ v ∈ tmps, v.ok (bsOf mem))
  {o : Oper} {K : List V -> List SB -> T} (h : sat E (symOper P tab inl draw ops o tmps mem K)) {Kd : Act -> Mem -> Prop}
  (hk : ∀ tmps' mem', Ext mem mem' -> Fr o.dst.toList tmps tmps' -> MemOk mem' -> (∀ v ∈ tmps', v.ok (bsOf mem')) -> sat E (K tmps' mem') -> Kd (actOf ds tmps') (memOf mem')) :
  stepD P w0 (gam tab E) draw ops o Kd (actOf ds tmps) (memOf mem) := by
 have und : ∀ (tmps1 : List V), Fr [] tmps tmps1 -> (∀ v ∈ tmps1, v.ok (bsOf mem)) -> sat E (K (setD tmps1 o.dst (.tup [])) mem) -> Kd ((actOf ds tmps1).put o.dst undef) (memOf mem) := by
  intro tmps1 hf ht hs
  show Kd ((actOf ds tmps1).put o.dst (V.tup []).ev) (memOf mem)
  rw [setD_act]
  exact hk _ _ (Ext.refl _) ((hf.mono (by simp)).trans (setD_fr _ _ _)) H (setD_ok ht (fun x hx => by cases hx)) hs
 have hk' : ∀ (tmps1 : List V), Fr [] tmps tmps1 -> ∀ tmps' mem', Ext mem mem' -> Fr o.dst.toList tmps1 tmps' -> MemOk mem' -> (∀ v ∈ tmps', v.ok (bsOf mem')) -> sat E (K tmps' mem') -> Kd (actOf ds tmps') (memOf mem') :=
  fun tmps1 hf t m a b c d e => hk t m a ((hf.mono (by simp)).trans b) c d e
 unfold stepD
 unfold symOper at h
 cases hg : o.guard with
 | none =>
  have hw : Region.wanted o (yielded ops (actOf ds tmps).tmps) = true := by simp [Region.wanted, hg]
  rw [hg] at h; rw [if_pos hw]; exact symStep_ok hV hI H ht h hk
 | some jw =>
  obtain ⟨j, want⟩ := jw
  have hw : Region.wanted o (yielded ops (actOf ds tmps).tmps) = (yielded ops (actOf ds tmps).tmps j == some want) := by simp [Region.wanted, hg]
  rw [hg] at h
  rw [hw]
  simp only at h
  cases hd : (ops[j]?).bind (·.dst) with
  | none =>
   rw [hd] at h
   have : yielded ops (actOf ds tmps).tmps j = none := by unfold yielded; rw [hd]; rfl
   rw [this]
   exact und _ (Fr.refl _ _) ht h
  | some d =>
   rw [hd] at h
   simp only at h
   split at h
   ·rename_i b hv
    have hy : yielded ops (actOf ds tmps).tmps j = some b := by rw [yielded_at hd hv]; rfl
    rw [hy]
    split at h
    ·rename_i hb
     rw [if_pos (by simpa using hb)]
     exact symStep_ok hV hI H ht h hk
    ·rename_i hb
     rw [if_neg (by simpa using hb)]
     exact und _ (Fr.refl _ _) ht h
   ·rename_i b _ hv
    have hy : yielded ops (actOf ds tmps).tmps j = some b.ev := by rw [yielded_at hd hv]; rfl
    rw [hy]
    cases hb : b.ev with
    | true =>
     have e : actOf ds (tmps.set d (.a (.s (.bool (.lit true))))) = actOf ds tmps := actOf_same hv (by simp [V.ev, A.ev, S.ev, B.ev, hb])
     have ht' : ∀ v ∈ tmps.set d (.a (.s (.bool (.lit true)))), v.ok (bsOf mem) := set_ok ht trivial
     have hfr := fr_same e
     have h' := ite_true h hb
     cases want with
     | true => simp only [if_true, beq_self_eq_true] at h' ⊢; rw [<- e]; exact symStep_ok hV hI H ht' h' (hk' _ hfr)
     | false => rw [if_neg (by simp)]; rw [<- e]; exact und _ hfr ht' h'
    | false =>
     have e : actOf ds (tmps.set d (.a (.s (.bool (.lit false))))) = actOf ds tmps := actOf_same hv (by simp [V.ev, A.ev, S.ev, B.ev, hb])
     have ht' : ∀ v ∈ tmps.set d (.a (.s (.bool (.lit false)))), v.ok (bsOf mem) := set_ok ht trivial
     have hfr := fr_same e
     have h' := ite_false h hb
     cases want with
     | true => rw [if_neg (by simp)]; rw [<- e]; exact und _ hfr ht' h'
     | false => rw [if_pos (by simp)]; rw [<- e]; exact symStep_ok hV hI H ht' h' (hk' _ hfr)
   ·rename_i xs hv
    have hy : yielded ops (actOf ds tmps).tmps j = none := by rw [yielded_at hd hv]; rfl
    rw [hy]
    exact und _ (Fr.refl _ _) ht h
   ·exact h.elim
def symOps (P : Program) (tab : Tab) (inl : Inl) (draw : Nat -> Lv) (ops : Array Oper) : List Nat -> List V -> List SB -> (List V -> List SB -> T) -> T
 | [], tmps, mem, K => K tmps mem
 | i :: r, tmps, mem, K =>
  match ops[i]? with
  | none => symOps P tab inl draw ops r tmps mem K
  | some o => symOper P tab inl (draw i) ops o tmps mem fun tmps mem => symOps P tab inl draw ops r tmps mem K
def dstOps (ops : Array Oper) : List Nat := ops.toList.filterMap (·.dst)
theorem mem_dstOps {ops : Array Oper} {i : Nat} {o : Oper} (h : ops[i]? = some o) {d : Nat} (hd : o.dst = some d) : d ∈ dstOps ops :=
 List.mem_filterMap.2 ⟨o, by have := Array.mem_of_getElem? h; simpa using this, hd⟩
theorem symOps_ok {tab : Tab} {E : Ctx} (hV : Valid P tab E) {w0 : World} {inl : Inl} (hI : ∀ w0, InlOk P w0 E inl) {draw : Nat -> Lv} {ops : Array Oper} {K : List V -> List SB -> T} {Kd : Act -> Mem -> Prop} :
  ∀ (l : List Nat) {mem : List SB}, MemOk mem -> ∀ {tmps : List V}, (∀ v ∈ tmps, v.ok (bsOf mem)) -> sat E (symOps P tab inl draw ops l tmps mem K) ->
   (∀ tmps' mem', Ext mem mem' -> Fr (dstOps ops) tmps tmps' -> MemOk mem' -> (∀ v ∈ tmps', v.ok (bsOf mem')) -> sat E (K tmps' mem') -> Kd (actOf ds tmps') (memOf mem')) ->
   opsD P w0 (gam tab E) draw ops Kd l (actOf ds tmps) (memOf mem)
 | [], mem, H, tmps, ht, h, hk => hk _ _ (Ext.refl _) (Fr.refl _ _) H ht h
 | i :: r, mem, H, tmps, ht, h, hk => by
  simp only [symOps] at h
  simp only [opsD]
  cases ho : ops[i]? with
  | none => simp only [ho] at h; exact symOps_ok hV hI r H ht h hk
  | some o =>
   simp only [ho] at h
   refine symOper_ok hV hI H ht h ?_
   intro tmps' mem' h1 hf h2 h3 h4
   have hf' : Fr (dstOps ops) tmps tmps' := hf.mono fun i hi => mem_dstOps ho (by simpa using hi)
   exact symOps_ok hV hI r h2 h3 h4 fun t m a f b c d => hk t m (h1.trans a) (hf'.trans f) b c d
variable {P : Program} {ds : List Deferred}
inductive Ex where
 | normal
 | exit (id : Nat)
 | ret
def Ex.ex : Ex -> Exit
 | .normal => .normal
 | .exit id => .exit id
 | .ret => .ret
def resS (P : Program) : List ResultVar -> List V -> List SB -> Option (List A)
 | [], _, _ => some []
 | .tmp t :: r, tmps, mem =>
  match tmps.getD t (.tup []), resS P r tmps mem with
  | .a x, some xs => some (x :: xs)
  | _, _ => none
 | .cell a t :: r, tmps, mem =>
  match tmps.getD a (.tup []), resS P r tmps mem with
  | .a (.s (.ptr id _ off)), some xs => (loadS P mem t id off).map (· :: xs)
  | _, _ => none
def resV : List A -> V
 | [x] => .a x
 | xs => .tup xs
theorem getD_ev (tmps : List V) (t : Nat) : (actOf ds tmps).tmps.getD t undef = (tmps.getD t (.tup [])).ev := opv_ev tmps (.tmp t)
theorem resS_ok {mem : List SB} (H : MemOk mem) {tmps : List V} (ht : ∀ v ∈ tmps, v.ok (bsOf mem)) : ∀ (l : List ResultVar) {xs : List A}, resS P l tmps mem = some xs ->
  (∀ x ∈ xs, x.ok (bsOf mem)) /\ qev P (l.mapM fun | .tmp t => pure ((actOf ds tmps).tmps.getD t undef) | .cell a t => do loadVar t (<- asAddr ((actOf ds tmps).tmps.getD a undef))) (memOf mem) = some (xs.map A.ev)
 | [], xs, h => by cases h; exact ⟨fun x hx => (by cases hx), rfl⟩
 | .tmp t :: r, xs, h => by
  simp only [resS] at h
  split at h
  ·rename_i x ys hx hr
   cases h
   obtain ⟨h1, h2⟩ := resS_ok H ht r hr
   have hxo : x.ok (bsOf mem) := by have := opv_ok ht (.tmp t); simp only [opv, hx] at this; exact this
   refine ⟨?_, ?_⟩
   ·intro z hz
    rcases List.mem_cons.1 hz with rfl | hz
    ·exact hxo
    ·exact h1 z hz
   ·rw [List.mapM_cons, qev_bind]
    simp only [qev_pure, Option.bind_some]
    rw [qev_bind, h2, getD_ev, hx]
    rfl
  ·cases h
 | .cell a t :: r, xs, h => by
  simp only [resS] at h
  split at h
  ·rename_i id b off ys hx hr
   cases hl : loadS P mem t id off with
   | none => rw [hl] at h; cases h
   | some y =>
    rw [hl] at h; cases h
    obtain ⟨h1, h2⟩ := resS_ok H ht r hr
    have hxo : (bsOf mem)[id]? = some b := by have := opv_ok ht (.tmp a); simp only [opv, hx] at this; exact this
    obtain ⟨h3, h4⟩ := loadS_ok H hxo hl
    refine ⟨?_, ?_⟩
    ·intro z hz
     rcases List.mem_cons.1 hz with rfl | hz
     ·exact h3
     ·exact h1 z hz
    ·rw [List.mapM_cons, qev_bind]
     have : qev P (do loadVar t (<- asAddr ((actOf ds tmps).tmps.getD a undef))) (memOf mem) = some y.ev := by
      rw [getD_ev, hx, qev_bind]
      simp only [V.ev, A.ev, S.ev, asAddr, qev_pure, Option.bind_some]
      exact h4
     rw [this]
     simp only [Option.bind_some]
     rw [qev_bind, h2]
     rfl
  ·cases h
theorem results_ok {mem : List SB} (H : MemOk mem) {tmps : List V} (ht : ∀ v ∈ tmps, v.ok (bsOf mem)) {fn : Func} {xs : List A} (h : resS P fn.results.toList tmps mem = some xs) :
  (resV xs).ok (bsOf mem) /\ qev P (results fn (actOf ds tmps).tmps) (memOf mem) = some (resV xs).ev := by
 obtain ⟨h1, h2⟩ := resS_ok H ht _ h
 refine ⟨?_, ?_⟩
 ·unfold resV
  split
  ·exact h1 _ (by simp)
  ·exact h1
 ·unfold results
  rw [qev_bind, Array.mapM_eq_mapM_toList]
  rw [show ∀ (s : Sem (List Value)), qev P (List.toArray <$> s) (memOf mem) = (qev P s (memOf mem)).bind fun a => some a.toArray from fun s => qev_bind s _ _]
  have key : ∀ o : Option (List Value), o = some (xs.map A.ev) -> ((o.bind fun a => some a.toArray).bind fun vs => qev P (pure (if h : vs.size = 1 then vs[0] else .tuple vs)) (memOf mem)) = some (resV xs).ev := by
   rintro o rfl
   simp only [Option.bind_some, qev_pure]
   clear h h1 h2
   cases xs with
   | nil => rfl
   | cons x r =>
    cases r with
    | nil => rfl
    | cons y r =>
     rw [dif_neg (by simp)]
     rfl
  exact key _ h2
def symBody (P : Program) (run : FuncId -> Code -> List V -> List SB -> (Ex -> List V -> List SB -> T) -> T) (f : FuncId) (fn : Func) (c : Code) (args : List A) (mem : List SB) (K : V -> List SB -> T) : T :=
 run f c (args.map .a ++ List.replicate (fn.ntmps - args.length) (.tup [])) mem fun ex tmps mem =>
  match ex with
  | .exit _ => .fail "exit"
  | _ => match resS P fn.results.toList tmps mem with
   | some xs => K (resV xs) mem
   | none => .fail "results"
def symAfter (P : Program) (run : FuncId -> Code -> List V -> List SB -> (Ex -> List V -> List SB -> T) -> T) (g : FuncId) (xs : List A) (fn : Func) (tmps : List V) (mem : List SB) (K : V -> List SB -> T) : T :=
 if !callable P g then .fail "no such function" else
 match P.funcs[g]? with
 | some gn =>
  match gn.body with
  | some gc => symBody P run g gn gc xs mem fun _ mem => match resS P fn.results.toList tmps mem with
   | some rs => K (resV rs) mem
   | none => .fail "results"
  | none => .fail "no body"
 | none => .fail "no function"
def symDefer (P : Program) (run : FuncId -> Code -> List V -> List SB -> (Ex -> List V -> List SB -> T) -> T) (f : FuncId) (fn : Func) (a b : Code) (call : Call) (args : List A) (mem : List SB) (K : V -> List SB -> T) : T :=
 run f a (args.map .a ++ List.replicate (fn.ntmps - args.length) (.tup [])) mem fun ex tmps mem =>
  match ex with
  | .normal =>
   match call.callee, toAs (call.args.toList.map (opv tmps)) with
   | .value fo, some xs => match opv tmps fo with
    | .a (.s (.fn g [])) => run f b tmps mem fun ex tmps mem =>
     match ex with
     | .exit _ => .fail "exit"
     | _ => symAfter P run g xs fn tmps mem K
    | _ => .fail "defer"
   | _, _ => .fail "defer"
  | _ => .fail "defer"
def symFn (P : Program) (run : FuncId -> Code -> List V -> List SB -> (Ex -> List V -> List SB -> T) -> T) : Inl := fun f args mem K =>
 match P.funcs[f]? with
 | some fn =>
  match fn.body with
  | some (.seq a (.seq (.region id ops false) b)) =>
   if ops.size = 1 then
    match ops[0]? with
    | some o => match o.op, o.dst, o.guard with
     | .defer call, none, none => symDefer P run f fn a b call args mem K
     | _, _, _ => symBody P run f fn (.seq a (.seq (.region id ops false) b)) args mem K
    | none => .fail "defer"
   else symBody P run f fn (.seq a (.seq (.region id ops false) b)) args mem K
  | some c => symBody P run f fn c args mem K
  | none => .fail "no body"
 | none => .fail "no function"
def litAt (tmps : List V) (c : Operand) (b : Bool) : List V :=
 match c with
 | .tmp d => tmps.set d (.a (.s (.bool (.lit b))))
 | _ => tmps
theorem litAt_same {tmps : List V} {c : Operand} {b : B} (hp : opv tmps c = .a (.s (.bool b))) {bb : Bool} (hb : b.ev = bb) : actOf ds (litAt tmps c bb) = actOf ds tmps := by
 unfold litAt
 split
 ·rename_i d
  cases htd : tmps[d]? with
  | none =>
   have : tmps.set d (.a (.s (.bool (.lit bb)))) = tmps := List.set_eq_of_length_le (by simpa using htd)
   rw [this]
  | some v =>
   refine actOf_same htd ?_
   simp only [opv, List.getD_eq_getElem?_getD, htd, Option.getD_some] at hp
   rw [hp]; simp [V.ev, A.ev, S.ev, B.ev, hb]
 ·rfl
theorem litAt_ok {bs : List Nat} {tmps : List V} (ht : ∀ v ∈ tmps, v.ok bs) (c : Operand) (bb : Bool) : ∀ v ∈ litAt tmps c bb, v.ok bs := by
 unfold litAt
 split
 ·exact set_ok ht trivial
 ·exact ht
def splitT (s : Option Nat) (tmps : List V) (k : List V -> T) : T :=
 match s with
 | none => k tmps
 | some d =>
  match opv tmps (.tmp d) with
  | .a (.s (.bool (.lit _))) => k tmps
  | .a (.s (.bool b)) => .ite b (k (litAt tmps (.tmp d) true)) (k (litAt tmps (.tmp d) false))
  | _ => k tmps
theorem splitT_ok {E : Ctx} {bs : List Nat} {tmps : List V} (ht : ∀ v ∈ tmps, v.ok bs) {s : Option Nat} {k : List V -> T} (h : sat E (splitT s tmps k)) :
  ∃ t', actOf ds t' = actOf ds tmps /\ (∀ v ∈ t', v.ok bs) /\ sat E (k t') := by
 unfold splitT at h
 split at h
 ·exact ⟨tmps, rfl, ht, h⟩
 ·rename_i d
  split at h
  ·exact ⟨tmps, rfl, ht, h⟩
  ·rename_i b _ hp
   cases hb : b.ev with
   | true => exact ⟨_, litAt_same hp hb, litAt_ok ht _ _, ite_true h hb⟩
   | false => exact ⟨_, litAt_same hp hb, litAt_ok ht _ _, ite_false h hb⟩
  ·exact ⟨tmps, rfl, ht, h⟩
def astM (tmps : List V) : List (List (Nat × Bool) × Nat × Nat × Int) -> List SB -> (List SB -> T) -> T
 | [], mem, k => k mem
 | (sl, id, c, n) :: r, mem, k =>
  if sl.all (fun s => match opv tmps (.tmp s.1) with | .a (.s (.bool (.lit b))) => b == s.2 | _ => false) then
   match mem[id]? with
   | some x => if x.lock then .fail "a block that is locked" else match x.cells[c]? with
    | some (.int kd y) => .must (.eq y (.lit n)) (astM tmps r (mem.set id { x with cells := x.cells.set c (.int kd (.lit n)) }) k)
    | _ => .fail "no number"
   | none => .fail "no block"
  else astM tmps r mem k
def keyOf : Code -> Option Nat
 | .region id _ _ => some id
 | .seq a b => match keyOf a with
  | some k => some k
  | none => keyOf b
 | .cond _ a b => match keyOf a with
  | some k => some k
  | none => keyOf b
 | .block _ b => keyOf b
 | .loop b => keyOf b
 | .scope b => keyOf b
 | _ => none
def dsts : Code -> List Nat
 | .region _ ops _ => dstOps ops
 | .seq a b => dsts a ++ dsts b
 | .cond _ a b => dsts a ++ dsts b
 | .block _ b => dsts b
 | .loop b => dsts b
 | .scope b => dsts b
 | _ => []
def slotS (tmps : List V) (i : Nat) : Option S :=
 match tmps[i]? with
 | some (.a (.s x)) => some x
 | _ => none
def slotsS (tmps : List V) : List Nat -> Option (List S)
 | [] => some []
 | i :: r => match slotS tmps i, slotsS tmps r with
  | some x, some xs => some (x :: xs)
  | _, _ => none
def fsOf (tmps : List V) (mem : List SB) : List Nat -> Option (List S)
 | [] => some []
 | i :: r => match tmps[i]?, fsOf tmps mem r with
  | some (.a (.s (.ptr id _ _))), some xs => (mem[id]?).map fun x => x.cells ++ xs
  | some (.a (.s x)), some xs => some (x :: xs)
  | some (.a (.agg ys)), some xs => some (ys ++ xs)
  | _, _ => none
def blksS (mem : List SB) : List (Nat × List Sh) -> Option (List S)
 | [] => some []
 | (id, sh) :: r => match mem[id]?, blksS mem r with
  | some x, some xs => if takesL sh x.cells && !x.lock then some (x.cells ++ xs) else none
  | _, _ => none
def setAll (tmps : List V) : List Nat -> List V -> List V
 | i :: is, v :: vs => setAll (tmps.set i v) is vs
 | _, _ => tmps
def setBlks (mem : List SB) : List (Nat × List Sh) -> List S -> List SB
 | [], _ => mem
 | (id, sh) :: r, ys => setBlks (match mem[id]? with | some x => mem.set id { x with cells := ys.take sh.length, lock := false } | none => mem) r (ys.drop sh.length)
def lockAll (mem : List SB) : List SB := mem.map fun x => { x with lock := true }
def unlock (old : List SB) : List SB -> List SB
 | [] => []
 | x :: xs => match old with
  | [] => { x with lock := false } :: unlock [] xs
  | o :: os => { x with lock := o.lock } :: unlock os xs
def headT (W : List Nat) (slots : List Nat) (tmps : List V) (ys : List S) (vs : List Value) : List V :=
 setAll (setAll tmps W (vs.map fun v => .a (.s (.raw v)))) slots (ys.map fun y => .a (.s y))
def headM (blks : List (Nat × List Sh)) (mem : List SB) (ys : List S) : List SB := setBlks (lockAll mem) blks ys
def fillV : Nat -> List Value -> List Value
 | 0, _ => []
 | n + 1, vs => vs.headD undef :: fillV n vs.tail
theorem fillV_eq : ∀ (n : Nat) (vs : List Value), vs.length = n -> fillV n vs = vs
 | 0, [], _ => rfl
 | n + 1, v :: vs, h => by
  show v :: fillV n vs = v :: vs
  rw [fillV_eq n vs (by simpa using h)]
def fitT : List (Nat × Sh) -> List V -> (List V -> T) -> T
 | [], tmps, K => K tmps
 | (i, sh) :: r, tmps, K =>
  match tmps[i]? with
  | some (.a (.s x)) => fitS sh x fun y => fitT r (tmps.set i (.a (.s y))) K
  | _ => fitT r tmps K
theorem fitT_ok {E : Ctx} {bs : List Nat} : ∀ (l : List (Nat × Sh)) {tmps : List V}, (∀ v ∈ tmps, v.ok bs) -> ∀ {K : List V -> T}, sat E (fitT l tmps K) ->
  ∃ tmps' : List V, actOf ds tmps' = actOf ds tmps /\ Fr [] tmps tmps' /\ (∀ v ∈ tmps', v.ok bs) /\ sat E (K tmps')
 | [], tmps, ht, K, h => ⟨tmps, rfl, Fr.refl _ _, ht, h⟩
 | (i, sh) :: r, tmps, ht, K, h => by
  simp only [fitT] at h
  split at h
  ·rename_i x hx
   obtain ⟨y, h1, h2, h3⟩ := fitS_ok (ht _ (List.mem_of_getElem? hx)) h
   have e : actOf ds (tmps.set i (.a (.s y))) = actOf ds tmps := actOf_same hx (by simp only [V.ev, A.ev, h1])
   obtain ⟨t', g1, g2, g3, g4⟩ := fitT_ok r (set_ok (v := .a (.s y)) ht h2) h3
   exact ⟨t', g1.trans e, (fr_same e).trans g2, g3, g4⟩
  ·exact fitT_ok r ht h
def fitB : List (Nat × List Sh) -> List SB -> (List SB -> T) -> T
 | [], mem, K => K mem
 | (id, sh) :: r, mem, K =>
  match mem[id]? with
  | some x => if x.lock then fitB r mem K else fitL sh x.cells fun cs => fitB r (mem.set id { x with cells := cs }) K
  | none => fitB r mem K
def symLoop (an : Ann) (W : List Nat) (tmps : List V) (mem : List SB) (body : List V -> List SB -> (Ex -> List V -> List SB -> T) -> T) (K : Ex -> List V -> List SB -> T) : T :=
 let slots := an.slots.map (·.1)
 let sh := an.slots.map (·.2)
 if slots.all (W.contains ·) && W.all (fun i => decide (i < tmps.length)) then
  match fsOf tmps mem an.fro, slotsS tmps slots, blksS mem an.blks with
  | some fs, some ws, some wc =>
   if takesL sh ws then
    .inv an.l fs (ws ++ wc) <| shAll sh fun ys => shAll (an.blks.flatMap (·.2)) fun yc => .hyp an.l fs (ys ++ yc) <| .hav W.length fun vs =>
     body (headT W slots tmps ys (fillV W.length vs)) (headM an.blks mem yc) fun ex tmps' mem' =>
      match ex with
      | .normal => fitT an.slots tmps' fun tmps' => fitB an.blks mem' fun mem' =>
       match slotsS tmps' slots, blksS mem' an.blks with
       | some ws', some wc' => if takesL sh ws' then .again an.l fs (ys ++ yc) (ws' ++ wc') else .fail "the slots of the loop"
       | _, _ => .fail "the slots of the loop"
      | ex => K ex tmps' (unlock mem mem')
   else .fail "the slots of the loop at its start"
  | _, _, _ => .fail "the slots of the loop at its start"
 else .fail "the words of the loop"
def ptrId (tmps : List V) (t : Nat) : Option Nat :=
 match tmps[t]? with
 | some (.a (.s (.ptr id _ _))) => some id
 | some (.a (.s (.px id _ _ _ _ _))) => some id
 | _ => none
def disOf (tmps : List V) (r s : Nat) : Bool :=
 match ptrId tmps r, ptrId tmps s with
 | some i, some j => i != j
 | _, _ => false
theorem ptrId_ok {bs : List Nat} {tmps : List V} (ht : ∀ v ∈ tmps, v.ok bs) {t i b : Nat} (h : ptrId tmps t = some i) (hb : blockOf ((actOf ds tmps).eval (.tmp t)) = some b) : bs[i]? = some b := by
 rw [opv_ev] at hb
 simp only [opv, List.getD_eq_getElem?_getD] at hb
 unfold ptrId at h
 split at h
 ·rename_i id b' off e
  cases h
  rw [e] at hb
  have := ht _ (List.mem_of_getElem? e)
  simp only [Option.getD_some, V.ev, A.ev, S.ev, blockOf, Option.some.injEq] at hb
  subst hb; exact this
 ·rename_i id b' off i' l n e
  cases h
  rw [e] at hb
  have := ht _ (List.mem_of_getElem? e)
  simp only [Option.getD_some, V.ev, A.ev, S.ev, blockOf, Option.some.injEq] at hb
  subst hb; exact this.1
 ·cases h
theorem disOf_ok {bs : List Nat} (hn : bs.Nodup) {tmps : List V} (ht : ∀ v ∈ tmps, v.ok bs) : Dis (disOf tmps) (actOf ds tmps) := by
 intro r s h b hr hs
 unfold disOf at h
 split at h
 ·rename_i i j hi hj
  have e1 := ptrId_ok ht hi hr
  have e2 := ptrId_ok ht hj hs
  have := (List.getElem?_inj (List.getElem?_eq_some_iff.1 e1).1 hn).1 (e1.trans e2.symm)
  simp [this] at h
 ·cases h
def symCode (P : Program) (tab : Tab) : Nat -> FuncId -> Code -> List V -> List SB -> (Ex -> List V -> List SB -> T) -> T
 | 0, _, _, _, _, _ => .fail "fuel"
 | n + 1, fid, code, tmps, mem, K =>
  match code with
  | .skip => K .normal tmps mem
  | .label _ => K .normal tmps mem
  | .exit id => K (.exit id) tmps mem
  | .ret => K .ret tmps mem
  | .region id ops draw =>
   if draw && !orderOk P (disOf tmps) ops (Region.before ops) then .fail "order"
   else symOps P tab (symFn P (symCode P tab n)) (fun i => if draw then lvl ops (Region.before ops) i else .all) ops (List.range ops.size) tmps mem fun tmps mem => splitT (tab.spl fid id) tmps fun tmps => astM tmps (tab.ast fid id) mem fun mem => K .normal tmps mem
  | .seq a b => symCode P tab n fid a tmps mem fun ex tmps mem =>
   match ex with
   | .normal => symCode P tab n fid b tmps mem K
   | ex => K ex tmps mem
  | .cond c x y =>
   match opv tmps c with
   | .a (.s (.bool (.lit t))) => symCode P tab n fid (if t then x else y) tmps mem K
   | .a (.s (.bool b)) => .ite b (symCode P tab n fid x (litAt tmps c true) mem K) (symCode P tab n fid y (litAt tmps c false) mem K)
   | _ => .fail "cond"
  | .block id body => symCode P tab n fid body tmps mem fun ex tmps mem =>
   match ex with
   | .exit i => if i = id then K .normal tmps mem else K (.exit i) tmps mem
   | ex => K ex tmps mem
  | .loop body =>
   match (keyOf body).bind (tab.ann fid) with
   | some an => fitT an.slots tmps fun tmps => fitB an.blks mem fun mem => symLoop an (dsts body) tmps mem (symCode P tab n fid body) K
   | none => symCode P tab n fid body tmps mem fun ex tmps mem =>
    match ex with
    | .normal => symCode P tab n fid (.loop body) tmps mem K
    | ex => K ex tmps mem
  | .scope body => symCode P tab n fid body tmps mem K
  | _ => .fail "code"
def LW (P : Program) (c : Code) (Q : Exit -> Act -> World -> Prop) (a : Act) (w : World) : Prop :=
 ∀ (b : Frame) (k : List Item) (cs : List Frame), ∃ e a' w', Q e a' w' /\ Arrives P (lone (b.at a (.code c :: .inLoop c :: k)) cs w) b k cs e a' w'
theorem LW.wp {c : Code} {Q : Exit -> Act -> World -> Prop} {a : Act} {w : World} (h : LW P c Q a w) : (Code.loop c).wp P Q a w := by
 intro b k cs
 obtain ⟨e, a', w', hq, harr⟩ := h b k cs
 exact ⟨e, a', w', hq, .of_steps (.one step_loop) harr⟩
theorem LW.of {c : Code} {Q : Exit -> Act -> World -> Prop} {a : Act} {w : World} (h : c.wp P (Exit.then (LW P c Q) Q) a w) : LW P c Q a w := by
 intro b k cs
 obtain ⟨e, a₁, w₁, hq, harr⟩ := h b (.inLoop c :: k) cs
 cases e with
 | normal =>
  obtain ⟨e₂, a₂, w₂, hq₂, harr₂⟩ := hq b k cs
  exact ⟨e₂, a₂, w₂, hq₂, .of_steps (Steps.trans harr (.one step_inLoop)) harr₂⟩
 | exit id => exact ⟨_, a₁, w₁, hq, .pass (x := .inLoop c) rfl (fun _ _ => .inl (by simp)) harr⟩
 | goto l => exact ⟨_, a₁, w₁, hq, .pass (x := .inLoop c) rfl (fun _ _ => .inl (by simp)) harr⟩
 | ret => exact ⟨_, a₁, w₁, hq, .pass (x := .inLoop c) rfl (fun _ _ => .inl (by simp)) harr⟩
 | panic ch => exact ⟨_, a₁, w₁, hq, .pass (x := .inLoop c) rfl (fun _ _ => .inl (by simp)) harr⟩
 | outgrown => exact ⟨_, a₁, w₁, hq, .pass (x := .inLoop c) rfl (fun _ _ => .inl (by simp)) harr⟩
def Wp (P : Program) (c : Code) (Q : Exit -> Act -> World -> Prop) (a : Act) (w : World) : Prop :=
 c.wp P Q a w /\ match c with | .loop b => LW P b Q a w | _ => True
theorem Wp.of {c : Code} (hc : ∀ b, c ≠ .loop b) {Q : Exit -> Act -> World -> Prop} {a : Act} {w : World} (h : c.wp P Q a w) : Wp P c Q a w := by
 refine ⟨h, ?_⟩
 cases c <;> first | trivial | exact absurd rfl (hc _)
variable {P : Program} {ds : List Deferred}
def setV (t : List Value) : List Nat -> List Value -> List Value
 | i :: is, v :: vs => setV (t.set i v) is vs
 | _, _ => t
theorem setAll_ev : ∀ (is : List Nat) (t : List V) (vs : List V), (setAll t is vs).map V.ev = setV (t.map V.ev) is (vs.map V.ev)
 | [], t, vs => by cases vs <;> rfl
 | i :: is, t, [] => rfl
 | i :: is, t, v :: vs => by
  simp only [setAll, List.map_cons, setV]
  rw [setAll_ev is]
  congr 1
  exact List.map_set
theorem setV_length : ∀ (is : List Nat) (t vs : List Value), (setV t is vs).length = t.length
 | [], t, vs => by cases vs <;> rfl
 | i :: is, t, [] => rfl
 | i :: is, t, v :: vs => by simp only [setV]; rw [setV_length is]; simp
theorem setV_get (g : Nat -> Value) : ∀ (is : List Nat) (t : List Value) (i : Nat), (setV t is (is.map g))[i]? = if i ∈ is then (if i < t.length then some (g i) else none) else t[i]?
 | [], t, i => rfl
 | j :: is, t, i => by
  simp only [List.map_cons, setV]
  rw [setV_get g is]
  simp only [List.length_set, List.mem_cons]
  by_cases h1 : i ∈ is
  ·simp [h1]
  ·by_cases h2 : i = j
   ·subst h2
    simp only [h1, if_false, true_or, if_true]
    rw [List.getElem?_set]
    simp
   ·simp only [h1, h2, or_self, if_false]
    rw [List.getElem?_set_ne (Ne.symm h2)]
theorem headT_ev (W slots : List Nat) (tmps : List V) (ys : List S) (vs : List Value) : (headT W slots tmps ys vs).map V.ev = setV (setV (tmps.map V.ev) W vs) slots (ys.map S.ev) := by
 unfold headT
 rw [setAll_ev, setAll_ev]
 simp only [List.map_map]
 congr 1
 congr 1
 exact List.map_id vs
theorem actOf_eq {s t : List V} (h : s.map V.ev = t.map V.ev) : actOf ds s = actOf ds t := by simp only [actOf, h]
theorem slotS_ev {tmps : List V} {i : Nat} {x : S} (h : slotS tmps i = some x) : (tmps.map V.ev)[i]? = some x.ev := by
 unfold slotS at h
 split at h
 ·rename_i y hy; cases h; simp [hy, V.ev, A.ev]
 ·cases h
theorem slotsS_ev {tmps : List V} : ∀ (is : List Nat) {xs : List S}, slotsS tmps is = some xs -> xs.map S.ev = is.map fun i => ((tmps.map V.ev)[i]?).getD undef
 | [], xs, h => by cases h; rfl
 | i :: is, xs, h => by
  simp only [slotsS] at h
  split at h
  ·rename_i x ys hx hy
   cases h
   simp only [List.map_cons, slotsS_ev is hy, slotS_ev hx, Option.getD_some]
  ·cases h
theorem slotsS_ok {bs : List Nat} {tmps : List V} (ht : ∀ v ∈ tmps, v.ok bs) : ∀ (is : List Nat) {xs : List S}, slotsS tmps is = some xs -> ∀ x ∈ xs, x.ok bs
 | [], xs, h => by cases h; intro x hx; cases hx
 | i :: is, xs, h => by
  simp only [slotsS] at h
  split at h
  ·rename_i x ys hx hy
   cases h
   intro z hz
   rcases List.mem_cons.1 hz with rfl | hz
   ·unfold slotS at hx
    split at hx
    ·rename_i y hy'; cases hx; exact ht _ (List.mem_of_getElem? hy')
    ·cases hx
   ·exact slotsS_ok ht is hy z hz
  ·cases h
theorem headT_meets {W slots : List Nat} {tmps tmps' : List V} {ws : List S} (hlen : tmps'.length = tmps.length)
  (hf : ∀ i, i ∉ W -> (tmps'.map V.ev)[i]? = (tmps.map V.ev)[i]?) (hs : slotsS tmps' slots = some ws) :
  actOf ds tmps' = actOf ds (headT W slots tmps ws (W.map fun i => ((tmps'.map V.ev)[i]?).getD undef)) := by
 apply actOf_eq
 rw [headT_ev, slotsS_ev _ hs]
 apply List.ext_getElem?
 intro i
 rw [setV_get, setV_get, setV_length]
 have hin : i < (tmps.map V.ev).length -> (tmps'.map V.ev)[i]? = some (((tmps'.map V.ev)[i]?).getD undef) := by
  intro h
  have : i < (tmps'.map V.ev).length := by simpa [hlen] using h
  rw [List.getElem?_eq_getElem this]; rfl
 have hout : ¬ i < (tmps.map V.ev).length -> (tmps'.map V.ev)[i]? = none := by
  intro h
  exact List.getElem?_eq_none (by simp [hlen] at h ⊢; omega)
 by_cases h1 : i ∈ slots
 ·simp only [h1, if_true]
  split
  ·rename_i h; exact hin h
  ·rename_i h; exact hout h
 ·simp only [h1, if_false]
  by_cases h2 : i ∈ W
  ·simp only [h2, if_true]
   split
   ·rename_i h; exact hin h
   ·rename_i h; exact hout h
  ·simp only [h2, if_false]
   exact hf i h2
theorem setAll_ok {bs : List Nat} : ∀ (is : List Nat) (t vs : List V), (∀ v ∈ t, v.ok bs) -> (∀ v ∈ vs, v.ok bs) -> ∀ v ∈ setAll t is vs, v.ok bs
 | [], t, vs, h, _ => by cases vs <;> exact h
 | i :: is, t, [], h, _ => h
 | i :: is, t, v :: vs, h, hv => setAll_ok is _ vs (set_ok h (hv v (by simp))) fun u hu => hv u (by simp [hu])
theorem setAll_fr (W : List Nat) : ∀ (is : List Nat) (t vs : List V), (∀ i ∈ is, i ∈ W) -> Fr W t (setAll t is vs)
 | [], t, vs, _ => by cases vs <;> exact Fr.refl _ _
 | i :: is, t, [], _ => Fr.refl _ _
 | i :: is, t, v :: vs, h => ((Fr.set t i v).mono (by intro j hj; simp at hj; subst hj; exact h _ (by simp))).trans (setAll_fr W is _ vs fun j hj => h j (by simp [hj]))
theorem shFits_append : ∀ {s t : List Sh} {us vs : List Value}, shFits s us -> shFits t vs -> shFits (s ++ t) (us ++ vs)
 | [], t, us, vs, h, k => by cases h; exact k
 | x :: s, t, us, vs, h, k => by
  obtain ⟨u, us', rfl, h1, h2⟩ := h
  exact ⟨u, us' ++ vs, rfl, h1, shFits_append h2 k⟩
theorem shFits_len : ∀ {s : List Sh} {us : List Value}, shFits s us -> us.length = s.length
 | [], us, h => by cases h; rfl
 | x :: s, us, h => by
  obtain ⟨u, us', rfl, _, h2⟩ := h
  simp [shFits_len h2]
theorem blksS_fits {mem : List SB} (H : MemOk mem) : ∀ (blks : List (Nat × List Sh)) {xs : List S}, blksS mem blks = some xs -> shFits (blks.flatMap (·.2)) (xs.map S.ev) /\ ∀ x ∈ xs, x.ok (bsOf mem)
 | [], xs, h => by cases h; exact ⟨rfl, fun x hx => by cases hx⟩
 | (id, sh) :: r, xs, h => by
  simp only [blksS] at h
  split at h
  ·rename_i x ys hx hy
   split at h
   ·rename_i hc
    simp only [Bool.and_eq_true, Bool.not_eq_true'] at hc
    cases h
    obtain ⟨h1, h2⟩ := blksS_fits H r hy
    have hok := H.ok x (List.mem_of_getElem? hx)
    refine ⟨?_, ?_⟩
    ·rw [List.map_append, List.flatMap_cons]
     exact shFits_append (takesL_fits hc.1 hok) h1
    ·intro z hz
     rcases List.mem_append.1 hz with hz | hz
     ·exact hok z hz
     ·exact h2 z hz
   ·cases h
  ·cases h
def vb (x : SB) : Nat × Blk := (x.b, x.blk)
theorem memOf_vb {mem mem' : List SB} (h : mem.map vb = mem'.map vb) : memOf mem = memOf mem' := by
 funext k
 induction mem generalizing mem' with
 | nil => cases mem' with
  | nil => rfl
  | cons y ys => cases h
 | cons x xs ih =>
  cases mem' with
  | nil => cases h
  | cons y ys =>
   simp only [List.map_cons, List.cons.injEq, vb, Prod.mk.injEq] at h
   obtain ⟨⟨h1, h2⟩, h3⟩ := h
   have := ih h3
   simp only [memOf, List.find?_cons] at this ⊢
   rw [h1]
   cases y.b == k with
   | true => simp [h2]
   | false => exact this
theorem vb_bs {mem mem' : List SB} (h : mem.map vb = mem'.map vb) : bsOf mem = bsOf mem' := by
 have := congrArg (List.map Prod.fst) h
 simpa [bsOf, List.map_map, Function.comp_def, vb] using this
theorem setBlks_vb : ∀ (blks : List (Nat × List Sh)) (mem mem' : List SB) (ys ys' : List S), mem.map vb = mem'.map vb -> ys.map S.ev = ys'.map S.ev ->
  (setBlks mem blks ys).map vb = (setBlks mem' blks ys').map vb
 | [], mem, mem', _, _, h, _ => h
 | (id, sh) :: r, mem, mem', ys, ys', h, hy => by
  simp only [setBlks]
  refine setBlks_vb r _ _ _ _ ?_ (by rw [List.map_drop, List.map_drop, hy])
  have hid : (mem.map vb)[id]? = (mem'.map vb)[id]? := by rw [h]
  simp only [List.getElem?_map] at hid
  cases hm : mem[id]? with
  | none =>
   cases hm' : mem'[id]? with
   | none => exact h
   | some y => rw [hm, hm'] at hid; cases hid
  | some x =>
   cases hm' : mem'[id]? with
   | none => rw [hm, hm'] at hid; cases hid
   | some y =>
    rw [hm, hm'] at hid
    simp only [Option.map_some, Option.some.injEq, vb, Prod.mk.injEq, SB.blk, Blk.mk.injEq] at hid
    simp only [List.map_set, h]
    congr 1
    simp only [vb, SB.blk, List.map_take, hy, hid.1, hid.2.2.1, hid.2.2.2]
theorem setBlks_bs : ∀ (blks : List (Nat × List Sh)) (mem : List SB) (ys : List S), bsOf (setBlks mem blks ys) = bsOf mem
 | [], mem, _ => rfl
 | (id, sh) :: r, mem, ys => by
  simp only [setBlks]
  rw [setBlks_bs r]
  cases hm : mem[id]? with
  | none => rfl
  | some x =>
   simp only [bsOf, List.map_set]
   apply List.ext_getElem?
   intro i
   rw [List.getElem?_set]
   split
   ·rename_i hi; subst hi
    obtain ⟨hlt, he⟩ := List.getElem?_eq_some_iff.1 hm
    simp [hlt, he]
   ·rfl
theorem setBlks_get : ∀ (blks : List (Nat × List Sh)) (mem : List SB) (ys : List S), ys.length = (blks.flatMap (·.2)).length -> ∀ (id : Nat) (x : SB), mem[id]? = some x ->
  (∀ p ∈ blks, p.1 = id -> p.2.length = x.cells.length) ->
  ∃ y, (setBlks mem blks ys)[id]? = some y /\ y.b = x.b /\ y.ty = x.ty /\ y.own = x.own /\ y.cells.length = x.cells.length /\ (id ∉ blks.map (·.1) -> y = x)
 | [], mem, ys, _, id, x, hx, _ => ⟨x, hx, rfl, rfl, rfl, rfl, fun _ => rfl⟩
 | (j, sh) :: r, mem, ys, hl, id, x, hx, hlen => by
  simp only [setBlks]
  simp only [List.flatMap_cons, List.length_append] at hl
  have hl' : (ys.drop sh.length).length = (r.flatMap (·.2)).length := by simp only [List.length_drop]; omega
  by_cases hj : j = id
  ·subst hj
   rw [hx]
   have hlt := (List.getElem?_eq_some_iff.1 hx).1
   have hsl : sh.length = x.cells.length := hlen (j, sh) (by simp) rfl
   obtain ⟨y, h1, h2, h3, h4, h5, _⟩ := setBlks_get r (mem.set j { x with cells := ys.take sh.length, lock := false }) (ys.drop sh.length) hl' j { x with cells := ys.take sh.length, lock := false }
    (by rw [List.getElem?_set_self hlt]) (fun p hp e => by
     have := hlen p (by simp [hp]) e
     simp; omega)
   refine ⟨y, h1, h2, h3, h4, ?_, ?_⟩
   ·rw [h5]; simp; omega
   ·intro h; simp at h
  ·have hx' : (match mem[j]? with | some x => mem.set j { x with cells := ys.take sh.length, lock := false } | none => mem)[id]? = some x := by
    cases hm : mem[j]? with
    | none => exact hx
    | some z => simp only; rw [List.getElem?_set_ne hj]; exact hx
   obtain ⟨y, h1, h2, h3, h4, h5, h6⟩ := setBlks_get r _ (ys.drop sh.length) hl' id x hx' (fun p hp e => hlen p (by simp [hp]) e)
   refine ⟨y, h1, h2, h3, h4, h5, fun h => h6 ?_⟩
   simp only [List.map_cons, List.mem_cons, not_or] at h
   exact h.2
theorem setBlks_ok {bs : List Nat} : ∀ (blks : List (Nat × List Sh)) (mem : List SB) (ys : List S), (∀ x ∈ mem, ∀ c ∈ x.cells, c.ok bs) -> (∀ y ∈ ys, y.ok bs) -> ∀ x ∈ setBlks mem blks ys, ∀ c ∈ x.cells, c.ok bs
 | [], mem, ys, h, _ => h
 | (j, sh) :: r, mem, ys, h, hy => by
  simp only [setBlks]
  refine setBlks_ok r _ _ ?_ fun y hy' => hy y (List.mem_of_mem_drop hy')
  cases hm : mem[j]? with
  | none => exact h
  | some z =>
   intro x hx
   rcases List.mem_or_eq_of_mem_set hx with hx | rfl
   ·exact h x hx
   ·exact fun c hc => hy c (List.mem_of_mem_take hc)
theorem setBlks_told {mem' : List SB} : ∀ (blks : List (Nat × List Sh)) (mem : List SB) {ws : List S}, blksS mem' blks = some ws -> ∀ (id : Nat) (y : SB), (setBlks mem blks ws)[id]? = some y -> id ∈ blks.map (·.1) ->
  ∃ z, mem'[id]? = some z /\ y.cells = z.cells
 | [], _, _, _, _, _, _, h => by cases h
 | (j, sh) :: r, mem, ws, h, id, y, hy, hin => by
  simp only [blksS] at h
  split at h
  ·rename_i x xs hx hr
   split at h
   ·rename_i hc
    simp only [Bool.and_eq_true, Bool.not_eq_true'] at hc
    cases h
    have hl := takesL_len hc.1
    simp only [setBlks] at hy
    rw [show (x.cells ++ xs).drop sh.length = xs by rw [<- hl]; simp, show (x.cells ++ xs).take sh.length = x.cells by rw [<- hl]; simp] at hy
    by_cases hin' : id ∈ r.map (·.1)
    ·exact setBlks_told r _ hr id y hy hin'
    ·have hj : id = j := by simpa [hin'] using hin
     subst hj
     refine ⟨x, hx, ?_⟩
     have other := setBlks_other r hin' hy
     cases hm : mem[id]? with
     | none => rw [hm] at other; simp only at other; rw [hm] at other; cases other
     | some z =>
      rw [hm] at other
      simp only at other
      rw [List.getElem?_set_self (List.getElem?_eq_some_iff.1 hm).1] at other
      cases other; rfl
   ·cases h
  ·cases h
where
 setBlks_other : ∀ (blks : List (Nat × List Sh)) {mem : List SB} {ys : List S} {id : Nat} {y : SB}, id ∉ blks.map (·.1) -> (setBlks mem blks ys)[id]? = some y -> mem[id]? = some y
 | [], _, _, _, _, _, h => h
 | (j, sh) :: r, mem, ys, id, y, hn, h => by
  simp only [List.map_cons, List.mem_cons, not_or] at hn
  simp only [setBlks] at h
  have := setBlks_other r hn.2 h
  cases hm : mem[j]? with
  | none => rw [hm] at this; exact this
  | some z =>
   rw [hm] at this
   simp only at this
   rw [List.getElem?_set_ne (Ne.symm hn.1)] at this
   exact this
theorem lockAll_vb (mem : List SB) : (lockAll mem).map vb = mem.map vb := by
 simp [lockAll, List.map_map, Function.comp_def, vb, SB.blk]
theorem lockAll_get {mem : List SB} {id : Nat} {x : SB} (h : mem[id]? = some x) : (lockAll mem)[id]? = some { x with lock := true } := by
 simp [lockAll, h]
theorem unlock_vb : ∀ (old mem : List SB), (unlock old mem).map vb = mem.map vb
 | _, [] => by simp [unlock]
 | [], x :: xs => by simp only [unlock, List.map_cons, unlock_vb [] xs]; rfl
 | o :: os, x :: xs => by simp only [unlock, List.map_cons, unlock_vb os xs]; rfl
theorem unlock_get : ∀ (old mem : List SB) (id : Nat) (z : SB), mem[id]? = some z -> ∃ l, (unlock old mem)[id]? = some { z with lock := l } /\ ∀ o, old[id]? = some o -> l = o.lock
 | _, [], _, _, h => by simp at h
 | [], x :: xs, 0, z, h => by simp at h; subst h; exact ⟨false, rfl, fun o ho => by simp at ho⟩
 | [], x :: xs, n + 1, z, h => by
  simp at h
  obtain ⟨l, h1, h2⟩ := unlock_get [] xs n z h
  exact ⟨l, by simpa [unlock] using h1, fun o ho => by simp at ho⟩
 | o :: os, x :: xs, 0, z, h => by simp at h; subst h; exact ⟨o.lock, rfl, fun o' ho => by simp at ho; rw [ho]⟩
 | o :: os, x :: xs, n + 1, z, h => by
  simp at h
  obtain ⟨l, h1, h2⟩ := unlock_get os xs n z h
  exact ⟨l, by simpa [unlock] using h1, fun o' ho => h2 o' (by simpa using ho)⟩
theorem Holds.sub_mem {w0 w : World} {m m' : Mem} (h : Holds w0 m w) (hs : ∀ b x, m' b = some x -> m b = some x) : Holds w0 m' w := ⟨h.sm, h.j, fun b x hx => h.blk b x (hs b x hx)⟩
theorem memOf_mem {mem : List SB} {b : Nat} {x : Blk} (h : memOf mem b = some x) : ∃ (id : Nat) (y : SB), mem[id]? = some y /\ y.b = b /\ y.blk = x := by
 simp only [memOf, Option.map_eq_some_iff] at h
 obtain ⟨y, hy, rfl⟩ := h
 obtain ⟨id, hid⟩ := List.getElem?_of_mem (List.mem_of_find?_eq_some hy)
 exact ⟨id, y, hid, by have := List.find?_some hy; simpa using this, rfl⟩
theorem headM_meets {w0 w : World} {mem mem' : List SB} {blks : List (Nat × List Sh)} {ws : List S} (H' : MemOk mem') (hb : blksS mem' blks = some ws)
  (hsame : ∀ (id : Nat) (x : SB), mem[id]? = some x -> ∃ z : SB, mem'[id]? = some z /\ z.b = x.b /\ z.ty = x.ty /\ z.own = x.own /\ (id ∉ blks.map (·.1) -> z.cells = x.cells))
  (hlen : ∀ (id : Nat) (x : SB), mem[id]? = some x -> ∀ p ∈ blks, p.1 = id -> p.2.length = x.cells.length) (hw : Holds w0 (memOf mem') w) : Holds w0 (memOf (headM blks mem ws)) w := by
 refine hw.sub_mem fun b x hx => ?_
 obtain ⟨id, y, hy, rfl, rfl⟩ := memOf_mem hx
 have hidx : ∃ x0, mem[id]? = some x0 := by
  have hl : id < (headM blks mem ws).length := (List.getElem?_eq_some_iff.1 hy).1
  have e : (headM blks mem ws).length = mem.length := by
   have := congrArg List.length (setBlks_bs blks (lockAll mem) ws)
   simpa [bsOf, headM, lockAll] using this
  exact ⟨_, List.getElem?_eq_getElem (by omega)⟩
 obtain ⟨x0, hx0⟩ := hidx
 obtain ⟨z, hz, h1, h2, h3, h4⟩ := hsame id x0 hx0
 have hwl : ws.length = (blks.flatMap (·.2)).length := by
  have := shFits_len (blksS_fits H' blks hb).1
  simpa using this
 obtain ⟨y', g1, g2, g3, g4, _, g6⟩ := setBlks_get blks (lockAll mem) ws hwl id _ (lockAll_get hx0) (hlen id x0 hx0)
 unfold headM at hy
 rw [g1] at hy
 cases hy
 have hcell : y.cells = z.cells := by
  by_cases hin : id ∈ blks.map (·.1)
  ·obtain ⟨z', hz', e⟩ := setBlks_told blks (lockAll mem) hb id y g1 hin
   rw [hz] at hz'; cases hz'; exact e
  ·rw [g6 hin]; exact (h4 hin).symm
 have e1 : y.blk = z.blk := by
  simp only [SB.blk, hcell, g3, g4, h2, h3]
 have e2 : y.b = z.b := by rw [g2, h1]
 rw [e1, e2]
 exact memOf_get H'.nodup hz
theorem setC_ok {mem : List SB} (H : MemOk mem) {id : Nat} {x : SB} (hx : mem[id]? = some x) (hl : ¬ x.lock = true) {cs : List S} (h1 : cs.map S.ev = x.cells.map S.ev) (h2 : ∀ c ∈ cs, c.ok (bsOf mem)) :
  memOf (mem.set id { x with cells := cs }) = memOf mem /\ bsOf (mem.set id { x with cells := cs }) = bsOf mem /\ Ext mem (mem.set id { x with cells := cs }) /\ MemOk (mem.set id { x with cells := cs }) := by
 obtain ⟨hxl, hxe⟩ := List.getElem?_eq_some_iff.1 hx
 have hbs : bsOf (mem.set id { x with cells := cs }) = bsOf mem := by
  simp only [bsOf, List.map_set]
  apply List.ext_getElem?
  intro j
  rw [List.getElem?_set]
  split
  ·rename_i e; subst e
   simp [hxl, hxe]
  ·rfl
 have hmo : memOf (mem.set id { x with cells := cs }) = memOf mem := by
  refine memOf_vb ?_
  apply List.ext_getElem?
  intro j
  simp only [List.getElem?_map, List.getElem?_set]
  split
  ·rename_i e; subst e
   simp [hxl, hxe, SB.blk, vb, h1]
  ·rfl
 have hext : Ext mem (mem.set id { x with cells := cs }) := by
  intro j y hy
  by_cases e : id = j
  ·subst e
   rw [hx] at hy; cases hy
   refine ⟨{ x with cells := cs }, by simp [hxl], rfl, rfl, rfl, rfl, ?_, fun hl' => absurd hl' hl⟩
   have := congrArg List.length h1
   simpa using this
  ·exact ⟨y, by rw [List.getElem?_set_ne e]; exact hy, SB.Is.refl y⟩
 have HM : MemOk (mem.set id { x with cells := cs }) := by
  refine ⟨by rw [hbs]; exact H.nodup, ?_⟩
  rw [hbs]
  intro y hy c hc
  rcases List.mem_or_eq_of_mem_set hy with hy | rfl
  ·exact H.ok y hy c hc
  ·exact h2 c hc
 exact ⟨hmo, hbs, hext, HM⟩
theorem astM_ok {E : Ctx} {tmps : List V} : ∀ (l : List (List (Nat × Bool) × Nat × Nat × Int)) {mem : List SB}, MemOk mem -> ∀ {K : List SB -> T}, sat E (astM tmps l mem K) ->
  ∃ mem' : List SB, memOf mem' = memOf mem /\ bsOf mem' = bsOf mem /\ Ext mem mem' /\ MemOk mem' /\ sat E (K mem')
 | [], mem, H, K, h => ⟨mem, rfl, rfl, Ext.refl _, H, h⟩
 | (sl, id, c, n) :: r, mem, H, K, h => by
  simp only [astM] at h
  split at h
  ·split at h
   ·rename_i x hx
    split at h
    ·exact h.elim
    ·rename_i hl
     split at h
     ·rename_i kd y hc
      obtain ⟨hp, h⟩ := h
      have hev : y.ev = n := by
       have := (B.pr_ev (.eq y (.lit n))).1 hp
       simpa [B.ev, X.ev] using this
      obtain ⟨hcl, hce⟩ := List.getElem?_eq_some_iff.1 hc
      have e1 : (x.cells.set c (.int kd (.lit n))).map S.ev = x.cells.map S.ev := by
       apply List.ext_getElem?
       intro j
       simp only [List.getElem?_map, List.getElem?_set]
       split
       ·rename_i e; subst e
        simp [hcl, hce, S.ev, X.ev, hev]
       ·rfl
      obtain ⟨g1, g2, g3, g4⟩ := setC_ok H hx hl e1 (fun c' hc' => by
       rcases List.mem_or_eq_of_mem_set hc' with h | rfl
       ·exact H.ok x (List.mem_of_getElem? hx) c' h
       ·exact trivial)
      obtain ⟨m', k1, k2, k3, k4, k5⟩ := astM_ok r g4 h
      exact ⟨m', k1.trans g1, k2.trans g2, g3.trans k3, k4, k5⟩
     ·exact h.elim
   ·exact h.elim
  ·exact astM_ok r H h
theorem fitB_ok {E : Ctx} : ∀ (l : List (Nat × List Sh)) {mem : List SB}, MemOk mem -> ∀ {K : List SB -> T}, sat E (fitB l mem K) ->
  ∃ mem' : List SB, memOf mem' = memOf mem /\ bsOf mem' = bsOf mem /\ Ext mem mem' /\ MemOk mem' /\ sat E (K mem')
 | [], mem, H, K, h => ⟨mem, rfl, rfl, Ext.refl _, H, h⟩
 | (id, sh) :: r, mem, H, K, h => by
  simp only [fitB] at h
  split at h
  ·rename_i x hx
   split at h
   ·exact fitB_ok r H h
   ·rename_i hl
    obtain ⟨cs, h1, h2, h3⟩ := fitL_ok _ _ (H.ok x (List.mem_of_getElem? hx)) h
    obtain ⟨hxl, hxe⟩ := List.getElem?_eq_some_iff.1 hx
    have hbs : bsOf (mem.set id { x with cells := cs }) = bsOf mem := by
     simp only [bsOf, List.map_set]
     apply List.ext_getElem?
     intro j
     rw [List.getElem?_set]
     split
     ·rename_i e; subst e
      simp [hxl, hxe]
     ·rfl
    have hmo : memOf (mem.set id { x with cells := cs }) = memOf mem := by
     refine memOf_vb ?_
     apply List.ext_getElem?
     intro j
     simp only [List.getElem?_map, List.getElem?_set]
     split
     ·rename_i e; subst e
      simp [hxl, hxe, SB.blk, vb, h1]
     ·rfl
    have hext : Ext mem (mem.set id { x with cells := cs }) := by
     intro j y hy
     by_cases e : id = j
     ·subst e
      rw [hx] at hy; cases hy
      refine ⟨{ x with cells := cs }, by simp [hxl], rfl, rfl, rfl, rfl, ?_, fun hl' => absurd hl' hl⟩
      have := congrArg List.length h1
      simpa using this
     ·exact ⟨y, by rw [List.getElem?_set_ne e]; exact hy, SB.Is.refl y⟩
    have HM : MemOk (mem.set id { x with cells := cs }) := by
     refine ⟨by rw [hbs]; exact H.nodup, ?_⟩
     rw [hbs]
     intro y hy c hc
     rcases List.mem_or_eq_of_mem_set hy with hy | rfl
     ·exact H.ok y hy c hc
     ·exact h2 c hc
    obtain ⟨m', g1, g2, g3, g4, g5⟩ := fitB_ok r HM h3
    exact ⟨m', g1.trans hmo, g2.trans hbs, hext.trans g3, g4, g5⟩
  ·exact fitB_ok r H h
variable {P : Program} {ds : List Deferred}
def RunOk (P : Program) (w0 : World) (E : Ctx) (run : FuncId -> Code -> List V -> List SB -> (Ex -> List V -> List SB -> T) -> T) : Prop :=
 ∀ (ds : List Deferred) (f : FuncId) (c : Code) (tmps : List V) (mem : List SB) (K : Ex -> List V -> List SB -> T) (Q : Exit -> Act -> World -> Prop), sat E (run f c tmps mem K) -> MemOk mem -> (∀ v ∈ tmps, v.ok (bsOf mem)) ->
  (∀ ex tmps' mem', Ext mem mem' -> Fr (dsts c) tmps tmps' -> MemOk mem' -> (∀ v ∈ tmps', v.ok (bsOf mem')) -> sat E (K ex tmps' mem') -> ∀ w, Holds w0 (memOf mem') w -> Q ex.ex (actOf ds tmps') w) ->
  ∀ w, Holds w0 (memOf mem) w -> Wp P c Q (actOf ds tmps) w
theorem act_in {ntmps : Nat} (args : List A) : (actOf [] (args.map .a ++ List.replicate (ntmps - args.length) (.tup []))) = { tmps := (args.map A.ev).toArray ++ Array.replicate (ntmps - (args.map A.ev).toArray.size) undef, defers := [] } := by
 simp only [actOf]
 congr 1
 apply Array.ext'
 simp only [List.map_append, List.map_map, List.map_replicate, Array.toList_append, List.size_toArray, List.length_map, Array.toList_replicate]
 rfl
theorem args_ok {bs : List Nat} {args : List A} (ha : ∀ a ∈ args, a.ok bs) (n : Nat) : ∀ v ∈ args.map V.a ++ List.replicate n (.tup []), v.ok bs := by
 intro v hv
 rcases List.mem_append.1 hv with hv | hv
 ·obtain ⟨a, ha', rfl⟩ := List.mem_map.1 hv; exact ha a ha'
 ·rw [List.eq_of_mem_replicate hv]; intro x hx; cases hx
theorem symBody_ok {w0 : World} {E : Ctx} {run : FuncId -> Code -> List V -> List SB -> (Ex -> List V -> List SB -> T) -> T} (hR : RunOk P w0 E run) {f : FuncId} {fn : Func} {c : Code} {args : List A} {mem : List SB} {K : V -> List SB -> T} {Kd : Value -> Mem -> Prop}
  (h : sat E (symBody P run f fn c args mem K)) (H : MemOk mem) (ha : ∀ a ∈ args, a.ok (bsOf mem))
  (hk : ∀ v mem', Ext mem mem' -> MemOk mem' -> v.ok (bsOf mem') -> sat E (K v mem') -> Kd v.ev (memOf mem')) (w : World) (Hw : Holds w0 (memOf mem) w) :
  c.wp P (bodyPost P fn fun e w' => ∃ v m', e = .returned v /\ Holds w0 m' w' /\ Kd v m') { tmps := (args.map A.ev).toArray ++ Array.replicate (fn.ntmps - (args.map A.ev).toArray.size) undef, defers := [] } w := by
 rw [<- act_in]
 unfold symBody at h
 refine (hR [] f c _ mem _ _ h H (args_ok ha _) ?_ w Hw).1
 intro ex tmps' mem' h1 _ h2 h3 h4 w' Hw'
 have fin : ∀ xs, resS P fn.results.toList tmps' mem' = some xs -> sat E (K (resV xs) mem') ->
   (actOf [] tmps').defers = [] /\ ∃ v, (results fn (actOf [] tmps').tmps).run P w' = .ok v w' /\ ∃ v' m', Ending.returned v = .returned v' /\ Holds w0 m' w' /\ Kd v' m' := by
  intro xs hx hs
  obtain ⟨h5, h6⟩ := results_ok (ds := []) h2 h3 hx
  exact ⟨rfl, _, qev_run _ h6 Hw', _, _, rfl, Hw', hk _ _ h1 h2 h5 hs⟩
 cases ex with
 | normal =>
  simp only at h4
  split at h4
  ·rename_i xs hx; exact fin xs hx h4
  ·exact h4.elim
 | exit id => exact h4.elim
 | ret =>
  simp only at h4
  split at h4
  ·rename_i xs hx; exact fin xs hx h4
  ·exact h4.elim
theorem toAs_map {l : List V} {r : List A} (h : toAs l = some r) : l = r.map V.a := toAs_ok l h
theorem defer_run {ρ : Operand -> Value} {o : Oper} {call : Call} {f : Operand} {g : FuncId} (ho : o.op = .defer call) (hc : call.callee = .value f) (hf : ρ f = .func (.func g) #[] #[]) (w : World) :
  (execOp ρ o).run P w = .ok (.defer { target := .fn (.func g) #[], args := call.args.map ρ }) w := by
 simp only [execOp, ho, resolve, hc, hf, Deferred.ofValue]
 simp
theorem invoke_fn {g : FuncId} {args : Array Value} (h : callable P g = true) (w : World) (j : J w) : (invoke (.fn (.func g) #[]) args).run P w = .ok (.enter g args) w := by
 unfold callable at h
 split at h
 ·rename_i fn hfn
  simp only [Bool.and_eq_true, Bool.not_eq_true'] at h
  obtain ⟨c, hb⟩ := Option.isSome_iff_exists.1 h.2
  refine qev_run _ ?_ (Holds.start w j)
  simp only [invoke, Array.append_empty]
  exact qev_callFunc hfn h.1 hb args _
 ·cases h
theorem symDefer_ok {w0 : World} {E : Ctx} {run : FuncId -> Code -> List V -> List SB -> (Ex -> List V -> List SB -> T) -> T} (hR : RunOk P w0 E run) {f : FuncId} {fn : Func} (hf : P.funcs[f]? = some fn) {a b : Code} {id : Nat} {ops : Array Oper} {o : Oper} {call : Call}
  (hb : fn.body = some (.seq a (.seq (.region id ops false) b))) (h1 : ops = #[o]) (h2 : o.op = .defer call) (h3 : o.dst = none) (h4 : o.guard = none)
  {args : List A} {mem : List SB} {K : V -> List SB -> T} {Kd : Value -> Mem -> Prop}
  (h : sat E (symDefer P run f fn a b call args mem K)) (H : MemOk mem) (ha : ∀ x ∈ args, x.ok (bsOf mem))
  (hk : ∀ v mem', Ext mem mem' -> MemOk mem' -> v.ok (bsOf mem') -> sat E (K v mem') -> Kd v.ev (memOf mem')) : Gen P w0 f (args.map A.ev).toArray (memOf mem) Kd := by
 intro w Hw
 refine calls_of_wp_defers hf hb ?_
 rw [<- act_in]
 unfold symDefer at h
 refine wp_seq ?_
 refine (hR [] f a _ mem _ _ h H (args_ok ha _) ?_ w Hw).1
 intro ex tmps mem1 e1 _ g1 g2 g3 w1 Hw1
 cases ex with
 | exit i => exact g3.elim
 | ret => exact g3.elim
 | normal =>
  simp only at g3
  split at g3
  case h_2 => exact g3.elim
  rename_i x1 x2 fo xs hcal hxs
  split at g3
  case h_2 => exact g3.elim
  rename_i x3 gid hfn
  show (Code.seq (.region id ops false) b).wp P _ _ _
  refine wp_seq (wp_region ?_)
  subst h1
  show wpOps P #[o] _ [0] _ _
  have hw : Region.wanted o (yielded #[o] (actOf [] tmps).tmps) = true := by simp [Region.wanted, h4]
  simp only [wpOps, List.getElem?_toArray, List.getElem?_cons_zero]
  rw [if_pos hw]
  left
  unfold Oper.wp
  have hfe : (actOf [] tmps).eval fo = .func (.func gid) #[] #[] := by rw [opv_ev, hfn]; rfl
  rw [defer_run h2 hcal hfe, Oper.upon_defer, h3]
  show b.wp P _ (actOf [⟨.fn (.func gid) #[], call.args.map (actOf [] tmps).eval⟩] tmps) w1
  have hargs : call.args.map (actOf [] tmps).eval = (xs.map A.ev).toArray := by
   apply Array.ext'
   have e := toAs_map hxs
   have e2 : call.args.toList.map (actOf [] tmps).eval = (call.args.toList.map (opv tmps)).map V.ev := by
    rw [List.map_map]; exact List.map_congr_left fun x _ => opv_ev tmps x
   simp only [Array.toList_map]
   rw [e2, e, List.map_map]; rfl
  have hxok : ∀ x ∈ xs, x.ok (bsOf mem1) := by
   intro x hx
   have : V.a x ∈ call.args.toList.map (opv tmps) := by rw [toAs_map hxs]; exact List.mem_map.2 ⟨x, hx, rfl⟩
   obtain ⟨y, _, e⟩ := List.mem_map.1 this
   have := opv_ok g2 y
   rw [e] at this; exact this
  rw [hargs]
  refine (hR _ f b tmps mem1 _ _ g3 g1 g2 ?_ w1 Hw1).1
  intro ex tmps2 mem2 e2 _ g4 g5 g6 w2 Hw2
  have fin : callable P gid = true -> ∀ gn gc, P.funcs[gid]? = some gn -> gn.body = some gc -> sat E (symBody P run gid gn gc xs mem2 fun _ mem3 => match resS P fn.results.toList tmps2 mem3 with | some rs => K (resV rs) mem3 | none => .fail "results") ->
    Leaves P fn (actOf [⟨.fn (.func gid) #[], (xs.map A.ev).toArray⟩] tmps2).tmps (fun e w' => ∃ v m', e = .returned v /\ Holds w0 m' w' /\ Kd v m') [⟨.fn (.func gid) #[], (xs.map A.ev).toArray⟩] .returning w2 := by
   intro hcal2 gn gc hgn hgc hs
   have hx2 : ∀ x ∈ xs, x.ok (bsOf mem2) := fun x hx => A.ok_mono e2.pre (hxok x hx)
   have hbody := symBody_ok (Kd := fun _ m3 => ∃ v, Kd v m3 /\ ∀ w3, Holds w0 m3 w3 -> (results fn (actOf [⟨.fn (.func gid) #[], (xs.map A.ev).toArray⟩] tmps2).tmps).run P w3 = .ok v w3) hR hs g4 hx2 (fun v mem3 i1 i2 _ i4 => by
    split at i4
    ·rename_i rs hrs
     have ht3 : ∀ v ∈ tmps2, v.ok (bsOf mem3) := fun v hv => V.ok_mono i1.pre (g5 v hv)
     obtain ⟨j1, j2⟩ := results_ok (ds := [⟨.fn (.func gid) #[], (xs.map A.ev).toArray⟩]) i2 ht3 hrs
     exact ⟨_, hk _ _ ((e1.trans e2).trans i1) i2 j1 i4, fun w3 H3 => qev_run _ j2 H3⟩
    ·exact i4.elim) w2 Hw2
   refine leaves_cons (by simp) (invoke_fn hcal2 w2 (Hw2.sm.j Hw2.j)) ?_
   refine (callsD_of_wp (u := .returning) hgn hgc hbody).mono ?_
   rintro e u' w3 ⟨rfl, v, m3, rfl, H3, v', hv', hr⟩
   exact ⟨v', hr w3 H3, v', m3, rfl, H3, hv'⟩
  have go : sat E (symAfter P run gid xs fn tmps2 mem2 K) -> Leaves P fn (actOf [⟨.fn (.func gid) #[], (xs.map A.ev).toArray⟩] tmps2).tmps (fun e w' => ∃ v m', e = .returned v /\ Holds w0 m' w' /\ Kd v m') [⟨.fn (.func gid) #[], (xs.map A.ev).toArray⟩] .returning w2 := by
   intro hs
   unfold symAfter at hs
   split at hs
   ·exact hs.elim
   rename_i hcb
   have hcb' : callable P gid = true := by simpa using hcb
   split at hs
   ·rename_i gn hgn
    split at hs
    ·rename_i gc hgc; exact fin hcb' gn gc hgn hgc hs
    ·exact hs.elim
   ·exact hs.elim
  cases ex with
  | normal => exact go g6
  | exit i => exact g6.elim
  | ret => exact go g6
theorem symFn_ok {w0 : World} {E : Ctx} {run : FuncId -> Code -> List V -> List SB -> (Ex -> List V -> List SB -> T) -> T} (hR : RunOk P w0 E run) : InlOk P w0 E (symFn P run) := by
 intro f args mem K Kd h H ha hk
 unfold symFn at h
 split at h
 ·rename_i fn hf
  split at h
  ·rename_i a id ops b hc
   split at h
   ·rename_i hsz
    split at h
    ·rename_i o ho
     split at h
     ·rename_i call h2 h3 h4
      have hops : ops = #[o] := by
       apply Array.ext (by simpa using hsz)
       intro i h1 h2
       have : i = 0 := by simp at h2; omega
       subst this
       obtain ⟨_, e⟩ := Array.getElem?_eq_some_iff.1 ho
       simpa using e
      exact symDefer_ok hR hf hc hops h2 h3 h4 h H ha hk
     ·intro w Hw
      exact calls_of_wp hf hc (symBody_ok hR h H ha hk w Hw)
    ·exact h.elim
   ·intro w Hw
    exact calls_of_wp hf hc (symBody_ok hR h H ha hk w Hw)
  ·rename_i c hc
   intro w Hw
   exact calls_of_wp hf hc (symBody_ok hR h H ha hk w Hw)
  ·exact h.elim
 ·exact h.elim
theorem blksS_info {mem : List SB} : ∀ (blks : List (Nat × List Sh)) {xs : List S}, blksS mem blks = some xs -> ∀ p ∈ blks, ∀ (x : SB), mem[p.1]? = some x -> p.2.length = x.cells.length /\ x.lock = false
 | [], _, _, p, hp => by cases hp
 | (id, sh) :: r, xs, h, p, hp => by
  simp only [blksS] at h
  split at h
  ·rename_i y ys hy hr
   split at h
   ·rename_i hc
    simp only [Bool.and_eq_true, Bool.not_eq_true'] at hc
    intro x hx
    rcases List.mem_cons.1 hp with rfl | hp
    ·rw [hy] at hx; cases hx
     exact ⟨(takesL_len hc.1).symm, hc.2⟩
    ·exact blksS_info r hr p hp x hx
   ·cases h
  ·cases h
theorem symLoop_ok {E : Ctx} {w0 : World} {an : Ann} {c : Code} {body : List V -> List SB -> (Ex -> List V -> List SB -> T) -> T}
  (hb : ∀ (tmps : List V) (mem : List SB) (K : Ex -> List V -> List SB -> T) (Q : Exit -> Act -> World -> Prop), sat E (body tmps mem K) -> MemOk mem -> (∀ v ∈ tmps, v.ok (bsOf mem)) ->
   (∀ ex tmps' mem', Ext mem mem' -> Fr (dsts c) tmps tmps' -> MemOk mem' -> (∀ v ∈ tmps', v.ok (bsOf mem')) -> sat E (K ex tmps' mem') -> ∀ w, Holds w0 (memOf mem') w -> Q ex.ex (actOf ds tmps') w) ->
   ∀ w, Holds w0 (memOf mem) w -> c.wp P Q (actOf ds tmps) w)
  {tmps : List V} {mem : List SB} {K : Ex -> List V -> List SB -> T} {Q : Exit -> Act -> World -> Prop} (h : sat E (symLoop an (dsts c) tmps mem body K)) (H : MemOk mem) (ht : ∀ v ∈ tmps, v.ok (bsOf mem))
  (hk : ∀ ex tmps' mem', Ext mem mem' -> Fr (dsts c) tmps tmps' -> MemOk mem' -> (∀ v ∈ tmps', v.ok (bsOf mem')) -> sat E (K ex tmps' mem') -> ∀ w, Holds w0 (memOf mem') w -> Q ex.ex (actOf ds tmps') w)
  {w : World} (Hw : Holds w0 (memOf mem) w) : LW P c Q (actOf ds tmps) w := by
 unfold symLoop at h
 generalize hslots : an.slots.map (·.1) = slots at h
 generalize hsh : an.slots.map (·.2) = sh at h
 simp only at h
 split at h
 case isFalse => exact h.elim
 rename_i hcond
 simp only [Bool.and_eq_true, List.all_eq_true, List.contains_iff_mem, decide_eq_true_eq] at hcond
 obtain ⟨hsub, hlt⟩ := hcond
 split at h
 case h_2 => exact h.elim
 rename_i fs ws wc hfs hws hwc
 split at h
 case isFalse => exact h.elim
 rename_i htk
 obtain ⟨hinv, hall⟩ := h
 have hi : ∀ l : List S, l.map S.i = (l.map S.ev).map vint := fun l => by rw [List.map_map]; rfl
 obtain ⟨hbf, hbo⟩ := blksS_fits H _ hwc
 have hinfo := blksS_info _ hwc
 have claim : ∀ (N : Nat) (ysv ycv : List Value), shFits sh ysv -> shFits (an.blks.flatMap (·.2)) ycv -> E.inv an.l (fs.map S.i) ((ysv ++ ycv).map vint) -> E.mea an.l (fs.map S.i) ((ysv ++ ycv).map vint) = N ->
   ∀ (ys0 yc0 : List S), ys0.map S.ev = ysv -> yc0.map S.ev = ycv -> ∀ (vs : List Value), vs.length = (dsts c).length -> ∀ w, Holds w0 (memOf (headM an.blks mem yc0)) w ->
   LW P c Q (actOf ds (headT (dsts c) slots tmps ys0 vs)) w := by
  intro N
  induction N using Nat.strongRecOn with
  | _ N ih =>
   intro ysv ycv hy hyc hI hN ys0 yc0 e0 ec0 vs hvs w Hw
   obtain ⟨ys, e1, o1, hs1⟩ := shAll_ok (bsOf mem) _ hall hy
   obtain ⟨yc, e2, o2, hs2⟩ := shAll_ok (bsOf mem) _ hs1 hyc
   have hbody := hs2 (by rw [hi (ys ++ yc), List.map_append, e1, e2]; exact hI) vs hvs
   simp only [fillV_eq _ _ hvs] at hbody
   have ea : actOf ds (headT (dsts c) slots tmps ys0 vs) = actOf ds (headT (dsts c) slots tmps ys vs) := by
    apply actOf_eq; rw [headT_ev, headT_ev, e0, e1]
   have em : (headM an.blks mem yc0).map vb = (headM an.blks mem yc).map vb := setBlks_vb _ _ _ _ _ rfl (by rw [ec0, e2])
   rw [ea]
   rw [memOf_vb em] at Hw
   have hbs : bsOf (headM an.blks mem yc) = bsOf mem := by
    unfold headM
    rw [setBlks_bs]
    exact vb_bs (lockAll_vb mem)
   have hycl : yc.length = (an.blks.flatMap (·.2)).length := by
    have := shFits_len hyc
    rw [<- e2] at this; simpa using this
   have HM : MemOk (headM an.blks mem yc) := by
    refine ⟨by rw [hbs]; exact H.nodup, ?_⟩
    rw [hbs]
    refine setBlks_ok _ _ _ ?_ o2
    intro x hx cc hcc
    simp only [lockAll, List.mem_map] at hx
    obtain ⟨x', hx', rfl⟩ := hx
    exact H.ok x' hx' cc hcc
   have htH : ∀ v ∈ headT (dsts c) slots tmps ys vs, v.ok (bsOf (headM an.blks mem yc)) := by
    rw [hbs]
    refine setAll_ok _ _ _ (setAll_ok _ _ _ ht ?_) ?_
    ·intro v hv; obtain ⟨u, _, rfl⟩ := List.mem_map.1 hv; trivial
    ·intro v hv; obtain ⟨u, hu, rfl⟩ := List.mem_map.1 hv; exact o1 u hu
   have hfrH : Fr (dsts c) tmps (headT (dsts c) slots tmps ys vs) := (setAll_fr _ _ _ _ (fun i hi => hi)).trans (setAll_fr _ _ _ _ hsub)
   have hhead : ∀ (id : Nat) (x : SB), mem[id]? = some x -> ∃ y : SB, (headM an.blks mem yc)[id]? = some y /\ y.b = x.b /\ y.ty = x.ty /\ y.own = x.own /\ y.cells.length = x.cells.length /\ (id ∉ an.blks.map (·.1) -> y.lock = true /\ y.cells = x.cells) := by
    intro id x hx
    obtain ⟨y, g1, g2, g3, g4, g5, g6⟩ := setBlks_get an.blks (lockAll mem) yc hycl id _ (lockAll_get hx) (fun p hp e => (hinfo p hp x (by rw [e]; exact hx)).1)
    exact ⟨y, g1, g2, g3, g4, g5, fun hn => by rw [g6 hn]; exact ⟨rfl, rfl⟩⟩
   have leave : ∀ (ex : Ex) (tmps' : List V) (mem' : List SB) (w' : World), Ext (headM an.blks mem yc) mem' -> Fr (dsts c) (headT (dsts c) slots tmps ys vs) tmps' -> MemOk mem' -> (∀ v ∈ tmps', v.ok (bsOf mem')) ->
     sat E (K ex tmps' (unlock mem mem')) -> Holds w0 (memOf mem') w' -> Q ex.ex (actOf ds tmps') w' := by
    intro ex tmps' mem' w' x1 x2 x3 x4 x5 Hw'
    have ev := unlock_vb mem mem'
    have ebs := vb_bs ev
    refine hk ex tmps' (unlock mem mem') ?_ (hfrH.trans x2) ⟨by rw [ebs]; exact x3.nodup, ?_⟩ (by rw [ebs]; exact x4) x5 w' (by rw [memOf_vb ev]; exact Hw')
    ·intro id x hx
     obtain ⟨y, g1, g2, g3, g4, g5, g6⟩ := hhead id x hx
     obtain ⟨z, hz, hi⟩ := x1 id y g1
     obtain ⟨l, h1, h2⟩ := unlock_get mem mem' id z hz
     refine ⟨_, h1, hi.b.trans g2, hi.ty.trans g3, hi.own.trans g4, h2 x hx, hi.len.trans g5, fun hl => ?_⟩
     have hn : id ∉ an.blks.map (·.1) := by
      intro hin
      obtain ⟨p, hp, rfl⟩ := List.mem_map.1 hin
      rw [(hinfo p hp x hx).2] at hl; cases hl
     exact (hi.same (g6 hn).1).trans (g6 hn).2
    ·rw [ebs]
     intro x hx cc hcc
     obtain ⟨id, hid⟩ := List.getElem?_of_mem hx
     have hz : ∃ z, mem'[id]? = some z := by
      have hl : (unlock mem mem').length = mem'.length := by
       have := congrArg List.length ev; simpa using this
      exact ⟨_, List.getElem?_eq_getElem (by rw [<- hl]; exact (List.getElem?_eq_some_iff.1 hid).1)⟩
     obtain ⟨z, hz⟩ := hz
     obtain ⟨l, h1, _⟩ := unlock_get mem mem' id z hz
     rw [hid] at h1; cases h1
     exact x3.ok z (List.mem_of_getElem? hz) cc hcc
   refine LW.of ?_
   refine hb _ _ _ _ hbody HM htH ?_ w Hw
   intro ex tmps' mem' x1 x2 x3 x4 x5 w' Hw'
   cases ex with
   | normal =>
    simp only at x5
    obtain ⟨t2, ft1, ft2, ft3, x5⟩ := fitT_ok an.slots x4 x5
    obtain ⟨m2, fb1, fb2, fb3, fb4, x5⟩ := fitB_ok an.blks x3 x5
    show LW P c Q (actOf ds tmps') w'
    rw [<- ft1]
    replace x1 := x1.trans fb3
    replace x2 := x2.trans (ft2.mono (by simp))
    replace x3 := fb4
    replace x4 : ∀ v ∈ t2, v.ok (bsOf m2) := by rw [fb2]; exact ft3
    replace Hw' : Holds w0 (memOf m2) w' := by rw [fb1]; exact Hw'
    clear ft1 ft2 ft3 fb1 fb2 fb3 fb4
    split at x5
    case h_2 => exact x5.elim
    rename_i ws' wc' hws' hwc'
    split at x5
    case isFalse => exact x5.elim
    rename_i htk'
    obtain ⟨hI', hlt'⟩ := x5
    obtain ⟨hbf', _⟩ := blksS_fits x3 _ hwc'
    have hw2 : (ws' ++ wc').map S.i = (ws'.map S.ev ++ wc'.map S.ev).map vint := by rw [hi, List.map_append]
    have hy2 : (ys ++ yc).map S.i = (ysv ++ ycv).map vint := by rw [hi, List.map_append, e1, e2]
    rw [hw2] at hI'
    rw [hw2, hy2, hN] at hlt'
    have hlen : t2.length = tmps.length := x2.1.trans hfrH.1
    have hm := headT_meets (ds := ds) (W := dsts c) (slots := slots) (tmps := tmps) hlen (fun i hi => (x2.2 i hi).trans (hfrH.2 i hi)) hws'
    have hmm : Holds w0 (memOf (headM an.blks mem wc')) w' := by
     refine headM_meets x3 hwc' ?_ (fun id x hx p hp e => (hinfo p hp x (by rw [e]; exact hx)).1) Hw'
     intro id x hx
     obtain ⟨y, g1, g2, g3, g4, _, g6⟩ := hhead id x hx
     obtain ⟨z, hz, hi⟩ := x1 id y g1
     exact ⟨z, hz, hi.b.trans g2, hi.ty.trans g3, hi.own.trans g4, fun hn => (hi.same (g6 hn).1).trans (g6 hn).2⟩
    rw [hm]
    exact ih _ hlt' _ _ (takesL_fits htk' (slotsS_ok x4 _ hws')) hbf' hI' rfl ws' wc' rfl rfl _ (by simp) w' hmm
   | exit id => exact leave (.exit id) tmps' mem' w' x1 x2 x3 x4 x5 Hw'
   | ret => exact leave .ret tmps' mem' w' x1 x2 x3 x4 x5 Hw'
 have hm := headT_meets (ds := ds) (W := dsts c) (slots := slots) (tmps := tmps) (tmps' := tmps) rfl (fun _ _ => rfl) hws
 rw [hm]
 refine claim _ _ _ (takesL_fits htk (slotsS_ok ht _ hws)) hbf (by rw [hi (ws ++ wc), List.map_append] at hinv; exact hinv) rfl ws wc rfl rfl _ (by simp) w ?_
 exact headM_meets H hwc (fun id x hx => ⟨x, hx, rfl, rfl, rfl, fun _ => rfl⟩) (fun id x hx p hp e => (hinfo p hp x (by rw [e]; exact hx)).1) Hw
theorem litAt_fr {tmps : List V} {c : Operand} {bb : Bool} (h : actOf ds (litAt tmps c bb) = actOf ds tmps) : Fr [] tmps (litAt tmps c bb) := by
 have e : (litAt tmps c bb).length = tmps.length := by unfold litAt; split <;> simp
 refine ⟨e, fun i _ => ?_⟩
 have := congrArg (fun a : Act => a.tmps.toList[i]?) h
 simpa [actOf] using this
theorem symCode_ok {tab : Tab} {E : Ctx} (hV : Valid P tab E) : ∀ n (w0 : World), RunOk P w0 E (symCode P tab n) := by
 intro n
 induction n with
 | zero => intro w0 ds fid c tmps mem K Q h; exact h.elim
 | succ n ih =>
  intro w0 ds fid c tmps mem K Q h H ht hk w Hw
  have here : ∀ ex, sat E (K ex tmps mem) -> Q ex.ex (actOf ds tmps) w := fun ex hs => hk ex tmps mem (Ext.refl _) (Fr.refl _ _) H ht hs w Hw
  cases c
  case skip => exact Wp.of (by simp) (wp_skip (here .normal h))
  case label l => exact Wp.of (by simp) (wp_label (here .normal h))
  case exit id => exact Wp.of (by simp) (wp_exit (here (.exit id) h))
  case ret => exact Wp.of (by simp) (wp_ret (here .ret h))
  case region id ops draw =>
   refine Wp.of (by simp) ?_
   simp only [symCode] at h
   split at h
   ·exact h.elim
   ·rename_i hc
    have hops := symOps_ok (w0 := w0) (Kd := fun a m => ∀ w, Holds w0 m w -> Q .normal a w) hV (fun w => symFn_ok (ih w)) (List.range ops.size) H ht h (by
     intro t m a f b c d
     obtain ⟨t', e, ho, hs⟩ := splitT_ok (ds := ds) c d
     have hf : Fr (dsts (.region id ops draw)) tmps t' := f.trans (by
      refine ⟨?_, fun i _ => ?_⟩
      ·have := congrArg (fun a : Act => a.tmps.size) e
       simpa [actOf] using this
      ·have := congrArg (fun a : Act => a.tmps.toList[i]?) e
       simpa [actOf] using this)
     rw [<- e]
     obtain ⟨m', g1, g2, g3, g4, hs'⟩ := astM_ok _ b hs
     rw [<- g1]
     exact hk .normal t' m' (a.trans g3) hf g4 (by rw [g2]; exact ho) hs')
    cases draw with
    | false => exact wp_region_D (fun a m w Hw' hq => hq w Hw') hops Hw
    | true =>
     have hok : orderOk P (disOf tmps) ops (Region.before ops) = true := by simpa using hc
     have e : (fun i => if true = true then lvl ops (Region.before ops) i else Lv.all) = lvl ops (Region.before ops) := by funext i; simp
     rw [e] at hops
     exact wp_region_any hok (disOf_ok H.nodup ht) (fun a m w Hw' hq => hq w Hw') hops Hw
  case seq a b =>
   refine Wp.of (by simp) (wp_seq ?_)
   simp only [symCode] at h
   refine (ih w0 ds fid a tmps mem _ _ h H ht ?_ w Hw).1
   intro ex tmps' mem' h1 hf h2 h3 h4 w' Hw'
   have hf' : Fr (dsts (.seq a b)) tmps tmps' := hf.mono fun i hi => List.mem_append_left _ hi
   cases ex with
   | normal => exact (ih w0 ds fid b tmps' mem' _ _ h4 h2 h3 (fun ex t m a f b c d => hk ex t m (h1.trans a) (hf'.trans (f.mono fun i hi => List.mem_append_right _ hi)) b c d) w' Hw').1
   | exit id => exact hk (.exit id) tmps' mem' h1 hf' h2 h3 h4 w' Hw'
   | ret => exact hk .ret tmps' mem' h1 hf' h2 h3 h4 w' Hw'
  case cond c x y =>
   refine Wp.of (by simp) ?_
   simp only [symCode] at h
   have hx : ∀ i ∈ dsts x, i ∈ dsts (.cond c x y) := fun i hi => List.mem_append_left _ hi
   have hy : ∀ i ∈ dsts y, i ∈ dsts (.cond c x y) := fun i hi => List.mem_append_right _ hi
   split at h
   ·rename_i t hp
    have hc : (actOf ds tmps).eval c = .bool t := by rw [opv_ev, hp]; rfl
    refine wp_cond hc (ih w0 ds fid _ tmps mem K Q h H ht (fun ex t' m a f b c d => hk ex t' m a (f.mono ?_) b c d) w Hw).1
    cases t with
    | true => exact hx
    | false => exact hy
   ·rename_i b _ hp
    have hc : (actOf ds tmps).eval c = .bool b.ev := by rw [opv_ev, hp]; rfl
    refine wp_cond_split hc (fun hb => ?_) fun hb => ?_
    ·have e := litAt_same (ds := ds) hp hb
     rw [<- e]
     exact (ih w0 ds fid x _ mem K Q (ite_true h hb) H (litAt_ok ht _ _) (fun ex t' m a f b c d => hk ex t' m a (((litAt_fr e).mono (by simp)).trans (f.mono hx)) b c d) w Hw).1
    ·have e := litAt_same (ds := ds) hp hb
     rw [<- e]
     exact (ih w0 ds fid y _ mem K Q (ite_false h hb) H (litAt_ok ht _ _) (fun ex t' m a f b c d => hk ex t' m a (((litAt_fr e).mono (by simp)).trans (f.mono hy)) b c d) w Hw).1
   ·exact h.elim
  case block id body =>
   refine Wp.of (by simp) (wp_block ?_)
   simp only [symCode] at h
   refine (ih w0 ds fid body tmps mem _ _ h H ht ?_ w Hw).1
   intro ex tmps' mem' h1 hf h2 h3 h4 w' Hw'
   cases ex with
   | normal => exact hk .normal tmps' mem' h1 hf h2 h3 h4 w' Hw'
   | exit i =>
    simp only at h4
    show (if i = id then Q .normal _ _ else Q (.exit i) _ _)
    split at h4
    ·rename_i hi; rw [if_pos hi]; exact hk .normal tmps' mem' h1 hf h2 h3 h4 w' Hw'
    ·rename_i hi; rw [if_neg hi]; exact hk (.exit i) tmps' mem' h1 hf h2 h3 h4 w' Hw'
   | ret => exact hk .ret tmps' mem' h1 hf h2 h3 h4 w' Hw'
  case loop body =>
   simp only [symCode] at h
   have hl : LW P body Q (actOf ds tmps) w := by
    split at h
    ·obtain ⟨t2, ft1, ft2, ft3, h⟩ := fitT_ok _ ht h
     obtain ⟨m2, fb1, fb2, fb3, fb4, h⟩ := fitB_ok _ H h
     rw [<- ft1]
     rw [<- fb1] at Hw
     exact symLoop_ok (fun t m K Q h1 h2 h3 h4 w h5 => (ih w0 ds fid body t m K Q h1 h2 h3 h4 w h5).1) h fb4 (by rw [fb2]; exact ft3) (fun ex t m a f b c d => hk ex t m (fb3.trans a) ((ft2.mono (by simp)).trans f) b c d) Hw
    ·refine LW.of ?_
     refine (ih w0 ds fid body tmps mem _ _ h H ht ?_ w Hw).1
     intro ex tmps' mem' h1 hf h2 h3 h4 w' Hw'
     cases ex with
     | normal => exact (ih w0 ds fid (.loop body) tmps' mem' _ _ h4 h2 h3 (fun ex t m a f b c d => hk ex t m (h1.trans a) (Fr.trans hf f) b c d) w' Hw').2
     | exit id => exact hk (.exit id) tmps' mem' h1 hf h2 h3 h4 w' Hw'
     | ret => exact hk .ret tmps' mem' h1 hf h2 h3 h4 w' Hw'
   exact ⟨hl.wp, hl⟩
  case scope body =>
   refine Wp.of (by simp) (wp_scope_straight ?_)
   simp only [symCode] at h
   refine (ih w0 ds fid body tmps mem K _ h H ht ?_ w Hw).1
   intro ex tmps' mem' h1 hf h2 h3 h4 w' Hw'
   cases ex <;> exact hk _ tmps' mem' h1 hf h2 h3 h4 w' Hw'
  all_goals exact h.elim
def symTop (P : Program) (tab : Tab) (n : Nat) (f : FuncId) (ash : List ShA) (sh : ShV) : T :=
 shaAll ash fun xs => .given f xs (symFn P (symCode P tab n) f xs globS fun v _ => fitV sh v fun v => if sh.takes v then .done f xs v else .fail "the shape of the result")
theorem top_pure {tab : Tab} {E : Ctx} (hV : Valid P tab E) {n : Nat} {f : FuncId} {ash : List ShA} {sh : ShV} {t : T} (he : symTop P tab n f ash sh = t) (h : sat E t) (args : List Value) (ha : shaFits ash args) (hp : E.pre f (args.map vints)) :
  Pure P f args.toArray fun v => sh.fits v /\ E.post f (args.map vints) (vres v) := by
 subst he
 intro w j
 obtain ⟨xs, rfl, hok, hs⟩ := shaAll_ok (bsOf globS) _ h ha
 have hints : xs.map A.ints = (xs.map A.ev).map vints := by rw [List.map_map]; rfl
 have hs' := hs (by rw [hints]; exact hp)
 have := symFn_ok (symCode_ok hV n w) f xs globS _ (fun v _ => sh.fits v /\ E.post f ((xs.map A.ev).map vints) (vres v)) hs' globS_ok hok (fun v mem' _ _ hv hd => by
  obtain ⟨u, u1, u2, hd⟩ := fitV_ok hv hd
  rw [<- u1]
  split at hd
  ·rename_i htk
   exact ⟨takesV_fits htk u2, by rw [<- hints]; exact hd⟩
  ·exact hd.elim) w (Holds.startG w j)
 refine this.mono ?_
 rintro e w' ⟨v, m', h1, h2, h3⟩
 exact ⟨v, h1, h3, h2.sm⟩
theorem top_sat {tab : Tab} {E : Ctx} (hV : Valid P tab E) {n : Nat} {f : FuncId} {ash : List ShA} {sh : ShV} (h : sat E (symTop P tab n f ash sh)) (args : List Value) (ha : shaFits ash args) (hp : E.pre f (args.map vints)) :
  Pure P f args.toArray fun v => sh.fits v /\ E.post f (args.map vints) (vres v) := top_pure hV rfl h args ha hp
def canCall (P : Program) (f : FuncId) : Bool :=
 match P.funcs[f]? with
 | some fn => !(fn.name == "runtime.NumGoroutine") && fn.body.isSome
 | none => false
theorem Valid.add {tab : Tab} {E : Ctx} (hV : Valid P tab E) {f : FuncId} {ash : List ShA} {sh : ShV} (hc : canCall P f = true)
  (hp : ∀ args : List Value, shaFits ash args -> E.pre f (args.map vints) -> Pure P f args.toArray fun v => sh.fits v /\ E.post f (args.map vints) (vres v)) :
  Valid P { tab with cons := (f, ash, sh) :: tab.cons } E := by
 refine ⟨fun g ash' sh' hg => ?_, hV.ext, hV.new⟩
 simp only [Tab.con, List.find?_cons] at hg
 by_cases e : f = g
 ·subst e
  simp at hg
  obtain ⟨rfl, rfl⟩ := hg
  refine ⟨?_, hp⟩
  unfold canCall at hc
  split at hc
  ·rename_i fn hfn
   simp only [Bool.and_eq_true, Bool.not_eq_true'] at hc
   obtain ⟨c, hb⟩ := Option.isSome_iff_exists.1 hc.2
   exact ⟨fn, c, hfn, hc.1, hb⟩
  ·cases hc
 ·rw [show (f == g) = false by simpa using e] at hg
  exact hV.con g ash' sh' hg
theorem Valid.nil {exts : List (FuncId × Bool)} {anns : List (FuncId × Nat × Ann)} {spls : List (FuncId × Nat × Nat)} {mrgs : List FuncId} {asts : List (FuncId × Nat × List (List (Nat × Bool) × Nat × Nat × Int))} {E : Ctx} (h : ∀ f kind, ((exts.find? (·.1 == f)).map (·.2)) = some kind -> ExtOk P f kind) : Valid P { cons := [], exts := exts, anns := anns, spls := spls, mrgs := mrgs, asts := asts } E :=
 ⟨fun f ash sh h => (by simp [Tab.con] at h), h, fun f x h => (by simp [Tab.new] at h)⟩
theorem Valid.anns {tab : Tab} {E : Ctx} (hV : Valid P tab E) (a : List (FuncId × Nat × Ann)) : Valid P { tab with anns := a } E := ⟨hV.con, hV.ext, hV.new⟩
end Go.Proofs.YtcjllibeaiofpaaGreatDoor.Sx
