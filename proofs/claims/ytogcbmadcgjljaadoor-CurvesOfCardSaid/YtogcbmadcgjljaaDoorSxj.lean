/-
  A frame of our own for walks, part j: one operation, with all that it may come to; a region.
-/
import Derived.Test.YtogcbmadcgjljaaDoorSxi
namespace Go.Proofs.YtogcbmadcgjljaaDoor.Sx
open Go Go.RowKit

variable {P : Program} {ds : List Deferred}

def Inl := FuncId → List A → List SB → (V → List SB → T) → T

/-- captured places; a bound receiver's numbers. -/
def capsOf : List V → Option (List (Nat × Nat × Nat))
  | [] => some []
  | .a (.s (.ptr id b off)) :: r => (capsOf r).map ((id, b, off) :: ·)
  | _ => none

theorem capsOf_ok {bs : List Nat} : ∀ (l : List V), (∀ v ∈ l, v.ok bs) → ∀ {r : List (Nat × Nat × Nat)}, capsOf l = some r → l.map V.ev = r.map capVal ∧ ∀ c ∈ r, bs[c.1]? = some c.2.1
  | [], _, r, h => by cases h; exact ⟨rfl, fun c hc => by cases hc⟩
  | v :: l, hl, r, h => by
    unfold capsOf at h
    split at h
    · rename_i e; cases e
    · rename_i id b off l' e
      cases e
      cases hr : capsOf l with
      | none => rw [hr] at h; cases h
      | some q =>
        rw [hr] at h; cases h
        obtain ⟨h1, h2⟩ := capsOf_ok l (fun v hv => hl v (by simp [hv])) hr
        refine ⟨by simp only [List.map_cons, h1]; rfl, fun c hc => ?_⟩
        rcases List.mem_cons.1 hc with rfl | hc
        · exact hl (.a (.s (.ptr id b off))) (by simp)
        · exact h2 c hc
    · cases h

def intsOf : List S → Option (List (IntKind × X))
  | [] => some []
  | .int k x :: r => (intsOf r).map ((k, x) :: ·)
  | _ => none

theorem intsOf_ok {bs : List Nat} : ∀ (l : List S), (∀ v ∈ l, v.ok bs) → ∀ {r : List (IntKind × X)}, intsOf l = some r → l.map S.ev = r.map intVal ∧ ∀ c ∈ r, c.2.ok
  | [], _, r, h => by cases h; exact ⟨rfl, fun c hc => by cases hc⟩
  | v :: l, hl, r, h => by
    unfold intsOf at h
    split at h
    · rename_i e; cases e
    · rename_i k x l' e
      cases e
      cases hr : intsOf l with
      | none => rw [hr] at h; cases h
      | some q =>
        rw [hr] at h; cases h
        obtain ⟨h1, h2⟩ := intsOf_ok l (fun v hv => hl v (by simp [hv])) hr
        refine ⟨by simp only [List.map_cons, h1]; rfl, fun c hc => ?_⟩
        rcases List.mem_cons.1 hc with rfl | hc
        · exact hl (.int k x) (by simp)
        · exact h2 c hc
    · cases h

def symMk (f : FuncId) (first : List V) (caps : Option (List (Nat × Nat × Nat))) : Option V :=
  match first, caps with
  | [], some cs => some (.a (.s (.fn f cs)))
  | [.a (.agg xs)], some [] => (intsOf xs).map fun ks => .a (.s (.mth f ks))
  | _, _ => none

def symQ (P : Program) (mem : List SB) (op : Op) (ρ : Operand → V) : Option V :=
  match op with
  | .move x => some (ρ x)
  | .nilCheck x => match ρ x with
    | .a (.s (.ptr i b o)) => some (.a (.s (.ptr i b o)))
    | .a (.s (.fn f cs)) => some (.a (.s (.fn f cs)))
    | _ => none
  | .load t x => match ρ x with
    | .a (.s (.ptr id _ off)) => (loadS P mem t id off).map .a
    | .a (.s (.px id _ off i len n)) => (loadPx P mem t id off i len n).map .a
    | _ => none
  | .binOp op t x y _ => (symBin P op t (ρ x) (ρ y)).map fun s => .a (.s s)
  | .unOp op _ x => (symUn op (ρ x)).map fun s => .a (.s s)
  | .convert src dst x => (symConv P src dst (ρ x)).map fun s => .a (.s s)
  | .fieldAddr s x f => (symFieldAddr P s (ρ x) f).map fun s => .a (.s s)
  | .field s x f => (symField P s (ρ x) f).map .a
  | .build t parts => (symBuild P t (parts.toList.map fun x => (x.1, ρ x.2))).map .a
  | .extract x i => match ρ x with
    | .tup xs => (xs[i]?).map .a
    | _ => none
  | .makeFunc fn first caps => match fn with
    | .func f => symMk f (first.toList.map ρ) (capsOf (caps.toList.map ρ))
    | _ => none
  | _ => none

theorem vq {s : Sem Value} {v : Value} {m : Mem} (h : qev P s m = some v) : qev P (do pure (Next.value (← s))) m = some (.value v) := by
  rw [qev_bind, h]; rfl

theorem symQ_ok {mem : List SB} (H : MemOk mem) {o : Oper} {tmps : List V} (ht : ∀ v ∈ tmps, v.ok (bsOf mem)) {v : V} (h : symQ P mem o.op (opv tmps) = some v) :
    cls o.op = .q ∧ v.ok (bsOf mem) ∧ qev P (execOp (actOf ds tmps).eval o) (memOf mem) = some (.value v.ev) := by
  obtain ⟨dst, op, ty, pos, after, guard⟩ := o
  have hr : (actOf ds tmps).eval = fun x => (opv tmps x).ev := funext (opv_ev tmps)
  have hk : ∀ x, (opv tmps x).ok (bsOf mem) := opv_ok ht
  dsimp only at h ⊢
  rw [hr]
  cases op <;> simp only [symQ] at h <;> try (cases h; done)
  case move x => cases h; exact ⟨rfl, hk x, rfl⟩
  case nilCheck x =>
    have hx := hk x
    split at h
    · rename_i i b o hp
      cases h
      rw [hp] at hx
      refine ⟨rfl, hx, ?_⟩
      simp only [execOp, hp, V.ev, A.ev, S.ev]; rfl
    · rename_i f cs hp
      cases h
      rw [hp] at hx
      refine ⟨rfl, hx, ?_⟩
      simp only [execOp, hp, V.ev, A.ev, S.ev]; rfl
    · cases h
  case load t x =>
    have hx := hk x
    split at h
    · rename_i id b off hp
      rw [hp] at hx
      cases hl : loadS P mem t id off with
      | none => rw [hl] at h; cases h
      | some r =>
        rw [hl] at h; cases h
        obtain ⟨h1, h2⟩ := loadS_ok H hx hl
        refine ⟨rfl, h1, ?_⟩
        simp only [execOp, hp]
        apply vq
        simp only [V.ev, A.ev, S.ev, Instr.loadAt, Instr.sureAddr]
        rw [qev_bind]
        exact h2
    · rename_i id b off i len n hp
      rw [hp] at hx
      obtain ⟨hx1, hx2, hx3, hx4⟩ := hx
      cases hl : loadPx P mem t id off i len n with
      | none => rw [hl] at h; cases h
      | some r =>
        rw [hl] at h; cases h
        obtain ⟨h1, h2⟩ := loadPx_ok H hx1 hx2 hx3 hx4 hl
        refine ⟨rfl, h1, ?_⟩
        simp only [execOp, hp]
        apply vq
        simp only [V.ev, A.ev, S.ev, Instr.loadAt, Instr.sureAddr]
        rw [qev_bind]
        exact h2
    · cases h
  case binOp op t x y yt =>
    cases hb : symBin P op t (opv tmps x) (opv tmps y) with
    | none => rw [hb] at h; cases h
    | some r =>
      rw [hb] at h; cases h
      obtain ⟨h1, h2⟩ := symBin_ok x y (hk x) (hk y) hb (memOf mem)
      exact ⟨rfl, h1, vq h2⟩
  case unOp op t x =>
    cases hb : symUn op (opv tmps x) with
    | none => rw [hb] at h; cases h
    | some r =>
      rw [hb] at h; cases h
      obtain ⟨h1, h2⟩ := symUn_ok (P := P) (hk x) hb (memOf mem)
      exact ⟨rfl, h1, vq h2⟩
  case convert src d x =>
    cases hb : symConv P src d (opv tmps x) with
    | none => rw [hb] at h; cases h
    | some r =>
      rw [hb] at h; cases h
      obtain ⟨h1, h2⟩ := symConv_ok (hk x) hb (memOf mem)
      exact ⟨rfl, h1, vq h2⟩
  case fieldAddr s x f =>
    cases hb : symFieldAddr P s (opv tmps x) f with
    | none => rw [hb] at h; cases h
    | some r =>
      rw [hb] at h; cases h
      obtain ⟨h1, h2⟩ := symFieldAddr_ok (hk x) hb (memOf mem)
      exact ⟨rfl, h1, vq h2⟩
  case field s x f =>
    cases hb : symField P s (opv tmps x) f with
    | none => rw [hb] at h; cases h
    | some r =>
      rw [hb] at h; cases h
      obtain ⟨h1, h2⟩ := symField_ok (hk x) hb (memOf mem)
      exact ⟨rfl, h1, vq h2⟩
  case build t parts =>
    cases hb : symBuild P t (parts.toList.map fun x => (x.1, opv tmps x.2)) with
    | none => rw [hb] at h; cases h
    | some r =>
      rw [hb] at h; cases h
      obtain ⟨h1, h2⟩ := symBuild_ok (bs := bsOf mem) (fun x hx => by
        obtain ⟨y, _, rfl⟩ := List.mem_map.1 hx; exact hk _) hb (memOf mem)
      refine ⟨rfl, h1, vq ?_⟩
      have e : (parts.map fun (i, x) => (i, (opv tmps x).ev)) = (List.map (fun x => (x.1, x.2.ev)) (List.map (fun x => (x.1, opv tmps x.2)) parts.toList)).toArray := by
        apply Array.ext'
        simp
      rw [e]; exact h2
  case makeFunc fn first caps =>
    split at h
    · rename_i f
      have hl : ∀ l : Array Operand, ∀ v ∈ l.toList.map (opv tmps), v.ok (bsOf mem) := by
        intro l v hv
        obtain ⟨x, _, rfl⟩ := List.mem_map.1 hv
        exact hk x
      have ha : ∀ l : Array Operand, (l.map fun x => (opv tmps x).ev) = ((l.toList.map (opv tmps)).map V.ev).toArray := by
        intro l
        apply Array.ext'
        simp
      have hq : ∀ v : V, v.ev = .func (.func f) (first.map fun x => (opv tmps x).ev) (caps.map fun x => (opv tmps x).ev) → qev P (execOp (fun x => (opv tmps x).ev) { dst, op := .makeFunc (.func f) first caps, type := ty, pos, after, guard }) (memOf mem) = some (.value v.ev) := by
        intro v hv
        rw [hv]; rfl
      unfold symMk at h
      split at h
      · rename_i cs hf hc
        cases h
        obtain ⟨h1, h2⟩ := capsOf_ok _ (hl caps) hc
        refine ⟨rfl, h2, hq _ ?_⟩
        rw [ha first, ha caps, hf, h1]; rfl
      · rename_i xs hf hc
        obtain ⟨h1, h2⟩ := capsOf_ok _ (hl caps) hc
        cases hi : intsOf xs with
        | none => rw [hi] at h; cases h
        | some ks =>
          rw [hi] at h; cases h
          have hxs : ∀ x ∈ xs, x.ok (bsOf mem) := hl first (.a (.agg xs)) (by rw [hf]; simp)
          obtain ⟨g1, g2⟩ := intsOf_ok xs hxs hi
          refine ⟨rfl, g2, hq _ ?_⟩
          rw [ha first, ha caps, hf, h1]
          simp only [V.ev, A.ev, S.ev, List.map_cons, List.map_nil, g1]
      · cases h
    · cases h
  case extract x i =>
    have hx := hk x
    split at h
    · rename_i xs hp
      rw [hp] at hx
      cases hi : xs[i]? with
      | none => rw [hi] at h; cases h
      | some r =>
        rw [hi] at h; cases h
        refine ⟨rfl, hx r (List.mem_of_getElem? hi), ?_⟩
        simp only [execOp, hp]
        apply vq
        simp [V.ev, Instr.extract, hi]
    · cases h

def setD (tmps : List V) (d : Option Tmp) (v : V) : List V := match d with | some d => tmps.set d v | none => tmps

theorem setD_ok {bs : List Nat} {tmps : List V} {d : Option Tmp} {v : V} (h : ∀ v ∈ tmps, v.ok bs) (hv : v.ok bs) : ∀ u ∈ setD tmps d v, u.ok bs := by
  intro u hu
  unfold setD at hu
  split at hu
  · rcases List.mem_or_eq_of_mem_set hu with h1 | h1
    · exact h u h1
    · subst h1; exact hv
  · exact h u hu

theorem setD_fr (tmps : List V) (d : Option Tmp) (v : V) : Fr d.toList tmps (setD tmps d v) := by
  cases d with
  | none => exact Fr.refl _ _
  | some d => exact Fr.set tmps d v

theorem setD_act (tmps : List V) (d : Option Tmp) (v : V) : (actOf ds tmps).put d v.ev = actOf ds (setD tmps d v) := actOf_put tmps d v

/-- an element that is one of several, of a value. -/
def partPx (P : Program) (t : TypeId) (cs : List S) (i : X) : Option (A × Int) :=
  match P.underlying t with
  | some (.array len elem) =>
    match sizeT P elem, isAggT P elem with
    | some (n + 1), some true => (cellsPx cs i len (n + 1) 0 (n + 1)).map fun c => (.agg c, (len : Int))
    | some n, some false => (cellPx cs 0 i len n).map fun c => (.s c, (len : Int))
    | _, _ => none
  | _ => none

theorem partPx_ok {bs : List Nat} {t : TypeId} {cs : List S} {i : X} (k : IntKind) (hc : ∀ c ∈ cs, c.ok bs) (hi : i.ok) {r : A} {len : Int} (h : partPx P t cs i = some (r, len)) (h0 : 0 ≤ i.ev) (h1 : i.ev < len) (m : Mem) :
    r.ok bs ∧ qev P (Instr.index t (V.a (.agg cs)).ev (.int k i.ev)) m = some r.ev := by
  unfold partPx at h
  split at h
  · rename_i len' elem hu
    split at h
    · rename_i n hn ha
      cases hp : cellsPx cs i len' (n + 1) 0 (n + 1) with
      | none => rw [hp] at h; cases h
      | some rs =>
        rw [hp] at h; cases h
        obtain ⟨g1, g2, g3⟩ := cellsPx_ok hc hi h0 h1 _ _ hp
        refine ⟨g1, ?_⟩
        have hs : partS P elem cs (i.ev.toNat * (n + 1)) = some (.agg ((cs.drop (i.ev.toNat * (n + 1))).take (n + 1))) := by simp only [partS, ha, hn, Option.map_some]
        obtain ⟨k1, k2⟩ := partS_ok hc hs m
        unfold Instr.index
        simp only [asIntOf, qev_bind, qev_pure, Option.bind_some, qev_underlying hu, V.ev, A.ev, h0, h1, and_self, if_true, sizeT_some hn]
        rw [k2]
        simp only [A.ev, g2, Nat.zero_add]
    · rename_i n hn ha
      cases hp : cellPx cs 0 i len' n with
      | none => rw [hp] at h; cases h
      | some c =>
        rw [hp] at h; cases h
        obtain ⟨g1, y, g2, g3⟩ := cellPx_ok hc hi h0 h1 hp
        refine ⟨g1, ?_⟩
        rw [Nat.zero_add] at g2
        have hs : partS P elem cs (i.ev.toNat * n) = some (.s y) := by simp only [partS, ha, g2, Option.map_some]
        obtain ⟨k1, k2⟩ := partS_ok hc hs m
        unfold Instr.index
        simp only [asIntOf, qev_bind, qev_pure, Option.bind_some, qev_underlying hu, V.ev, A.ev, h0, h1, and_self, if_true, sizeT_some hn]
        rw [k2]
        simp only [A.ev, g3]
    · cases h
  · cases h

/-- how what has been made is handed on. -/
inductive Mk where
  | ptr
  | sl (len : Nat)

def Mk.s (k : Mk) (id b : Nat) : S :=
  match k with
  | .ptr => .ptr id b 0
  | .sl len => .sl id b 0 len len

def zeroRow (P : Program) (t : TypeId) (len n : Nat) : Option (List S) :=
  if len * n = 0 then some [] else (zeroCells P t).bind fun z => if z.length = n then some ((List.replicate len z).flatten) else none

def symAl (P : Program) (op : Op) (ρ : Operand → V) : Option (List S × TypeId × Mk) :=
  match op with
  | .alloc t => (zeroCells P t).map (·, t, .ptr)
  | .box t x => match ρ x with
    | .a x => if x.fl then some (x.cells, t, .ptr) else none
    | _ => none
  | .buildSlice t len parts =>
    match P.underlying t with
    | some (.slice elem) =>
      match sizeT P elem, agsOf (parts.toList.map fun x => (x.1, ρ x.2)) with
      | some n, some l => if len * n ≤ 16777216 then (zeroRow P elem len n).bind fun z => (fillS (fun i => some (i * n, n)) z l).map (·, elem, .sl len) else none
      | _, _ => none
    | _ => none
  | _ => none

theorem nev_bind_pure {α β : Type} (s : Sem α) (f : α → β) : ∀ {r : α}, nev P s = some r → nev P (do pure (f (← s))) = some (f r) := by
  show ∀ {r : α}, nev P s = some r → nev P (s.bind fun x => .pure (f x)) = some (f r)
  induction s with
  | pure a => intro r h; cases h; rfl
  | program k ih => intro r h; exact ih P h
  | mark mk k ih => intro r h; exact ih h
  | _ => intro r h; cases h
theorem flat_get {n : Nat} (c : List S) (hl : c.length = n) : ∀ (len i : Nat) (hi : i < len * n), (List.replicate len c).flatten[i]'(by simp [hl]; exact hi) = c[i % n]'(by rw [hl]; exact Nat.mod_lt _ (by rcases Nat.eq_zero_or_pos n with h0 | h0; (subst h0; simp at hi); exact h0)) := by
  intro len
  induction len with
  | zero => intro i hi; simp at hi
  | succ m ih =>
    intro i hi
    simp only [List.replicate_succ, List.flatten_cons]
    rw [List.getElem_append]
    split
    · rename_i h
      congr 1
      rw [Nat.mod_eq_of_lt (by omega)]
    · rename_i h
      rw [Nat.succ_mul] at hi
      have := ih (i - c.length) (by omega)
      rw [this]
      congr 1
      rw [hl]
      exact (Nat.mod_eq_sub_mod (by omega)).symm

theorem zeroRow_ok {t : TypeId} {len n : Nat} {z : List S} (hn : sizeT P t = some n) (h : zeroRow P t len n = some z) (bs : List Nat) :
    (∀ c ∈ z, c.ok bs) ∧ ∃ zv : Array Value, nev P (if len * n = 0 then (pure #[] : Sem (Array Value)) else do pure (← zeroValue t).cells) = some zv ∧ (Array.range (len * n)).map (fun i => zv[i % zv.size]!) = (z.map S.ev).toArray := by
  unfold zeroRow at h
  split at h
  · rename_i e
    cases h
    refine ⟨(fun c hc => by cases hc), #[], by rw [if_pos e]; rfl, ?_⟩
    simp [e]
  · rename_i e
    cases hz : zeroCells P t with
    | none => rw [hz] at h; cases h
    | some c =>
      rw [hz] at h
      simp only [Option.bind_some] at h
      split at h
      · rename_i hl
        cases h
        obtain ⟨h1, zv, h2, h3⟩ := zeroCells_ok hz bs
        refine ⟨?_, zv.cells, ?_, ?_⟩
        · intro x hx
          obtain ⟨l, hl', hx'⟩ := List.mem_flatten.1 hx
          rw [List.eq_of_mem_replicate hl'] at hx'
          exact h1 x hx'
        · rw [if_neg e]
          exact nev_bind_pure _ _ h2
        · have hsz : zv.cells.size = n := by rw [h3]; simp [hl]
          apply Array.ext
          · simp [hl]
          · intro i hi1 hi2
            have hin : i < len * n := by simpa using hi1
            have hn0 : 0 < n := by
              rcases Nat.eq_zero_or_pos n with h0 | h0
              · subst h0; simp at hin
              · exact h0
            have hm : i % n < c.length := by rw [hl]; exact Nat.mod_lt _ hn0
            simp only [Array.getElem_map, Array.getElem_range, List.getElem_toArray, List.getElem_map]
            rw [hsz, h3]
            rw [getElem!_pos _ _ (by simpa using hm)]
            simp only [List.getElem_toArray, List.getElem_map]
            congr 1
            exact (flat_get c hl len i hin).symm
      · cases h
theorem A.cells_ok {bs : List Nat} {x : A} (h : x.ok bs) : ∀ c ∈ x.cells, c.ok bs := by
  cases x with
  | s x => intro c hc; simp [A.cells] at hc; subst hc; exact h
  | agg xs => exact h

theorem aev_bind_nev {α β : Type} (s : Sem α) (f : α → Sem β) : ∀ {r : α}, nev P s = some r → aev P (s >>= f) = aev P (f r) := by
  show ∀ {r : α}, nev P s = some r → aev P (s.bind f) = _
  induction s with
  | pure a => intro r h; cases h; rfl
  | program k ih => intro r h; exact ih P h
  | mark mk k ih => intro r h; exact ih h
  | _ => intro r h; cases h

theorem sem_assoc {α β γ : Type} (s : Sem α) (f : α → Sem β) (g : β → Sem γ) : (s >>= f) >>= g = s >>= fun x => f x >>= g := by
  show (s.bind f).bind g = s.bind fun x => (f x).bind g
  induction s with
  | pure a => rfl
  | load m a k ih => simp only [Sem.bind]; congr 1; funext v; exact ih v
  | store m a v k ih => simp only [Sem.bind]; congr 1
  | new o k ih => simp only [Sem.bind]; congr 1; funext v; exact ih v
  | shape r k ih => simp only [Sem.bind]; congr 1; funext v; exact ih v
  | freeze a n k ih => simp only [Sem.bind]; congr 1
  | frozen a k ih => simp only [Sem.bind]; congr 1; funext v; exact ih v
  | getObj r k ih => simp only [Sem.bind]; congr 1; funext v; exact ih v
  | setObj r o k ih => simp only [Sem.bind]; congr 1
  | choose q k ih => simp only [Sem.bind]; congr 1; funext v; exact ih v
  | sys c k ih => simp only [Sem.bind]; congr 1; funext v; exact ih v
  | program k ih => simp only [Sem.bind]; congr 1; funext v; exact ih v
  | mark m k ih => simp only [Sem.bind]; congr 1
  | halt h => rfl

theorem nev_underlying {t : TypeId} {d : TypeDesc} (h : P.underlying t = some d) : nev P (underlying t) = some d := by
  show nev P (program.bind fun p => _) = _
  simp only [Sem.bind, program, nev, h]
  rfl
theorem nev_size {t : TypeId} {n : Nat} (h : sizeT P t = some n) : nev P (sizeOf t) = some n := by
  unfold sizeT at h
  cases hd : P.info? t with
  | none => rw [hd] at h; cases h
  | some d =>
    rw [hd] at h; cases h
    have hd' : P.toTables.info? t = some d := hd
    show nev P (((program.bind fun p => _)).bind _) = _
    simp only [Sem.bind, program, nev, hd']
    rfl

theorem nev_bind {α β : Type} (s : Sem α) (f : α → Sem β) : nev P (s >>= f) = (nev P s).bind fun r => nev P (f r) := by
  show nev P (s.bind f) = _
  induction s with
  | pure a => rfl
  | program k ih => exact ih P
  | mark mk k ih => exact ih
  | _ => rfl

theorem symAl_ok {mem : List SB} {o : Oper} {tmps : List V} (ht : ∀ v ∈ tmps, v.ok (bsOf mem)) {cs : List S} {t : TypeId} {mk : Mk} (h : symAl P o.op (opv tmps) = some (cs, t, mk)) :
    cls o.op = .al ∧ (∀ c ∈ cs, c.ok (bsOf mem)) ∧ ∃ k, aev P (execOp (actOf ds tmps).eval o) = some ((cs.map S.ev).toArray, t, k) ∧ ∀ b, nev P (k b) = some (.value (mk.s mem.length b).ev) := by
  obtain ⟨dst, op, ty, pos, after, guard⟩ := o
  have hr : (actOf ds tmps).eval = fun x => (opv tmps x).ev := funext (opv_ev tmps)
  have hk : ∀ x, (opv tmps x).ok (bsOf mem) := opv_ok ht
  dsimp only at h ⊢
  rw [hr]
  cases op <;> simp only [symAl] at h <;> try (cases h; done)
  case alloc t' =>
    cases hz : zeroCells P t' with
    | none => rw [hz] at h; cases h
    | some z =>
      rw [hz] at h
      simp only [Option.map_some, Option.some.injEq, Prod.mk.injEq] at h
      obtain ⟨rfl, rfl, rfl⟩ := h
      obtain ⟨h1, zv, h2, h3⟩ := zeroCells_ok hz (bsOf mem)
      refine ⟨rfl, h1, ?_⟩
      simp only [execOp, Instr.alloc]
      have : ∀ (f : Value → Sem Value) (g : Value → Sem Next), aev P ((zeroValue t' >>= f) >>= g) = aev P (f zv >>= g) := by
        intro f g
        rw [sem_assoc, aev_bind_nev _ _ h2]
      rw [this]
      simp only [newVar, newRow, newObj, h3]
      exact ⟨_, rfl, fun b => rfl⟩
  case box t' x =>
    have hx := hk x
    split at h
    · rename_i y hp
      split at h
      · rename_i hf
        cases h
        rw [hp] at hx
        refine ⟨rfl, A.cells_ok hx, ?_⟩
        simp only [execOp, Instr.box, hp, newVar, newRow, newObj]
        rw [show (V.a y).ev.cells = (y.cells.map S.ev).toArray from A.ev_cells hf]
        exact ⟨_, rfl, fun b => rfl⟩
      · cases h
    · cases h
  case buildSlice t' len parts =>
    split at h
    · rename_i elem hu
      split at h
      · rename_i n l hn hl
        split at h
        · rename_i hle
          cases hz : zeroRow P elem len n with
          | none => rw [hz] at h; cases h
          | some z =>
            rw [hz] at h
            simp only [Option.bind_some] at h
            cases hf : fillS (fun i => some (i * n, n)) z l with
            | none => rw [hf] at h; cases h
            | some rs =>
              rw [hf] at h
              simp only [Option.map_some, Option.some.injEq, Prod.mk.injEq] at h
              obtain ⟨rfl, rfl, rfl⟩ := h
              obtain ⟨z1, zv, z2, z3⟩ := zeroRow_ok hn hz (bsOf mem)
              have e := agsOf_ok _ hl
              obtain ⟨h1, h2⟩ := fillS_ok l z z1 (fun x hx => by
                have : (x.1, V.a x.2) ∈ parts.toList.map fun x => (x.1, opv tmps x.2) := by rw [e]; exact List.mem_map.2 ⟨x, hx, rfl⟩
                obtain ⟨y, _, hy⟩ := List.mem_map.1 this
                have hy2 : opv tmps y.2 = V.a x.2 := congrArg Prod.snd hy
                have := hk y.2
                rw [hy2] at this; exact this) hf
              refine ⟨rfl, h1, ?_⟩
              have e2 : (parts.map fun (x : Nat × Operand) => (x.1, (opv tmps x.2).ev)).toList = l.map fun x => (x.1, x.2.ev) := by
                have : (parts.toList.map fun x => (x.1, opv tmps x.2)).map (fun x => (x.1, V.ev x.2)) = (l.map fun x => (x.1, V.a x.2)).map fun x => (x.1, V.ev x.2) := by rw [e]
                simp only [List.map_map, Function.comp_def] at this
                simp only [Array.toList_map]
                exact this
              simp only [execOp, Instr.buildSlice]
              refine ⟨fun b => ((Sem.pure (⟨b, 0, none⟩ : Addr)).bind fun a => Sem.pure (Value.slice (some a) len len)).bind fun v => Sem.pure (Next.value v), ?_, fun b => rfl⟩
              rw [sem_assoc, aev_bind_nev _ _ (nev_underlying hu)]
              rw [sem_assoc, aev_bind_nev _ _ (nev_size hn)]
              rw [if_neg (by omega)]
              by_cases h0 : len * n = 0
              · rw [if_pos h0] at z2 ⊢
                have hz0 : zv = #[] := by cases z2; rfl
                subst hz0
                rw [sem_assoc, aev_bind_nev (pure #[] : Sem (Array Value)) _ (r := #[]) rfl]
                simp only [z3, e2, h2]
                rfl
              · rw [if_neg h0] at z2 ⊢
                rw [nev_bind] at z2
                cases hy : nev P (zeroValue elem) with
                | none => rw [hy] at z2; cases z2
                | some y =>
                  rw [hy] at z2
                  have hz1 : y.cells = zv := by cases z2; rfl
                  rw [sem_assoc, aev_bind_nev _ _ hy, sem_assoc, aev_bind_nev (pure y.cells : Sem (Array Value)) _ (r := y.cells) rfl, hz1]
                  simp only [z3, e2, h2]
                  rfl
        · cases h
      · cases h
    · cases h

end Go.Proofs.YtogcbmadcgjljaaDoor.Sx
