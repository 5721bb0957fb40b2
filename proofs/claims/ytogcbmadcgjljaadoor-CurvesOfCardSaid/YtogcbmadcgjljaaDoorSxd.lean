/-
  A frame of our own for walks, part d: the order that is drawn is one of those that the edges let, and each of these comes to the text's own.
-/
import Derived.Test.YtogcbmadcgjljaaDoorSxc
namespace Go.Proofs.YtogcbmadcgjljaaDoor.Sx
open Go Go.RowKit

variable {P : Program} {w0 : World} {Γ : FuncId → Array Value → Value → Prop}

def depsM (md : Region.Mode) (ops : Array Oper) (i : Nat) : List Nat :=
  match ops[i]? with
  | none => []
  | some o => (o.after.toList.filter (Region.binds md)).map (·.on)

def depsOf (ops : Array Oper) (i : Nat) : List Nat := depsM .any ops i

theorem binds_any {md : Region.Mode} {e : Edge} (h : Region.binds .any e = true) : Region.binds md e = true := by
  unfold Region.binds at *
  cases hg : e.ground <;> simp_all

theorem depsM_any {md : Region.Mode} {ops : Array Oper} {i y : Nat} (h : y ∈ depsOf ops i) : y ∈ depsM md ops i := by
  unfold depsOf at h
  unfold depsM at *
  split at h
  · exact h
  · simp only [List.mem_map, List.mem_filter] at *
    obtain ⟨e, ⟨h1, h2⟩, h3⟩ := h
    exact ⟨e, ⟨h1, binds_any h2⟩, h3⟩

/-- is each one's edges behind it in the list? -/
def okFrom (md : Region.Mode) (ops : Array Oper) : List Nat → List Nat → Bool
  | [], _ => true
  | i :: r, seen => (depsM md ops i).all (fun y => seen.contains y) && okFrom md ops r (i :: seen)

/-- does the order that has more edges not stand still? -/
def progOk (md : Region.Mode) (ops : Array Oper) : Bool :=
  let L := Region.linearise md ops 0
  L.all (fun i => decide (i < ops.size)) && (List.range ops.size).all (fun i => L.contains i) && okFrom md ops L []

/-! ### where places lead: an address is in the block of the one that it was made of -/
def baseOf : Op → Option Tmp
  | .fieldAddr _ (.tmp u) _ => some u
  | _ => none

def defAt (ops : Array Oper) (t : Tmp) : Option Nat := (List.range ops.size).find? fun j => ((ops[j]?).bind (·.dst)) == some t

def rootOf (ops : Array Oper) (bx : Nat) : Nat → Tmp → Option Tmp
  | 0, _ => none
  | n + 1, t => match defAt ops t with
    | none => some t
    | some j => if bx.testBit j then
        match (ops[j]?).bind (fun o => baseOf o.op) with
        | some u => rootOf ops bx n u
        | none => none
      else none

def apAt (dis : Tmp → Tmp → Bool) (ops : Array Oper) (bi bx : Nat) : Op → Op → Bool
  | .store _ (.tmp t) _, .load _ (.tmp u) => match rootOf ops bi 8 t, rootOf ops bx 8 u with
    | some r, some s => dis r s
    | _, _ => false
  | _, _ => false

def apB (dis : Tmp → Tmp → Bool) (ops : Array Oper) (b : Array Nat) (i x : Nat) : Bool :=
  match ops[i]?, ops[x]? with
  | some oi, some ox => apAt dis ops (b.getD i 0) (b.getD x 0) oi.op ox.op || apAt dis ops (b.getD x 0) (b.getD i 0) ox.op oi.op
  | _, _ => false

/-- each slot is written by one of them; what an address is made of is there ahead of it. -/
def alOk (ops : Array Oper) (b : Array Nat) : Bool :=
  (List.range ops.size).all fun j => decide (b.getD j 0 < 2 ^ j) &&
    (match (ops[j]?).bind (·.dst) with
    | none => true
    | some d => (List.range ops.size).all fun k => k == j || ((ops[k]?).bind (·.dst)) != some d) &&
    (match (ops[j]?).bind (fun o => baseOf o.op) with
    | none => true
    | some u => (List.range ops.size).all fun k => ((ops[k]?).bind (·.dst)) != some u || (b.getD j 0).testBit k)

structure AlOk (ops : Array Oper) (b : Array Nat) : Prop where
  lt : ∀ j k : Nat, j < ops.size → (b.getD j 0).testBit k = true → k < j
  uniq : ∀ (j k : Nat) (oj ok : Oper) (d : Tmp), ops[j]? = some oj → ops[k]? = some ok → oj.dst = some d → ok.dst = some d → j = k
  base : ∀ (j : Nat) (oj : Oper) (u : Tmp) (k : Nat) (ok : Oper), ops[j]? = some oj → baseOf oj.op = some u → ops[k]? = some ok → ok.dst = some u → (b.getD j 0).testBit k = true

theorem lt_size {ops : Array Oper} {j : Nat} {o : Oper} (h : ops[j]? = some o) : j < ops.size := (Array.getElem?_eq_some_iff.1 h).1

theorem alOk_ok {ops : Array Oper} {b : Array Nat} (h : alOk ops b = true) : AlOk ops b := by
  simp only [alOk, List.all_eq_true, List.mem_range, Bool.and_eq_true, decide_eq_true_eq] at h
  refine ⟨fun j k hj hk => ?_, fun j k oj ok d hj hk dj dk => ?_, fun j oj u k ok hj hb hk dk => ?_⟩
  · have h1 := (h j hj).1.1
    apply Nat.lt_of_not_le
    intro hle
    rw [Nat.testBit_lt_two_pow (Nat.lt_of_lt_of_le h1 (Nat.pow_le_pow_right (by decide) hle))] at hk
    cases hk
  · have h1 := (h j (lt_size hj)).1.2
    rw [hj] at h1
    simp only [Option.bind_some, dj, List.all_eq_true, List.mem_range] at h1
    have h2 := h1 k (lt_size hk)
    rw [hk] at h2
    simp only [Option.bind_some, dk, bne_self_eq_false, Bool.or_false, beq_iff_eq] at h2
    exact h2.symm
  · have h1 := (h j (lt_size hj)).2
    rw [hj] at h1
    simp only [Option.bind_some, hb, List.all_eq_true, List.mem_range] at h1
    have h2 := h1 k (lt_size hk)
    rw [hk] at h2
    simpa only [Option.bind_some, dk, bne_self_eq_false, Bool.false_or] using h2

structure Al (ops : Array Oper) (a0 : Act) (E : Nat → Prop) (a : Act) : Prop where
  ext : ∀ t : Tmp, (∀ (k : Nat) (o : Oper), ops[k]? = some o → o.dst ≠ some t) → a.eval (.tmp t) = a0.eval (.tmp t)
  near : ∀ (j : Nat) (o : Oper) (u d : Tmp), E j → ops[j]? = some o → baseOf o.op = some u → o.dst = some d → ∀ b, blockOf (a.eval (.tmp d)) = some b → blockOf (a.eval (.tmp u)) = some b

theorem Al.start (ops : Array Oper) (a0 : Act) (E : Nat → Prop) (h : ∀ j, j < ops.size → ¬ E j) : Al ops a0 E a0 :=
  ⟨fun _ _ => rfl, fun j _ _ _ hj ho => absurd hj (h j (lt_size ho))⟩

theorem put_self (a : Act) (d : Tmp) (v : Value) : (a.put (some d) v).eval (.tmp d) = v ∨ (a.put (some d) v).eval (.tmp d) = undef := by
  simp only [Act.put, Act.eval, Array.getD_eq_getD_getElem?, Array.getElem?_setIfInBounds]
  by_cases h : d < a.tmps.size <;> simp [h]

theorem Al.step {ops : Array Oper} {b : Array Nat} (hb : AlOk ops b) {a0 a : Act} {E : Nat → Prop} (hc : ∀ j, E j → ∀ k, (b.getD j 0).testBit k = true → E k) (h : Al ops a0 E a) {k : Nat} {o : Oper} (ho : ops[k]? = some o) (hk : ¬ E k) {v : Value}
    (hv : ∀ u, baseOf o.op = some u → ∀ c, blockOf v = some c → blockOf (a.eval (.tmp u)) = some c) : Al ops a0 (fun j => E j ∨ j = k) (a.put o.dst v) := by
  have same : ∀ t, o.dst ≠ some t → (a.put o.dst v).eval (.tmp t) = a.eval (.tmp t) := fun t ht => put_eval fun s hs => by
    rintro e; cases e; exact ht hs
  refine ⟨fun t ht => by rw [same t (ht k o ho)]; exact h.ext t ht, ?_⟩
  intro j oj u d hj hoj hbu hd c hcc
  by_cases e : j = k
  · subst e
    rw [ho] at hoj; cases hoj
    have hu : o.dst ≠ some u := by
      intro e
      have := hb.base j o u j o ho hbu ho e
      have := hb.lt j j (lt_size ho) this
      omega
    rw [same u hu]
    rw [hd] at hcc
    rcases put_self a d v with e | e
    · rw [e] at hcc; exact hv u hbu c hcc
    · rw [e] at hcc; cases hcc
  · have hE : E j := by
      rcases hj with hj | hj
      · exact hj
      · exact absurd hj e
    have hdk : o.dst ≠ some d := fun e' => e (hb.uniq j k oj o d hoj ho hd e')
    have huk : o.dst ≠ some u := fun e' => hk (hc j hE k (hb.base j oj u k o hoj hbu ho e'))
    rw [same d hdk] at hcc
    rw [same u huk]
    exact h.near j oj u d hE hoj hbu hd c hcc

theorem rootOf_ok {ops : Array Oper} {a0 a : Act} {E : Nat → Prop} (h : Al ops a0 E a) {bx : Nat} (hE : ∀ j, bx.testBit j = true → E j) : ∀ (n : Nat) {t r : Tmp}, rootOf ops bx n t = some r →
    ∀ b, blockOf (a.eval (.tmp t)) = some b → blockOf (a0.eval (.tmp r)) = some b
  | 0, _, _, hr, _, _ => by cases hr
  | n + 1, t, r, hr, b, hb => by
    simp only [rootOf] at hr
    split at hr
    · rename_i hd
      cases hr
      rw [← h.ext t ?_]; exact hb
      intro k o hk hdst
      have := List.find?_eq_none.1 hd k (List.mem_range.2 (lt_size hk))
      rw [hk] at this
      simp [hdst] at this
    · rename_i j hd
      split at hr
      · rename_i hbit
        split at hr
        · rename_i u hu
          cases ho : ops[j]? with
          | none => rw [ho] at hu; cases hu
          | some o =>
            rw [ho] at hu
            simp only [Option.bind_some] at hu
            have hdst : o.dst = some t := by
              have := List.find?_some hd
              rw [ho] at this
              simpa using this
            exact rootOf_ok h hE n hr b (h.near j o u t (hE j hbit) ho hu hdst b hb)
        · cases hr
      · cases hr

theorem apAt_ok {dis : Tmp → Tmp → Bool} {ops : Array Oper} {a0 a : Act} {E : Nat → Prop} (h : Al ops a0 E a) (hdis : ∀ r s, dis r s = true → ∀ b, blockOf (a0.eval (.tmp r)) = some b → blockOf (a0.eval (.tmp s)) ≠ some b)
    {bi bx : Nat} (hi : ∀ j, bi.testBit j = true → E j) (hx : ∀ j, bx.testBit j = true → E j) {oi ox : Oper} (hap : apAt dis ops bi bx oi.op ox.op = true) : Apart a oi ox := by
  unfold apAt at hap
  split at hap
  · rename_i t1 t v t2 u e1 e2
    split at hap
    · rename_i r s hr hs
      refine ⟨t1, _, v, t2, _, e1, e2, fun b hb hb' => ?_⟩
      exact hdis r s hap b (rootOf_ok h hi 8 hr b hb) (rootOf_ok h hx 8 hs b hb')
    · cases hap
  · cases hap

theorem res_bind {α β : Type} {s : Sem α} {f : α → Sem β} {m : Mem} {r : β} (h : qev P (s >>= f) m = some r) : ∃ x, qev P s m = some x ∧ qev P (f x) m = some r := by
  rw [qev_bind'] at h
  cases hs : qev P s m with
  | none => rw [hs] at h; cases h
  | some x => rw [hs] at h; exact ⟨x, rfl, h⟩

theorem fieldAt_near {s : TypeId} {v w : Value} {f : Nat} {m : Mem} (h : qev P (Instr.fieldAt s v f) m = some w) : ∀ b, blockOf w = some b → blockOf v = some b := by
  unfold Instr.fieldAt at h
  obtain ⟨d, _, h⟩ := res_bind h
  split at h
  · split at h
    · obtain ⟨a, ha, h⟩ := res_bind h
      obtain ⟨q, hq, h⟩ := res_bind h
      have hva : v = .pointer (some a) := by
        unfold Instr.sureAddr at ha
        split at ha
        · cases ha; rfl
        · cases ha
      have hw : w = .pointer (some q) := by cases h; rfl
      have hqb : q.block = a.block := by
        unfold fieldPlace at hq
        obtain ⟨z, _, hq⟩ := res_bind hq
        split at hq
        · unfold partAt at hq
          obtain ⟨y, _, hq⟩ := res_bind hq
          obtain ⟨y2, _, hq⟩ := res_bind hq
          cases hq
          split <;> rfl
        · cases hq; exact add_block _ _
      subst hva; subst hw
      intro b hb
      simpa [blockOf, hqb] using hb
    · cases h
  · cases h

/-- what a step leaves: its slot, and nothing else; an address in the block of its base. -/
theorem opD_al {g : Lv} {o : Oper} {K : Act → Mem → Prop} {a : Act} {m : Mem} (h : opD P w0 Γ g o K a m) :
    opD P w0 Γ g o (fun a' m' => (∃ v, a' = a.put o.dst v ∧ ∀ u, baseOf o.op = some u → ∀ b, blockOf v = some b → blockOf (a.eval (.tmp u)) = some b) ∧ K a' m') a m := by
  unfold opD at h ⊢
  split at h
  · obtain ⟨r, h1, h2⟩ := h
    refine ⟨r, h1, ?_⟩
    have hn : ∀ u, baseOf o.op = some u → ∃ v, r = .value v ∧ ∀ b, blockOf v = some b → blockOf (a.eval (.tmp u)) = some b := by
      intro u hu
      unfold baseOf at hu
      split at hu
      · rename_i s u' f e
        cases hu
        simp only [execOp, e] at h1
        obtain ⟨w, hw, h1⟩ := res_bind h1
        cases h1
        exact ⟨w, rfl, fieldAt_near hw⟩
      · cases hu
    cases r
    case value v =>
      refine ⟨⟨v, rfl, fun u hu => ?_⟩, h2⟩
      obtain ⟨v', e, hv⟩ := hn u hu
      cases e; exact hv
    case skip =>
      exact ⟨⟨undef, rfl, fun u _ b hb => by cases hb⟩, h2⟩
    case enter f args =>
      have hno : ∀ u, baseOf o.op ≠ some u := fun u hu => by obtain ⟨v', e, _⟩ := hn u hu; cases e
      rcases h2 with ⟨h3, h4⟩ | ⟨h3, h4⟩ | ⟨h3, h4⟩
      · exact Or.inl ⟨h3, fun v hv => ⟨⟨v, rfl, fun u hu => absurd hu (hno u)⟩, h4 v hv⟩⟩
      · refine Or.inr (Or.inl ⟨h3, fun w H => (h4 w H).mono ?_⟩)
        rintro e w' ⟨v, m', h5, h6, h7⟩
        exact ⟨v, m', h5, h6, ⟨v, rfl, fun u hu => absurd hu (hno u)⟩, h7⟩
      · refine Or.inr (Or.inr ⟨h3, fun w H => (h4 w H).mono ?_⟩)
        rintro e w' ⟨v, h5, h6, h7⟩
        exact ⟨v, h5, ⟨⟨v, rfl, fun u hu => absurd hu (hno u)⟩, h6⟩, h7⟩
    all_goals exact h2.elim
  · rename_i hcls
    have hno : ∀ u, baseOf o.op ≠ some u := by
      intro u hu
      unfold baseOf at hu
      split at hu
      · rename_i e; rw [e] at hcls; cases hcls
      · cases hu
    obtain ⟨c, t, k, h1, h2⟩ := h
    exact ⟨c, t, k, h1, fun b hb hB => let ⟨v, h3, h4⟩ := h2 b hb hB; ⟨v, h3, ⟨v, rfl, fun u hu => absurd hu (hno u)⟩, h4⟩⟩
  · obtain ⟨m', h1, h2⟩ := h
    exact ⟨m', h1, ⟨undef, rfl, fun u _ b hb => by cases hb⟩, h2⟩

theorem stepD_al {g : Lv} {ops : Array Oper} {o : Oper} {K : Act → Mem → Prop} {a : Act} {m : Mem} (h : stepD P w0 Γ g ops o K a m) :
    stepD P w0 Γ g ops o (fun a' m' => (∃ v, a' = a.put o.dst v ∧ ∀ u, baseOf o.op = some u → ∀ b, blockOf v = some b → blockOf (a.eval (.tmp u)) = some b) ∧ K a' m') a m := by
  unfold stepD at *
  split
  · rename_i hw; rw [if_pos hw] at h; exact opD_al h
  · rename_i hw; rw [if_neg hw] at h; exact ⟨⟨undef, rfl, fun u _ b hb => by cases hb⟩, h⟩

def pairOk (P : Program) (dis : Tmp → Tmp → Bool) (ops : Array Oper) (b : Array Nat) (i x : Nat) : Bool :=
  if (b.getD i 0).testBit x then (depsOf ops i).any fun y => y == x || (decide (x < y) && (b.getD y 0).testBit x)
  else match ops[x]?, ops[i]? with
    | some ox, some oi => indep P (apB dis ops b i x) ops ox oi
    | _, _ => false

/-- is it ordered against all others? -/
def alone (ops : Array Oper) (b : Array Nat) (i : Nat) : Bool :=
  (List.range ops.size).all fun x => x == i || (if x < i then (b.getD i 0).testBit x else (b.getD x 0).testBit i)

theorem alone_bit {ops : Array Oper} {b : Array Nat} {i x : Nat} (hi : i < ops.size) (hx : x < i) (h : ¬ (b.getD i 0).testBit x = true) : alone ops b i = false ∧ alone ops b x = false := by
  constructor
  · rw [Bool.eq_false_iff]
    intro ha
    simp only [alone, List.all_eq_true, List.mem_range, Bool.or_eq_true, beq_iff_eq] at ha
    rcases ha x (by omega) with e | e
    · omega
    · rw [if_pos hx] at e; exact h e
  · rw [Bool.eq_false_iff]
    intro ha
    simp only [alone, List.all_eq_true, List.mem_range, Bool.or_eq_true, beq_iff_eq] at ha
    rcases ha i hi with e | e
    · omega
    · rw [if_neg (by omega)] at e; exact h e

def isAl (ops : Array Oper) (x : Nat) : Bool := match ops[x]? with | some o => (match cls o.op with | .al => true | _ => false) | none => false
def isQ' (ops : Array Oper) (x : Nat) : Bool := match ops[x]? with | some o => (match cls o.op with | .q => true | _ => false) | none => false

theorem isAl_ok {ops : Array Oper} {x : Nat} {o : Oper} (ho : ops[x]? = some o) (h : isAl ops x = true) : cls o.op = .al := by
  unfold isAl at h
  rw [ho] at h
  dsimp only at h
  cases hc : cls o.op <;> rw [hc] at h <;> first | rfl | cases h

theorem isQ'_ok {ops : Array Oper} {x : Nat} {o : Oper} (ho : ops[x]? = some o) (h : isQ' ops x = true) : cls o.op = .q := by
  unfold isQ' at h
  rw [ho] at h
  dsimp only at h
  cases hc : cls o.op <;> rw [hc] at h <;> first | rfl | cases h

def isPl (ops : Array Oper) (x : Nat) : Bool := match ops[x]? with | some o => plainQ o.op | none => false
theorem isPl_ok {ops : Array Oper} {x : Nat} {o : Oper} (ho : ops[x]? = some o) (h : isPl ops x = true) : plainQ o.op = true := by
  unfold isPl at h
  rw [ho] at h
  exact h

/-- is it ordered against all others but such behind it as make a block, and such as tell a value? -/
def near (ops : Array Oper) (b : Array Nat) (i : Nat) : Bool :=
  isQ' ops i && (List.range ops.size).all fun x => x == i || (if x < i then (b.getD i 0).testBit x || isPl ops x else (b.getD x 0).testBit i || (isAl ops x || isPl ops x))

def lvl (ops : Array Oper) (b : Array Nat) (i : Nat) : Lv := if alone ops b i then .all else if near ops b i then .near else .no

/-- what two such may be that are not ordered. -/
def PairL (gx gi : Lv) (ox oi : Oper) : Prop :=
  (gx = .no ∧ gi = .no) ∨ (gi = .no ∧ gx ≠ .all ∧ cls ox.op = .q ∧ cls oi.op = .al) ∨ (gx ≠ .all ∧ gi ≠ .all ∧ cls ox.op = .q ∧ cls oi.op = .q ∧ (plainQ ox.op = true ∨ plainQ oi.op = true))

theorem lvl_bit {ops : Array Oper} {b : Array Nat} {i x : Nat} {ox oi : Oper} (hox : ops[x]? = some ox) (hoi : ops[i]? = some oi) (hi : i < ops.size) (hx : x < i) (h : ¬ (b.getD i 0).testBit x = true) :
    PairL (lvl ops b x) (lvl ops b i) ox oi := by
  obtain ⟨h1, h2⟩ := alone_bit hi hx h
  by_cases h3 : near ops b i = true
  · right; right
    simp only [near, Bool.and_eq_true, List.all_eq_true, List.mem_range, Bool.or_eq_true, beq_iff_eq] at h3
    obtain ⟨h4, h5⟩ := h3
    have hpl : isPl ops x = true := by
      rcases h5 x (by omega) with e | e
      · omega
      · rw [if_pos hx] at e
        rcases Bool.or_eq_true_iff.1 e with e | e
        · exact absurd e h
        · exact e
    have hq := isPl_ok hox hpl
    refine ⟨?_, ?_, plainQ_cls hq, isQ'_ok hoi h4, Or.inl hq⟩
    · simp only [lvl, h2, Bool.false_eq_true, if_false]; split <;> simp
    · simp only [lvl, h1, Bool.false_eq_true, if_false]; split <;> simp
  · have hli : lvl ops b i = .no := by simp [lvl, h1, h3]
    by_cases h4 : near ops b x = true
    · right
      have hlx : lvl ops b x ≠ .all := by simp [lvl, h2, h4]
      simp only [near, Bool.and_eq_true, List.all_eq_true, List.mem_range, Bool.or_eq_true, beq_iff_eq] at h4
      rcases h4.2 i hi with e | e
      · omega
      · rw [if_neg (by omega)] at e
        rcases Bool.or_eq_true_iff.1 e with e | e
        · exact absurd e h
        · rcases Bool.or_eq_true_iff.1 e with e | e
          · exact Or.inl ⟨hli, hlx, isQ'_ok hox h4.1, isAl_ok hoi e⟩
          · have hq := isPl_ok hoi e
            exact Or.inr ⟨hlx, by rw [hli]; simp, isQ'_ok hox h4.1, plainQ_cls hq, Or.inr hq⟩
    · left
      exact ⟨by simp [lvl, h2, h4], hli⟩

def orderOk (P : Program) (dis : Tmp → Tmp → Bool) (ops : Array Oper) (b : Array Nat) : Bool :=
  (alOk ops b && (!Region.departs ops || (progOk .text ops && progOk .gc ops))) && (List.range ops.size).all fun i => (depsOf ops i).all (fun y => decide (y < i)) && (List.range i).all fun x => pairOk P dis ops b i x

def rest (ops : Array Oper) (listed : Array Bool) : List Nat := (List.range ops.size).filter fun i => !listed.getD i true

def closed (ops : Array Oper) (listed : Array Bool) : Prop := ∀ i, i < ops.size → listed.getD i true = true → ∀ y ∈ depsOf ops i, listed.getD y true = true

theorem orderOk_at {dis : Tmp → Tmp → Bool} {ops : Array Oper} {b : Array Nat} (hok : orderOk P dis ops b = true) {i : Nat} (hn : i < ops.size) : (∀ y ∈ depsOf ops i, y < i) ∧ ∀ x, x < i → pairOk P dis ops b i x = true := by
  simp only [orderOk, Bool.and_eq_true, List.all_eq_true, List.mem_range, decide_eq_true_eq] at hok
  exact hok.2 i hn

theorem bit_listed {dis : Tmp → Tmp → Bool} {ops : Array Oper} {b : Array Nat} (hok : orderOk P dis ops b = true) {listed : Array Bool} (hc : closed ops listed) :
    ∀ (n i : Nat), i < n → i < ops.size → (∀ y ∈ depsOf ops i, listed.getD y true = true) → ∀ x, x < i → (b.getD i 0).testBit x = true → listed.getD x true = true := by
  intro n
  induction n with
  | zero => intro i h; omega
  | succ n ih =>
    intro i hi hn hd x hx hb
    obtain ⟨h1, h2⟩ := orderOk_at hok hn
    have hp := h2 x hx
    simp only [pairOk, hb, if_true, List.any_eq_true, Bool.or_eq_true, Bool.and_eq_true, beq_iff_eq, decide_eq_true_eq] at hp
    obtain ⟨y, hy, h⟩ := hp
    have hyi := h1 y hy
    rcases h with rfl | ⟨hxy, h⟩
    · exact hd _ hy
    · exact ih y (by omega) (by omega) (hc y (by omega) (hd y hy)) x hxy h

def Dis (dis : Tmp → Tmp → Bool) (a0 : Act) : Prop := ∀ r s, dis r s = true → ∀ b, blockOf (a0.eval (.tmp r)) = some b → blockOf (a0.eval (.tmp s)) ≠ some b

theorem opsD_front {dis : Tmp → Tmp → Bool} {g : Nat → Lv} {ops : Array Oper} {b : Array Nat} (hb : AlOk ops b) {a0 : Act} (hdis : Dis dis a0) {K : Act → Mem → Prop} {i : Nat} {o : Oper} (ho : ops[i]? = some o) (B : List Nat) :
    ∀ (A : List Nat) (E : Nat → Prop), (∀ j, E j → ∀ k, (b.getD j 0).testBit k = true → E k) → (∀ k, (b.getD i 0).testBit k = true → E k) → A.Pairwise (· < ·) → (∀ x ∈ A, ¬ E x) →
      (∀ x ∈ A, ∀ k, (b.getD x 0).testBit k = true → E k ∨ k ∈ A) →
      (∀ x ∈ A, ∃ ox, ops[x]? = some ox ∧ indep P (apB dis ops b i x) ops ox o = true ∧ PairL (g x) (g i) ox o) → ∀ {a : Act} {m : Mem}, Lives w0 m → Al ops a0 E a →
      opsD P w0 Γ g ops K (A ++ i :: B) a m → opsD P w0 Γ g ops K (i :: (A ++ B)) a m := by
  intro A
  induction A with
  | nil => intro E _ _ _ _ _ _ a m _ _ h; exact h
  | cons x A ih =>
    intro E hE hiE hs hnE hbA hA a m hm hal h
    obtain ⟨ox, hox, hin, gx⟩ := hA x (by simp)
    obtain ⟨hs1, hs2⟩ := List.pairwise_cons.1 hs
    have hxE : ∀ k, (b.getD x 0).testBit k = true → E k := by
      intro k hk
      rcases hbA x (by simp) k hk with h | h
      · exact h
      · have := hb.lt x k (lt_size hox) hk
        rcases List.mem_cons.1 h with rfl | h
        · omega
        · have := hs1 k h; omega
    have h' : stepD P w0 Γ (g x) ops ox (opsD P w0 Γ g ops K (A ++ i :: B)) a m := by simpa only [List.cons_append, opsD, hox] using h
    have h2 : stepD P w0 Γ (g x) ops ox (stepD P w0 Γ (g i) ops o (opsD P w0 Γ g ops K (A ++ B))) a m := by
      refine stepD_mono ?_ (stepD_al (stepD_fin hm h'))
      rintro a' m' ⟨⟨v, rfl, hv⟩, hm', hk⟩
      have := ih (fun j => E j ∨ j = x) (fun j hj k hk => by
          rcases hj with hj | rfl
          · exact Or.inl (hE j hj k hk)
          · exact Or.inl (hxE k hk)) (fun k hk => Or.inl (hiE k hk)) hs2 (fun y hy h => by
          rcases h with h | rfl
          · exact hnE y (by simp [hy]) h
          · have := hs1 y hy; omega) (fun y hy k hk => by
          rcases hbA y (by simp [hy]) k hk with h | h
          · exact Or.inl (Or.inl h)
          · rcases List.mem_cons.1 h with rfl | h
            · exact Or.inl (Or.inr rfl)
            · exact Or.inr h) (fun y hy => hA y (by simp [hy])) hm' (hal.step hb hE hox (hnE x (by simp)) hv) hk
      simpa only [opsD, ho] using this
    have hap : Apart2 (apB dis ops b i x) a ox o := by
      intro hp
      simp only [apB, ho, hox, Bool.or_eq_true] at hp
      rcases hp with hp | hp
      · exact Or.inr (apAt_ok hal hdis hiE hxE hp)
      · exact Or.inl (apAt_ok hal hdis hxE hiE hp)
    have h3 : stepD P w0 Γ (g i) ops o (stepD P w0 Γ (g x) ops ox (opsD P w0 Γ g ops K (A ++ B))) a m := by
      rcases gx with ⟨gx, gi⟩ | ⟨gi, g1, g2, g3⟩ | ⟨g1, g2, g3, g4, g5⟩
      · rw [gx, gi] at h2 ⊢; exact stepD_comm hin hap hm.fin h2
      · rw [gi] at h2 ⊢; exact stepD_comm_al hin g1 g2 g3 hm h2
      · exact stepD_comm_pl hin g1 g2 g3 g4 g5 hm h2
    simp only [opsD, ho]
    refine stepD_mono ?_ h3
    intro a' m' hk
    simpa only [List.cons_append, opsD, hox] using hk

/-- what linearise lists from here on. -/
def lin (md : Region.Mode) (ops : Array Oper) : Nat → Nat → Array Bool → List Nat
  | 0, _, _ => []
  | fuel + 1, t, listed =>
    let rs := (List.range ops.size).filter fun i => !listed.getD i true && ((ops[i]?).map (·.after.all fun e => !Region.binds md e || listed.getD e.on false)).getD false
    match rs[t % rs.length]? with
    | some i => i :: lin md ops fuel (t / rs.length) (listed.setIfInBounds i true)
    | none => []

theorem go_lin (md : Region.Mode) (ops : Array Oper) : ∀ (fuel t : Nat) (listed : Array Bool) (acc : List Nat), Region.linearise.go md ops fuel t listed acc = acc.reverse ++ lin md ops fuel t listed := by
  intro fuel
  induction fuel with
  | zero => intro t listed acc; simp [Region.linearise.go, lin]
  | succ n ih =>
    intro t listed acc
    simp only [Region.linearise.go, lin]
    split
    · rename_i i hi
      rw [hi, ih]
      simp
    · rename_i hi
      rw [hi]
      simp

theorem all_deps {md : Region.Mode} {ops : Array Oper} {i : Nat} {o : Oper} (ho : ops[i]? = some o) {listed : Array Bool} :
    (o.after.all fun e => !Region.binds md e || listed.getD e.on false) = true ↔ ∀ y ∈ depsM md ops i, listed.getD y false = true := by
  simp only [depsM, ho, Array.all_eq_true_iff_forall_mem, List.mem_map, List.mem_filter, Bool.or_eq_true, Bool.not_eq_true']
  constructor
  · rintro h y ⟨e, ⟨he, hb⟩, rfl⟩
    rcases h e (by simpa using he) with h | h
    · rw [hb] at h; cases h
    · exact h
  · intro h e he
    cases hb : Region.binds md e with
    | false => exact Or.inl rfl
    | true => exact Or.inr (h e.on ⟨e, ⟨by simpa using he, hb⟩, rfl⟩)

theorem getD_tf {l : Array Bool} {y : Nat} (hy : y < l.size) : l.getD y true = l.getD y false := by simp [hy]

/-- does no order stand still ahead of its end? -/
def Goes (md : Region.Mode) (ops : Array Oper) : Prop :=
  ∀ listed : Array Bool, listed.size = ops.size → rest ops listed ≠ [] → ∃ x ∈ rest ops listed, ∀ y ∈ depsM md ops x, listed.getD y false = true

theorem mem_rest {ops : Array Oper} {listed : Array Bool} {x : Nat} : x ∈ rest ops listed ↔ x < ops.size ∧ listed.getD x true = false := by
  simp only [rest, List.mem_filter, List.mem_range, Bool.not_eq_true']

theorem goes_any {dis : Tmp → Tmp → Bool} {ops : Array Oper} {b : Array Nat} (hok : orderOk P dis ops b = true) : Goes .any ops := by
  intro listed hsz hne
  cases hr : rest ops listed with
  | nil => exact absurd hr hne
  | cons x xs =>
    have hx : x ∈ rest ops listed := by rw [hr]; simp
    have hx' := mem_rest.1 hx
    refine ⟨x, by simp, fun y hy => ?_⟩
    have hlt := (orderOk_at hok hx'.1).1 y hy
    rw [← getD_tf (by omega)]
    cases hl : listed.getD y true with
    | true => rfl
    | false =>
      have hym : y ∈ rest ops listed := mem_rest.2 ⟨by omega, hl⟩
      have hs : (rest ops listed).Pairwise (· < ·) := List.Pairwise.filter _ List.pairwise_lt_range
      rw [hr] at hs hym
      rcases List.mem_cons.1 hym with rfl | hm'
      · omega
      · have := (List.pairwise_cons.1 hs).1 y hm'
        omega

theorem okFrom_first {md : Region.Mode} {ops : Array Oper} {listed : Array Bool} : ∀ (L seen : List Nat), okFrom md ops L seen = true → (∀ y ∈ seen, listed.getD y true = true) → (∃ x ∈ L, listed.getD x true = false) →
    ∃ x ∈ L, listed.getD x true = false ∧ ∃ s : List Nat, (∀ y ∈ s, listed.getD y true = true ∧ (y ∈ seen ∨ y ∈ L)) ∧ ∀ y ∈ depsM md ops x, y ∈ s
  | [], _, _, _, h => by obtain ⟨x, hx, _⟩ := h; cases hx
  | i :: r, seen, ho, hs, h => by
    simp only [okFrom, Bool.and_eq_true, List.all_eq_true] at ho
    cases hi : listed.getD i true with
    | false => exact ⟨i, by simp, hi, seen, fun y hy => ⟨hs y hy, Or.inl hy⟩, fun y hy => by simpa using ho.1 y hy⟩
    | true =>
      obtain ⟨x, hx, hf, s, h1, h2⟩ := okFrom_first r (i :: seen) ho.2 (fun y hy => by
        rcases List.mem_cons.1 hy with rfl | hy
        · exact hi
        · exact hs y hy) (by
        obtain ⟨x, hx, hf⟩ := h
        rcases List.mem_cons.1 hx with rfl | hx
        · rw [hi] at hf; cases hf
        · exact ⟨x, hx, hf⟩)
      refine ⟨x, by simp [hx], hf, s, fun y hy => ⟨(h1 y hy).1, ?_⟩, h2⟩
      rcases (h1 y hy).2 with e | e
      · rcases List.mem_cons.1 e with rfl | e
        · exact Or.inr (by simp)
        · exact Or.inl e
      · exact Or.inr (by simp [e])

theorem goes_prog {md : Region.Mode} {ops : Array Oper} (h : progOk md ops = true) : Goes md ops := by
  intro listed hsz hne
  simp only [progOk, Bool.and_eq_true, List.all_eq_true, decide_eq_true_eq, List.mem_range] at h
  obtain ⟨⟨h1, h2⟩, h3⟩ := h
  obtain ⟨z, hz⟩ := List.exists_mem_of_ne_nil _ hne
  obtain ⟨hz1, hz2⟩ := mem_rest.1 hz
  obtain ⟨x, hx, hf, s, h4, h5⟩ := okFrom_first (listed := listed) _ [] h3 (fun y hy => by cases hy) ⟨z, by simpa using h2 z hz1, hz2⟩
  refine ⟨x, mem_rest.2 ⟨h1 x hx, hf⟩, fun y hy => ?_⟩
  obtain ⟨h6, h7⟩ := h4 y (h5 y hy)
  rcases h7 with h7 | h7
  · cases h7
  · rw [← getD_tf (by rw [hsz]; exact h1 y h7)]; exact h6

theorem lin_sound {md : Region.Mode} {dis : Tmp → Tmp → Bool} {ops : Array Oper} {b : Array Nat} (hok : orderOk P dis ops b = true) (hgo : Goes md ops) {a0 : Act} (hdis : Dis dis a0) {K : Act → Mem → Prop} :
    ∀ (fuel t : Nat) (listed : Array Bool), listed.size = ops.size → closed ops listed → (rest ops listed).length ≤ fuel → ∀ {a : Act} {m : Mem}, Lives w0 m → Al ops a0 (fun j => listed.getD j true = true ∧ j < ops.size) a →
      opsD P w0 Γ (lvl ops b) ops K (rest ops listed) a m → opsD P w0 Γ (lvl ops b) ops K (lin md ops fuel t listed) a m := by
  intro fuel
  induction fuel with
  | zero =>
    intro t listed _ _ hf a m _ _ h
    have : rest ops listed = [] := List.length_eq_zero_iff.1 (by omega)
    rw [this] at h; exact h
  | succ n ih =>
    intro t listed hsz hc hf a m hm hal h
    have hb : AlOk ops b := by
      simp only [orderOk, Bool.and_eq_true] at hok; exact alOk_ok hok.1.1
    simp only [lin]
    generalize hrs : (List.filter (fun i => !listed.getD i true && ((ops[i]?).map (·.after.all fun e => !Region.binds md e || listed.getD e.on false)).getD false) (List.range ops.size)) = rs
    cases hi : rs[t % rs.length]? with
    | none =>
      have hnil : rs = [] := by
        cases rs with
        | nil => rfl
        | cons x xs =>
          have : t % (x :: xs).length < (x :: xs).length := Nat.mod_lt _ (by simp)
          rw [List.getElem?_eq_getElem this] at hi; cases hi
      have hrest : rest ops listed = [] := by
        apply Classical.byContradiction
        intro hne
        obtain ⟨x, hx, hall⟩ := hgo listed hsz hne
        have hx' := mem_rest.1 hx
        have ho : ops[x]? = some ops[x] := Array.getElem?_eq_getElem hx'.1
        have : x ∈ rs := by
          rw [← hrs]
          simp only [List.mem_filter, List.mem_range, Bool.and_eq_true, Bool.not_eq_true']
          refine ⟨hx'.1, hx'.2, ?_⟩
          rw [ho]
          simp only [Option.map_some, Option.getD_some]
          exact (all_deps ho).2 hall
        rw [hnil] at this; cases this
      rw [hrest] at h; exact h
    | some i =>
      have him : i ∈ rs := List.mem_of_getElem? hi
      rw [← hrs] at him
      simp only [List.mem_filter, List.mem_range, Bool.and_eq_true, Bool.not_eq_true'] at him
      obtain ⟨hin, hil, hid⟩ := him
      have ho : ops[i]? = some ops[i] := Array.getElem?_eq_getElem hin
      rw [ho] at hid
      simp only [Option.map_some, Option.getD_some] at hid
      have hdeps := (all_deps ho).1 hid
      have hdt : ∀ y ∈ depsOf ops i, listed.getD y true = true := fun y hy => by
        have := (orderOk_at hok hin).1 y hy
        rw [getD_tf (by omega)]; exact hdeps y (depsM_any hy)
      have himr : i ∈ rest ops listed := by
        simp only [rest, List.mem_filter, List.mem_range, Bool.not_eq_true']; exact ⟨hin, hil⟩
      obtain ⟨A, B, hAB⟩ := List.append_of_mem himr
      have hs : (rest ops listed).Pairwise (· < ·) := List.Pairwise.filter _ List.pairwise_lt_range
      rw [hAB] at hs h
      have hA : ∀ x ∈ A, x < i := fun x hx => (List.pairwise_append.1 hs).2.2 x hx i (by simp)
      have hB : ∀ x ∈ B, i < x := fun x hx => (List.pairwise_cons.1 (List.pairwise_append.1 hs).2.1).1 x hx
      have hnew : rest ops (listed.setIfInBounds i true) = A ++ B := by
        have e1 : rest ops (listed.setIfInBounds i true) = (rest ops listed).filter (fun x => decide (x ≠ i)) := by
          simp only [rest, List.filter_filter]
          apply List.filter_congr
          intro x hx
          have hx' : x < listed.size := by rw [hsz]; simpa using hx
          by_cases e : x = i
          · subst e; simp [hx']
          · simp [Ne.symm e, e]
        rw [e1, hAB, List.filter_append, List.filter_cons]
        have eA : A.filter (fun x => decide (x ≠ i)) = A := List.filter_eq_self.2 fun x hx => by have := hA x hx; simp; omega
        have eB : B.filter (fun x => decide (x ≠ i)) = B := List.filter_eq_self.2 fun x hx => by have := hB x hx; simp; omega
        rw [eA, eB]; simp
      have hEc : ∀ j, (listed.getD j true = true ∧ j < ops.size) → ∀ k, (b.getD j 0).testBit k = true → (listed.getD k true = true ∧ k < ops.size) := by
        intro j hj k hk
        have hlt := hb.lt j k hj.2 hk
        exact ⟨bit_listed hok hc (j + 1) j (by omega) hj.2 (fun y hy => hc j hj.2 hj.1 y hy) k hlt hk, by omega⟩
      have hfront := opsD_front hb hdis ho B A (fun j => listed.getD j true = true ∧ j < ops.size) hEc (fun k hk => by
          have hlt := hb.lt i k hin hk
          exact ⟨bit_listed hok hc (i + 1) i (by omega) hin hdt k hlt hk, by omega⟩) (List.pairwise_append.1 hs).1 (fun x hx h => by
          have hxr : x ∈ rest ops listed := by rw [hAB]; simp [hx]
          rw [(mem_rest.1 hxr).2] at h; exact absurd h.1 (by simp)) (fun x hx k hk => by
          have hxr := mem_rest.1 (show x ∈ rest ops listed by rw [hAB]; simp [hx])
          have hlt := hb.lt x k hxr.1 hk
          cases hl : listed.getD k true with
          | true => exact Or.inl ⟨rfl, by omega⟩
          | false =>
            right
            have hkr : k ∈ rest ops listed := mem_rest.2 ⟨by omega, hl⟩
            have hxi := hA x hx
            rw [hAB] at hkr
            rcases List.mem_append.1 hkr with h | h
            · exact h
            · rcases List.mem_cons.1 h with rfl | h
              · omega
              · have := hB k h; omega) (fun x hx => by
        have hxi := hA x hx
        have hxr : x ∈ rest ops listed := by rw [hAB]; simp [hx]
        simp only [rest, List.mem_filter, List.mem_range, Bool.not_eq_true'] at hxr
        have hp := (orderOk_at hok hin).2 x hxi
        have hox : ops[x]? = some ops[x] := Array.getElem?_eq_getElem hxr.1
        refine ⟨ops[x], hox, ?_⟩
        unfold pairOk at hp
        split at hp
        · rename_i hb
          have := bit_listed hok hc (i + 1) i (by omega) hin hdt x hxi hb
          rw [this] at hxr; exact absurd hxr.2 (by simp)
        · rename_i hb
          exact ⟨by simpa only [hox, ho] using hp, lvl_bit hox ho hin hxi hb⟩) hm hal h
      simp only [opsD, ho] at hfront ⊢
      refine stepD_mono ?_ (stepD_al (stepD_fin hm hfront))
      rintro a' m' ⟨⟨v, rfl, hv⟩, hm', hk⟩
      have hal' := hal.step hb hEc ho (fun h => by rw [h.1] at hil; cases hil) hv
      have hset0 : ∀ j, j < ops.size → ((listed.setIfInBounds i true).getD j true = true ↔ listed.getD j true = true ∨ j = i) := by
        intro z hz
        by_cases e : z = i
        · subst e; simp [hsz, hz]
        · simp [Ne.symm e, e]
      refine ih _ _ (by simpa using hsz) ?_ ?_ hm' ⟨hal'.ext, fun j oj u d hj hoj => hal'.near j oj u d (by
        rcases (hset0 j hj.2).1 hj.1 with h | h
        · exact Or.inl ⟨h, hj.2⟩
        · exact Or.inr h) hoj⟩ (by rw [hnew]; exact hk)
      · intro j hj hl y hy
        have hset : ∀ z, z < ops.size → ((listed.setIfInBounds i true).getD z true = true ↔ z = i ∨ listed.getD z true = true) := by
          intro z hz
          by_cases e : z = i
          · subst e; simp [hsz, hz]
          · simp [Ne.symm e, e]
        have hyj := (orderOk_at hok hj).1 y hy
        rw [hset y (by omega)]
        rcases (hset j hj).1 hl with rfl | hl
        · exact Or.inr (hdt y hy)
        · exact Or.inr (hc j hj hl y hy)
      · have : (rest ops listed).length = A.length + B.length + 1 := by rw [hAB]; simp; omega
        rw [hnew]; simp; omega

theorem opsD_any {dis : Tmp → Tmp → Bool} {ops : Array Oper} {b : Array Nat} (hok : orderOk P dis ops b = true) {K : Act → Mem → Prop} {a : Act} (hdis : Dis dis a) {m : Mem} (hm : Lives w0 m) (h : opsD P w0 Γ (lvl ops b) ops K (List.range ops.size) a m) (mixed : Bool) (t : Nat) :
    opsD P w0 Γ (lvl ops b) ops K (Region.schedule mixed ops t) a m := by
  have hr : rest ops (Array.replicate ops.size false) = List.range ops.size := by
    refine List.filter_eq_self.2 fun x hx => ?_
    have hx' : x < ops.size := by simpa using hx
    simp [hx']
  have key : ∀ (md : Region.Mode) (t : Nat), Goes md ops → opsD P w0 Γ (lvl ops b) ops K (Region.linearise md ops t) a m := by
    intro md t hgo
    have e : Region.linearise md ops t = lin md ops ops.size t (Array.replicate ops.size false) := by
      simp only [Region.linearise, go_lin]
      rfl
    rw [e]
    refine lin_sound hok hgo hdis _ _ _ (by simp) ?_ (by rw [hr]; simp) hm (Al.start _ _ _ fun j hj hE => by simp [hj] at hE) (by rw [hr]; exact h)
    intro i hi hl
    simp [hi] at hl
  have hd : Region.departs ops = false ∨ (progOk .text ops = true ∧ progOk .gc ops = true) := by
    simp only [orderOk, Bool.and_eq_true, Bool.or_eq_true, Bool.not_eq_true'] at hok; exact hok.1.2
  unfold Region.schedule
  split
  · exact key _ _ (goes_any hok)
  · rename_i hm
    rcases hd with hd | ⟨h1, h2⟩
    · simp [hd] at hm
    · split
      · exact key _ _ (goes_prog h1)
      · exact key _ _ (goes_prog h2)

theorem wp_region_any {id : Nat} {dis : Tmp → Tmp → Bool} {ops : Array Oper} {b : Array Nat} (hok : orderOk P dis ops b = true) {K : Act → Mem → Prop} {Q : Exit → Act → World → Prop} {a : Act} (hdis : Dis dis a) {m : Mem} {w : World}
    (hk : ∀ a' m' w', Holds w0 m' w' → K a' m' → Q .normal a' w') (h : opsD P w0 Γ (lvl ops b) ops K (List.range ops.size) a m) (H : Holds w0 m w) :
    (Code.region id ops true).wp P Q a w :=
  wp_region_draw fun t => opsD_sound hk _ (opsD_any hok hdis ⟨_, H⟩ h _ t) H.drew

end Go.Proofs.YtogcbmadcgjljaaDoor.Sx
