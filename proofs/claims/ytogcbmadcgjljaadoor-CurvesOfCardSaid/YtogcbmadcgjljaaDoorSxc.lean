/-
  A frame of our own for walks, part c: a region whose order is drawn comes to what its text's order comes to.
-/
import Derived.Test.YtogcbmadcgjljaaDoorSxb
namespace Go.Proofs.YtogcbmadcgjljaaDoor.Sx
open Go Go.RowKit

variable {P : Program} {w0 : World} {Γ : FuncId → Array Value → Value → Prop}

/-! ### what an operation reads -/
def tmpsOf (l : List Operand) : List Tmp := l.filterMap fun | .tmp t => some t | _ => none

def reads (ops : Array Oper) (o : Oper) : List Tmp :=
  tmpsOf o.op.operands.toList ++ (match o.guard with | none => [] | some (j, _) => ((ops[j]?).bind (·.dst)).toList)

def okOp : Op → Bool
  | .move _ | .assign _ | .pick .. | .alloc _ | .box .. | .build .. | .buildSlice .. | .load .. | .store .. | .nilCheck _ | .binOp .. | .unOp .. | .convert .. | .makeInterface ..
  | .makeSlice .. | .slice .. | .fieldAddr .. | .field .. | .indexAddr .. | .index .. | .extract .. | .typeAssert .. => true
  | .call { callee := .value _, .. } => true
  | .call { callee := .builtin _, .. } => true
  | _ => false

theorem mem_tmpsOf {l : List Operand} {t : Tmp} : t ∈ tmpsOf l ↔ Operand.tmp t ∈ l := by
  unfold tmpsOf
  rw [List.mem_filterMap]
  constructor
  · rintro ⟨x, hx, h⟩
    cases x <;> simp at h
    subst h; exact hx
  · intro h; exact ⟨_, h, rfl⟩

theorem map_congr_arr {ρ ρ' : Operand → Value} {xs : Array Operand} (h : ∀ x ∈ xs.toList, ρ x = ρ' x) : xs.map ρ = xs.map ρ' := by
  apply Array.map_congr_left
  intro x hx; exact h x (by simpa using hx)

theorem execOp_congr {ρ ρ' : Operand → Value} {o : Oper} (hok : okOp o.op = true) (h : ∀ x ∈ o.op.operands.toList, ρ x = ρ' x) : execOp ρ o = execOp ρ' o := by
  obtain ⟨dst, op, ty, pos, after, guard⟩ := o
  dsimp only at hok h
  cases op <;> try (simp [okOp] at hok; done)
  case build t parts =>
    have : (parts.map fun (x : Nat × Operand) => (x.1, ρ x.2)) = parts.map fun (x : Nat × Operand) => (x.1, ρ' x.2) := by
      apply Array.map_congr_left
      intro x hx
      rw [h x.2 (by simp [Op.operands]; exact ⟨x.1, by simpa using hx⟩)]
    simp only [execOp]; rw [this]
  case buildSlice t n parts =>
    have : (parts.map fun (x : Nat × Operand) => (x.1, ρ x.2)) = parts.map fun (x : Nat × Operand) => (x.1, ρ' x.2) := by
      apply Array.map_congr_left
      intro x hx
      rw [h x.2 (by simp [Op.operands]; exact ⟨x.1, by simpa using hx⟩)]
    simp only [execOp]; rw [this]
  case call c =>
    obtain ⟨callee, args, argTypes⟩ := c
    cases callee with
    | value f =>
      have h1 : args.map ρ = args.map ρ' := map_congr_arr fun x hx => h x (by simp [Op.operands, Call.operands]; right; simpa using hx)
      have h2 : ρ f = ρ' f := h f (by simp [Op.operands, Call.operands])
      simp only [execOp, resolve, h1, h2]
    | builtin b =>
      have h1 : args.map ρ = args.map ρ' := map_congr_arr fun x hx => h x (by simp [Op.operands, Call.operands]; simpa using hx)
      simp only [execOp, resolve, h1]
    | invoke r s => simp [okOp] at hok
  case slice t x lo hi mx =>
    have h0 : ρ x = ρ' x := h x (by simp [Op.operands])
    have h1 : lo.map ρ = lo.map ρ' := by cases lo with | none => rfl | some y => simp [h y (by simp [Op.operands])]
    have h2 : hi.map ρ = hi.map ρ' := by cases hi with | none => rfl | some y => simp [h y (by simp [Op.operands])]
    have h3 : mx.map ρ = mx.map ρ' := by cases mx with | none => rfl | some y => simp [h y (by simp [Op.operands])]
    simp only [execOp, h0, h1, h2, h3]
  all_goals first | (simp only [execOp]; done) | (simp only [execOp, h _ (by simp [Op.operands])]; done) | (simp [Op.operands] at h; simp [execOp, h])

theorem put_eval {a : Act} {d : Option Tmp} {v : Value} {x : Operand} (h : ∀ t, d = some t → x ≠ .tmp t) : (a.put d v).eval x = a.eval x := by
  cases d with
  | none => rfl
  | some t =>
    cases x with
    | tmp s =>
      have : t ≠ s := by rintro rfl; exact h t rfl rfl
      simp [Act.put, Act.eval, this]
    | _ => rfl

theorem put_comm {a : Act} {d e : Option Tmp} {u v : Value} (h : ∀ t, d = some t → e ≠ some t) : (a.put d u).put e v = (a.put e v).put d u := by
  cases d with
  | none => rfl
  | some t =>
    cases e with
    | none => rfl
    | some s =>
      have : t ≠ s := by rintro rfl; exact h t rfl rfl
      simp only [Act.put]
      congr 1
      rw [Array.setIfInBounds_comm _ _ this]

def off (ops : Array Oper) (d : Option Tmp) (o : Oper) : Bool :=
  match d with
  | none => true
  | some t => !(reads ops o).contains t

theorem off_exec {ops : Array Oper} {a : Act} {d : Option Tmp} {v : Value} {o : Oper} (hok : okOp o.op = true) (h : off ops d o = true) : execOp (a.put d v).eval o = execOp a.eval o := by
  refine execOp_congr hok fun x hx => put_eval fun t ht => ?_
  rintro rfl
  subst ht
  simp [off, reads, mem_tmpsOf] at h
  exact h.1 (by simpa using hx)

theorem off_wanted {ops : Array Oper} {a : Act} {d : Option Tmp} {v : Value} {o : Oper} (h : off ops d o = true) : Region.wanted o (yielded ops (a.put d v).tmps) = Region.wanted o (yielded ops a.tmps) := by
  cases d with
  | none => rfl
  | some t =>
    unfold Region.wanted
    cases hg : o.guard with
    | none => rfl
    | some jw =>
      obtain ⟨j, want⟩ := jw
      dsimp only
      congr 1
      unfold yielded
      cases hd : (ops[j]?).bind (·.dst) with
      | none => rfl
      | some s =>
        have : t ≠ s := by
          rintro rfl
          simp [off, reads, hg, hd] at h
        simp only [Option.bind_some, Act.put, Array.getElem?_setIfInBounds, this, if_false]

/-! ### results -/
def resD (P : Program) (Γ : FuncId → Array Value → Value → Prop) (F : Value → Prop) : Next → Prop
  | .value v => F v
  | .skip => F undef
  | .enter f args => Pure P f args (Γ f args) ∧ ∀ v, Γ f args v → F v
  | _ => False

theorem uponD_res {dst : Option Tmp} {K : Act → Mem → Prop} {a : Act} {m : Mem} {r : Next} : uponD P w0 Γ .no dst K a m r ↔ resD P Γ (fun v => K (a.put dst v) m) r := by
  cases r <;> simp [uponD, resD]

theorem resD_mono {F G : Value → Prop} {r : Next} (h : ∀ v, F v → G v) (hr : resD P Γ F r) : resD P Γ G r := by
  cases r <;> first | exact h _ hr | exact hr.elim | skip
  exact ⟨hr.1, fun v hv => h v (hr.2 v hv)⟩

theorem resD_some {F : Value → Prop} {r : Next} (hr : resD P Γ F r) : ∃ v, F v := by
  cases r <;> first | exact ⟨_, hr⟩ | exact hr.elim | skip
  obtain ⟨hp, hf⟩ := hr
  obtain ⟨e, w', fr, ⟨v, _, hv, _⟩, _⟩ := hp wJ wJ_ok []
  exact ⟨v, hf v hv⟩

theorem resD_swap {F : Value → Value → Prop} {r s : Next} (h : resD P Γ (fun v => resD P Γ (fun u => F v u) s) r) : resD P Γ (fun u => resD P Γ (fun v => F v u) r) s := by
  cases r <;> first | exact h.elim | exact h | skip
  obtain ⟨hp, hr⟩ := h
  cases s <;> first | exact ⟨hp, hr⟩ | skip
  case enter f args f' args' =>
    obtain ⟨v, hv⟩ : ∃ v, Γ f args v := by
      obtain ⟨e, w', fr, ⟨v, _, hv, _⟩, _⟩ := hp wJ wJ_ok []
      exact ⟨v, hv⟩
    exact ⟨(hr v hv).1, fun u hu => ⟨hp, fun v hv => (hr v hv).2 u hu⟩⟩
  all_goals
    obtain ⟨v, hv⟩ : ∃ v, Γ _ _ v := by
      obtain ⟨e, w', fr, ⟨v, _, hv, _⟩, _⟩ := hp wJ wJ_ok []
      exact ⟨v, hv⟩
    exact (hr v hv).elim

theorem resD_all {ι : Type} {p : ι → Prop} {F : ι → Value → Prop} {r : Next} {i0 : ι} (h0 : p i0) (h : ∀ i, p i → resD P Γ (F i) r) : resD P Γ (fun v => ∀ i, p i → F i v) r := by
  cases r <;> first | exact h | exact (h i0 h0).elim | skip
  exact ⟨(h i0 h0).1, fun v hv i hi => (h i hi).2 v hv⟩

/-! ### two operations that do not meet -/
/-! ### a load and a store in blocks that are not the same -/
def blockOf : Value → Option Nat
  | .pointer (some a) => some a.block
  | _ => none

theorem qev_bind' {α β : Type} (s : Sem α) (f : α → Sem β) : ∀ (m : Mem), qev P (s >>= f) m = (qev P s m).bind fun r => qev P (f r) m := by
  show ∀ (m : Mem), qev P (s.bind f) m = _
  induction s with
  | pure a => intro m; rfl
  | load md a k ih =>
    intro m
    simp only [Sem.bind, qev]
    split
    · exact ih _ m
    · rfl
  | program k ih => intro m; exact ih P m
  | mark mk k ih => intro m; exact ih m
  | _ => intro m; rfl

theorem wev_bind' {α β : Type} (s : Sem α) (f : α → Sem β) : ∀ (m : Mem), wev P (s >>= f) m = (wev P s m).bind fun r => wev P (f r.1) r.2 := by
  show ∀ (m : Mem), wev P (s.bind f) m = _
  induction s with
  | pure a => intro m; rfl
  | load md a k ih =>
    intro m
    simp only [Sem.bind, wev]
    split
    · exact ih _ m
    · rfl
  | store md a v k ih =>
    intro m
    simp only [Sem.bind, wev]
    split
    · split
      · exact ih _
      · rfl
    · rfl
  | program k ih => intro m; exact ih P m
  | mark mk k ih => intro m; exact ih m
  | _ => intro m; rfl

theorem qev_under {t : TypeId} {d : TypeDesc} (h : P.underlying t = some d) (m : Mem) : qev P (underlying t) m = some d := by
  unfold underlying
  rw [qev_bind']
  show qev P (match P.underlying t with | some d => _ | none => _) m = some d
  rw [h]; rfl

theorem qev_szOf {t : TypeId} {i : TypeInfo} (h : P.info? t = some i) (m : Mem) : qev P (sizeOf t) m = some i.size := by
  unfold sizeOf typeInfo
  rw [qev_bind', qev_bind']
  show (qev P (match P.toTables.info? t with | some d => _ | none => _) m).bind _ = some i.size
  rw [show P.toTables.info? t = some i from h]; rfl

/-- does it ask nothing of the memory, as anyone sees? -/
def free (P : Program) : Op → Bool
  | .move _ | .assign _ | .pick .. | .extract .. => true
  | .binOp .shl _ _ _ _ | .binOp .shr _ _ _ _ => true
  | .fieldAddr s _ f => match P.underlying s with
    | some (.struct fields) => match fields[f]? with
      | some fd => match P.info? fd.type with
        | some i => i.size != 0
        | none => false
      | none => false
    | _ => false
  | .convert src dst _ => match P.underlying src, P.underlying dst with
    | some (.int _), some (.int _) => true
    | _, _ => false
  | _ => false

theorem free_qev {ρ : Operand → Value} {o : Oper} (h : free P o.op = true) (m m' : Mem) : qev P (execOp ρ o) m = qev P (execOp ρ o) m' := by
  obtain ⟨dst, op, ty, pos, after, guard⟩ := o
  simp only at h
  cases op <;> first | (simp [free] at h; done) | skip
  case move x => rfl
  case assign x => rfl
  case binOp bop t x y yt =>
    cases bop <;> first | (simp [free] at h; done) | skip
    · simp only [execOp]
      cases ρ x <;> cases ρ y <;> first | rfl | skip
      case int k n k' n' =>
        simp only [eqGuard, binOp, Op.shift]
        by_cases hn : n' < 0
        · simp only [hn, if_true]; rfl
        · simp only [hn, if_false]; rfl
      case float k n k' n' =>
        simp only [eqGuard, binOp]
        by_cases hk : k = k'
        · subst hk; simp only [ne_eq, not_true_eq_false, if_false]; cases k <;> rfl
        · simp only [ne_eq, hk, not_false_eq_true, if_true]; rfl
      case complex k a b k' c d =>
        simp only [eqGuard, binOp]
        by_cases hk : k = k'
        · subst hk; simp only [ne_eq, not_true_eq_false, if_false]; cases k <;> rfl
        · simp only [ne_eq, hk, not_false_eq_true, if_true]; rfl
    · simp only [execOp]
      cases ρ x <;> cases ρ y <;> first | rfl | skip
      case int k n k' n' =>
        simp only [eqGuard, binOp, Op.shift]
        by_cases hn : n' < 0
        · simp only [hn, if_true]; rfl
        · simp only [hn, if_false]; rfl
      case float k n k' n' =>
        simp only [eqGuard, binOp]
        by_cases hk : k = k'
        · subst hk; simp only [ne_eq, not_true_eq_false, if_false]; cases k <;> rfl
        · simp only [ne_eq, hk, not_false_eq_true, if_true]; rfl
      case complex k a b k' c d =>
        simp only [eqGuard, binOp]
        by_cases hk : k = k'
        · subst hk; simp only [ne_eq, not_true_eq_false, if_false]; cases k <;> rfl
        · simp only [ne_eq, hk, not_false_eq_true, if_true]; rfl
  case pick c x y =>
    simp only [execOp]
    cases ρ c <;> rfl
  case extract x i =>
    simp only [execOp, Instr.extract]
    cases ρ x <;> first | rfl | (rename_i vs; dsimp only; cases vs[i]? <;> rfl)
  case fieldAddr s x f =>
    simp only [free] at h
    split at h
    · rename_i fields hu
      split at h
      · rename_i fd hf
        split at h
        · rename_i i hi
          simp only [execOp]
          unfold Instr.fieldAt
          simp only [qev_bind', qev_under hu, Option.bind_some, hf]
          cases ρ x <;> first | rfl | skip
          rename_i a
          cases a with
          | none => rfl
          | some a =>
            have hs : ∀ m, qev P (Instr.sureAddr (.pointer (some a))) m = some a := fun _ => rfl
            simp only [hs, Option.bind_some, fieldPlace, qev_bind', qev_szOf hi]
            have hz : i.size ≠ 0 := by simpa using h
            rw [if_neg hz]; rfl
        · cases h
      · cases h
    · cases h
  case convert src dst x =>
    simp only [free] at h
    split at h
    · rename_i k k' hs hd
      simp only [execOp]
      unfold convert
      simp only [qev_bind', qev_under hs, qev_under hd, Option.bind_some]
      cases ρ x
      case float s b =>
        dsimp only
        unfold Conv.floatToInt
        repeat' (first | rfl | split)
      case pointer a => cases a <;> rfl
      all_goals rfl
    · cases h

def clash (P : Program) (x y : Op) : Bool :=
  match cls x, cls y with
  | .st, .q => !free P y
  | .q, .st => !free P x
  | .st, .st => true
  | _, _ => false

/-- reads of one block alone. -/
def Within {α : Type} (P : Program) (b : Nat) (s : Sem α) : Prop := ∀ m m' : Mem, m b = m' b → qev P s m = qev P s m'

theorem Within.bind {α β : Type} {b : Nat} {s : Sem α} {f : α → Sem β} (h : Within P b s) (k : ∀ r, Within P b (f r)) : Within P b (s >>= f) := by
  intro m m' e
  rw [qev_bind', qev_bind', h m m' e]
  cases qev P s m' with
  | none => rfl
  | some r => exact k r m m' e

theorem Within.pure {α : Type} {b : Nat} (r : α) : Within P b (pure r : Sem α) := fun _ _ _ => rfl

theorem within_underlying (b : Nat) (t : TypeId) : Within P b (underlying t) := by
  intro m m' _
  unfold underlying
  rw [qev_bind', qev_bind']
  show qev P (match P.underlying t with | some d => _ | none => _) m = qev P (match P.underlying t with | some d => _ | none => _) m'
  cases P.underlying t <;> rfl

theorem within_size (b : Nat) (t : TypeId) : Within P b (sizeOf t) := by
  unfold sizeOf
  refine Within.bind ?_ fun r => Within.pure _
  intro m m' _
  unfold typeInfo
  rw [qev_bind', qev_bind']
  show qev P (match P.toTables.info? t with | some d => _ | none => _) m = qev P (match P.toTables.info? t with | some d => _ | none => _) m'
  cases P.toTables.info? t <;> rfl

theorem within_load (a : Addr) : Within P a.block (load a) := by
  intro m m' e
  simp only [load, qev, Mem.cell, e]

theorem add_block (a : Addr) (n : Nat) : (a.add n).block = a.block := by unfold Addr.add; split <;> rfl

theorem within_cells (a : Addr) : ∀ (n i : Nat) (acc : Array Value), Within P a.block (loadCellsFrom a i n acc)
  | 0, _, _ => Within.pure _
  | n + 1, i, acc => by
    unfold loadCellsFrom
    refine Within.bind ?_ fun r => within_cells a n _ _
    have := within_load (P := P) (a.add i)
    rw [add_block] at this; exact this

theorem within_loadVar (t : TypeId) (a : Addr) : Within P a.block (loadVar t a) := by
  unfold loadVar
  refine Within.bind ?_ fun r => ?_
  · unfold isAgg
    refine Within.bind (within_underlying _ _) fun r => ?_
    split <;> exact Within.pure _
  · split
    · exact Within.bind (within_size _ _) fun r => Within.bind (within_cells a _ _ _) fun r => Within.pure _
    · exact within_load a

theorem wev_stores {a : Addr} : ∀ (vs : List Value) (i : Nat) {m m' : Mem} {u : Unit}, wev P (storeCells a vs i) m = some (u, m') → ∀ k, k ≠ a.block → m' k = m k
  | [], _, m, m', u, h, k, _ => by
    simp only [storeCells] at h
    cases h; rfl
  | v :: vs, i, m, m', u, h, k, hk => by
    simp only [storeCells] at h
    rw [wev_bind'] at h
    simp only [store, wev] at h
    split at h
    · split at h
      · simp only [Option.bind_some] at h
        rw [wev_stores vs (i + 1) h k hk]
        simp only [Mem.set, add_block]
        rw [if_neg hk]
      · cases h
    · cases h

theorem wev_storeAt {t : TypeId} {p v : Value} {m m' : Mem} {u : Unit} (h : wev P (Instr.storeAt t p v) m = some (u, m')) : ∃ b, blockOf p = some b ∧ ∀ k, k ≠ b → m' k = m k := by
  unfold Instr.storeAt at h
  rw [wev_bind'] at h
  have hp : ∃ a, p = .pointer (some a) := by
    cases p <;> first | (simp [Instr.sureAddr, stuck, wev] at h; done) | skip
    rename_i a
    cases a with
    | none => simp [Instr.sureAddr, stuck, wev] at h
    | some a => exact ⟨a, rfl⟩
  obtain ⟨a, rfl⟩ := hp
  refine ⟨a.block, rfl, fun k hk => ?_⟩
  have hs : wev P (Instr.sureAddr (.pointer (some a))) m = some (a, m) := rfl
  rw [hs] at h
  simp only [Option.bind_some] at h
  unfold storeVar at h
  rw [wev_bind'] at h
  have hz : ∀ r, wev P (sizeOf t) m = some r → r.2 = m := by
    intro r hr
    unfold sizeOf typeInfo at hr
    simp only [wev_bind'] at hr
    have e : wev P program m = some (P, m) := rfl
    rw [e] at hr
    simp only [Option.bind_some] at hr
    cases hi : P.toTables.info? t with
    | none => rw [hi] at hr; simp [stuck, wev] at hr
    | some d => rw [hi] at hr; cases hr; rfl
  cases hn : wev P (sizeOf t) m with
  | none => rw [hn] at h; cases h
  | some r =>
    have e2 := hz r hn
    rw [hn] at h
    simp only [Option.bind_some, e2] at h
    split at h
    · rw [wev_bind'] at h
      simp [stuck, wev] at h
    · exact wev_stores _ _ h k hk

/-- of two such the one does not see the other. -/
def Apart (a : Act) (x y : Oper) : Prop :=
  ∃ t1 u1 v1 t2 u2, x.op = .store t1 u1 v1 ∧ y.op = .load t2 u2 ∧ ∀ b, blockOf (a.eval u1) = some b → blockOf (a.eval u2) ≠ some b

theorem apart_q {a : Act} {x y : Oper} (hap : Apart a x y) {m m' : Mem} {u : Next} (hw : wev P (execOp a.eval x) m = some (u, m')) : qev P (execOp a.eval y) m' = qev P (execOp a.eval y) m := by
  obtain ⟨t1, u1, v1, t2, u2, ex, ey, hb⟩ := hap
  simp only [execOp, ex, ey] at hw ⊢
  rw [wev_bind'] at hw
  cases hs : wev P (Instr.storeAt t1 (a.eval u1) (a.eval v1)) m with
  | none => rw [hs] at hw; cases hw
  | some r =>
    rw [hs] at hw
    simp only [Option.bind_some] at hw
    have hm : r.2 = m' := by cases hw; rfl
    obtain ⟨b, h1, h2⟩ := wev_storeAt (u := r.1) (m' := r.2) hs
    rw [hm] at h2
    have hne := hb b h1
    rw [qev_bind', qev_bind']
    unfold Instr.loadAt
    rw [qev_bind', qev_bind']
    cases hv : a.eval u2 <;> first | rfl | skip
    rename_i ad
    cases ad with
    | none => rfl
    | some ad =>
      rw [hv] at hne
      have hne' : ad.block ≠ b := fun e => hne (by simp [blockOf, e])
      have hs2 : ∀ m, qev P (Instr.sureAddr (.pointer (some ad))) m = some ad := fun _ => rfl
      rw [hs2, hs2]
      simp only [Option.bind_some]
      rw [within_loadVar t2 ad m' m (h2 _ hne')]
      cases qev P (loadVar t2 ad) m <;> rfl

def indep (P : Program) (ap : Bool) (ops : Array Oper) (x y : Oper) : Bool :=
  okOp x.op && okOp y.op && (!clash P x.op y.op || ap) && off ops x.dst y && off ops y.dst x && (match x.dst with | none => true | some t => y.dst != some t)

def Apart2 (ap : Bool) (a : Act) (x y : Oper) : Prop := ap = true → Apart a x y ∨ Apart a y x

theorem apart_cls {a : Act} {x y : Oper} (h : Apart a x y) : cls x.op = .st ∧ cls y.op = .q := by
  obtain ⟨t1, u1, v1, t2, u2, ex, ey, _⟩ := h
  rw [ex, ey]; exact ⟨rfl, rfl⟩

theorem st_q {ap : Bool} {a : Act} {x y : Oper} (hc : clash P x.op y.op = false ∨ ap = true) (hap : Apart2 ap a x y) (hx : cls x.op = .st) (hy : cls y.op = .q) {m m' : Mem} {u : Next}
    (hw : wev P (execOp a.eval x) m = some (u, m')) : qev P (execOp a.eval y) m' = qev P (execOp a.eval y) m := by
  rcases hc with hc | hc
  · simp only [clash, hx, hy, Bool.not_eq_eq_eq_not, Bool.not_false] at hc
    exact free_qev hc _ _
  · rcases hap hc with h | h
    · exact apart_q h hw
    · have := apart_cls h
      rw [hx] at this; cases this.2

theorem clash_comm (x y : Op) : clash P x y = clash P y x := by unfold clash; cases cls x <;> cases cls y <;> rfl

theorem fresh_from {m : Mem} (hm : m.fin) (n : Nat) : ∃ b, n ≤ b ∧ m b = none := by
  obtain ⟨N, hN⟩ := hm
  exact ⟨n + N, by omega, hN _ (by omega)⟩

theorem opD_comm {ap : Bool} {ops : Array Oper} {x y : Oper} (hi : indep P ap ops x y = true) {K : Act → Mem → Prop} {a : Act} (hap : Apart2 ap a x y) {m : Mem} (hm : m.fin)
    (h : opD P w0 Γ .no x (opD P w0 Γ .no y K) a m) : opD P w0 Γ .no y (opD P w0 Γ .no x K) a m := by
  simp only [indep, Bool.and_eq_true, Bool.or_eq_true, Bool.not_eq_true'] at hi
  obtain ⟨⟨⟨⟨⟨okx, oky⟩, hc⟩, hxy⟩, hyx⟩, hd⟩ := hi
  have hput : ∀ (u v : Value), (a.put x.dst u).put y.dst v = (a.put y.dst v).put x.dst u := fun u v => put_comm fun t ht => by
    rw [ht] at hd; simpa using hd
  have ex : ∀ v, execOp (a.put y.dst v).eval x = execOp a.eval x := fun v => off_exec okx hyx
  have ey : ∀ v, execOp (a.put x.dst v).eval y = execOp a.eval y := fun v => off_exec oky hxy
  have hc' : clash P y.op x.op = false ∨ ap = true := by rw [clash_comm]; exact hc
  have hap' : Apart2 ap a y x := fun h => (hap h).symm
  unfold opD at h ⊢
  cases hx : cls x.op <;> cases hy : cls y.op <;> simp only [hx, hy] at h ⊢
  · -- q q
    obtain ⟨r, hr, h⟩ := h
    rw [uponD_res] at h
    simp only [ey, uponD_res] at h
    obtain ⟨v, s, hs, _⟩ := resD_some h
    refine ⟨s, hs, ?_⟩
    rw [uponD_res]
    simp only [ex, uponD_res]
    have h' : resD P Γ (fun v => resD P Γ (fun u => K ((a.put x.dst v).put y.dst u) m) s) r := resD_mono (fun v hv => by
      obtain ⟨s', hs', h2⟩ := hv
      rw [hs] at hs'; cases hs'; exact h2) h
    refine resD_mono (fun u hu => ⟨r, hr, ?_⟩) (resD_swap h')
    simpa only [hput] using hu
  · -- q al
    obtain ⟨r, hr, h⟩ := h
    rw [uponD_res] at h
    simp only [ey] at h
    obtain ⟨v0, c, t, k, ha, hb0⟩ := resD_some h
    refine ⟨c, t, k, ha, fun b hb hB => ?_⟩
    obtain ⟨u, hu, _⟩ := hb0 b hb hB
    refine ⟨u, hu, r, ?_, ?_⟩
    · rw [ex]; exact qev_add _ _ hb hr
    · rw [uponD_res]
      refine resD_mono (fun v hv => ?_) h
      obtain ⟨c', t', k', ha', hb'⟩ := hv
      rw [ha] at ha'; cases ha'
      obtain ⟨u', hu', hK⟩ := hb' b hb hB
      rw [hu] at hu'; cases hu'
      rw [← hput]; exact hK
  · -- q st
    obtain ⟨r, hr, h⟩ := h
    rw [uponD_res] at h
    simp only [ey] at h
    obtain ⟨v0, m', hm', _⟩ := resD_some h
    refine ⟨m', hm', r, ?_, ?_⟩
    · rw [ex, st_q hc' hap' hy hx hm']; exact hr
    · rw [uponD_res]
      refine resD_mono (fun v hv => ?_) h
      obtain ⟨m2, hm2, hK⟩ := hv
      rw [hm'] at hm2; cases hm2
      rw [← hput]; exact hK
  · -- al q
    obtain ⟨c, t, k, ha, h⟩ := h
    simp only [ey] at h
    obtain ⟨N, hN⟩ := qev_far (P := P) (execOp a.eval y) m
    obtain ⟨b0, hb0, hf0⟩ := fresh_from hm (N + w0.heap.size)
    obtain ⟨u0, hu0, s, hs, h0⟩ := h b0 hf0 (by omega)
    rw [hN b0 _ (by omega)] at hs
    refine ⟨s, hs, ?_⟩
    rw [uponD_res]
    have h' : resD P Γ (fun v => ∀ b, (m b = none ∧ w0.heap.size ≤ b) → ∃ u, nev P (k b) = some (.value u) ∧ K ((a.put x.dst u).put y.dst v) (m.add b ⟨c, t, true⟩)) s := by
      refine resD_all (i0 := b0) ⟨hf0, by omega⟩ fun b hb => ?_
      obtain ⟨u, hu, s', hs', h2⟩ := h b hb.1 hb.2
      rw [qev_add _ _ hb.1 hs] at hs'; cases hs'
      rw [uponD_res] at h2
      exact resD_mono (fun v hv => ⟨u, hu, hv⟩) h2
    refine resD_mono (fun v hv => ?_) h'
    refine ⟨c, t, k, by rw [ex]; exact ha, fun b hb hB => ?_⟩
    obtain ⟨u, hu, hK⟩ := hv b ⟨hb, hB⟩
    exact ⟨u, hu, by rw [← hput]; exact hK⟩
  · -- al al
    obtain ⟨c, t, k, ha, h⟩ := h
    simp only [ey] at h
    obtain ⟨b0, hb0, hf0⟩ := fresh_from hm w0.heap.size
    obtain ⟨_, _, c', t', k', ha', _⟩ := h b0 hf0 hb0
    refine ⟨c', t', k', ha', fun b2 hb2 hB2 => ?_⟩
    obtain ⟨b1, hb1, hf1⟩ := fresh_from hm (w0.heap.size + b2 + 1)
    have hu2 : ∃ u2, nev P (k' b2) = some (.value u2) := by
      obtain ⟨_, _, c3, t3, k3, ha3, h3⟩ := h b1 hf1 (by omega)
      rw [ha'] at ha3; cases ha3
      obtain ⟨u2, hu2, _⟩ := h3 b2 (by simp only [Mem.add]; rw [if_neg (by omega)]; exact hb2) hB2
      exact ⟨u2, hu2⟩
    obtain ⟨u2, hu2⟩ := hu2
    refine ⟨u2, hu2, c, t, k, by rw [ex]; exact ha, fun b hb hB => ?_⟩
    have hne : b2 ≠ b := by rintro rfl; simp [Mem.add] at hb
    have hbm : m b = none := by simp only [Mem.add] at hb; rw [if_neg (Ne.symm hne)] at hb; exact hb
    obtain ⟨u, hu, c3, t3, k3, ha3, h3⟩ := h b hbm hB
    rw [ha'] at ha3; cases ha3
    obtain ⟨u2', hu2', hK⟩ := h3 b2 (by simp only [Mem.add]; rw [if_neg hne]; exact hb2) hB2
    rw [hu2] at hu2'; cases hu2'
    refine ⟨u, hu, ?_⟩
    rw [← hput, Mem.add_comm _ hne]; exact hK
  · -- al st
    obtain ⟨c, t, k, ha, h⟩ := h
    simp only [ey] at h
    obtain ⟨N, hN⟩ := wev_far (P := P) (execOp a.eval y) m
    obtain ⟨b0, hb0, hf0⟩ := fresh_from hm (N + w0.heap.size)
    obtain ⟨u0, hu0, m2, hm2, _⟩ := h b0 hf0 (by omega)
    obtain ⟨m', hm'⟩ := hN b0 _ (by omega) hf0 _ _ hm2
    refine ⟨m', hm', c, t, k, by rw [ex]; exact ha, fun b hb hB => ?_⟩
    have hbm : m b = none := (wev_dom _ hm' b).1 hb
    obtain ⟨u, hu, m3, hm3, hK⟩ := h b hbm hB
    rw [(wev_add _ _ hbm hm').1] at hm3; cases hm3
    exact ⟨u, hu, by rw [← hput]; exact hK⟩
  · -- st q
    obtain ⟨m', hw, r, hr, h⟩ := h
    rw [ey, st_q hc hap hx hy hw] at hr
    refine ⟨r, hr, ?_⟩
    rw [uponD_res] at h ⊢
    refine resD_mono (fun v hv => ?_) h
    exact ⟨m', by rw [ex]; exact hw, by rw [← hput]; exact hv⟩
  · -- st al
    obtain ⟨m', hw, c, t, k, ha, h⟩ := h
    simp only [ey] at ha
    refine ⟨c, t, k, ha, fun b hb hB => ?_⟩
    obtain ⟨h1, h2⟩ := wev_add _ ⟨c, t, true⟩ hb hw
    obtain ⟨u, hu, hK⟩ := h b h2 hB
    exact ⟨u, hu, _, by rw [ex]; exact h1, by rw [← hput]; exact hK⟩
  · -- st st
    exfalso
    rcases hc with hc | hc
    · simp [clash, hx, hy] at hc
    · rcases hap hc with h | h
      · have := apart_cls h
        rw [hy] at this; cases this.2
      · have := apart_cls h
        rw [hx] at this; cases this.2

/-- there is a world of which this is known. -/
def Lives (w0 : World) (m : Mem) : Prop := ∃ w, Holds w0 m w

theorem Lives.fin {m : Mem} (h : Lives w0 m) : m.fin := let ⟨_, H⟩ := h; H.fin

theorem Lives.add {m : Mem} (h : Lives w0 m) {b : Nat} (hb : m b = none) (hB : w0.heap.size ≤ b) (c : Array Value) (t : TypeId) : Lives w0 (m.add b ⟨c, t, true⟩) := by
  obtain ⟨w, H⟩ := h
  have get : ∀ k, ((w.heap ++ Array.replicate (b + 1) (Obj.cells #[] 0)).setIfInBounds b (.cells c t))[k]? = if k = b then some (.cells c t) else if k < w.heap.size then w.heap[k]? else if k < w.heap.size + (b + 1) then some (.cells #[] 0) else none := by
    intro k
    rw [Array.getElem?_setIfInBounds]
    by_cases h1 : b = k
    · subst h1; simp; omega
    · rw [if_neg h1, if_neg (Ne.symm h1), Array.getElem?_append]
      split
      · rfl
      · rw [Array.getElem?_replicate]
        split <;> split <;> first | rfl | omega
  refine ⟨{ w with heap := (w.heap ++ Array.replicate (b + 1) (Obj.cells #[] 0)).setIfInBounds b (.cells c t) }, ⟨⟨?_, fun a ha => ?_⟩, H.j, fun k x hx => ?_⟩⟩
  · refine ⟨H.sm.1.os, H.sm.1.tape, H.sm.1.output, ?_, fun k hk => ?_⟩
    · have := H.sm.1.size; simp; omega
    · have h2 := H.sm.1.size
      show ((w.heap ++ Array.replicate (b + 1) (Obj.cells #[] 0)).setIfInBounds b (.cells c t))[k]? = _
      rw [get, if_neg (by omega), if_pos (by omega)]
      exact H.sm.1.block k hk
  · have h3 := H.sm.2 a ha
    simp only [World.frozen?] at h3 ⊢
    rw [get]
    by_cases h1 : a.block = b
    · rw [if_pos h1]; simp
    · rw [if_neg h1]
      by_cases h2 : a.block < w.heap.size
      · rw [if_pos h2]; exact h3
      · rw [if_neg h2]
        by_cases h4 : a.block < w.heap.size + (b + 1)
        · rw [if_pos h4]; simp
        · rw [if_neg h4]
  · simp only [Mem.add] at hx
    show ∃ fr cs ty, ((w.heap ++ Array.replicate (b + 1) (Obj.cells #[] 0)).setIfInBounds b (.cells c t))[k]? = _ ∧ _
    rw [get]
    split at hx
    · rename_i e; subst e
      cases hx
      exact ⟨(0, 0), c, t, by simp, fun _ _ e => e, fun _ => ⟨rfl, hB⟩⟩
    · rename_i e
      obtain ⟨fr, cs, ty, h1, h2⟩ := H.blk k x hx
      exact ⟨fr, cs, ty, by rw [if_neg e, if_pos (H.size hx)]; exact h1, h2⟩

theorem opD_fin {g : Lv} {o : Oper} {K : Act → Mem → Prop} {a : Act} {m : Mem} (hm : Lives w0 m) (h : opD P w0 Γ g o K a m) : opD P w0 Γ g o (fun a m => Lives w0 m ∧ K a m) a m := by
  unfold opD at h ⊢
  split at h
  · obtain ⟨r, h1, h2⟩ := h
    refine ⟨r, h1, ?_⟩
    cases r <;> first | exact ⟨hm, h2⟩ | exact h2.elim | skip
    rcases h2 with ⟨h3, h4⟩ | ⟨h3, h4⟩ | ⟨h3, h4⟩
    · exact Or.inl ⟨h3, fun v hv => ⟨hm, h4 v hv⟩⟩
    · refine Or.inr (Or.inl ⟨h3, fun w H => (h4 w H).mono ?_⟩)
      rintro e w' ⟨v, m', h5, h6, h7⟩
      exact ⟨v, m', h5, h6, ⟨_, h6⟩, h7⟩
    · refine Or.inr (Or.inr ⟨h3, fun w H => (h4 w H).mono ?_⟩)
      rintro e w' ⟨v, h5, h6, h7⟩
      exact ⟨v, h5, ⟨hm, h6⟩, h7⟩
  · obtain ⟨c, t, k, h1, h2⟩ := h
    exact ⟨c, t, k, h1, fun b hb hB => let ⟨v, h3, h4⟩ := h2 b hb hB; ⟨v, h3, hm.add hb hB c t, h4⟩⟩
  · obtain ⟨m', h1, h2⟩ := h
    obtain ⟨w, H⟩ := hm
    obtain ⟨w', _, H'⟩ := wev_run _ h1 H
    exact ⟨m', h1, ⟨w', H'⟩, h2⟩

theorem stepD_fin {g : Lv} {ops : Array Oper} {o : Oper} {K : Act → Mem → Prop} {a : Act} {m : Mem} (hm : Lives w0 m) (h : stepD P w0 Γ g ops o K a m) : stepD P w0 Γ g ops o (fun a m => Lives w0 m ∧ K a m) a m := by
  unfold stepD at *
  split
  · rename_i hw; rw [if_pos hw] at h; exact opD_fin hm h
  · rename_i hw; rw [if_neg hw] at h; exact ⟨hm, h⟩

/-- what an operation's own step leaves in the slots: but for its own, they are as they were. -/
theorem opD_put {g : Lv} {o : Oper} {K : Act → Mem → Prop} {a : Act} {m : Mem} (h : opD P w0 Γ g o K a m) : opD P w0 Γ g o (fun a' m' => (∃ v, a' = a.put o.dst v) ∧ K a' m') a m := by
  unfold opD at h ⊢
  split at h
  · obtain ⟨r, h1, h2⟩ := h
    refine ⟨r, h1, ?_⟩
    cases r <;> first | exact ⟨⟨_, rfl⟩, h2⟩ | exact h2.elim | skip
    rcases h2 with ⟨h3, h4⟩ | ⟨h3, h4⟩ | ⟨h3, h4⟩
    · exact Or.inl ⟨h3, fun v hv => ⟨⟨v, rfl⟩, h4 v hv⟩⟩
    · refine Or.inr (Or.inl ⟨h3, fun w H => (h4 w H).mono ?_⟩)
      rintro e w' ⟨v, m', h5, h6, h7⟩
      exact ⟨v, m', h5, h6, ⟨v, rfl⟩, h7⟩
    · refine Or.inr (Or.inr ⟨h3, fun w H => (h4 w H).mono ?_⟩)
      rintro e w' ⟨v, h5, h6, h7⟩
      exact ⟨v, h5, ⟨⟨v, rfl⟩, h6⟩, h7⟩
  · obtain ⟨c, t, k, h1, h2⟩ := h
    exact ⟨c, t, k, h1, fun b hb hB => let ⟨v, h3, h4⟩ := h2 b hb hB; ⟨v, h3, ⟨v, rfl⟩, h4⟩⟩
  · obtain ⟨m', h1, h2⟩ := h
    exact ⟨m', h1, ⟨_, rfl⟩, h2⟩

/-- an operation that is passed over: its slot holds nothing; the other one's step goes by it. -/
theorem opD_past {g : Lv} {ops : Array Oper} {y : Oper} {d : Option Tmp} {u : Value} (ok : okOp y.op = true) (ho : off ops d y = true) (hd : ∀ t, d = some t → y.dst ≠ some t) {K : Act → Mem → Prop} {a : Act} {m : Mem} :
    opD P w0 Γ g y K (a.put d u) m ↔ opD P w0 Γ g y (fun a' m' => K (a'.put d u) m') a m := by
  have ey : ∀ v, execOp (a.put d v).eval y = execOp a.eval y := fun v => off_exec ok ho
  have hput : ∀ v, (a.put d u).put y.dst v = (a.put y.dst v).put d u := fun v => put_comm hd
  have hu : ∀ r, uponD P w0 Γ g y.dst K (a.put d u) m r ↔ uponD P w0 Γ g y.dst (fun a' m' => K (a'.put d u) m') a m r := by
    intro r
    cases r <;> simp only [uponD, hput]
  unfold opD
  cases cls y.op <;> simp only [ey, hput]
  exact exists_congr fun r => and_congr_right fun _ => hu r

/-- what makes a block goes ahead of a call that turns nothing. -/
theorem opD_comm_al {g : Lv} {ap : Bool} {ops : Array Oper} {x y : Oper} (hi : indep P ap ops x y = true) (hgx : g ≠ .all) (hx : cls x.op = .q) (hy : cls y.op = .al) {K : Act → Mem → Prop} {a : Act} {m : Mem} (hm : Lives w0 m)
    (h : opD P w0 Γ g x (opD P w0 Γ .no y K) a m) : opD P w0 Γ .no y (opD P w0 Γ g x K) a m := by
  simp only [indep, Bool.and_eq_true, Bool.or_eq_true, Bool.not_eq_true'] at hi
  obtain ⟨⟨⟨⟨⟨okx, oky⟩, hc⟩, hxy⟩, hyx⟩, hd⟩ := hi
  have hput : ∀ (u v : Value), (a.put x.dst u).put y.dst v = (a.put y.dst v).put x.dst u := fun u v => put_comm fun t ht => by
    rw [ht] at hd; simpa using hd
  have ex : ∀ v, execOp (a.put y.dst v).eval x = execOp a.eval x := fun v => off_exec okx hyx
  have ey : ∀ v, execOp (a.put x.dst v).eval y = execOp a.eval y := fun v => off_exec oky hxy
  unfold opD at h ⊢
  rw [hx] at h ⊢
  rw [hy] at h ⊢
  dsimp only at h ⊢
  obtain ⟨r, hr, h⟩ := h
  -- what the block is made of is known: some result there is
  have key : ∃ c t k, aev P (execOp a.eval y) = some (c, t, k) ∧ ∀ b, m b = none → w0.heap.size ≤ b → ∃ v, nev P (k b) = some (.value v) := by
    have one : ∀ (v0 : Value), (∃ c t k, aev P (execOp (a.put x.dst v0).eval y) = some (c, t, k) ∧ ∀ b, m b = none → w0.heap.size ≤ b → ∃ v, nev P (k b) = some (.value v) ∧ K ((a.put x.dst v0).put y.dst v) (m.add b ⟨c, t, true⟩)) → ∃ c t k, aev P (execOp a.eval y) = some (c, t, k) ∧ ∀ b, m b = none → w0.heap.size ≤ b → ∃ v, nev P (k b) = some (.value v) := by
      rintro v0 ⟨c, t, k, ha, hb⟩
      rw [ey] at ha
      exact ⟨c, t, k, ha, fun b h1 h2 => let ⟨v, h3, _⟩ := hb b h1 h2; ⟨v, h3⟩⟩
    cases r <;> first | exact one _ h | exact h.elim | skip
    rcases h with ⟨hp, hf⟩ | ⟨hg, _⟩ | ⟨_, hp⟩
    · obtain ⟨e, w', fr, ⟨v, _, hv, _⟩, _⟩ := hp wJ wJ_ok []
      exact one v (hf v hv)
    · exact absurd hg hgx
    · obtain ⟨w, H⟩ := hm
      obtain ⟨e, w', fr, ⟨v, _, hv, _⟩, _⟩ := hp w H []
      exact one v hv
  obtain ⟨c, t, k, ha, hb0⟩ := key
  refine ⟨c, t, k, ha, fun b hb hB => ?_⟩
  obtain ⟨u, hu⟩ := hb0 b hb hB
  refine ⟨u, hu, r, ?_, ?_⟩
  · rw [ex]; exact qev_add _ _ hb hr
  · have two : ∀ v, (∃ c t k, aev P (execOp (a.put x.dst v).eval y) = some (c, t, k) ∧ ∀ b, m b = none → w0.heap.size ≤ b → ∃ v', nev P (k b) = some (.value v') ∧ K ((a.put x.dst v).put y.dst v') (m.add b ⟨c, t, true⟩)) → K ((a.put y.dst u).put x.dst v) (m.add b ⟨c, t, true⟩) := by
      rintro v ⟨c', t', k', ha', hb'⟩
      rw [ey, ha] at ha'; cases ha'
      obtain ⟨u', hu', hK⟩ := hb' b hb hB
      rw [hu] at hu'; cases hu'
      rw [← hput]; exact hK
    cases r <;> first | exact two _ h | exact h.elim | skip
    rcases h with ⟨hp, hf⟩ | ⟨hg, _⟩ | ⟨hn, hp⟩
    · exact Or.inl ⟨hp, fun v hv => two v (hf v hv)⟩
    · exact absurd hg hgx
    · refine Or.inr (Or.inr ⟨hn, fun w H => (hp w ⟨H.sm, H.j, fun k x hk => H.blk k x (by simp only [Mem.add]; rw [if_neg (by rintro rfl; rw [hb] at hk; cases hk)]; exact hk)⟩).mono ?_⟩)
      rintro e w' ⟨v, h5, h6, h7⟩
      exact ⟨v, h5, two v h6, h7⟩

/-- an operation that tells a value, and calls nothing. -/
def plainQ : Op → Bool
  | .move _ | .assign _ | .binOp .. | .load .. | .fieldAddr .. | .indexAddr .. | .index .. | .convert .. | .extract .. | .pick .. => true
  | _ => false

theorem plainQ_cls {o : Op} (h : plainQ o = true) : cls o = .q := by
  cases o <;> first | rfl | cases h

theorem plainQ_val {ρ : Operand → Value} {o : Oper} (h : plainQ o.op = true) {m : Mem} {r : Next} (hr : qev P (execOp ρ o) m = some r) : ∃ v, r = .value v := by
  obtain ⟨dst, op, ty, pos, after, guard⟩ := o
  have key : ∀ {s : Sem Value}, qev P (do pure (Next.value (← s))) m = some r → ∃ v, r = .value v := by
    intro s h
    rw [qev_bind'] at h
    cases hs : qev P s m with
    | none => rw [hs] at h; cases h
    | some x => rw [hs] at h; cases h; exact ⟨x, rfl⟩
  cases op <;> first | (cases h; done) | skip
  case move x => cases hr; exact ⟨_, rfl⟩
  case assign x => cases hr; exact ⟨_, rfl⟩
  case pick c x y =>
    simp only [execOp] at hr
    rw [qev_bind'] at hr
    cases hs : qev P (asBool (ρ c)) m with
    | none => rw [hs] at hr; cases hr
    | some x => rw [hs] at hr; cases hr; exact ⟨_, rfl⟩
  all_goals exact key hr

/-- an operation that tells a value and one that calls, which turns nothing: in either order. -/
theorem opD_comm_pl {gx gy : Lv} {ap : Bool} {ops : Array Oper} {x y : Oper} (hi : indep P ap ops x y = true) (hgx : gx ≠ .all) (hgy : gy ≠ .all) (hx : cls x.op = .q) (hy : cls y.op = .q) (hp : plainQ x.op = true ∨ plainQ y.op = true)
    {K : Act → Mem → Prop} {a : Act} {m : Mem} (hm : Lives w0 m)
    (h : opD P w0 Γ gx x (opD P w0 Γ gy y K) a m) : opD P w0 Γ gy y (opD P w0 Γ gx x K) a m := by
  simp only [indep, Bool.and_eq_true, Bool.or_eq_true, Bool.not_eq_true'] at hi
  obtain ⟨⟨⟨⟨⟨okx, oky⟩, hc⟩, hxy⟩, hyx⟩, hd⟩ := hi
  have hput : ∀ (u v : Value), (a.put x.dst u).put y.dst v = (a.put y.dst v).put x.dst u := fun u v => put_comm fun t ht => by
    rw [ht] at hd; simpa using hd
  have ex : ∀ v, execOp (a.put y.dst v).eval x = execOp a.eval x := fun v => off_exec okx hyx
  have ey : ∀ v, execOp (a.put x.dst v).eval y = execOp a.eval y := fun v => off_exec oky hxy
  unfold opD at h ⊢
  rw [hx] at h ⊢
  rw [hy] at h ⊢
  dsimp only at h ⊢
  obtain ⟨r, hr, h⟩ := h
  rcases hp with hp | hp
  · obtain ⟨v, rfl⟩ := plainQ_val hp hr
    obtain ⟨s, hs, h⟩ := h
    rw [ey] at hs
    refine ⟨s, hs, ?_⟩
    have one : ∀ u, K ((a.put x.dst v).put y.dst u) m → ∃ r, qev P (execOp (a.put y.dst u).eval x) m = some r ∧ uponD P w0 Γ gx x.dst K (a.put y.dst u) m r := fun u hu => ⟨_, by rw [ex]; exact hr, by rw [hput] at hu; exact hu⟩
    cases s <;> first | exact one _ h | exact h.elim | skip
    rcases h with ⟨h1, h2⟩ | ⟨h1, h2⟩ | ⟨h1, h2⟩
    · exact Or.inl ⟨h1, fun v hv => one _ (h2 v hv)⟩
    · exact absurd h1 hgy
    · refine Or.inr (Or.inr ⟨h1, fun w H => (h2 w H).mono ?_⟩)
      rintro e w' ⟨v', h3, h4, h5⟩
      exact ⟨v', h3, one _ h4, h5⟩
  · have key : ∃ u, qev P (execOp a.eval y) m = some (.value u) := by
      have one : ∀ v0, (∃ s, qev P (execOp (a.put x.dst v0).eval y) m = some s ∧ uponD P w0 Γ gy y.dst K (a.put x.dst v0) m s) → ∃ u, qev P (execOp a.eval y) m = some (.value u) := by
        rintro v0 ⟨s, hs, _⟩
        rw [ey] at hs
        obtain ⟨u, rfl⟩ := plainQ_val hp hs
        exact ⟨u, hs⟩
      cases r <;> first | exact one _ h | exact h.elim | skip
      rcases h with ⟨hp, hf⟩ | ⟨hg, _⟩ | ⟨_, hp⟩
      · obtain ⟨e, w', fr, ⟨v, _, hv, _⟩, _⟩ := hp wJ wJ_ok []
        exact one v (hf v hv)
      · exact absurd hg hgx
      · obtain ⟨w, H⟩ := hm
        obtain ⟨e, w', fr, ⟨v, _, hv, _⟩, _⟩ := hp w H []
        exact one v hv
    obtain ⟨u, hu⟩ := key
    refine ⟨_, hu, r, by rw [ex]; exact hr, ?_⟩
    have two : ∀ v, (∃ s, qev P (execOp (a.put x.dst v).eval y) m = some s ∧ uponD P w0 Γ gy y.dst K (a.put x.dst v) m s) → K ((a.put y.dst u).put x.dst v) m := by
      rintro v ⟨s, hs, h⟩
      rw [ey, hu] at hs; cases hs
      rw [← hput]; exact h
    cases r <;> first | exact two _ h | exact h.elim | skip
    rcases h with ⟨hp, hf⟩ | ⟨hg, _⟩ | ⟨hn, hp⟩
    · exact Or.inl ⟨hp, fun v hv => two v (hf v hv)⟩
    · exact absurd hg hgx
    · refine Or.inr (Or.inr ⟨hn, fun w H => (hp w H).mono ?_⟩)
      rintro e w' ⟨v, h5, h6, h7⟩
      exact ⟨v, h5, two v h6, h7⟩

theorem stepD_comm' {gx gy : Lv} {ap : Bool} {ops : Array Oper} {x y : Oper} (hi : indep P ap ops x y = true) {K : Act → Mem → Prop} {a : Act} {m : Mem}
    (hcomm : opD P w0 Γ gx x (opD P w0 Γ gy y K) a m → opD P w0 Γ gy y (opD P w0 Γ gx x K) a m)
    (h : stepD P w0 Γ gx ops x (stepD P w0 Γ gy ops y K) a m) : stepD P w0 Γ gy ops y (stepD P w0 Γ gx ops x K) a m := by
  have hi' := hi
  simp only [indep, Bool.and_eq_true, Bool.or_eq_true, Bool.not_eq_true'] at hi'
  obtain ⟨⟨⟨⟨⟨okx, oky⟩, hc⟩, hxy⟩, hyx⟩, hd⟩ := hi'
  have hd1 : ∀ t, x.dst = some t → y.dst ≠ some t := fun t ht => by rw [ht] at hd; simpa using hd
  have hd2 : ∀ t, y.dst = some t → x.dst ≠ some t := fun t ht h => hd1 t h ht
  have wy : ∀ v, Region.wanted y (yielded ops (a.put x.dst v).tmps) = Region.wanted y (yielded ops a.tmps) := fun v => off_wanted hxy
  have wx : ∀ v, Region.wanted x (yielded ops (a.put y.dst v).tmps) = Region.wanted x (yielded ops a.tmps) := fun v => off_wanted hyx
  unfold stepD at h
  by_cases h1 : Region.wanted x (yielded ops a.tmps) = true
  · rw [if_pos h1] at h
    by_cases h2 : Region.wanted y (yielded ops a.tmps) = true
    · have h' : opD P w0 Γ gx x (opD P w0 Γ gy y K) a m := by
        refine opD_mono ?_ (opD_put h)
        rintro a' m' ⟨⟨v, rfl⟩, hk⟩
        rwa [wy, if_pos h2] at hk
      have h'' := hcomm h'
      unfold stepD
      rw [if_pos h2]
      refine opD_mono ?_ (opD_put h'')
      rintro a' m' ⟨⟨v, rfl⟩, hk⟩
      rw [wx, if_pos h1]; exact hk
    · have h' : opD P w0 Γ gx x (fun a' m' => K (a'.put y.dst undef) m') a m := by
        refine opD_mono ?_ (opD_put h)
        rintro a' m' ⟨⟨v, rfl⟩, hk⟩
        rwa [wy, if_neg h2] at hk
      unfold stepD
      rw [if_neg h2, wx, if_pos h1]
      exact (opD_past okx hyx hd2).2 h'
  · rw [if_neg h1] at h
    simp only [wy] at h
    unfold stepD
    by_cases h2 : Region.wanted y (yielded ops a.tmps) = true
    · rw [if_pos h2] at h ⊢
      have h' := (opD_past oky hxy hd1).1 h
      refine opD_mono ?_ (opD_put h')
      rintro a' m' ⟨⟨v, rfl⟩, hk⟩
      rw [wx, if_neg h1]; exact hk
    · rw [if_neg h2] at h ⊢
      rw [wx, if_neg h1, put_comm hd2]; exact h

theorem stepD_comm {ap : Bool} {ops : Array Oper} {x y : Oper} (hi : indep P ap ops x y = true) {K : Act → Mem → Prop} {a : Act} (hap : Apart2 ap a x y) {m : Mem} (hm : m.fin)
    (h : stepD P w0 Γ .no ops x (stepD P w0 Γ .no ops y K) a m) : stepD P w0 Γ .no ops y (stepD P w0 Γ .no ops x K) a m :=
  stepD_comm' hi (opD_comm hi hap hm) h

theorem stepD_comm_al {g : Lv} {ap : Bool} {ops : Array Oper} {x y : Oper} (hi : indep P ap ops x y = true) (hgx : g ≠ .all) (hx : cls x.op = .q) (hy : cls y.op = .al) {K : Act → Mem → Prop} {a : Act} {m : Mem} (hm : Lives w0 m)
    (h : stepD P w0 Γ g ops x (stepD P w0 Γ .no ops y K) a m) : stepD P w0 Γ .no ops y (stepD P w0 Γ g ops x K) a m :=
  stepD_comm' hi (opD_comm_al hi hgx hx hy hm) h

theorem stepD_comm_pl {gx gy : Lv} {ap : Bool} {ops : Array Oper} {x y : Oper} (hi : indep P ap ops x y = true) (hgx : gx ≠ .all) (hgy : gy ≠ .all) (hx : cls x.op = .q) (hy : cls y.op = .q) (hp : plainQ x.op = true ∨ plainQ y.op = true)
    {K : Act → Mem → Prop} {a : Act} {m : Mem} (hm : Lives w0 m) (h : stepD P w0 Γ gx ops x (stepD P w0 Γ gy ops y K) a m) : stepD P w0 Γ gy ops y (stepD P w0 Γ gx ops x K) a m :=
  stepD_comm' hi (opD_comm_pl hi hgx hgy hx hy hp hm) h

end Go.Proofs.YtogcbmadcgjljaaDoor.Sx
