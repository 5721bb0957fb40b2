/-
  A frame of our own for walks, part b: regions: each operation in the known memory; whatever order is drawn.
-/
import Derived.Test.YtogcbmadcgjljaaDoorSxa
namespace Go.Proofs.YtogcbmadcgjljaaDoor.Sx
open Go Go.RowKit

inductive Cls where
  | q | al | st

def cls : Op → Cls
  | .alloc _ | .box .. | .buildSlice .. | .makeSlice .. => .al
  | .store .. => .st
  | _ => .q

/-- what an operation may be, in a region whose order is drawn: none that are not ordered against it; only such as make a block, behind it; any. -/
inductive Lv where
  | no | near | all

section
variable (P : Program) (w0 : World) (Γ : FuncId → Array Value → Value → Prop) (g : Lv)

/-- a call that hangs on its arguments alone, and turns nothing. -/
def Pure (f : FuncId) (args : Array Value) (R : Value → Prop) : Prop :=
  ∀ w, J w → Calls P f args w fun e w' => ∃ v, e = .returned v ∧ R v ∧ Sm w w'

def Gen (f : FuncId) (args : Array Value) (m : Mem) (K : Value → Mem → Prop) : Prop :=
  ∀ w, Holds w0 m w → Calls P f args w fun e w' => ∃ v m', e = .returned v ∧ Holds w0 m' w' ∧ K v m'

/-- a call that reads what is known, and turns nothing. -/
def PureAt (f : FuncId) (args : Array Value) (m : Mem) (R : Value → Prop) : Prop :=
  ∀ w, Holds w0 m w → Calls P f args w fun e w' => ∃ v, e = .returned v ∧ R v ∧ Sm w w'

def uponD (dst : Option Tmp) (K : Act → Mem → Prop) (a : Act) (m : Mem) : Next → Prop
  | .value v => K (a.put dst v) m
  | .skip => K (a.put dst undef) m
  | .enter f args => (Pure P f args (Γ f args) ∧ ∀ v, Γ f args v → K (a.put dst v) m) ∨ (g = .all ∧ Gen P w0 f args m fun v m' => K (a.put dst v) m') ∨ (g ≠ .no ∧ PureAt P w0 f args m fun v => K (a.put dst v) m)
  | _ => False

def opD (o : Oper) (K : Act → Mem → Prop) (a : Act) (m : Mem) : Prop :=
  match cls o.op with
  | .q => ∃ r, qev P (execOp a.eval o) m = some r ∧ uponD P w0 Γ g o.dst K a m r
  | .al => ∃ c t k, aev P (execOp a.eval o) = some (c, t, k) ∧ ∀ b, m b = none → w0.heap.size ≤ b → ∃ v, nev P (k b) = some (.value v) ∧ K (a.put o.dst v) (m.add b ⟨c, t, true⟩)
  | .st => ∃ m', wev P (execOp a.eval o) m = some (.skip, m') ∧ K (a.put o.dst undef) m'

def stepD (ops : Array Oper) (o : Oper) (K : Act → Mem → Prop) (a : Act) (m : Mem) : Prop :=
  if Region.wanted o (yielded ops a.tmps) then opD P w0 Γ g o K a m else K (a.put o.dst undef) m

end

/-- g: which of them may be a call of whatever kind. -/
def opsD (P : Program) (w0 : World) (Γ : FuncId → Array Value → Value → Prop) (g : Nat → Lv) (ops : Array Oper) (K : Act → Mem → Prop) : List Nat → Act → Mem → Prop
  | [], a, m => K a m
  | i :: rest, a, m =>
    match ops[i]? with
    | none => opsD P w0 Γ g ops K rest a m
    | some o => stepD P w0 Γ (g i) ops o (opsD P w0 Γ g ops K rest) a m

variable {P : Program} {w0 : World} {Γ : FuncId → Array Value → Value → Prop} {g : Lv}

theorem opD_sound {o : Oper} {K : Act → Mem → Prop} {a : Act} {m : Mem} {next : Act → World → Prop} {Q : Exit → Act → World → Prop}
    (h : opD P w0 Γ g o K a m) (hk : ∀ a' m' w', Holds w0 m' w' → K a' m' → next a' w') {w : World} (H : Holds w0 m w) : o.wp P a w next Q := by
  unfold opD at h
  unfold Oper.wp
  split at h
  · obtain ⟨r, hr, hu⟩ := h
    rw [qev_run _ hr H]
    cases r <;> first | exact hk _ _ _ H hu | (exact hu.elim) | skip
    rename_i f args
    rcases hu with ⟨hp, hR⟩ | ⟨_, hg⟩ | ⟨_, hg⟩
    · refine (hp w (H.sm.j H.j)).mono ?_
      rintro e w' ⟨v, rfl, hv, hs⟩
      exact hk _ _ _ (H.sub hs) (hR v hv)
    · refine (hg w H).mono ?_
      rintro e w' ⟨v, m', rfl, H', hv⟩
      exact hk _ _ _ H' hv
    · refine (hg w H).mono ?_
      rintro e w' ⟨v, rfl, hv, hs⟩
      exact hk _ _ _ (H.sub hs) hv
  · obtain ⟨c, t, k, ha, hb⟩ := h
    rw [aev_run _ ha]
    obtain ⟨v, hn, hv⟩ := hb w.heap.size H.fresh H.sm.1.size
    rw [nev_run _ hn]
    exact hk _ _ _ (H.alloc c t) hv
  · obtain ⟨m', hw, hv⟩ := h
    obtain ⟨w', hr, H'⟩ := wev_run _ hw H
    rw [hr]
    exact hk _ _ _ H' hv

theorem opsD_sound {g : Nat → Lv} {ops : Array Oper} {K : Act → Mem → Prop} {Q : Exit → Act → World → Prop} (hk : ∀ a' m' w', Holds w0 m' w' → K a' m' → Q .normal a' w') :
    ∀ (l : List Nat) {a : Act} {m : Mem} {w : World}, opsD P w0 Γ g ops K l a m → Holds w0 m w → wpOps P ops Q l a w
  | [], _, _, _, h, H => hk _ _ _ H h
  | i :: rest, a, m, w, h, H => by
    simp only [opsD] at h
    simp only [wpOps]
    cases ho : ops[i]? with
    | none => simp only [ho] at h; exact opsD_sound hk rest h H
    | some o =>
      simp only [ho, stepD] at h
      dsimp only
      split
      · rename_i hw
        rw [if_pos hw] at h
        exact Or.inl (opD_sound h (fun a' m' w' H' h' => opsD_sound hk rest h' H') H)
      · rename_i hw
        rw [if_neg hw] at h
        exact opsD_sound hk rest h H

theorem wp_region_D {g : Nat → Lv} {id : Nat} {ops : Array Oper} {K : Act → Mem → Prop} {Q : Exit → Act → World → Prop} {a : Act} {m : Mem} {w : World}
    (hk : ∀ a' m' w', Holds w0 m' w' → K a' m' → Q .normal a' w') (h : opsD P w0 Γ g ops K (List.range ops.size) a m) (H : Holds w0 m w) :
    (Code.region id ops false).wp P Q a w := wp_region (opsD_sound hk _ h H)

/-! ### monotone -/
theorem uponD_mono {dst : Option Tmp} {K K' : Act → Mem → Prop} {a : Act} {m : Mem} (hk : ∀ a m, K a m → K' a m) : ∀ {r : Next}, uponD P w0 Γ g dst K a m r → uponD P w0 Γ g dst K' a m r := by
  intro r h
  cases r <;> first | exact hk _ _ h | exact h.elim | skip
  rcases h with ⟨h1, h2⟩ | ⟨h1, h2⟩ | ⟨h1, h2⟩
  · exact Or.inl ⟨h1, fun v hv => hk _ _ (h2 v hv)⟩
  · refine Or.inr (Or.inl ⟨h1, fun w H => (h2 w H).mono ?_⟩)
    rintro e w' ⟨v, m', h3, h4, h5⟩
    exact ⟨v, m', h3, h4, hk _ _ h5⟩
  · refine Or.inr (Or.inr ⟨h1, fun w H => (h2 w H).mono ?_⟩)
    rintro e w' ⟨v, h3, h4, h5⟩
    exact ⟨v, h3, hk _ _ h4, h5⟩

theorem opD_mono {o : Oper} {K K' : Act → Mem → Prop} {a : Act} {m : Mem} (hk : ∀ a m, K a m → K' a m) (h : opD P w0 Γ g o K a m) : opD P w0 Γ g o K' a m := by
  unfold opD at *
  split at h
  · obtain ⟨r, h1, h2⟩ := h; exact ⟨r, h1, uponD_mono hk h2⟩
  · obtain ⟨c, t, k, h1, h2⟩ := h
    exact ⟨c, t, k, h1, fun b hb hB => let ⟨v, h3, h4⟩ := h2 b hb hB; ⟨v, h3, hk _ _ h4⟩⟩
  · obtain ⟨m', h1, h2⟩ := h; exact ⟨m', h1, hk _ _ h2⟩

theorem stepD_mono {ops : Array Oper} {o : Oper} {K K' : Act → Mem → Prop} {a : Act} {m : Mem} (hk : ∀ a m, K a m → K' a m) (h : stepD P w0 Γ g ops o K a m) : stepD P w0 Γ g ops o K' a m := by
  unfold stepD at *
  split
  · rename_i hw; rw [if_pos hw] at h; exact opD_mono hk h
  · rename_i hw; rw [if_neg hw] at h; exact hk _ _ h

/-! ### the same but for memory that is met later -/
theorem qev_far {α : Type} (s : Sem α) : ∀ (m : Mem), ∃ N, ∀ b x, N ≤ b → qev P s (m.add b x) = qev P s m := by
  induction s with
  | pure a => intro m; exact ⟨0, fun _ _ _ => rfl⟩
  | load md a k ih =>
    intro m
    cases hc : m.cell a with
    | none =>
      refine ⟨a.block + 1, fun b x hb => ?_⟩
      have : (m.add b x).cell a = none := by rw [← hc]; simp only [Mem.cell, Mem.add]; rw [if_neg (by omega)]
      simp only [qev, this, hc]
    | some v =>
      obtain ⟨N, hN⟩ := ih v m
      refine ⟨N + a.block + 1, fun b x hb => ?_⟩
      have : (m.add b x).cell a = some v := by rw [← hc]; simp only [Mem.cell, Mem.add]; rw [if_neg (by omega)]
      simp only [qev, this, hc]
      exact hN b x (by omega)
  | program k ih => intro m; exact ih P m
  | mark mk k ih => intro m; exact ih m
  | _ => intro m; exact ⟨0, fun _ _ _ => rfl⟩

theorem Mem.cell_add {m : Mem} {a : Addr} {v : Value} {b : Nat} (x : Blk) (hb : m b = none) (h : m.cell a = some v) : (m.add b x).cell a = some v := by
  rw [← h]
  simp only [Mem.cell, Mem.add]
  by_cases e : a.block = b
  · simp [Mem.cell, e, hb] at h
  · rw [if_neg e]

theorem qev_add {α : Type} (s : Sem α) : ∀ {m : Mem} {r : α} {b : Nat} (x : Blk), m b = none → qev P s m = some r → qev P s (m.add b x) = some r := by
  induction s with
  | pure a => intro m r b x _ h; exact h
  | load md a k ih =>
    intro m r b x hb h
    simp only [qev] at h ⊢
    split at h
    · rename_i v hv
      rw [Mem.cell_add x hb hv]
      exact ih v x hb h
    · cases h
  | program k ih => intro m r b x hb h; exact ih P x hb h
  | mark mk k ih => intro m r b x hb h; exact ih x hb h
  | _ => intro m r b x _ h; cases h

theorem Mem.set_add {m : Mem} {b : Nat} {x : Blk} {a : Addr} {v : Value} (hb : a.block ≠ b) : (m.add b x).set a v = (m.set a v).add b x := by
  funext k
  simp only [Mem.set, Mem.add]
  by_cases h : k = b
  · subst h; simp [Ne.symm hb]
  · simp [h]

theorem Mem.set_none {m : Mem} {b : Nat} {a : Addr} {v : Value} : (m.set a v) b = none ↔ m b = none := by
  simp only [Mem.set]; split <;> simp

theorem wev_add {α : Type} (s : Sem α) : ∀ {m m' : Mem} {r : α} {b : Nat} (x : Blk), m b = none → wev P s m = some (r, m') → wev P s (m.add b x) = some (r, m'.add b x) ∧ m' b = none := by
  induction s with
  | pure a => intro m m' r b x hb h; cases h; exact ⟨rfl, hb⟩
  | load md a k ih =>
    intro m m' r b x hb h
    simp only [wev] at h ⊢
    split at h
    · rename_i v hv
      rw [Mem.cell_add x hb hv]
      exact ih v x hb h
    · cases h
  | store md a v k ih =>
    intro m m' r b x hb h
    simp only [wev] at h ⊢
    split at h
    · rename_i y hy
      have hne : a.block ≠ b := by rintro e; rw [e, hb] at hy; cases hy
      have : (m.add b x) a.block = some y := by simp only [Mem.add]; rw [if_neg hne]; exact hy
      simp only [this]
      split at h
      · rename_i hc
        simp only [hc, if_true]
        rw [Mem.set_add hne]
        exact ih x (Mem.set_none.2 hb) h
      · cases h
    · cases h
  | program k ih => intro m m' r b x hb h; exact ih P x hb h
  | mark mk k ih => intro m m' r b x hb h; exact ih x hb h
  | _ => intro m m' r b x _ h; cases h

theorem wev_dom {α : Type} (s : Sem α) : ∀ {m m' : Mem} {r : α}, wev P s m = some (r, m') → ∀ b, m' b = none ↔ m b = none := by
  induction s with
  | pure a => intro m m' r h b; cases h; exact Iff.rfl
  | load md a k ih =>
    intro m m' r h b
    simp only [wev] at h
    split at h
    · exact ih _ h b
    · cases h
  | store md a v k ih =>
    intro m m' r h b
    simp only [wev] at h
    split at h
    · split at h
      · exact (ih h b).trans Mem.set_none
      · cases h
    · cases h
  | program k ih => intro m m' r h b; exact ih P h b
  | mark mk k ih => intro m m' r h b; exact ih h b
  | _ => intro m m' r h; cases h

theorem wev_far {α : Type} (s : Sem α) : ∀ (m : Mem), ∃ N, ∀ b x, N ≤ b → m b = none → ∀ r m'', wev P s (m.add b x) = some (r, m'') → ∃ m', wev P s m = some (r, m') := by
  induction s with
  | pure a => intro m; exact ⟨0, fun b x _ _ r m'' h => by cases h; exact ⟨m, rfl⟩⟩
  | load md a k ih =>
    intro m
    cases hc : m.cell a with
    | none =>
      refine ⟨a.block + 1, fun b x hb _ r m'' h => ?_⟩
      have : (m.add b x).cell a = none := by rw [← hc]; simp only [Mem.cell, Mem.add]; rw [if_neg (by omega)]
      simp only [wev, this] at h
      cases h
    | some v =>
      obtain ⟨N, hN⟩ := ih v m
      refine ⟨N + a.block + 1, fun b x hb hm r m'' h => ?_⟩
      have : (m.add b x).cell a = some v := by rw [← hc]; simp only [Mem.cell, Mem.add]; rw [if_neg (by omega)]
      simp only [wev, this] at h
      simp only [wev, hc]
      exact hN b x (by omega) hm r m'' h
  | store md a v k ih =>
    intro m
    obtain ⟨N, hN⟩ := ih (m.set a v)
    refine ⟨N + a.block + 1, fun b x hb hm r m'' h => ?_⟩
    have e : (m.add b x) a.block = m a.block := by simp only [Mem.add]; rw [if_neg (by omega)]
    simp only [wev, e] at h ⊢
    split at h
    · split at h
      · rename_i hc
        simp only [hc, if_true]
        rw [Mem.set_add (by omega)] at h
        exact hN b x (by omega) (Mem.set_none.2 hm) r m'' h
      · cases h
    · cases h
  | program k ih => intro m; exact ih P m
  | mark mk k ih => intro m; exact ih m
  | _ => intro m; exact ⟨0, fun b x _ _ r m'' h => by cases h⟩

end Go.Proofs.YtogcbmadcgjljaaDoor.Sx
