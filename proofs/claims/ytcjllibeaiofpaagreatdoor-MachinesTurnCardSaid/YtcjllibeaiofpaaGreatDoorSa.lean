/-
  The frame: an abstract memory, operations, regions.
-/
import Derived.Test.YtcjllibeaiofpaaGreatDoorSj
import Derived.Calls
import Derived.Below
import Derived.Scope
namespace Go.Proofs.YtcjllibeaiofpaaGreatDoor.Sx
open Go Go.RowKit
structure Blk where
 cells : Array Value
 ty : TypeId
 own : Bool
def Mem := Nat -> Option Blk
def Mem.cell (m : Mem) (a : Addr) : Option Value :=
 match m a.block with
 | some b => if a.spot.isSome then none else b.cells[a.off]?
 | none => none
def Mem.add (m : Mem) (b : Nat) (x : Blk) : Mem := fun k => if k = b then some x else m k
def Mem.set (m : Mem) (a : Addr) (v : Value) : Mem := fun k =>
 if k = a.block then (m k).map (fun b => { b with cells := b.cells.setIfInBounds a.off v }) else m k
def Mem.fin (m : Mem) : Prop := ∃ N, ∀ b, N <= b -> m b = none
theorem Mem.add_comm (m : Mem) {b c : Nat} (h : b ≠ c) (x y : Blk) : (m.add b x).add c y = (m.add c y).add b x := by
 funext k
 simp only [Mem.add]
 by_cases h1 : k = b
 ·subst h1; simp [h]
 ·simp [h1]
def flat : Value -> Bool
 | .agg _ => false
 | .tuple _ => false
 | _ => true
def Sm (w0 w : World) : Prop := Below w0.heap.size w0 w /\ ∀ a : Addr, w0.heap.size <= a.block -> w.frozen? a = false
theorem Sm.refl (w : World) : Sm w w := by
 refine ⟨Below.refl _ _, fun a ha => ?_⟩
 have : w.heap[a.block]? = none := by simp; omega
 simp [World.frozen?, this]
theorem Sm.trans {a b c : World} (h : Sm a b) (k : Sm b c) : Sm a c := by
 refine ⟨h.1.trans (k.1.mono h.1.size), fun x hx => ?_⟩
 by_cases hb : x.block < b.heap.size
 ·rw [k.1.frozen hb]; exact h.2 x hx
 ·exact k.2 x (by omega)
theorem Sm.grown {a b : World} (h : Sm a b) : Grown a b := by
 refine ⟨h.1.frame _, fun x => ?_, h.1.size⟩
 by_cases hx : x.block < a.heap.size
 ·exact h.1.frozen hx
 ·rw [h.2 x (by omega), (Sm.refl a).2 x (by omega)]
theorem Sm.j {a b : World} (h : Sm a b) (j : J a) : J b := J_kept h.1 j
structure Holds (w0 : World) (m : Mem) (w : World) : Prop where
 sm : Sm w0 w
 j : J w0
 blk : ∀ b x, m b = some x -> ∃ fr cs ty, w.heap[b]? = some (.cells cs ty fr) /\ (∀ (i : Nat) (v : Value), x.cells[i]? = some v -> cs[i]? = some v) /\ (x.own = true -> fr = (0, 0) /\ w0.heap.size <= b)
theorem Holds.fin {w0 w : World} {m : Mem} (h : Holds w0 m w) : m.fin := by
 refine ⟨w.heap.size, fun b hb => ?_⟩
 cases hm : m b with
 | none => rfl
 | some x =>
  obtain ⟨fr, cs, ty, h1, _⟩ := h.blk b x hm
  have : w.heap[b]? = none := by simp; omega
  rw [this] at h1; cases h1
theorem Holds.size {w0 w : World} {m : Mem} (h : Holds w0 m w) {b : Nat} {x : Blk} (hb : m b = some x) : b < w.heap.size := by
 obtain ⟨fr, cs, ty, h1, _⟩ := h.blk b x hb
 exact Array.getElem?_eq_some_iff.1 h1 |>.1
theorem Holds.start (w : World) (j : J w) : Holds w (fun _ => none) w := ⟨Sm.refl w, j, fun _ _ h => by cases h⟩
theorem Holds.cell {w0 w : World} {m : Mem} (h : Holds w0 m w) {a : Addr} {v : Value} (hv : m.cell a = some v) : w.cell? a = some v := by
 unfold Mem.cell at hv
 split at hv
 ·rename_i x hx
  obtain ⟨fr, cs, ty, h1, h2, _⟩ := h.blk _ _ hx
  simp only [World.cell?, h1]
  split at hv
  ·cases hv
  ·rename_i hs
   rw [if_neg hs]; exact h2 _ _ hv
 ·cases hv
theorem Holds.sub {w0 w w' : World} {m : Mem} (h : Holds w0 m w) (k : Sm w w') : Holds w0 m w' := by
 refine ⟨h.sm.trans k, h.j, fun b x hb => ?_⟩
 obtain ⟨fr, cs, ty, h1, h2⟩ := h.blk b x hb
 exact ⟨fr, cs, ty, by rw [k.1.block b (h.size hb)]; exact h1, h2⟩
theorem Holds.drew {w0 w : World} {m : Mem} (h : Holds w0 m w) : Holds w0 m { w with drawn := w.drawn + 1 } :=
 ⟨⟨⟨h.sm.1.os, h.sm.1.tape, h.sm.1.output, h.sm.1.size, h.sm.1.block⟩, h.sm.2⟩, h.j, h.blk⟩
theorem Sm.alloc (w : World) (c : Array Value) (t : TypeId) : Sm w { w with heap := w.heap.push (.cells c t) } := by
 refine ⟨⟨rfl, rfl, rfl, by simp, fun k hk => ?_⟩, fun a ha => ?_⟩
 ·rw [Array.getElem?_push, if_neg (by omega)]
 ·simp only [World.frozen?]
  by_cases h : a.block = w.heap.size
  ·rw [h]; simp
  ·have : (w.heap.push (Obj.cells c t))[a.block]? = none := by simp; omega
   simp [this]
theorem Holds.alloc {w0 w : World} {m : Mem} (h : Holds w0 m w) (c : Array Value) (t : TypeId) :
  Holds w0 (m.add w.heap.size ⟨c, t, true⟩) { w with heap := w.heap.push (.cells c t) } := by
 refine ⟨h.sm.trans (Sm.alloc w c t), h.j, fun b x hb => ?_⟩
 simp only [Mem.add] at hb
 split at hb
 ·rename_i e; subst e
  cases hb
  exact ⟨(0, 0), c, t, by simp, fun _ _ e => e, fun _ => ⟨rfl, h.sm.1.size⟩⟩
 ·obtain ⟨fr, cs, ty, h1, h2⟩ := h.blk b x hb
  exact ⟨fr, cs, ty, by rw [Array.getElem?_push, if_neg (Nat.ne_of_lt (h.size hb))]; exact h1, h2⟩
theorem Holds.fresh {w0 w : World} {m : Mem} (h : Holds w0 m w) : m w.heap.size = none := by
 cases hm : m w.heap.size with
 | none => rfl
 | some x => exact absurd (h.size hm) (Nat.lt_irrefl _)
theorem Holds.set {w0 w : World} {m : Mem} (h : Holds w0 m w) {a : Addr} {v : Value} {x : Blk} (hx : m a.block = some x) (ho : x.own = true) (hs : a.spot = none) :
  Holds w0 (m.set a v) (w.setCell a v) := by
 obtain ⟨fr, cs, ty, h1, hpre, h2⟩ := h.blk _ _ hx
 obtain ⟨rfl, hb⟩ := h2 ho
 refine ⟨⟨h.sm.1.setCell hb v, fun p hp => ?_⟩, h.j, fun b y hy => ?_⟩
 ·rw [World.frozen?_setCell]; exact h.sm.2 p hp
 ·simp only [Mem.set] at hy
  split at hy
  ·rename_i e; subst e
   rw [hx] at hy
   cases hy
   refine ⟨(0, 0), cs.setIfInBounds a.off v, ty, ?_, ?_, fun _ => ⟨rfl, hb⟩⟩
   ·simp only [World.setCell, Array.getElem?_modify, if_pos trivial, h1, hs]
    rfl
   ·intro i u hu
    simp only [Array.getElem?_setIfInBounds] at hu ⊢
    by_cases hi : a.off = i
    ·rw [if_pos hi] at hu ⊢
     split at hu
     ·rename_i hl
      have : i < cs.size := by
       have := hpre i x.cells[i] (by simp [hi ▸ hl])
       exact (Array.getElem?_eq_some_iff.1 this).1
      rw [if_pos (by omega)]; exact hu
     ·cases hu
    ·rw [if_neg hi] at hu ⊢
     exact hpre i u hu
  ·rename_i e
   obtain ⟨fr', cs', ty', h3, h4⟩ := h.blk b y hy
   exact ⟨fr', cs', ty', by rw [Below.heap_setCell _ _ _ _ e]; exact h3, h4⟩
variable (P : Program)
def qev {α : Type} : Sem α -> Mem -> Option α
 | .pure a, _ => some a
 | .load _ a k, m => match m.cell a with
  | some v => qev (k v) m
  | none => none
 | .program k, m => qev (k P) m
 | .mark _ k, m => qev k m
 | _, _ => none
def wev {α : Type} : Sem α -> Mem -> Option (α × Mem)
 | .pure a, m => some (a, m)
 | .load _ a k, m => match m.cell a with
  | some v => wev (k v) m
  | none => none
 | .store _ a v k, m => match m a.block with
  | some b => if flat v && b.own && a.spot.isNone && decide (a.off < b.cells.size) then wev k (m.set a v) else none
  | none => none
 | .program k, m => wev (k P) m
 | .mark _ k, m => wev k m
 | _, _ => none
def nev {α : Type} : Sem α -> Option α
 | .pure a => some a
 | .program k => nev (k P)
 | .mark _ k => nev k
 | _ => none
def aev {α : Type} : Sem α -> Option (Array Value × TypeId × (Nat -> Sem α))
 | .new (.cells c t fr) k => if fr = (0, 0) then some (c, t, k) else none
 | .program k => aev (k P)
 | .mark _ k => aev k
 | _ => none
variable {P}
theorem qev_run {α : Type} (s : Sem α) : ∀ {m : Mem} {r : α} {w0 w : World}, qev P s m = some r -> Holds w0 m w -> s.run P w = .ok r w := by
 induction s with
 | pure a => intro m r w0 w h _; cases h; rfl
 | load md a k ih =>
  intro m r w0 w h H
  simp only [qev] at h
  split at h
  ·rename_i v hv
   simp only [Sem.run, H.cell hv]
   exact ih v h H
  ·cases h
 | program k ih => intro m r w0 w h H; exact ih P h H
 | mark mk k ih => intro m r w0 w h H; exact ih h H
 | _ => intro m r w0 w h _; cases h
theorem nev_run {α : Type} (s : Sem α) : ∀ {r : α} {w : World}, nev P s = some r -> s.run P w = .ok r w := by
 induction s with
 | pure a => intro r w h; cases h; rfl
 | program k ih => intro r w h; exact ih P h
 | mark mk k ih => intro r w h; exact ih h
 | _ => intro r w h; cases h
theorem nev_qev {α : Type} (s : Sem α) : ∀ {r : α} {m : Mem}, nev P s = some r -> qev P s m = some r := by
 induction s with
 | pure a => intro r m h; cases h; rfl
 | program k ih => intro r m h; exact ih P h
 | mark mk k ih => intro r m h; exact ih h
 | _ => intro r m h; cases h
theorem aev_run {α : Type} (s : Sem α) : ∀ {c : Array Value} {t : TypeId} {k : Nat -> Sem α} {w : World}, aev P s = some (c, t, k) ->
  s.run P w = (k w.heap.size).run P { w with heap := w.heap.push (.cells c t) } := by
 induction s with
 | new o k ih =>
  intro c t k' w h
  cases o with
  | cells c0 t0 fr =>
   simp only [aev] at h
   split at h
   ·rename_i e; subst e; cases h; rfl
   ·cases h
  | _ => cases h
 | program k ih => intro c t k' w h; exact ih P h
 | mark mk k ih => intro c t k' w h; exact ih h
 | _ => intro c t k' w h; cases h
theorem wev_run {α : Type} (s : Sem α) : ∀ {m m' : Mem} {r : α} {w0 w : World}, wev P s m = some (r, m') -> Holds w0 m w -> ∃ w', s.run P w = .ok r w' /\ Holds w0 m' w' := by
 induction s with
 | pure a => intro m m' r w0 w h H; cases h; exact ⟨w, rfl, H⟩
 | load md a k ih =>
  intro m m' r w0 w h H
  simp only [wev] at h
  split at h
  ·rename_i v hv
   simp only [Sem.run, H.cell hv]
   exact ih v h H
  ·cases h
 | store md a v k ih =>
  intro m m' r w0 w h H
  simp only [wev] at h
  split at h
  ·rename_i x hx
   split at h
   ·rename_i hc
    simp only [Bool.and_eq_true, Option.isNone_iff_eq_none, decide_eq_true_eq] at hc
    obtain ⟨⟨⟨hf, ho⟩, hs⟩, hl⟩ := hc
    obtain ⟨fr, cs, ty, h1, hpre, h2⟩ := H.blk _ _ hx
    obtain ⟨rfl, hb⟩ := h2 ho
    have hcell : ∃ u, w.cell? a = some u := by
     refine ⟨x.cells[a.off], ?_⟩
     simp [World.cell?, h1, hs, hpre a.off x.cells[a.off] (by simp [hl])]
    obtain ⟨u, hu⟩ := hcell
    have hfz : w.frozen? a = false := H.sm.2 a hb
    have hrun : (Sem.store md a v k).run P w = k.run P (w.setCell a v) := by
     cases v <;> first | (simp [flat] at hf; done) | simp [Sem.run, hu, hfz]
    rw [hrun]
    exact ih h (H.set hx ho hs)
   ·cases h
  ·cases h
 | program k ih => intro m m' r w0 w h H; exact ih P h H
 | mark mk k ih => intro m m' r w0 w h H; exact ih h H
 | _ => intro m m' r w0 w h _; cases h
inductive Cls where
 | q | al | st
def cls : Op -> Cls
 | .alloc _ | .box .. | .buildSlice .. | .makeSlice .. => .al
 | .store .. => .st
 | _ => .q
inductive Lv where
 | no | near | all
section
variable (P : Program) (w0 : World) (Γ : FuncId -> Array Value -> Value -> Prop) (g : Lv)
def Pure (f : FuncId) (args : Array Value) (R : Value -> Prop) : Prop :=
 ∀ w, J w -> Calls P f args w fun e w' => ∃ v, e = .returned v /\ R v /\ Sm w w'
def Gen (f : FuncId) (args : Array Value) (m : Mem) (K : Value -> Mem -> Prop) : Prop :=
 ∀ w, Holds w0 m w -> Calls P f args w fun e w' => ∃ v m', e = .returned v /\ Holds w0 m' w' /\ K v m'
def PureAt (f : FuncId) (args : Array Value) (m : Mem) (R : Value -> Prop) : Prop :=
 ∀ w, Holds w0 m w -> Calls P f args w fun e w' => ∃ v, e = .returned v /\ R v /\ Sm w w'
def uponD (dst : Option Tmp) (K : Act -> Mem -> Prop) (a : Act) (m : Mem) : Next -> Prop
 | .value v => K (a.put dst v) m
 | .skip => K (a.put dst undef) m
 | .enter f args => (Pure P f args (Γ f args) /\ ∀ v, Γ f args v -> K (a.put dst v) m) \/ (g = .all /\ Gen P w0 f args m fun v m' => K (a.put dst v) m') \/ (g ≠ .no /\ PureAt P w0 f args m fun v => K (a.put dst v) m)
 | _ => False
def opD (o : Oper) (K : Act -> Mem -> Prop) (a : Act) (m : Mem) : Prop :=
 match cls o.op with
 | .q => ∃ r, qev P (execOp a.eval o) m = some r /\ uponD P w0 Γ g o.dst K a m r
 | .al => ∃ c t k, aev P (execOp a.eval o) = some (c, t, k) /\ ∀ b, m b = none -> w0.heap.size <= b -> ∃ v, nev P (k b) = some (.value v) /\ K (a.put o.dst v) (m.add b ⟨c, t, true⟩)
 | .st => ∃ m', wev P (execOp a.eval o) m = some (.skip, m') /\ K (a.put o.dst undef) m'
def stepD (ops : Array Oper) (o : Oper) (K : Act -> Mem -> Prop) (a : Act) (m : Mem) : Prop :=
 if Region.wanted o (yielded ops a.tmps) then opD P w0 Γ g o K a m else K (a.put o.dst undef) m
end
def opsD (P : Program) (w0 : World) (Γ : FuncId -> Array Value -> Value -> Prop) (g : Nat -> Lv) (ops : Array Oper) (K : Act -> Mem -> Prop) : List Nat -> Act -> Mem -> Prop
 | [], a, m => K a m
 | i :: rest, a, m =>
  match ops[i]? with
  | none => opsD P w0 Γ g ops K rest a m
  | some o => stepD P w0 Γ (g i) ops o (opsD P w0 Γ g ops K rest) a m
variable {P : Program} {w0 : World} {Γ : FuncId -> Array Value -> Value -> Prop} {g : Lv}
theorem opD_sound {o : Oper} {K : Act -> Mem -> Prop} {a : Act} {m : Mem} {next : Act -> World -> Prop} {Q : Exit -> Act -> World -> Prop}
  (h : opD P w0 Γ g o K a m) (hk : ∀ a' m' w', Holds w0 m' w' -> K a' m' -> next a' w') {w : World} (H : Holds w0 m w) : o.wp P a w next Q := by
 unfold opD at h
 unfold Oper.wp
 split at h
 ·obtain ⟨r, hr, hu⟩ := h
  rw [qev_run _ hr H]
  cases r <;> first | exact hk _ _ _ H hu | (exact hu.elim) | skip
  rename_i f args
  rcases hu with ⟨hp, hR⟩ | ⟨_, hg⟩ | ⟨_, hg⟩
  ·refine (hp w (H.sm.j H.j)).mono ?_
   rintro e w' ⟨v, rfl, hv, hs⟩
   exact hk _ _ _ (H.sub hs) (hR v hv)
  ·refine (hg w H).mono ?_
   rintro e w' ⟨v, m', rfl, H', hv⟩
   exact hk _ _ _ H' hv
  ·refine (hg w H).mono ?_
   rintro e w' ⟨v, rfl, hv, hs⟩
   exact hk _ _ _ (H.sub hs) hv
 ·obtain ⟨c, t, k, ha, hb⟩ := h
  rw [aev_run _ ha]
  obtain ⟨v, hn, hv⟩ := hb w.heap.size H.fresh H.sm.1.size
  rw [nev_run _ hn]
  exact hk _ _ _ (H.alloc c t) hv
 ·obtain ⟨m', hw, hv⟩ := h
  obtain ⟨w', hr, H'⟩ := wev_run _ hw H
  rw [hr]
  exact hk _ _ _ H' hv
theorem opsD_sound {g : Nat -> Lv} {ops : Array Oper} {K : Act -> Mem -> Prop} {Q : Exit -> Act -> World -> Prop} (hk : ∀ a' m' w', Holds w0 m' w' -> K a' m' -> Q .normal a' w') :
  ∀ (l : List Nat) {a : Act} {m : Mem} {w : World}, opsD P w0 Γ g ops K l a m -> Holds w0 m w -> wpOps P ops Q l a w
 | [], _, _, _, h, H => hk _ _ _ H h
 | i :: rest, a, m, w, h, H => by
  simp only [opsD] at h
  simp only [wpOps]
  cases ho : ops[i]? with
  | none => simp only [ho] at h; exact opsD_sound hk rest h H
  | some o =>
   simp only [ho, stepD] at h
   dsimp only
   split
   ·rename_i hw
    rw [if_pos hw] at h
    exact Or.inl (opD_sound h (fun a' m' w' H' h' => opsD_sound hk rest h' H') H)
   ·rename_i hw
    rw [if_neg hw] at h
    exact opsD_sound hk rest h H
theorem wp_region_D {g : Nat -> Lv} {id : Nat} {ops : Array Oper} {K : Act -> Mem -> Prop} {Q : Exit -> Act -> World -> Prop} {a : Act} {m : Mem} {w : World}
  (hk : ∀ a' m' w', Holds w0 m' w' -> K a' m' -> Q .normal a' w') (h : opsD P w0 Γ g ops K (List.range ops.size) a m) (H : Holds w0 m w) :
  (Code.region id ops false).wp P Q a w := wp_region (opsD_sound hk _ h H)
theorem uponD_mono {dst : Option Tmp} {K K' : Act -> Mem -> Prop} {a : Act} {m : Mem} (hk : ∀ a m, K a m -> K' a m) : ∀ {r : Next}, uponD P w0 Γ g dst K a m r -> uponD P w0 Γ g dst K' a m r := by
 intro r h
 cases r <;> first | exact hk _ _ h | exact h.elim | skip
 rcases h with ⟨h1, h2⟩ | ⟨h1, h2⟩ | ⟨h1, h2⟩
 ·exact Or.inl ⟨h1, fun v hv => hk _ _ (h2 v hv)⟩
 ·refine Or.inr (Or.inl ⟨h1, fun w H => (h2 w H).mono ?_⟩)
  rintro e w' ⟨v, m', h3, h4, h5⟩
  exact ⟨v, m', h3, h4, hk _ _ h5⟩
 ·refine Or.inr (Or.inr ⟨h1, fun w H => (h2 w H).mono ?_⟩)
  rintro e w' ⟨v, h3, h4, h5⟩
  exact ⟨v, h3, hk _ _ h4, h5⟩
theorem opD_mono {o : Oper} {K K' : Act -> Mem -> Prop} {a : Act} {m : Mem} (hk : ∀ a m, K a m -> K' a m) (h : opD P w0 Γ g o K a m) : opD P w0 Γ g o K' a m := by
 unfold opD at *
 split at h
 ·obtain ⟨r, h1, h2⟩ := h; exact ⟨r, h1, uponD_mono hk h2⟩
 ·obtain ⟨c, t, k, h1, h2⟩ := h
  exact ⟨c, t, k, h1, fun b hb hB => let ⟨v, h3, h4⟩ := h2 b hb hB; ⟨v, h3, hk _ _ h4⟩⟩
 ·obtain ⟨m', h1, h2⟩ := h; exact ⟨m', h1, hk _ _ h2⟩
theorem stepD_mono {ops : Array Oper} {o : Oper} {K K' : Act -> Mem -> Prop} {a : Act} {m : Mem} (hk : ∀ a m, K a m -> K' a m) (h : stepD P w0 Γ g ops o K a m) : stepD P w0 Γ g ops o K' a m := by
 unfold stepD at *
 split
 ·rename_i hw; rw [if_pos hw] at h; exact opD_mono hk h
 ·rename_i hw; rw [if_neg hw] at h; exact hk _ _ h
theorem qev_far {α : Type} (s : Sem α) : ∀ (m : Mem), ∃ N, ∀ b x, N <= b -> qev P s (m.add b x) = qev P s m := by
 induction s with
 | pure a => intro m; exact ⟨0, fun _ _ _ => rfl⟩
 | load md a k ih =>
  intro m
  cases hc : m.cell a with
  | none =>
   refine ⟨a.block + 1, fun b x hb => ?_⟩
   have : (m.add b x).cell a = none := by rw [<- hc]; simp only [Mem.cell, Mem.add]; rw [if_neg (by omega)]
   simp only [qev, this, hc]
  | some v =>
   obtain ⟨N, hN⟩ := ih v m
   refine ⟨N + a.block + 1, fun b x hb => ?_⟩
   have : (m.add b x).cell a = some v := by rw [<- hc]; simp only [Mem.cell, Mem.add]; rw [if_neg (by omega)]
   simp only [qev, this, hc]
   exact hN b x (by omega)
 | program k ih => intro m; exact ih P m
 | mark mk k ih => intro m; exact ih m
 | _ => intro m; exact ⟨0, fun _ _ _ => rfl⟩
theorem Mem.cell_add {m : Mem} {a : Addr} {v : Value} {b : Nat} (x : Blk) (hb : m b = none) (h : m.cell a = some v) : (m.add b x).cell a = some v := by
 rw [<- h]
 simp only [Mem.cell, Mem.add]
 by_cases e : a.block = b
 ·simp [Mem.cell, e, hb] at h
 ·rw [if_neg e]
theorem qev_add {α : Type} (s : Sem α) : ∀ {m : Mem} {r : α} {b : Nat} (x : Blk), m b = none -> qev P s m = some r -> qev P s (m.add b x) = some r := by
 induction s with
 | pure a => intro m r b x _ h; exact h
 | load md a k ih =>
  intro m r b x hb h
  simp only [qev] at h ⊢
  split at h
  ·rename_i v hv
   rw [Mem.cell_add x hb hv]
   exact ih v x hb h
  ·cases h
 | program k ih => intro m r b x hb h; exact ih P x hb h
 | mark mk k ih => intro m r b x hb h; exact ih x hb h
 | _ => intro m r b x _ h; cases h
theorem Mem.set_add {m : Mem} {b : Nat} {x : Blk} {a : Addr} {v : Value} (hb : a.block ≠ b) : (m.add b x).set a v = (m.set a v).add b x := by
 funext k
 simp only [Mem.set, Mem.add]
 by_cases h : k = b
 ·subst h; simp [Ne.symm hb]
 ·simp [h]
theorem Mem.set_none {m : Mem} {b : Nat} {a : Addr} {v : Value} : (m.set a v) b = none <-> m b = none := by
 simp only [Mem.set]; split <;> simp
theorem wev_add {α : Type} (s : Sem α) : ∀ {m m' : Mem} {r : α} {b : Nat} (x : Blk), m b = none -> wev P s m = some (r, m') -> wev P s (m.add b x) = some (r, m'.add b x) /\ m' b = none := by
 induction s with
 | pure a => intro m m' r b x hb h; cases h; exact ⟨rfl, hb⟩
 | load md a k ih =>
  intro m m' r b x hb h
  simp only [wev] at h ⊢
  split at h
  ·rename_i v hv
   rw [Mem.cell_add x hb hv]
   exact ih v x hb h
  ·cases h
 | store md a v k ih =>
  intro m m' r b x hb h
  simp only [wev] at h ⊢
  split at h
  ·rename_i y hy
   have hne : a.block ≠ b := by rintro e; rw [e, hb] at hy; cases hy
   have : (m.add b x) a.block = some y := by simp only [Mem.add]; rw [if_neg hne]; exact hy
   simp only [this]
   split at h
   ·rename_i hc
    simp only [hc, if_true]
    rw [Mem.set_add hne]
    exact ih x (Mem.set_none.2 hb) h
   ·cases h
  ·cases h
 | program k ih => intro m m' r b x hb h; exact ih P x hb h
 | mark mk k ih => intro m m' r b x hb h; exact ih x hb h
 | _ => intro m m' r b x _ h; cases h
theorem wev_dom {α : Type} (s : Sem α) : ∀ {m m' : Mem} {r : α}, wev P s m = some (r, m') -> ∀ b, m' b = none <-> m b = none := by
 induction s with
 | pure a => intro m m' r h b; cases h; exact Iff.rfl
 | load md a k ih =>
  intro m m' r h b
  simp only [wev] at h
  split at h
  ·exact ih _ h b
  ·cases h
 | store md a v k ih =>
  intro m m' r h b
  simp only [wev] at h
  split at h
  ·split at h
   ·exact (ih h b).trans Mem.set_none
   ·cases h
  ·cases h
 | program k ih => intro m m' r h b; exact ih P h b
 | mark mk k ih => intro m m' r h b; exact ih h b
 | _ => intro m m' r h; cases h
theorem wev_far {α : Type} (s : Sem α) : ∀ (m : Mem), ∃ N, ∀ b x, N <= b -> m b = none -> ∀ r m'', wev P s (m.add b x) = some (r, m'') -> ∃ m', wev P s m = some (r, m') := by
 induction s with
 | pure a => intro m; exact ⟨0, fun b x _ _ r m'' h => by cases h; exact ⟨m, rfl⟩⟩
 | load md a k ih =>
  intro m
  cases hc : m.cell a with
  | none =>
   refine ⟨a.block + 1, fun b x hb _ r m'' h => ?_⟩
   have : (m.add b x).cell a = none := by rw [<- hc]; simp only [Mem.cell, Mem.add]; rw [if_neg (by omega)]
   simp only [wev, this] at h
   cases h
  | some v =>
   obtain ⟨N, hN⟩ := ih v m
   refine ⟨N + a.block + 1, fun b x hb hm r m'' h => ?_⟩
   have : (m.add b x).cell a = some v := by rw [<- hc]; simp only [Mem.cell, Mem.add]; rw [if_neg (by omega)]
   simp only [wev, this] at h
   simp only [wev, hc]
   exact hN b x (by omega) hm r m'' h
 | store md a v k ih =>
  intro m
  obtain ⟨N, hN⟩ := ih (m.set a v)
  refine ⟨N + a.block + 1, fun b x hb hm r m'' h => ?_⟩
  have e : (m.add b x) a.block = m a.block := by simp only [Mem.add]; rw [if_neg (by omega)]
  simp only [wev, e] at h ⊢
  split at h
  ·split at h
   ·rename_i hc
    simp only [hc, if_true]
    rw [Mem.set_add (by omega)] at h
    exact hN b x (by omega) (Mem.set_none.2 hm) r m'' h
   ·cases h
  ·cases h
 | program k ih => intro m; exact ih P m
 | mark mk k ih => intro m; exact ih m
 | _ => intro m; exact ⟨0, fun b x _ _ r m'' h => by cases h⟩
variable {P : Program} {w0 : World} {Γ : FuncId -> Array Value -> Value -> Prop}
def tmpsOf (l : List Operand) : List Tmp := l.filterMap fun | .tmp t => some t | _ => none
def reads (ops : Array Oper) (o : Oper) : List Tmp :=
 tmpsOf o.op.operands.toList ++ (match o.guard with | none => [] | some (j, _) => ((ops[j]?).bind (·.dst)).toList)
def okOp : Op -> Bool
 | .move _ | .assign _ | .pick .. | .alloc _ | .box .. | .build .. | .buildSlice .. | .load .. | .store .. | .nilCheck _ | .binOp .. | .unOp .. | .convert .. | .makeInterface ..
 | .makeSlice .. | .slice .. | .fieldAddr .. | .field .. | .indexAddr .. | .index .. | .extract .. | .typeAssert .. => true
 | .call { callee := .value _, .. } => true
 | .call { callee := .builtin _, .. } => true
 | _ => false
theorem mem_tmpsOf {l : List Operand} {t : Tmp} : t ∈ tmpsOf l <-> Operand.tmp t ∈ l := by
 unfold tmpsOf
 rw [List.mem_filterMap]
 constructor
 ·rintro ⟨x, hx, h⟩
  cases x <;> simp at h
  subst h; exact hx
 ·intro h; exact ⟨_, h, rfl⟩
theorem map_congr_arr {ρ ρ' : Operand -> Value} {xs : Array Operand} (h : ∀ x ∈ xs.toList, ρ x = ρ' x) : xs.map ρ = xs.map ρ' := by
 apply Array.map_congr_left
 intro x hx; exact h x (by simpa using hx)
theorem execOp_congr {ρ ρ' : Operand -> Value} {o : Oper} (hok : okOp o.op = true) (h : ∀ x ∈ o.op.operands.toList, ρ x = ρ' x) : execOp ρ o = execOp ρ' o := by
 obtain ⟨dst, op, ty, pos, after, guard⟩ := o
 dsimp only at hok h
 cases op <;> try (simp [okOp] at hok; done)
 case build t parts =>
  have : (parts.map fun (x : Nat × Operand) => (x.1, ρ x.2)) = parts.map fun (x : Nat × Operand) => (x.1, ρ' x.2) := by
   apply Array.map_congr_left
   intro x hx
   rw [h x.2 (by simp [Op.operands]; exact ⟨x.1, by simpa using hx⟩)]
  simp only [execOp]; rw [this]
 case buildSlice t n parts =>
  have : (parts.map fun (x : Nat × Operand) => (x.1, ρ x.2)) = parts.map fun (x : Nat × Operand) => (x.1, ρ' x.2) := by
   apply Array.map_congr_left
   intro x hx
   rw [h x.2 (by simp [Op.operands]; exact ⟨x.1, by simpa using hx⟩)]
  simp only [execOp]; rw [this]
 case call c =>
  obtain ⟨callee, args, argTypes⟩ := c
  cases callee with
  | value f =>
   have h1 : args.map ρ = args.map ρ' := map_congr_arr fun x hx => h x (by simp [Op.operands, Call.operands]; right; simpa using hx)
   have h2 : ρ f = ρ' f := h f (by simp [Op.operands, Call.operands])
   simp only [execOp, resolve, h1, h2]
  | builtin b =>
   have h1 : args.map ρ = args.map ρ' := map_congr_arr fun x hx => h x (by simp [Op.operands, Call.operands]; simpa using hx)
   simp only [execOp, resolve, h1]
  | invoke r s => simp [okOp] at hok
 case slice t x lo hi mx =>
  have h0 : ρ x = ρ' x := h x (by simp [Op.operands])
  have h1 : lo.map ρ = lo.map ρ' := by cases lo with | none => rfl | some y => simp [h y (by simp [Op.operands])]
  have h2 : hi.map ρ = hi.map ρ' := by cases hi with | none => rfl | some y => simp [h y (by simp [Op.operands])]
  have h3 : mx.map ρ = mx.map ρ' := by cases mx with | none => rfl | some y => simp [h y (by simp [Op.operands])]
  simp only [execOp, h0, h1, h2, h3]
 all_goals first | (simp only [execOp]; done) | (simp only [execOp, h _ (by simp [Op.operands])]; done) | (simp [Op.operands] at h; simp [execOp, h])
theorem put_eval {a : Act} {d : Option Tmp} {v : Value} {x : Operand} (h : ∀ t, d = some t -> x ≠ .tmp t) : (a.put d v).eval x = a.eval x := by
 cases d with
 | none => rfl
 | some t =>
  cases x with
  | tmp s =>
   have : t ≠ s := by rintro rfl; exact h t rfl rfl
   simp [Act.put, Act.eval, this]
  | _ => rfl
theorem put_comm {a : Act} {d e : Option Tmp} {u v : Value} (h : ∀ t, d = some t -> e ≠ some t) : (a.put d u).put e v = (a.put e v).put d u := by
 cases d with
 | none => rfl
 | some t =>
  cases e with
  | none => rfl
  | some s =>
   have : t ≠ s := by rintro rfl; exact h t rfl rfl
   simp only [Act.put]
   congr 1
   rw [Array.setIfInBounds_comm _ _ this]
def off (ops : Array Oper) (d : Option Tmp) (o : Oper) : Bool :=
 match d with
 | none => true
 | some t => !(reads ops o).contains t
theorem off_exec {ops : Array Oper} {a : Act} {d : Option Tmp} {v : Value} {o : Oper} (hok : okOp o.op = true) (h : off ops d o = true) : execOp (a.put d v).eval o = execOp a.eval o := by
 refine execOp_congr hok fun x hx => put_eval fun t ht => ?_
 rintro rfl
 subst ht
 simp [off, reads, mem_tmpsOf] at h
 exact h.1 (by simpa using hx)
theorem off_wanted {ops : Array Oper} {a : Act} {d : Option Tmp} {v : Value} {o : Oper} (h : off ops d o = true) : Region.wanted o (yielded ops (a.put d v).tmps) = Region.wanted o (yielded ops a.tmps) := by
 cases d with
 | none => rfl
 | some t =>
  unfold Region.wanted
  cases hg : o.guard with
  | none => rfl
  | some jw =>
   obtain ⟨j, want⟩ := jw
   dsimp only
   congr 1
   unfold yielded
   cases hd : (ops[j]?).bind (·.dst) with
   | none => rfl
   | some s =>
    have : t ≠ s := by
     rintro rfl
     simp [off, reads, hg, hd] at h
    simp only [Option.bind_some, Act.put, Array.getElem?_setIfInBounds, this, if_false]
def resD (P : Program) (Γ : FuncId -> Array Value -> Value -> Prop) (F : Value -> Prop) : Next -> Prop
 | .value v => F v
 | .skip => F undef
 | .enter f args => Pure P f args (Γ f args) /\ ∀ v, Γ f args v -> F v
 | _ => False
theorem uponD_res {dst : Option Tmp} {K : Act -> Mem -> Prop} {a : Act} {m : Mem} {r : Next} : uponD P w0 Γ .no dst K a m r <-> resD P Γ (fun v => K (a.put dst v) m) r := by
 cases r <;> simp [uponD, resD]
theorem resD_mono {F G : Value -> Prop} {r : Next} (h : ∀ v, F v -> G v) (hr : resD P Γ F r) : resD P Γ G r := by
 cases r <;> first | exact h _ hr | exact hr.elim | skip
 exact ⟨hr.1, fun v hv => h v (hr.2 v hv)⟩
theorem resD_some {F : Value -> Prop} {r : Next} (hr : resD P Γ F r) : ∃ v, F v := by
 cases r <;> first | exact ⟨_, hr⟩ | exact hr.elim | skip
 obtain ⟨hp, hf⟩ := hr
 obtain ⟨e, w', fr, ⟨v, _, hv, _⟩, _⟩ := hp wJ wJ_ok []
 exact ⟨v, hf v hv⟩
theorem resD_swap {F : Value -> Value -> Prop} {r s : Next} (h : resD P Γ (fun v => resD P Γ (fun u => F v u) s) r) : resD P Γ (fun u => resD P Γ (fun v => F v u) r) s := by
 cases r <;> first | exact h.elim | exact h | skip
 obtain ⟨hp, hr⟩ := h
 cases s <;> first | exact ⟨hp, hr⟩ | skip
 case enter f args f' args' =>
  obtain ⟨v, hv⟩ : ∃ v, Γ f args v := by
   obtain ⟨e, w', fr, ⟨v, _, hv, _⟩, _⟩ := hp wJ wJ_ok []
   exact ⟨v, hv⟩
  exact ⟨(hr v hv).1, fun u hu => ⟨hp, fun v hv => (hr v hv).2 u hu⟩⟩
 all_goals
  obtain ⟨v, hv⟩ : ∃ v, Γ _ _ v := by
   obtain ⟨e, w', fr, ⟨v, _, hv, _⟩, _⟩ := hp wJ wJ_ok []
   exact ⟨v, hv⟩
  exact (hr v hv).elim
theorem resD_all {ι : Type} {p : ι -> Prop} {F : ι -> Value -> Prop} {r : Next} {i0 : ι} (h0 : p i0) (h : ∀ i, p i -> resD P Γ (F i) r) : resD P Γ (fun v => ∀ i, p i -> F i v) r := by
 cases r <;> first | exact h | exact (h i0 h0).elim | skip
 exact ⟨(h i0 h0).1, fun v hv i hi => (h i hi).2 v hv⟩
def blockOf : Value -> Option Nat
 | .pointer (some a) => some a.block
 | _ => none
theorem qev_bind' {α β : Type} (s : Sem α) (f : α -> Sem β) : ∀ (m : Mem), qev P (s >>= f) m = (qev P s m).bind fun r => qev P (f r) m := by
 show ∀ (m : Mem), qev P (s.bind f) m = _
 induction s with
 | pure a => intro m; rfl
 | load md a k ih =>
  intro m
  simp only [Sem.bind, qev]
  split
  ·exact ih _ m
  ·rfl
 | program k ih => intro m; exact ih P m
 | mark mk k ih => intro m; exact ih m
 | _ => intro m; rfl
theorem wev_bind' {α β : Type} (s : Sem α) (f : α -> Sem β) : ∀ (m : Mem), wev P (s >>= f) m = (wev P s m).bind fun r => wev P (f r.1) r.2 := by
 show ∀ (m : Mem), wev P (s.bind f) m = _
 induction s with
 | pure a => intro m; rfl
 | load md a k ih =>
  intro m
  simp only [Sem.bind, wev]
  split
  ·exact ih _ m
  ·rfl
 | store md a v k ih =>
  intro m
  simp only [Sem.bind, wev]
  split
  ·split
   ·exact ih _
   ·rfl
  ·rfl
 | program k ih => intro m; exact ih P m
 | mark mk k ih => intro m; exact ih m
 | _ => intro m; rfl
theorem qev_under {t : TypeId} {d : TypeDesc} (h : P.underlying t = some d) (m : Mem) : qev P (underlying t) m = some d := by
 unfold underlying
 rw [qev_bind']
 show qev P (match P.underlying t with | some d => _ | none => _) m = some d
 rw [h]; rfl
theorem qev_szOf {t : TypeId} {i : TypeInfo} (h : P.info? t = some i) (m : Mem) : qev P (sizeOf t) m = some i.size := by
 unfold sizeOf typeInfo
 rw [qev_bind', qev_bind']
 show (qev P (match P.toTables.info? t with | some d => _ | none => _) m).bind _ = some i.size
 rw [show P.toTables.info? t = some i from h]; rfl
def free (P : Program) : Op -> Bool
 | .move _ | .assign _ | .pick .. | .extract .. => true
 | .binOp .shl _ _ _ _ | .binOp .shr _ _ _ _ => true
 | .fieldAddr s _ f => match P.underlying s with
  | some (.struct fields) => match fields[f]? with
   | some fd => match P.info? fd.type with
    | some i => i.size != 0
    | none => false
   | none => false
  | _ => false
 | .convert src dst _ => match P.underlying src, P.underlying dst with
  | some (.int _), some (.int _) => true
  | _, _ => false
 | _ => false
theorem free_qev {ρ : Operand -> Value} {o : Oper} (h : free P o.op = true) (m m' : Mem) : qev P (execOp ρ o) m = qev P (execOp ρ o) m' := by
 obtain ⟨dst, op, ty, pos, after, guard⟩ := o
 simp only at h
 cases op <;> first | (simp [free] at h; done) | skip
 case move x => rfl
 case assign x => rfl
 case binOp bop t x y yt =>
  cases bop <;> first | (simp [free] at h; done) | skip
  ·simp only [execOp]
   cases ρ x <;> cases ρ y <;> first | rfl | skip
   case int k n k' n' =>
    simp only [eqGuard, binOp, Op.shift]
    by_cases hn : n' < 0
    ·simp only [hn, if_true]; rfl
    ·simp only [hn, if_false]; rfl
   case float k n k' n' =>
    simp only [eqGuard, binOp]
    by_cases hk : k = k'
    ·subst hk; simp only [ne_eq, not_true_eq_false, if_false]; cases k <;> rfl
    ·simp only [ne_eq, hk, not_false_eq_true, if_true]; rfl
   case complex k a b k' c d =>
    simp only [eqGuard, binOp]
    by_cases hk : k = k'
    ·subst hk; simp only [ne_eq, not_true_eq_false, if_false]; cases k <;> rfl
    ·simp only [ne_eq, hk, not_false_eq_true, if_true]; rfl
  ·simp only [execOp]
   cases ρ x <;> cases ρ y <;> first | rfl | skip
   case int k n k' n' =>
    simp only [eqGuard, binOp, Op.shift]
    by_cases hn : n' < 0
    ·simp only [hn, if_true]; rfl
    ·simp only [hn, if_false]; rfl
   case float k n k' n' =>
    simp only [eqGuard, binOp]
    by_cases hk : k = k'
    ·subst hk; simp only [ne_eq, not_true_eq_false, if_false]; cases k <;> rfl
    ·simp only [ne_eq, hk, not_false_eq_true, if_true]; rfl
   case complex k a b k' c d =>
    simp only [eqGuard, binOp]
    by_cases hk : k = k'
    ·subst hk; simp only [ne_eq, not_true_eq_false, if_false]; cases k <;> rfl
    ·simp only [ne_eq, hk, not_false_eq_true, if_true]; rfl
 case pick c x y =>
  simp only [execOp]
  cases ρ c <;> rfl
 case extract x i =>
  simp only [execOp, Instr.extract]
  cases ρ x <;> first | rfl | (rename_i vs; dsimp only; cases vs[i]? <;> rfl)
 case fieldAddr s x f =>
  simp only [free] at h
  split at h
  ·rename_i fields hu
   split at h
   ·rename_i fd hf
    split at h
    ·rename_i i hi
     simp only [execOp]
     unfold Instr.fieldAt
     simp only [qev_bind', qev_under hu, Option.bind_some, hf]
     cases ρ x <;> first | rfl | skip
     rename_i a
     cases a with
     | none => rfl
     | some a =>
      have hs : ∀ m, qev P (Instr.sureAddr (.pointer (some a))) m = some a := fun _ => rfl
      simp only [hs, Option.bind_some, fieldPlace, qev_bind', qev_szOf hi]
      have hz : i.size ≠ 0 := by simpa using h
      rw [if_neg hz]; rfl
    ·cases h
   ·cases h
  ·cases h
 case convert src dst x =>
  simp only [free] at h
  split at h
  ·rename_i k k' hs hd
   simp only [execOp]
   unfold convert
   simp only [qev_bind', qev_under hs, qev_under hd, Option.bind_some]
   cases ρ x
   case float s b =>
    dsimp only
    unfold Conv.floatToInt
    repeat' (first | rfl | split)
   case pointer a => cases a <;> rfl
   all_goals rfl
  ·cases h
def clash (P : Program) (x y : Op) : Bool :=
 match cls x, cls y with
 | .st, .q => !free P y
 | .q, .st => !free P x
 | .st, .st => true
 | _, _ => false
def Within {α : Type} (P : Program) (b : Nat) (s : Sem α) : Prop := ∀ m m' : Mem, m b = m' b -> qev P s m = qev P s m'
theorem Within.bind {α β : Type} {b : Nat} {s : Sem α} {f : α -> Sem β} (h : Within P b s) (k : ∀ r, Within P b (f r)) : Within P b (s >>= f) := by
 intro m m' e
 rw [qev_bind', qev_bind', h m m' e]
 cases qev P s m' with
 | none => rfl
 | some r => exact k r m m' e
theorem Within.pure {α : Type} {b : Nat} (r : α) : Within P b (pure r : Sem α) := fun _ _ _ => rfl
theorem within_underlying (b : Nat) (t : TypeId) : Within P b (underlying t) := by
 intro m m' _
 unfold underlying
 rw [qev_bind', qev_bind']
 show qev P (match P.underlying t with | some d => _ | none => _) m = qev P (match P.underlying t with | some d => _ | none => _) m'
 cases P.underlying t <;> rfl
theorem within_size (b : Nat) (t : TypeId) : Within P b (sizeOf t) := by
 unfold sizeOf
 refine Within.bind ?_ fun r => Within.pure _
 intro m m' _
 unfold typeInfo
 rw [qev_bind', qev_bind']
 show qev P (match P.toTables.info? t with | some d => _ | none => _) m = qev P (match P.toTables.info? t with | some d => _ | none => _) m'
 cases P.toTables.info? t <;> rfl
theorem within_load (a : Addr) : Within P a.block (load a) := by
 intro m m' e
 simp only [load, qev, Mem.cell, e]
theorem add_block (a : Addr) (n : Nat) : (a.add n).block = a.block := by unfold Addr.add; split <;> rfl
theorem within_cells (a : Addr) : ∀ (n i : Nat) (acc : Array Value), Within P a.block (loadCellsFrom a i n acc)
 | 0, _, _ => Within.pure _
 | n + 1, i, acc => by
  unfold loadCellsFrom
  refine Within.bind ?_ fun r => within_cells a n _ _
  have := within_load (P := P) (a.add i)
  rw [add_block] at this; exact this
theorem within_loadVar (t : TypeId) (a : Addr) : Within P a.block (loadVar t a) := by
 unfold loadVar
 refine Within.bind ?_ fun r => ?_
 ·unfold isAgg
  refine Within.bind (within_underlying _ _) fun r => ?_
  split <;> exact Within.pure _
 ·split
  ·exact Within.bind (within_size _ _) fun r => Within.bind (within_cells a _ _ _) fun r => Within.pure _
  ·exact within_load a
theorem wev_stores {a : Addr} : ∀ (vs : List Value) (i : Nat) {m m' : Mem} {u : Unit}, wev P (storeCells a vs i) m = some (u, m') -> ∀ k, k ≠ a.block -> m' k = m k
 | [], _, m, m', u, h, k, _ => by
  simp only [storeCells] at h
  cases h; rfl
 | v :: vs, i, m, m', u, h, k, hk => by
  simp only [storeCells] at h
  rw [wev_bind'] at h
  simp only [store, wev] at h
  split at h
  ·split at h
   ·simp only [Option.bind_some] at h
    rw [wev_stores vs (i + 1) h k hk]
    simp only [Mem.set, add_block]
    rw [if_neg hk]
   ·cases h
  ·cases h
theorem wev_storeAt {t : TypeId} {p v : Value} {m m' : Mem} {u : Unit} (h : wev P (Instr.storeAt t p v) m = some (u, m')) : ∃ b, blockOf p = some b /\ ∀ k, k ≠ b -> m' k = m k := by
 unfold Instr.storeAt at h
 rw [wev_bind'] at h
 have hp : ∃ a, p = .pointer (some a) := by
  cases p <;> first | (simp [Instr.sureAddr, stuck, wev] at h; done) | skip
  rename_i a
  cases a with
  | none => simp [Instr.sureAddr, stuck, wev] at h
  | some a => exact ⟨a, rfl⟩
 obtain ⟨a, rfl⟩ := hp
 refine ⟨a.block, rfl, fun k hk => ?_⟩
 have hs : wev P (Instr.sureAddr (.pointer (some a))) m = some (a, m) := rfl
 rw [hs] at h
 simp only [Option.bind_some] at h
 unfold storeVar at h
 rw [wev_bind'] at h
 have hz : ∀ r, wev P (sizeOf t) m = some r -> r.2 = m := by
  intro r hr
  unfold sizeOf typeInfo at hr
  simp only [wev_bind'] at hr
  have e : wev P program m = some (P, m) := rfl
  rw [e] at hr
  simp only [Option.bind_some] at hr
  cases hi : P.toTables.info? t with
  | none => rw [hi] at hr; simp [stuck, wev] at hr
  | some d => rw [hi] at hr; cases hr; rfl
 cases hn : wev P (sizeOf t) m with
 | none => rw [hn] at h; cases h
 | some r =>
  have e2 := hz r hn
  rw [hn] at h
  simp only [Option.bind_some, e2] at h
  split at h
  ·rw [wev_bind'] at h
   simp [stuck, wev] at h
  ·exact wev_stores _ _ h k hk
def Apart (a : Act) (x y : Oper) : Prop :=
 ∃ t1 u1 v1 t2 u2, x.op = .store t1 u1 v1 /\ y.op = .load t2 u2 /\ ∀ b, blockOf (a.eval u1) = some b -> blockOf (a.eval u2) ≠ some b
theorem apart_q {a : Act} {x y : Oper} (hap : Apart a x y) {m m' : Mem} {u : Next} (hw : wev P (execOp a.eval x) m = some (u, m')) : qev P (execOp a.eval y) m' = qev P (execOp a.eval y) m := by
 obtain ⟨t1, u1, v1, t2, u2, ex, ey, hb⟩ := hap
 simp only [execOp, ex, ey] at hw ⊢
 rw [wev_bind'] at hw
 cases hs : wev P (Instr.storeAt t1 (a.eval u1) (a.eval v1)) m with
 | none => rw [hs] at hw; cases hw
 | some r =>
  rw [hs] at hw
  simp only [Option.bind_some] at hw
  have hm : r.2 = m' := by cases hw; rfl
  obtain ⟨b, h1, h2⟩ := wev_storeAt (u := r.1) (m' := r.2) hs
  rw [hm] at h2
  have hne := hb b h1
  rw [qev_bind', qev_bind']
  unfold Instr.loadAt
  rw [qev_bind', qev_bind']
  cases hv : a.eval u2 <;> first | rfl | skip
  rename_i ad
  cases ad with
  | none => rfl
  | some ad =>
   rw [hv] at hne
   have hne' : ad.block ≠ b := fun e => hne (by simp [blockOf, e])
   have hs2 : ∀ m, qev P (Instr.sureAddr (.pointer (some ad))) m = some ad := fun _ => rfl
   rw [hs2, hs2]
   simp only [Option.bind_some]
   rw [within_loadVar t2 ad m' m (h2 _ hne')]
   cases qev P (loadVar t2 ad) m <;> rfl
def indep (P : Program) (ap : Bool) (ops : Array Oper) (x y : Oper) : Bool :=
 okOp x.op && okOp y.op && (!clash P x.op y.op || ap) && off ops x.dst y && off ops y.dst x && (match x.dst with | none => true | some t => y.dst != some t)
def Apart2 (ap : Bool) (a : Act) (x y : Oper) : Prop := ap = true -> Apart a x y \/ Apart a y x
theorem apart_cls {a : Act} {x y : Oper} (h : Apart a x y) : cls x.op = .st /\ cls y.op = .q := by
 obtain ⟨t1, u1, v1, t2, u2, ex, ey, _⟩ := h
 rw [ex, ey]; exact ⟨rfl, rfl⟩
theorem st_q {ap : Bool} {a : Act} {x y : Oper} (hc : clash P x.op y.op = false \/ ap = true) (hap : Apart2 ap a x y) (hx : cls x.op = .st) (hy : cls y.op = .q) {m m' : Mem} {u : Next}
  (hw : wev P (execOp a.eval x) m = some (u, m')) : qev P (execOp a.eval y) m' = qev P (execOp a.eval y) m := by
 rcases hc with hc | hc
 ·simp only [clash, hx, hy, Bool.not_eq_eq_eq_not, Bool.not_false] at hc
  exact free_qev hc _ _
 ·rcases hap hc with h | h
  ·exact apart_q h hw
  ·have := apart_cls h
   rw [hx] at this; cases this.2
theorem clash_comm (x y : Op) : clash P x y = clash P y x := by unfold clash; cases cls x <;> cases cls y <;> rfl
theorem fresh_from {m : Mem} (hm : m.fin) (n : Nat) : ∃ b, n <= b /\ m b = none := by
 obtain ⟨N, hN⟩ := hm
 exact ⟨n + N, by omega, hN _ (by omega)⟩
theorem opD_comm {ap : Bool} {ops : Array Oper} {x y : Oper} (hi : indep P ap ops x y = true) {K : Act -> Mem -> Prop} {a : Act} (hap : Apart2 ap a x y) {m : Mem} (hm : m.fin)
  (h : opD P w0 Γ .no x (opD P w0 Γ .no y K) a m) : opD P w0 Γ .no y (opD P w0 Γ .no x K) a m := by
 simp only [indep, Bool.and_eq_true, Bool.or_eq_true, Bool.not_eq_true'] at hi
 obtain ⟨⟨⟨⟨⟨okx, oky⟩, hc⟩, hxy⟩, hyx⟩, hd⟩ := hi
 have hput : ∀ (u v : Value), (a.put x.dst u).put y.dst v = (a.put y.dst v).put x.dst u := fun u v => put_comm fun t ht => by
  rw [ht] at hd; simpa using hd
 have ex : ∀ v, execOp (a.put y.dst v).eval x = execOp a.eval x := fun v => off_exec okx hyx
 have ey : ∀ v, execOp (a.put x.dst v).eval y = execOp a.eval y := fun v => off_exec oky hxy
 have hc' : clash P y.op x.op = false \/ ap = true := by rw [clash_comm]; exact hc
 have hap' : Apart2 ap a y x := fun h => (hap h).symm
 unfold opD at h ⊢
 cases hx : cls x.op <;> cases hy : cls y.op <;> simp only [hx, hy] at h ⊢
 ·
  obtain ⟨r, hr, h⟩ := h
  rw [uponD_res] at h
  simp only [ey, uponD_res] at h
  obtain ⟨v, s, hs, _⟩ := resD_some h
  refine ⟨s, hs, ?_⟩
  rw [uponD_res]
  simp only [ex, uponD_res]
  have h' : resD P Γ (fun v => resD P Γ (fun u => K ((a.put x.dst v).put y.dst u) m) s) r := resD_mono (fun v hv => by
   obtain ⟨s', hs', h2⟩ := hv
   rw [hs] at hs'; cases hs'; exact h2) h
  refine resD_mono (fun u hu => ⟨r, hr, ?_⟩) (resD_swap h')
  simpa only [hput] using hu
 ·
  obtain ⟨r, hr, h⟩ := h
  rw [uponD_res] at h
  simp only [ey] at h
  obtain ⟨v0, c, t, k, ha, hb0⟩ := resD_some h
  refine ⟨c, t, k, ha, fun b hb hB => ?_⟩
  obtain ⟨u, hu, _⟩ := hb0 b hb hB
  refine ⟨u, hu, r, ?_, ?_⟩
  ·rw [ex]; exact qev_add _ _ hb hr
  ·rw [uponD_res]
   refine resD_mono (fun v hv => ?_) h
   obtain ⟨c', t', k', ha', hb'⟩ := hv
   rw [ha] at ha'; cases ha'
   obtain ⟨u', hu', hK⟩ := hb' b hb hB
   rw [hu] at hu'; cases hu'
   rw [<- hput]; exact hK
 ·
  obtain ⟨r, hr, h⟩ := h
  rw [uponD_res] at h
  simp only [ey] at h
  obtain ⟨v0, m', hm', _⟩ := resD_some h
  refine ⟨m', hm', r, ?_, ?_⟩
  ·rw [ex, st_q hc' hap' hy hx hm']; exact hr
  ·rw [uponD_res]
   refine resD_mono (fun v hv => ?_) h
   obtain ⟨m2, hm2, hK⟩ := hv
   rw [hm'] at hm2; cases hm2
   rw [<- hput]; exact hK
 ·
  obtain ⟨c, t, k, ha, h⟩ := h
  simp only [ey] at h
  obtain ⟨N, hN⟩ := qev_far (P := P) (execOp a.eval y) m
  obtain ⟨b0, hb0, hf0⟩ := fresh_from hm (N + w0.heap.size)
  obtain ⟨u0, hu0, s, hs, h0⟩ := h b0 hf0 (by omega)
  rw [hN b0 _ (by omega)] at hs
  refine ⟨s, hs, ?_⟩
  rw [uponD_res]
  have h' : resD P Γ (fun v => ∀ b, (m b = none /\ w0.heap.size <= b) -> ∃ u, nev P (k b) = some (.value u) /\ K ((a.put x.dst u).put y.dst v) (m.add b ⟨c, t, true⟩)) s := by
   refine resD_all (i0 := b0) ⟨hf0, by omega⟩ fun b hb => ?_
   obtain ⟨u, hu, s', hs', h2⟩ := h b hb.1 hb.2
   rw [qev_add _ _ hb.1 hs] at hs'; cases hs'
   rw [uponD_res] at h2
   exact resD_mono (fun v hv => ⟨u, hu, hv⟩) h2
  refine resD_mono (fun v hv => ?_) h'
  refine ⟨c, t, k, by rw [ex]; exact ha, fun b hb hB => ?_⟩
  obtain ⟨u, hu, hK⟩ := hv b ⟨hb, hB⟩
  exact ⟨u, hu, by rw [<- hput]; exact hK⟩
 ·
  obtain ⟨c, t, k, ha, h⟩ := h
  simp only [ey] at h
  obtain ⟨b0, hb0, hf0⟩ := fresh_from hm w0.heap.size
  obtain ⟨_, _, c', t', k', ha', _⟩ := h b0 hf0 hb0
  refine ⟨c', t', k', ha', fun b2 hb2 hB2 => ?_⟩
  obtain ⟨b1, hb1, hf1⟩ := fresh_from hm (w0.heap.size + b2 + 1)
  have hu2 : ∃ u2, nev P (k' b2) = some (.value u2) := by
   obtain ⟨_, _, c3, t3, k3, ha3, h3⟩ := h b1 hf1 (by omega)
   rw [ha'] at ha3; cases ha3
   obtain ⟨u2, hu2, _⟩ := h3 b2 (by simp only [Mem.add]; rw [if_neg (by omega)]; exact hb2) hB2
   exact ⟨u2, hu2⟩
  obtain ⟨u2, hu2⟩ := hu2
  refine ⟨u2, hu2, c, t, k, by rw [ex]; exact ha, fun b hb hB => ?_⟩
  have hne : b2 ≠ b := by rintro rfl; simp [Mem.add] at hb
  have hbm : m b = none := by simp only [Mem.add] at hb; rw [if_neg (Ne.symm hne)] at hb; exact hb
  obtain ⟨u, hu, c3, t3, k3, ha3, h3⟩ := h b hbm hB
  rw [ha'] at ha3; cases ha3
  obtain ⟨u2', hu2', hK⟩ := h3 b2 (by simp only [Mem.add]; rw [if_neg hne]; exact hb2) hB2
  rw [hu2] at hu2'; cases hu2'
  refine ⟨u, hu, ?_⟩
  rw [<- hput, Mem.add_comm _ hne]; exact hK
 ·
  obtain ⟨c, t, k, ha, h⟩ := h
  simp only [ey] at h
  obtain ⟨N, hN⟩ := wev_far (P := P) (execOp a.eval y) m
  obtain ⟨b0, hb0, hf0⟩ := fresh_from hm (N + w0.heap.size)
  obtain ⟨u0, hu0, m2, hm2, _⟩ := h b0 hf0 (by omega)
  obtain ⟨m', hm'⟩ := hN b0 _ (by omega) hf0 _ _ hm2
  refine ⟨m', hm', c, t, k, by rw [ex]; exact ha, fun b hb hB => ?_⟩
  have hbm : m b = none := (wev_dom _ hm' b).1 hb
  obtain ⟨u, hu, m3, hm3, hK⟩ := h b hbm hB
  rw [(wev_add _ _ hbm hm').1] at hm3; cases hm3
  exact ⟨u, hu, by rw [<- hput]; exact hK⟩
 ·
  obtain ⟨m', hw, r, hr, h⟩ := h
  rw [ey, st_q hc hap hx hy hw] at hr
  refine ⟨r, hr, ?_⟩
  rw [uponD_res] at h ⊢
  refine resD_mono (fun v hv => ?_) h
  exact ⟨m', by rw [ex]; exact hw, by rw [<- hput]; exact hv⟩
 ·
  obtain ⟨m', hw, c, t, k, ha, h⟩ := h
  simp only [ey] at ha
  refine ⟨c, t, k, ha, fun b hb hB => ?_⟩
  obtain ⟨h1, h2⟩ := wev_add _ ⟨c, t, true⟩ hb hw
  obtain ⟨u, hu, hK⟩ := h b h2 hB
  exact ⟨u, hu, _, by rw [ex]; exact h1, by rw [<- hput]; exact hK⟩
 ·
  exfalso
  rcases hc with hc | hc
  ·simp [clash, hx, hy] at hc
  ·rcases hap hc with h | h
   ·have := apart_cls h
    rw [hy] at this; cases this.2
   ·have := apart_cls h
    rw [hx] at this; cases this.2
def Lives (w0 : World) (m : Mem) : Prop := ∃ w, Holds w0 m w
theorem Lives.fin {m : Mem} (h : Lives w0 m) : m.fin := let ⟨_, H⟩ := h; H.fin
theorem Lives.add {m : Mem} (h : Lives w0 m) {b : Nat} (hb : m b = none) (hB : w0.heap.size <= b) (c : Array Value) (t : TypeId) : Lives w0 (m.add b ⟨c, t, true⟩) := by
 obtain ⟨w, H⟩ := h
 have get : ∀ k, ((w.heap ++ Array.replicate (b + 1) (Obj.cells #[] 0)).setIfInBounds b (.cells c t))[k]? = if k = b then some (.cells c t) else if k < w.heap.size then w.heap[k]? else if k < w.heap.size + (b + 1) then some (.cells #[] 0) else none := by
  intro k
  rw [Array.getElem?_setIfInBounds]
  by_cases h1 : b = k
  ·subst h1; simp; omega
  ·rw [if_neg h1, if_neg (Ne.symm h1), Array.getElem?_append]
   split
   ·rfl
   ·rw [Array.getElem?_replicate]
    split <;> split <;> first | rfl | omega
 refine ⟨{ w with heap := (w.heap ++ Array.replicate (b + 1) (Obj.cells #[] 0)).setIfInBounds b (.cells c t) }, ⟨⟨?_, fun a ha => ?_⟩, H.j, fun k x hx => ?_⟩⟩
 ·refine ⟨H.sm.1.os, H.sm.1.tape, H.sm.1.output, ?_, fun k hk => ?_⟩
  ·have := H.sm.1.size; simp; omega
  ·have h2 := H.sm.1.size
   show ((w.heap ++ Array.replicate (b + 1) (Obj.cells #[] 0)).setIfInBounds b (.cells c t))[k]? = _
   rw [get, if_neg (by omega), if_pos (by omega)]
   exact H.sm.1.block k hk
 ·have h3 := H.sm.2 a ha
  simp only [World.frozen?] at h3 ⊢
  rw [get]
  by_cases h1 : a.block = b
  ·rw [if_pos h1]; simp
  ·rw [if_neg h1]
   by_cases h2 : a.block < w.heap.size
   ·rw [if_pos h2]; exact h3
   ·rw [if_neg h2]
    by_cases h4 : a.block < w.heap.size + (b + 1)
    ·rw [if_pos h4]; simp
    ·rw [if_neg h4]
 ·simp only [Mem.add] at hx
  show ∃ fr cs ty, ((w.heap ++ Array.replicate (b + 1) (Obj.cells #[] 0)).setIfInBounds b (.cells c t))[k]? = _ /\ _
  rw [get]
  split at hx
  ·rename_i e; subst e
   cases hx
   exact ⟨(0, 0), c, t, by simp, fun _ _ e => e, fun _ => ⟨rfl, hB⟩⟩
  ·rename_i e
   obtain ⟨fr, cs, ty, h1, h2⟩ := H.blk k x hx
   exact ⟨fr, cs, ty, by rw [if_neg e, if_pos (H.size hx)]; exact h1, h2⟩
theorem opD_fin {g : Lv} {o : Oper} {K : Act -> Mem -> Prop} {a : Act} {m : Mem} (hm : Lives w0 m) (h : opD P w0 Γ g o K a m) : opD P w0 Γ g o (fun a m => Lives w0 m /\ K a m) a m := by
 unfold opD at h ⊢
 split at h
 ·obtain ⟨r, h1, h2⟩ := h
  refine ⟨r, h1, ?_⟩
  cases r <;> first | exact ⟨hm, h2⟩ | exact h2.elim | skip
  rcases h2 with ⟨h3, h4⟩ | ⟨h3, h4⟩ | ⟨h3, h4⟩
  ·exact Or.inl ⟨h3, fun v hv => ⟨hm, h4 v hv⟩⟩
  ·refine Or.inr (Or.inl ⟨h3, fun w H => (h4 w H).mono ?_⟩)
   rintro e w' ⟨v, m', h5, h6, h7⟩
   exact ⟨v, m', h5, h6, ⟨_, h6⟩, h7⟩
  ·refine Or.inr (Or.inr ⟨h3, fun w H => (h4 w H).mono ?_⟩)
   rintro e w' ⟨v, h5, h6, h7⟩
   exact ⟨v, h5, ⟨hm, h6⟩, h7⟩
 ·obtain ⟨c, t, k, h1, h2⟩ := h
  exact ⟨c, t, k, h1, fun b hb hB => let ⟨v, h3, h4⟩ := h2 b hb hB; ⟨v, h3, hm.add hb hB c t, h4⟩⟩
 ·obtain ⟨m', h1, h2⟩ := h
  obtain ⟨w, H⟩ := hm
  obtain ⟨w', _, H'⟩ := wev_run _ h1 H
  exact ⟨m', h1, ⟨w', H'⟩, h2⟩
theorem stepD_fin {g : Lv} {ops : Array Oper} {o : Oper} {K : Act -> Mem -> Prop} {a : Act} {m : Mem} (hm : Lives w0 m) (h : stepD P w0 Γ g ops o K a m) : stepD P w0 Γ g ops o (fun a m => Lives w0 m /\ K a m) a m := by
 unfold stepD at *
 split
 ·rename_i hw; rw [if_pos hw] at h; exact opD_fin hm h
 ·rename_i hw; rw [if_neg hw] at h; exact ⟨hm, h⟩
theorem opD_put {g : Lv} {o : Oper} {K : Act -> Mem -> Prop} {a : Act} {m : Mem} (h : opD P w0 Γ g o K a m) : opD P w0 Γ g o (fun a' m' => (∃ v, a' = a.put o.dst v) /\ K a' m') a m := by
 unfold opD at h ⊢
 split at h
 ·obtain ⟨r, h1, h2⟩ := h
  refine ⟨r, h1, ?_⟩
  cases r <;> first | exact ⟨⟨_, rfl⟩, h2⟩ | exact h2.elim | skip
  rcases h2 with ⟨h3, h4⟩ | ⟨h3, h4⟩ | ⟨h3, h4⟩
  ·exact Or.inl ⟨h3, fun v hv => ⟨⟨v, rfl⟩, h4 v hv⟩⟩
  ·refine Or.inr (Or.inl ⟨h3, fun w H => (h4 w H).mono ?_⟩)
   rintro e w' ⟨v, m', h5, h6, h7⟩
   exact ⟨v, m', h5, h6, ⟨v, rfl⟩, h7⟩
  ·refine Or.inr (Or.inr ⟨h3, fun w H => (h4 w H).mono ?_⟩)
   rintro e w' ⟨v, h5, h6, h7⟩
   exact ⟨v, h5, ⟨⟨v, rfl⟩, h6⟩, h7⟩
 ·obtain ⟨c, t, k, h1, h2⟩ := h
  exact ⟨c, t, k, h1, fun b hb hB => let ⟨v, h3, h4⟩ := h2 b hb hB; ⟨v, h3, ⟨v, rfl⟩, h4⟩⟩
 ·obtain ⟨m', h1, h2⟩ := h
  exact ⟨m', h1, ⟨_, rfl⟩, h2⟩
theorem opD_past {g : Lv} {ops : Array Oper} {y : Oper} {d : Option Tmp} {u : Value} (ok : okOp y.op = true) (ho : off ops d y = true) (hd : ∀ t, d = some t -> y.dst ≠ some t) {K : Act -> Mem -> Prop} {a : Act} {m : Mem} :
  opD P w0 Γ g y K (a.put d u) m <-> opD P w0 Γ g y (fun a' m' => K (a'.put d u) m') a m := by
 have ey : ∀ v, execOp (a.put d v).eval y = execOp a.eval y := fun v => off_exec ok ho
 have hput : ∀ v, (a.put d u).put y.dst v = (a.put y.dst v).put d u := fun v => put_comm hd
 have hu : ∀ r, uponD P w0 Γ g y.dst K (a.put d u) m r <-> uponD P w0 Γ g y.dst (fun a' m' => K (a'.put d u) m') a m r := by
  intro r
  cases r <;> simp only [uponD, hput]
 unfold opD
 cases cls y.op <;> simp only [ey, hput]
 exact exists_congr fun r => and_congr_right fun _ => hu r
theorem opD_comm_al {g : Lv} {ap : Bool} {ops : Array Oper} {x y : Oper} (hi : indep P ap ops x y = true) (hgx : g ≠ .all) (hx : cls x.op = .q) (hy : cls y.op = .al) {K : Act -> Mem -> Prop} {a : Act} {m : Mem} (hm : Lives w0 m)
  (h : opD P w0 Γ g x (opD P w0 Γ .no y K) a m) : opD P w0 Γ .no y (opD P w0 Γ g x K) a m := by
 simp only [indep, Bool.and_eq_true, Bool.or_eq_true, Bool.not_eq_true'] at hi
 obtain ⟨⟨⟨⟨⟨okx, oky⟩, hc⟩, hxy⟩, hyx⟩, hd⟩ := hi
 have hput : ∀ (u v : Value), (a.put x.dst u).put y.dst v = (a.put y.dst v).put x.dst u := fun u v => put_comm fun t ht => by
  rw [ht] at hd; simpa using hd
 have ex : ∀ v, execOp (a.put y.dst v).eval x = execOp a.eval x := fun v => off_exec okx hyx
 have ey : ∀ v, execOp (a.put x.dst v).eval y = execOp a.eval y := fun v => off_exec oky hxy
 unfold opD at h ⊢
 rw [hx] at h ⊢
 rw [hy] at h ⊢
 dsimp only at h ⊢
 obtain ⟨r, hr, h⟩ := h
 have key : ∃ c t k, aev P (execOp a.eval y) = some (c, t, k) /\ ∀ b, m b = none -> w0.heap.size <= b -> ∃ v, nev P (k b) = some (.value v) := by
  have one : ∀ (v0 : Value), (∃ c t k, aev P (execOp (a.put x.dst v0).eval y) = some (c, t, k) /\ ∀ b, m b = none -> w0.heap.size <= b -> ∃ v, nev P (k b) = some (.value v) /\ K ((a.put x.dst v0).put y.dst v) (m.add b ⟨c, t, true⟩)) -> ∃ c t k, aev P (execOp a.eval y) = some (c, t, k) /\ ∀ b, m b = none -> w0.heap.size <= b -> ∃ v, nev P (k b) = some (.value v) := by
   rintro v0 ⟨c, t, k, ha, hb⟩
   rw [ey] at ha
   exact ⟨c, t, k, ha, fun b h1 h2 => let ⟨v, h3, _⟩ := hb b h1 h2; ⟨v, h3⟩⟩
  cases r <;> first | exact one _ h | exact h.elim | skip
  rcases h with ⟨hp, hf⟩ | ⟨hg, _⟩ | ⟨_, hp⟩
  ·obtain ⟨e, w', fr, ⟨v, _, hv, _⟩, _⟩ := hp wJ wJ_ok []
   exact one v (hf v hv)
  ·exact absurd hg hgx
  ·obtain ⟨w, H⟩ := hm
   obtain ⟨e, w', fr, ⟨v, _, hv, _⟩, _⟩ := hp w H []
   exact one v hv
 obtain ⟨c, t, k, ha, hb0⟩ := key
 refine ⟨c, t, k, ha, fun b hb hB => ?_⟩
 obtain ⟨u, hu⟩ := hb0 b hb hB
 refine ⟨u, hu, r, ?_, ?_⟩
 ·rw [ex]; exact qev_add _ _ hb hr
 ·have two : ∀ v, (∃ c t k, aev P (execOp (a.put x.dst v).eval y) = some (c, t, k) /\ ∀ b, m b = none -> w0.heap.size <= b -> ∃ v', nev P (k b) = some (.value v') /\ K ((a.put x.dst v).put y.dst v') (m.add b ⟨c, t, true⟩)) -> K ((a.put y.dst u).put x.dst v) (m.add b ⟨c, t, true⟩) := by
   rintro v ⟨c', t', k', ha', hb'⟩
   rw [ey, ha] at ha'; cases ha'
   obtain ⟨u', hu', hK⟩ := hb' b hb hB
   rw [hu] at hu'; cases hu'
   rw [<- hput]; exact hK
  cases r <;> first | exact two _ h | exact h.elim | skip
  rcases h with ⟨hp, hf⟩ | ⟨hg, _⟩ | ⟨hn, hp⟩
  ·exact Or.inl ⟨hp, fun v hv => two v (hf v hv)⟩
  ·exact absurd hg hgx
  ·refine Or.inr (Or.inr ⟨hn, fun w H => (hp w ⟨H.sm, H.j, fun k x hk => H.blk k x (by simp only [Mem.add]; rw [if_neg (by rintro rfl; rw [hb] at hk; cases hk)]; exact hk)⟩).mono ?_⟩)
   rintro e w' ⟨v, h5, h6, h7⟩
   exact ⟨v, h5, two v h6, h7⟩
def plainQ : Op -> Bool
 | .move _ | .assign _ | .binOp .. | .load .. | .fieldAddr .. | .indexAddr .. | .index .. | .convert .. | .extract .. | .pick .. => true
 | _ => false
theorem plainQ_cls {o : Op} (h : plainQ o = true) : cls o = .q := by
 cases o <;> first | rfl | cases h
theorem plainQ_val {ρ : Operand -> Value} {o : Oper} (h : plainQ o.op = true) {m : Mem} {r : Next} (hr : qev P (execOp ρ o) m = some r) : ∃ v, r = .value v := by
 obtain ⟨dst, op, ty, pos, after, guard⟩ := o
 have key : ∀ {s : Sem Value}, qev P (do pure (Next.value (<- s))) m = some r -> ∃ v, r = .value v := by
  intro s h
  rw [qev_bind'] at h
  cases hs : qev P s m with
  | none => rw [hs] at h; cases h
  | some x => rw [hs] at h; cases h; exact ⟨x, rfl⟩
 cases op <;> first | (cases h; done) | skip
 case move x => cases hr; exact ⟨_, rfl⟩
 case assign x => cases hr; exact ⟨_, rfl⟩
 case pick c x y =>
  simp only [execOp] at hr
  rw [qev_bind'] at hr
  cases hs : qev P (asBool (ρ c)) m with
  | none => rw [hs] at hr; cases hr
  | some x => rw [hs] at hr; cases hr; exact ⟨_, rfl⟩
 all_goals exact key hr
theorem opD_comm_pl {gx gy : Lv} {ap : Bool} {ops : Array Oper} {x y : Oper} (hi : indep P ap ops x y = true) (hgx : gx ≠ .all) (hgy : gy ≠ .all) (hx : cls x.op = .q) (hy : cls y.op = .q) (hp : plainQ x.op = true \/ plainQ y.op = true)
  {K : Act -> Mem -> Prop} {a : Act} {m : Mem} (hm : Lives w0 m)
  (h : opD P w0 Γ gx x (opD P w0 Γ gy y K) a m) : opD P w0 Γ gy y (opD P w0 Γ gx x K) a m := by
 simp only [indep, Bool.and_eq_true, Bool.or_eq_true, Bool.not_eq_true'] at hi
 obtain ⟨⟨⟨⟨⟨okx, oky⟩, hc⟩, hxy⟩, hyx⟩, hd⟩ := hi
 have hput : ∀ (u v : Value), (a.put x.dst u).put y.dst v = (a.put y.dst v).put x.dst u := fun u v => put_comm fun t ht => by
  rw [ht] at hd; simpa using hd
 have ex : ∀ v, execOp (a.put y.dst v).eval x = execOp a.eval x := fun v => off_exec okx hyx
 have ey : ∀ v, execOp (a.put x.dst v).eval y = execOp a.eval y := fun v => off_exec oky hxy
 unfold opD at h ⊢
 rw [hx] at h ⊢
 rw [hy] at h ⊢
 dsimp only at h ⊢
 obtain ⟨r, hr, h⟩ := h
 rcases hp with hp | hp
 ·obtain ⟨v, rfl⟩ := plainQ_val hp hr
  obtain ⟨s, hs, h⟩ := h
  rw [ey] at hs
  refine ⟨s, hs, ?_⟩
  have one : ∀ u, K ((a.put x.dst v).put y.dst u) m -> ∃ r, qev P (execOp (a.put y.dst u).eval x) m = some r /\ uponD P w0 Γ gx x.dst K (a.put y.dst u) m r := fun u hu => ⟨_, by rw [ex]; exact hr, by rw [hput] at hu; exact hu⟩
  cases s <;> first | exact one _ h | exact h.elim | skip
  rcases h with ⟨h1, h2⟩ | ⟨h1, h2⟩ | ⟨h1, h2⟩
  ·exact Or.inl ⟨h1, fun v hv => one _ (h2 v hv)⟩
  ·exact absurd h1 hgy
  ·refine Or.inr (Or.inr ⟨h1, fun w H => (h2 w H).mono ?_⟩)
   rintro e w' ⟨v', h3, h4, h5⟩
   exact ⟨v', h3, one _ h4, h5⟩
 ·have key : ∃ u, qev P (execOp a.eval y) m = some (.value u) := by
   have one : ∀ v0, (∃ s, qev P (execOp (a.put x.dst v0).eval y) m = some s /\ uponD P w0 Γ gy y.dst K (a.put x.dst v0) m s) -> ∃ u, qev P (execOp a.eval y) m = some (.value u) := by
    rintro v0 ⟨s, hs, _⟩
    rw [ey] at hs
    obtain ⟨u, rfl⟩ := plainQ_val hp hs
    exact ⟨u, hs⟩
   cases r <;> first | exact one _ h | exact h.elim | skip
   rcases h with ⟨hp, hf⟩ | ⟨hg, _⟩ | ⟨_, hp⟩
   ·obtain ⟨e, w', fr, ⟨v, _, hv, _⟩, _⟩ := hp wJ wJ_ok []
    exact one v (hf v hv)
   ·exact absurd hg hgx
   ·obtain ⟨w, H⟩ := hm
    obtain ⟨e, w', fr, ⟨v, _, hv, _⟩, _⟩ := hp w H []
    exact one v hv
  obtain ⟨u, hu⟩ := key
  refine ⟨_, hu, r, by rw [ex]; exact hr, ?_⟩
  have two : ∀ v, (∃ s, qev P (execOp (a.put x.dst v).eval y) m = some s /\ uponD P w0 Γ gy y.dst K (a.put x.dst v) m s) -> K ((a.put y.dst u).put x.dst v) m := by
   rintro v ⟨s, hs, h⟩
   rw [ey, hu] at hs; cases hs
   rw [<- hput]; exact h
  cases r <;> first | exact two _ h | exact h.elim | skip
  rcases h with ⟨hp, hf⟩ | ⟨hg, _⟩ | ⟨hn, hp⟩
  ·exact Or.inl ⟨hp, fun v hv => two v (hf v hv)⟩
  ·exact absurd hg hgx
  ·refine Or.inr (Or.inr ⟨hn, fun w H => (hp w H).mono ?_⟩)
   rintro e w' ⟨v, h5, h6, h7⟩
   exact ⟨v, h5, two v h6, h7⟩
theorem stepD_comm' {gx gy : Lv} {ap : Bool} {ops : Array Oper} {x y : Oper} (hi : indep P ap ops x y = true) {K : Act -> Mem -> Prop} {a : Act} {m : Mem}
  (hcomm : opD P w0 Γ gx x (opD P w0 Γ gy y K) a m -> opD P w0 Γ gy y (opD P w0 Γ gx x K) a m)
  (h : stepD P w0 Γ gx ops x (stepD P w0 Γ gy ops y K) a m) : stepD P w0 Γ gy ops y (stepD P w0 Γ gx ops x K) a m := by
 have hi' := hi
 simp only [indep, Bool.and_eq_true, Bool.or_eq_true, Bool.not_eq_true'] at hi'
 obtain ⟨⟨⟨⟨⟨okx, oky⟩, hc⟩, hxy⟩, hyx⟩, hd⟩ := hi'
 have hd1 : ∀ t, x.dst = some t -> y.dst ≠ some t := fun t ht => by rw [ht] at hd; simpa using hd
 have hd2 : ∀ t, y.dst = some t -> x.dst ≠ some t := fun t ht h => hd1 t h ht
 have wy : ∀ v, Region.wanted y (yielded ops (a.put x.dst v).tmps) = Region.wanted y (yielded ops a.tmps) := fun v => off_wanted hxy
 have wx : ∀ v, Region.wanted x (yielded ops (a.put y.dst v).tmps) = Region.wanted x (yielded ops a.tmps) := fun v => off_wanted hyx
 unfold stepD at h
 by_cases h1 : Region.wanted x (yielded ops a.tmps) = true
 ·rw [if_pos h1] at h
  by_cases h2 : Region.wanted y (yielded ops a.tmps) = true
  ·have h' : opD P w0 Γ gx x (opD P w0 Γ gy y K) a m := by
    refine opD_mono ?_ (opD_put h)
    rintro a' m' ⟨⟨v, rfl⟩, hk⟩
    rwa [wy, if_pos h2] at hk
   have h'' := hcomm h'
   unfold stepD
   rw [if_pos h2]
   refine opD_mono ?_ (opD_put h'')
   rintro a' m' ⟨⟨v, rfl⟩, hk⟩
   rw [wx, if_pos h1]; exact hk
  ·have h' : opD P w0 Γ gx x (fun a' m' => K (a'.put y.dst undef) m') a m := by
    refine opD_mono ?_ (opD_put h)
    rintro a' m' ⟨⟨v, rfl⟩, hk⟩
    rwa [wy, if_neg h2] at hk
   unfold stepD
   rw [if_neg h2, wx, if_pos h1]
   exact (opD_past okx hyx hd2).2 h'
 ·rw [if_neg h1] at h
  simp only [wy] at h
  unfold stepD
  by_cases h2 : Region.wanted y (yielded ops a.tmps) = true
  ·rw [if_pos h2] at h ⊢
   have h' := (opD_past oky hxy hd1).1 h
   refine opD_mono ?_ (opD_put h')
   rintro a' m' ⟨⟨v, rfl⟩, hk⟩
   rw [wx, if_neg h1]; exact hk
  ·rw [if_neg h2] at h ⊢
   rw [wx, if_neg h1, put_comm hd2]; exact h
theorem stepD_comm {ap : Bool} {ops : Array Oper} {x y : Oper} (hi : indep P ap ops x y = true) {K : Act -> Mem -> Prop} {a : Act} (hap : Apart2 ap a x y) {m : Mem} (hm : m.fin)
  (h : stepD P w0 Γ .no ops x (stepD P w0 Γ .no ops y K) a m) : stepD P w0 Γ .no ops y (stepD P w0 Γ .no ops x K) a m :=
 stepD_comm' hi (opD_comm hi hap hm) h
theorem stepD_comm_al {g : Lv} {ap : Bool} {ops : Array Oper} {x y : Oper} (hi : indep P ap ops x y = true) (hgx : g ≠ .all) (hx : cls x.op = .q) (hy : cls y.op = .al) {K : Act -> Mem -> Prop} {a : Act} {m : Mem} (hm : Lives w0 m)
  (h : stepD P w0 Γ g ops x (stepD P w0 Γ .no ops y K) a m) : stepD P w0 Γ .no ops y (stepD P w0 Γ g ops x K) a m :=
 stepD_comm' hi (opD_comm_al hi hgx hx hy hm) h
theorem stepD_comm_pl {gx gy : Lv} {ap : Bool} {ops : Array Oper} {x y : Oper} (hi : indep P ap ops x y = true) (hgx : gx ≠ .all) (hgy : gy ≠ .all) (hx : cls x.op = .q) (hy : cls y.op = .q) (hp : plainQ x.op = true \/ plainQ y.op = true)
  {K : Act -> Mem -> Prop} {a : Act} {m : Mem} (hm : Lives w0 m) (h : stepD P w0 Γ gx ops x (stepD P w0 Γ gy ops y K) a m) : stepD P w0 Γ gy ops y (stepD P w0 Γ gx ops x K) a m :=
 stepD_comm' hi (opD_comm_pl hi hgx hgy hx hy hp hm) h
variable {P : Program} {w0 : World} {Γ : FuncId -> Array Value -> Value -> Prop}
def depsM (md : Region.Mode) (ops : Array Oper) (i : Nat) : List Nat :=
 match ops[i]? with
 | none => []
 | some o => (o.after.toList.filter (Region.binds md)).map (·.on)
def depsOf (ops : Array Oper) (i : Nat) : List Nat := depsM .any ops i
theorem binds_any {md : Region.Mode} {e : Edge} (h : Region.binds .any e = true) : Region.binds md e = true := by
 unfold Region.binds at *
 cases hg : e.ground <;> simp_all
theorem depsM_any {md : Region.Mode} {ops : Array Oper} {i y : Nat} (h : y ∈ depsOf ops i) : y ∈ depsM md ops i := by
 unfold depsOf at h
 unfold depsM at *
 split at h
 ·exact h
 ·simp only [List.mem_map, List.mem_filter] at *
  obtain ⟨e, ⟨h1, h2⟩, h3⟩ := h
  exact ⟨e, ⟨h1, binds_any h2⟩, h3⟩
def okFrom (md : Region.Mode) (ops : Array Oper) : List Nat -> List Nat -> Bool
 | [], _ => true
 | i :: r, seen => (depsM md ops i).all (fun y => seen.contains y) && okFrom md ops r (i :: seen)
def progOk (md : Region.Mode) (ops : Array Oper) : Bool :=
 let L := Region.linearise md ops 0
 L.all (fun i => decide (i < ops.size)) && (List.range ops.size).all (fun i => L.contains i) && okFrom md ops L []
def baseOf : Op -> Option Tmp
 | .fieldAddr _ (.tmp u) _ => some u
 | _ => none
def defAt (ops : Array Oper) (t : Tmp) : Option Nat := (List.range ops.size).find? fun j => ((ops[j]?).bind (·.dst)) == some t
def rootOf (ops : Array Oper) (bx : Nat) : Nat -> Tmp -> Option Tmp
 | 0, _ => none
 | n + 1, t => match defAt ops t with
  | none => some t
  | some j => if bx.testBit j then
    match (ops[j]?).bind (fun o => baseOf o.op) with
    | some u => rootOf ops bx n u
    | none => none
   else none
def apAt (dis : Tmp -> Tmp -> Bool) (ops : Array Oper) (bi bx : Nat) : Op -> Op -> Bool
 | .store _ (.tmp t) _, .load _ (.tmp u) => match rootOf ops bi 8 t, rootOf ops bx 8 u with
  | some r, some s => dis r s
  | _, _ => false
 | _, _ => false
def apB (dis : Tmp -> Tmp -> Bool) (ops : Array Oper) (b : Array Nat) (i x : Nat) : Bool :=
 match ops[i]?, ops[x]? with
 | some oi, some ox => apAt dis ops (b.getD i 0) (b.getD x 0) oi.op ox.op || apAt dis ops (b.getD x 0) (b.getD i 0) ox.op oi.op
 | _, _ => false
def alOk (ops : Array Oper) (b : Array Nat) : Bool :=
 (List.range ops.size).all fun j => decide (b.getD j 0 < 2 ^ j) &&
  (match (ops[j]?).bind (·.dst) with
  | none => true
  | some d => (List.range ops.size).all fun k => k == j || ((ops[k]?).bind (·.dst)) != some d) &&
  (match (ops[j]?).bind (fun o => baseOf o.op) with
  | none => true
  | some u => (List.range ops.size).all fun k => ((ops[k]?).bind (·.dst)) != some u || (b.getD j 0).testBit k)
structure AlOk (ops : Array Oper) (b : Array Nat) : Prop where
 lt : ∀ j k : Nat, j < ops.size -> (b.getD j 0).testBit k = true -> k < j
 uniq : ∀ (j k : Nat) (oj ok : Oper) (d : Tmp), ops[j]? = some oj -> ops[k]? = some ok -> oj.dst = some d -> ok.dst = some d -> j = k
 base : ∀ (j : Nat) (oj : Oper) (u : Tmp) (k : Nat) (ok : Oper), ops[j]? = some oj -> baseOf oj.op = some u -> ops[k]? = some ok -> ok.dst = some u -> (b.getD j 0).testBit k = true
theorem lt_size {ops : Array Oper} {j : Nat} {o : Oper} (h : ops[j]? = some o) : j < ops.size := (Array.getElem?_eq_some_iff.1 h).1
theorem alOk_ok {ops : Array Oper} {b : Array Nat} (h : alOk ops b = true) : AlOk ops b := by
 simp only [alOk, List.all_eq_true, List.mem_range, Bool.and_eq_true, decide_eq_true_eq] at h
 refine ⟨fun j k hj hk => ?_, fun j k oj ok d hj hk dj dk => ?_, fun j oj u k ok hj hb hk dk => ?_⟩
 ·have h1 := (h j hj).1.1
  apply Nat.lt_of_not_le
  intro hle
  rw [Nat.testBit_lt_two_pow (Nat.lt_of_lt_of_le h1 (Nat.pow_le_pow_right (by decide) hle))] at hk
  cases hk
 ·have h1 := (h j (lt_size hj)).1.2
  rw [hj] at h1
  simp only [Option.bind_some, dj, List.all_eq_true, List.mem_range] at h1
  have h2 := h1 k (lt_size hk)
  rw [hk] at h2
  simp only [Option.bind_some, dk, bne_self_eq_false, Bool.or_false, beq_iff_eq] at h2
  exact h2.symm
 ·have h1 := (h j (lt_size hj)).2
  rw [hj] at h1
  simp only [Option.bind_some, hb, List.all_eq_true, List.mem_range] at h1
  have h2 := h1 k (lt_size hk)
  rw [hk] at h2
  simpa only [Option.bind_some, dk, bne_self_eq_false, Bool.false_or] using h2
structure Al (ops : Array Oper) (a0 : Act) (E : Nat -> Prop) (a : Act) : Prop where
 ext : ∀ t : Tmp, (∀ (k : Nat) (o : Oper), ops[k]? = some o -> o.dst ≠ some t) -> a.eval (.tmp t) = a0.eval (.tmp t)
 near : ∀ (j : Nat) (o : Oper) (u d : Tmp), E j -> ops[j]? = some o -> baseOf o.op = some u -> o.dst = some d -> ∀ b, blockOf (a.eval (.tmp d)) = some b -> blockOf (a.eval (.tmp u)) = some b
theorem Al.start (ops : Array Oper) (a0 : Act) (E : Nat -> Prop) (h : ∀ j, j < ops.size -> ¬ E j) : Al ops a0 E a0 :=
 ⟨fun _ _ => rfl, fun j _ _ _ hj ho => absurd hj (h j (lt_size ho))⟩
theorem put_self (a : Act) (d : Tmp) (v : Value) : (a.put (some d) v).eval (.tmp d) = v \/ (a.put (some d) v).eval (.tmp d) = undef := by
 simp only [Act.put, Act.eval, Array.getD_eq_getD_getElem?, Array.getElem?_setIfInBounds]
 by_cases h : d < a.tmps.size <;> simp [h]
theorem Al.step {ops : Array Oper} {b : Array Nat} (hb : AlOk ops b) {a0 a : Act} {E : Nat -> Prop} (hc : ∀ j, E j -> ∀ k, (b.getD j 0).testBit k = true -> E k) (h : Al ops a0 E a) {k : Nat} {o : Oper} (ho : ops[k]? = some o) (hk : ¬ E k) {v : Value}
  (hv : ∀ u, baseOf o.op = some u -> ∀ c, blockOf v = some c -> blockOf (a.eval (.tmp u)) = some c) : Al ops a0 (fun j => E j \/ j = k) (a.put o.dst v) := by
 have same : ∀ t, o.dst ≠ some t -> (a.put o.dst v).eval (.tmp t) = a.eval (.tmp t) := fun t ht => put_eval fun s hs => by
  rintro e; cases e; exact ht hs
 refine ⟨fun t ht => by rw [same t (ht k o ho)]; exact h.ext t ht, ?_⟩
 intro j oj u d hj hoj hbu hd c hcc
 by_cases e : j = k
 ·subst e
  rw [ho] at hoj; cases hoj
  have hu : o.dst ≠ some u := by
   intro e
   have := hb.base j o u j o ho hbu ho e
   have := hb.lt j j (lt_size ho) this
   omega
  rw [same u hu]
  rw [hd] at hcc
  rcases put_self a d v with e | e
  ·rw [e] at hcc; exact hv u hbu c hcc
  ·rw [e] at hcc; cases hcc
 ·have hE : E j := by
   rcases hj with hj | hj
   ·exact hj
   ·exact absurd hj e
  have hdk : o.dst ≠ some d := fun e' => e (hb.uniq j k oj o d hoj ho hd e')
  have huk : o.dst ≠ some u := fun e' => hk (hc j hE k (hb.base j oj u k o hoj hbu ho e'))
  rw [same d hdk] at hcc
  rw [same u huk]
  exact h.near j oj u d hE hoj hbu hd c hcc
theorem rootOf_ok {ops : Array Oper} {a0 a : Act} {E : Nat -> Prop} (h : Al ops a0 E a) {bx : Nat} (hE : ∀ j, bx.testBit j = true -> E j) : ∀ (n : Nat) {t r : Tmp}, rootOf ops bx n t = some r ->
  ∀ b, blockOf (a.eval (.tmp t)) = some b -> blockOf (a0.eval (.tmp r)) = some b
 | 0, _, _, hr, _, _ => by cases hr
 | n + 1, t, r, hr, b, hb => by
  simp only [rootOf] at hr
  split at hr
  ·rename_i hd
   cases hr
   rw [<- h.ext t ?_]; exact hb
   intro k o hk hdst
   have := List.find?_eq_none.1 hd k (List.mem_range.2 (lt_size hk))
   rw [hk] at this
   simp [hdst] at this
  ·rename_i j hd
   split at hr
   ·rename_i hbit
    split at hr
    ·rename_i u hu
     cases ho : ops[j]? with
     | none => rw [ho] at hu; cases hu
     | some o =>
      rw [ho] at hu
      simp only [Option.bind_some] at hu
      have hdst : o.dst = some t := by
       have := List.find?_some hd
       rw [ho] at this
       simpa using this
      exact rootOf_ok h hE n hr b (h.near j o u t (hE j hbit) ho hu hdst b hb)
    ·cases hr
   ·cases hr
theorem apAt_ok {dis : Tmp -> Tmp -> Bool} {ops : Array Oper} {a0 a : Act} {E : Nat -> Prop} (h : Al ops a0 E a) (hdis : ∀ r s, dis r s = true -> ∀ b, blockOf (a0.eval (.tmp r)) = some b -> blockOf (a0.eval (.tmp s)) ≠ some b)
  {bi bx : Nat} (hi : ∀ j, bi.testBit j = true -> E j) (hx : ∀ j, bx.testBit j = true -> E j) {oi ox : Oper} (hap : apAt dis ops bi bx oi.op ox.op = true) : Apart a oi ox := by
 unfold apAt at hap
 split at hap
 ·rename_i t1 t v t2 u e1 e2
  split at hap
  ·rename_i r s hr hs
   refine ⟨t1, _, v, t2, _, e1, e2, fun b hb hb' => ?_⟩
   exact hdis r s hap b (rootOf_ok h hi 8 hr b hb) (rootOf_ok h hx 8 hs b hb')
  ·cases hap
 ·cases hap
theorem res_bind {α β : Type} {s : Sem α} {f : α -> Sem β} {m : Mem} {r : β} (h : qev P (s >>= f) m = some r) : ∃ x, qev P s m = some x /\ qev P (f x) m = some r := by
 rw [qev_bind'] at h
 cases hs : qev P s m with
 | none => rw [hs] at h; cases h
 | some x => rw [hs] at h; exact ⟨x, rfl, h⟩
theorem fieldAt_near {s : TypeId} {v w : Value} {f : Nat} {m : Mem} (h : qev P (Instr.fieldAt s v f) m = some w) : ∀ b, blockOf w = some b -> blockOf v = some b := by
 unfold Instr.fieldAt at h
 obtain ⟨d, _, h⟩ := res_bind h
 split at h
 ·split at h
  ·obtain ⟨a, ha, h⟩ := res_bind h
   obtain ⟨q, hq, h⟩ := res_bind h
   have hva : v = .pointer (some a) := by
    unfold Instr.sureAddr at ha
    split at ha
    ·cases ha; rfl
    ·cases ha
   have hw : w = .pointer (some q) := by cases h; rfl
   have hqb : q.block = a.block := by
    unfold fieldPlace at hq
    obtain ⟨z, _, hq⟩ := res_bind hq
    split at hq
    ·unfold partAt at hq
     obtain ⟨y, _, hq⟩ := res_bind hq
     obtain ⟨y2, _, hq⟩ := res_bind hq
     cases hq
     split <;> rfl
    ·cases hq; exact add_block _ _
   subst hva; subst hw
   intro b hb
   simpa [blockOf, hqb] using hb
  ·cases h
 ·cases h
theorem opD_al {g : Lv} {o : Oper} {K : Act -> Mem -> Prop} {a : Act} {m : Mem} (h : opD P w0 Γ g o K a m) :
  opD P w0 Γ g o (fun a' m' => (∃ v, a' = a.put o.dst v /\ ∀ u, baseOf o.op = some u -> ∀ b, blockOf v = some b -> blockOf (a.eval (.tmp u)) = some b) /\ K a' m') a m := by
 unfold opD at h ⊢
 split at h
 ·obtain ⟨r, h1, h2⟩ := h
  refine ⟨r, h1, ?_⟩
  have hn : ∀ u, baseOf o.op = some u -> ∃ v, r = .value v /\ ∀ b, blockOf v = some b -> blockOf (a.eval (.tmp u)) = some b := by
   intro u hu
   unfold baseOf at hu
   split at hu
   ·rename_i s u' f e
    cases hu
    simp only [execOp, e] at h1
    obtain ⟨w, hw, h1⟩ := res_bind h1
    cases h1
    exact ⟨w, rfl, fieldAt_near hw⟩
   ·cases hu
  cases r
  case value v =>
   refine ⟨⟨v, rfl, fun u hu => ?_⟩, h2⟩
   obtain ⟨v', e, hv⟩ := hn u hu
   cases e; exact hv
  case skip =>
   exact ⟨⟨undef, rfl, fun u _ b hb => by cases hb⟩, h2⟩
  case enter f args =>
   have hno : ∀ u, baseOf o.op ≠ some u := fun u hu => by obtain ⟨v', e, _⟩ := hn u hu; cases e
   rcases h2 with ⟨h3, h4⟩ | ⟨h3, h4⟩ | ⟨h3, h4⟩
   ·exact Or.inl ⟨h3, fun v hv => ⟨⟨v, rfl, fun u hu => absurd hu (hno u)⟩, h4 v hv⟩⟩
   ·refine Or.inr (Or.inl ⟨h3, fun w H => (h4 w H).mono ?_⟩)
    rintro e w' ⟨v, m', h5, h6, h7⟩
    exact ⟨v, m', h5, h6, ⟨v, rfl, fun u hu => absurd hu (hno u)⟩, h7⟩
   ·refine Or.inr (Or.inr ⟨h3, fun w H => (h4 w H).mono ?_⟩)
    rintro e w' ⟨v, h5, h6, h7⟩
    exact ⟨v, h5, ⟨⟨v, rfl, fun u hu => absurd hu (hno u)⟩, h6⟩, h7⟩
  all_goals exact h2.elim
 ·rename_i hcls
  have hno : ∀ u, baseOf o.op ≠ some u := by
   intro u hu
   unfold baseOf at hu
   split at hu
   ·rename_i e; rw [e] at hcls; cases hcls
   ·cases hu
  obtain ⟨c, t, k, h1, h2⟩ := h
  exact ⟨c, t, k, h1, fun b hb hB => let ⟨v, h3, h4⟩ := h2 b hb hB; ⟨v, h3, ⟨v, rfl, fun u hu => absurd hu (hno u)⟩, h4⟩⟩
 ·obtain ⟨m', h1, h2⟩ := h
  exact ⟨m', h1, ⟨undef, rfl, fun u _ b hb => by cases hb⟩, h2⟩
theorem stepD_al {g : Lv} {ops : Array Oper} {o : Oper} {K : Act -> Mem -> Prop} {a : Act} {m : Mem} (h : stepD P w0 Γ g ops o K a m) :
  stepD P w0 Γ g ops o (fun a' m' => (∃ v, a' = a.put o.dst v /\ ∀ u, baseOf o.op = some u -> ∀ b, blockOf v = some b -> blockOf (a.eval (.tmp u)) = some b) /\ K a' m') a m := by
 unfold stepD at *
 split
 ·rename_i hw; rw [if_pos hw] at h; exact opD_al h
 ·rename_i hw; rw [if_neg hw] at h; exact ⟨⟨undef, rfl, fun u _ b hb => by cases hb⟩, h⟩
def pairOk (P : Program) (dis : Tmp -> Tmp -> Bool) (ops : Array Oper) (b : Array Nat) (i x : Nat) : Bool :=
 if (b.getD i 0).testBit x then (depsOf ops i).any fun y => y == x || (decide (x < y) && (b.getD y 0).testBit x)
 else match ops[x]?, ops[i]? with
  | some ox, some oi => indep P (apB dis ops b i x) ops ox oi
  | _, _ => false
def alone (ops : Array Oper) (b : Array Nat) (i : Nat) : Bool :=
 (List.range ops.size).all fun x => x == i || (if x < i then (b.getD i 0).testBit x else (b.getD x 0).testBit i)
theorem alone_bit {ops : Array Oper} {b : Array Nat} {i x : Nat} (hi : i < ops.size) (hx : x < i) (h : ¬ (b.getD i 0).testBit x = true) : alone ops b i = false /\ alone ops b x = false := by
 constructor
 ·rw [Bool.eq_false_iff]
  intro ha
  simp only [alone, List.all_eq_true, List.mem_range, Bool.or_eq_true, beq_iff_eq] at ha
  rcases ha x (by omega) with e | e
  ·omega
  ·rw [if_pos hx] at e; exact h e
 ·rw [Bool.eq_false_iff]
  intro ha
  simp only [alone, List.all_eq_true, List.mem_range, Bool.or_eq_true, beq_iff_eq] at ha
  rcases ha i hi with e | e
  ·omega
  ·rw [if_neg (by omega)] at e; exact h e
def isAl (ops : Array Oper) (x : Nat) : Bool := match ops[x]? with | some o => (match cls o.op with | .al => true | _ => false) | none => false
def isQ' (ops : Array Oper) (x : Nat) : Bool := match ops[x]? with | some o => (match cls o.op with | .q => true | _ => false) | none => false
theorem isAl_ok {ops : Array Oper} {x : Nat} {o : Oper} (ho : ops[x]? = some o) (h : isAl ops x = true) : cls o.op = .al := by
 unfold isAl at h
 rw [ho] at h
 dsimp only at h
 cases hc : cls o.op <;> rw [hc] at h <;> first | rfl | cases h
theorem isQ'_ok {ops : Array Oper} {x : Nat} {o : Oper} (ho : ops[x]? = some o) (h : isQ' ops x = true) : cls o.op = .q := by
 unfold isQ' at h
 rw [ho] at h
 dsimp only at h
 cases hc : cls o.op <;> rw [hc] at h <;> first | rfl | cases h
def isPl (ops : Array Oper) (x : Nat) : Bool := match ops[x]? with | some o => plainQ o.op | none => false
theorem isPl_ok {ops : Array Oper} {x : Nat} {o : Oper} (ho : ops[x]? = some o) (h : isPl ops x = true) : plainQ o.op = true := by
 unfold isPl at h
 rw [ho] at h
 exact h
def near (ops : Array Oper) (b : Array Nat) (i : Nat) : Bool :=
 isQ' ops i && (List.range ops.size).all fun x => x == i || (if x < i then (b.getD i 0).testBit x || isPl ops x else (b.getD x 0).testBit i || (isAl ops x || isPl ops x))
def lvl (ops : Array Oper) (b : Array Nat) (i : Nat) : Lv := if alone ops b i then .all else if near ops b i then .near else .no
def PairL (gx gi : Lv) (ox oi : Oper) : Prop :=
 (gx = .no /\ gi = .no) \/ (gi = .no /\ gx ≠ .all /\ cls ox.op = .q /\ cls oi.op = .al) \/ (gx ≠ .all /\ gi ≠ .all /\ cls ox.op = .q /\ cls oi.op = .q /\ (plainQ ox.op = true \/ plainQ oi.op = true))
theorem lvl_bit {ops : Array Oper} {b : Array Nat} {i x : Nat} {ox oi : Oper} (hox : ops[x]? = some ox) (hoi : ops[i]? = some oi) (hi : i < ops.size) (hx : x < i) (h : ¬ (b.getD i 0).testBit x = true) :
  PairL (lvl ops b x) (lvl ops b i) ox oi := by
 obtain ⟨h1, h2⟩ := alone_bit hi hx h
 by_cases h3 : near ops b i = true
 ·right; right
  simp only [near, Bool.and_eq_true, List.all_eq_true, List.mem_range, Bool.or_eq_true, beq_iff_eq] at h3
  obtain ⟨h4, h5⟩ := h3
  have hpl : isPl ops x = true := by
   rcases h5 x (by omega) with e | e
   ·omega
   ·rw [if_pos hx] at e
    rcases Bool.or_eq_true_iff.1 e with e | e
    ·exact absurd e h
    ·exact e
  have hq := isPl_ok hox hpl
  refine ⟨?_, ?_, plainQ_cls hq, isQ'_ok hoi h4, Or.inl hq⟩
  ·simp only [lvl, h2, Bool.false_eq_true, if_false]; split <;> simp
  ·simp only [lvl, h1, Bool.false_eq_true, if_false]; split <;> simp
 ·have hli : lvl ops b i = .no := by simp [lvl, h1, h3]
  by_cases h4 : near ops b x = true
  ·right
   have hlx : lvl ops b x ≠ .all := by simp [lvl, h2, h4]
   simp only [near, Bool.and_eq_true, List.all_eq_true, List.mem_range, Bool.or_eq_true, beq_iff_eq] at h4
   rcases h4.2 i hi with e | e
   ·omega
   ·rw [if_neg (by omega)] at e
    rcases Bool.or_eq_true_iff.1 e with e | e
    ·exact absurd e h
    ·rcases Bool.or_eq_true_iff.1 e with e | e
     ·exact Or.inl ⟨hli, hlx, isQ'_ok hox h4.1, isAl_ok hoi e⟩
     ·have hq := isPl_ok hoi e
      exact Or.inr ⟨hlx, by rw [hli]; simp, isQ'_ok hox h4.1, plainQ_cls hq, Or.inr hq⟩
  ·left
   exact ⟨by simp [lvl, h2, h4], hli⟩
def orderOk (P : Program) (dis : Tmp -> Tmp -> Bool) (ops : Array Oper) (b : Array Nat) : Bool :=
 (alOk ops b && (!Region.departs ops || (progOk .text ops && progOk .gc ops))) && (List.range ops.size).all fun i => (depsOf ops i).all (fun y => decide (y < i)) && (List.range i).all fun x => pairOk P dis ops b i x
def rest (ops : Array Oper) (listed : Array Bool) : List Nat := (List.range ops.size).filter fun i => !listed.getD i true
def closed (ops : Array Oper) (listed : Array Bool) : Prop := ∀ i, i < ops.size -> listed.getD i true = true -> ∀ y ∈ depsOf ops i, listed.getD y true = true
theorem orderOk_at {dis : Tmp -> Tmp -> Bool} {ops : Array Oper} {b : Array Nat} (hok : orderOk P dis ops b = true) {i : Nat} (hn : i < ops.size) : (∀ y ∈ depsOf ops i, y < i) /\ ∀ x, x < i -> pairOk P dis ops b i x = true := by
 simp only [orderOk, Bool.and_eq_true, List.all_eq_true, List.mem_range, decide_eq_true_eq] at hok
 exact hok.2 i hn
theorem bit_listed {dis : Tmp -> Tmp -> Bool} {ops : Array Oper} {b : Array Nat} (hok : orderOk P dis ops b = true) {listed : Array Bool} (hc : closed ops listed) :
  ∀ (n i : Nat), i < n -> i < ops.size -> (∀ y ∈ depsOf ops i, listed.getD y true = true) -> ∀ x, x < i -> (b.getD i 0).testBit x = true -> listed.getD x true = true := by
 intro n
 induction n with
 | zero => intro i h; omega
 | succ n ih =>
  intro i hi hn hd x hx hb
  obtain ⟨h1, h2⟩ := orderOk_at hok hn
  have hp := h2 x hx
  simp only [pairOk, hb, if_true, List.any_eq_true, Bool.or_eq_true, Bool.and_eq_true, beq_iff_eq, decide_eq_true_eq] at hp
  obtain ⟨y, hy, h⟩ := hp
  have hyi := h1 y hy
  rcases h with rfl | ⟨hxy, h⟩
  ·exact hd _ hy
  ·exact ih y (by omega) (by omega) (hc y (by omega) (hd y hy)) x hxy h
def Dis (dis : Tmp -> Tmp -> Bool) (a0 : Act) : Prop := ∀ r s, dis r s = true -> ∀ b, blockOf (a0.eval (.tmp r)) = some b -> blockOf (a0.eval (.tmp s)) ≠ some b
theorem opsD_front {dis : Tmp -> Tmp -> Bool} {g : Nat -> Lv} {ops : Array Oper} {b : Array Nat} (hb : AlOk ops b) {a0 : Act} (hdis : Dis dis a0) {K : Act -> Mem -> Prop} {i : Nat} {o : Oper} (ho : ops[i]? = some o) (B : List Nat) :
  ∀ (A : List Nat) (E : Nat -> Prop), (∀ j, E j -> ∀ k, (b.getD j 0).testBit k = true -> E k) -> (∀ k, (b.getD i 0).testBit k = true -> E k) -> A.Pairwise (· < ·) -> (∀ x ∈ A, ¬ E x) ->
   (∀ x ∈ A, ∀ k, (b.getD x 0).testBit k = true -> E k \/ k ∈ A) ->
   (∀ x ∈ A, ∃ ox, ops[x]? = some ox /\ indep P (apB dis ops b i x) ops ox o = true /\ PairL (g x) (g i) ox o) -> ∀ {a : Act} {m : Mem}, Lives w0 m -> Al ops a0 E a ->
   opsD P w0 Γ g ops K (A ++ i :: B) a m -> opsD P w0 Γ g ops K (i :: (A ++ B)) a m := by
 intro A
 induction A with
 | nil => intro E _ _ _ _ _ _ a m _ _ h; exact h
 | cons x A ih =>
  intro E hE hiE hs hnE hbA hA a m hm hal h
  obtain ⟨ox, hox, hin, gx⟩ := hA x (by simp)
  obtain ⟨hs1, hs2⟩ := List.pairwise_cons.1 hs
  have hxE : ∀ k, (b.getD x 0).testBit k = true -> E k := by
   intro k hk
   rcases hbA x (by simp) k hk with h | h
   ·exact h
   ·have := hb.lt x k (lt_size hox) hk
    rcases List.mem_cons.1 h with rfl | h
    ·omega
    ·have := hs1 k h; omega
  have h' : stepD P w0 Γ (g x) ops ox (opsD P w0 Γ g ops K (A ++ i :: B)) a m := by simpa only [List.cons_append, opsD, hox] using h
  have h2 : stepD P w0 Γ (g x) ops ox (stepD P w0 Γ (g i) ops o (opsD P w0 Γ g ops K (A ++ B))) a m := by
   refine stepD_mono ?_ (stepD_al (stepD_fin hm h'))
   rintro a' m' ⟨⟨v, rfl, hv⟩, hm', hk⟩
   have := ih (fun j => E j \/ j = x) (fun j hj k hk => by
     rcases hj with hj | rfl
     ·exact Or.inl (hE j hj k hk)
     ·exact Or.inl (hxE k hk)) (fun k hk => Or.inl (hiE k hk)) hs2 (fun y hy h => by
     rcases h with h | rfl
     ·exact hnE y (by simp [hy]) h
     ·have := hs1 y hy; omega) (fun y hy k hk => by
     rcases hbA y (by simp [hy]) k hk with h | h
     ·exact Or.inl (Or.inl h)
     ·rcases List.mem_cons.1 h with rfl | h
      ·exact Or.inl (Or.inr rfl)
      ·exact Or.inr h) (fun y hy => hA y (by simp [hy])) hm' (hal.step hb hE hox (hnE x (by simp)) hv) hk
   simpa only [opsD, ho] using this
  have hap : Apart2 (apB dis ops b i x) a ox o := by
   intro hp
   simp only [apB, ho, hox, Bool.or_eq_true] at hp
   rcases hp with hp | hp
   ·exact Or.inr (apAt_ok hal hdis hiE hxE hp)
   ·exact Or.inl (apAt_ok hal hdis hxE hiE hp)
  have h3 : stepD P w0 Γ (g i) ops o (stepD P w0 Γ (g x) ops ox (opsD P w0 Γ g ops K (A ++ B))) a m := by
   rcases gx with ⟨gx, gi⟩ | ⟨gi, g1, g2, g3⟩ | ⟨g1, g2, g3, g4, g5⟩
   ·rw [gx, gi] at h2 ⊢; exact stepD_comm hin hap hm.fin h2
   ·rw [gi] at h2 ⊢; exact stepD_comm_al hin g1 g2 g3 hm h2
   ·exact stepD_comm_pl hin g1 g2 g3 g4 g5 hm h2
  simp only [opsD, ho]
  refine stepD_mono ?_ h3
  intro a' m' hk
  simpa only [List.cons_append, opsD, hox] using hk
def lin (md : Region.Mode) (ops : Array Oper) : Nat -> Nat -> Array Bool -> List Nat
 | 0, _, _ => []
 | fuel + 1, t, listed =>
  let rs := (List.range ops.size).filter fun i => !listed.getD i true && ((ops[i]?).map (·.after.all fun e => !Region.binds md e || listed.getD e.on false)).getD false
  match rs[t % rs.length]? with
  | some i => i :: lin md ops fuel (t / rs.length) (listed.setIfInBounds i true)
  | none => []
theorem go_lin (md : Region.Mode) (ops : Array Oper) : ∀ (fuel t : Nat) (listed : Array Bool) (acc : List Nat), Region.linearise.go md ops fuel t listed acc = acc.reverse ++ lin md ops fuel t listed := by
 intro fuel
 induction fuel with
 | zero => intro t listed acc; simp [Region.linearise.go, lin]
 | succ n ih =>
  intro t listed acc
  simp only [Region.linearise.go, lin]
  split
  ·rename_i i hi
   rw [hi, ih]
   simp
  ·rename_i hi
   rw [hi]
   simp
theorem all_deps {md : Region.Mode} {ops : Array Oper} {i : Nat} {o : Oper} (ho : ops[i]? = some o) {listed : Array Bool} :
  (o.after.all fun e => !Region.binds md e || listed.getD e.on false) = true <-> ∀ y ∈ depsM md ops i, listed.getD y false = true := by
 simp only [depsM, ho, Array.all_eq_true_iff_forall_mem, List.mem_map, List.mem_filter, Bool.or_eq_true, Bool.not_eq_true']
 constructor
 ·rintro h y ⟨e, ⟨he, hb⟩, rfl⟩
  rcases h e (by simpa using he) with h | h
  ·rw [hb] at h; cases h
  ·exact h
 ·intro h e he
  cases hb : Region.binds md e with
  | false => exact Or.inl rfl
  | true => exact Or.inr (h e.on ⟨e, ⟨by simpa using he, hb⟩, rfl⟩)
theorem getD_tf {l : Array Bool} {y : Nat} (hy : y < l.size) : l.getD y true = l.getD y false := by simp [hy]
def Goes (md : Region.Mode) (ops : Array Oper) : Prop :=
 ∀ listed : Array Bool, listed.size = ops.size -> rest ops listed ≠ [] -> ∃ x ∈ rest ops listed, ∀ y ∈ depsM md ops x, listed.getD y false = true
theorem mem_rest {ops : Array Oper} {listed : Array Bool} {x : Nat} : x ∈ rest ops listed <-> x < ops.size /\ listed.getD x true = false := by
 simp only [rest, List.mem_filter, List.mem_range, Bool.not_eq_true']
theorem goes_any {dis : Tmp -> Tmp -> Bool} {ops : Array Oper} {b : Array Nat} (hok : orderOk P dis ops b = true) : Goes .any ops := by
 intro listed hsz hne
 cases hr : rest ops listed with
 | nil => exact absurd hr hne
 | cons x xs =>
  have hx : x ∈ rest ops listed := by rw [hr]; simp
  have hx' := mem_rest.1 hx
  refine ⟨x, by simp, fun y hy => ?_⟩
  have hlt := (orderOk_at hok hx'.1).1 y hy
  rw [<- getD_tf (by omega)]
  cases hl : listed.getD y true with
  | true => rfl
  | false =>
   have hym : y ∈ rest ops listed := mem_rest.2 ⟨by omega, hl⟩
   have hs : (rest ops listed).Pairwise (· < ·) := List.Pairwise.filter _ List.pairwise_lt_range
   rw [hr] at hs hym
   rcases List.mem_cons.1 hym with rfl | hm'
   ·omega
   ·have := (List.pairwise_cons.1 hs).1 y hm'
    omega
theorem okFrom_first {md : Region.Mode} {ops : Array Oper} {listed : Array Bool} : ∀ (L seen : List Nat), okFrom md ops L seen = true -> (∀ y ∈ seen, listed.getD y true = true) -> (∃ x ∈ L, listed.getD x true = false) ->
  ∃ x ∈ L, listed.getD x true = false /\ ∃ s : List Nat, (∀ y ∈ s, listed.getD y true = true /\ (y ∈ seen \/ y ∈ L)) /\ ∀ y ∈ depsM md ops x, y ∈ s
 | [], _, _, _, h => by obtain ⟨x, hx, _⟩ := h; cases hx
 | i :: r, seen, ho, hs, h => by
  simp only [okFrom, Bool.and_eq_true, List.all_eq_true] at ho
  cases hi : listed.getD i true with
  | false => exact ⟨i, by simp, hi, seen, fun y hy => ⟨hs y hy, Or.inl hy⟩, fun y hy => by simpa using ho.1 y hy⟩
  | true =>
   obtain ⟨x, hx, hf, s, h1, h2⟩ := okFrom_first r (i :: seen) ho.2 (fun y hy => by
    rcases List.mem_cons.1 hy with rfl | hy
    ·exact hi
    ·exact hs y hy) (by
    obtain ⟨x, hx, hf⟩ := h
    rcases List.mem_cons.1 hx with rfl | hx
    ·rw [hi] at hf; cases hf
    ·exact ⟨x, hx, hf⟩)
   refine ⟨x, by simp [hx], hf, s, fun y hy => ⟨(h1 y hy).1, ?_⟩, h2⟩
   rcases (h1 y hy).2 with e | e
   ·rcases List.mem_cons.1 e with rfl | e
    ·exact Or.inr (by simp)
    ·exact Or.inl e
   ·exact Or.inr (by simp [e])
theorem goes_prog {md : Region.Mode} {ops : Array Oper} (h : progOk md ops = true) : Goes md ops := by
 intro listed hsz hne
 simp only [progOk, Bool.and_eq_true, List.all_eq_true, decide_eq_true_eq, List.mem_range] at h
 obtain ⟨⟨h1, h2⟩, h3⟩ := h
 obtain ⟨z, hz⟩ := List.exists_mem_of_ne_nil _ hne
 obtain ⟨hz1, hz2⟩ := mem_rest.1 hz
 obtain ⟨x, hx, hf, s, h4, h5⟩ := okFrom_first (listed := listed) _ [] h3 (fun y hy => by cases hy) ⟨z, by simpa using h2 z hz1, hz2⟩
 refine ⟨x, mem_rest.2 ⟨h1 x hx, hf⟩, fun y hy => ?_⟩
 obtain ⟨h6, h7⟩ := h4 y (h5 y hy)
 rcases h7 with h7 | h7
 ·cases h7
 ·rw [<- getD_tf (by rw [hsz]; exact h1 y h7)]; exact h6
theorem lin_sound {md : Region.Mode} {dis : Tmp -> Tmp -> Bool} {ops : Array Oper} {b : Array Nat} (hok : orderOk P dis ops b = true) (hgo : Goes md ops) {a0 : Act} (hdis : Dis dis a0) {K : Act -> Mem -> Prop} :
  ∀ (fuel t : Nat) (listed : Array Bool), listed.size = ops.size -> closed ops listed -> (rest ops listed).length <= fuel -> ∀ {a : Act} {m : Mem}, Lives w0 m -> Al ops a0 (fun j => listed.getD j true = true /\ j < ops.size) a ->
   opsD P w0 Γ (lvl ops b) ops K (rest ops listed) a m -> opsD P w0 Γ (lvl ops b) ops K (lin md ops fuel t listed) a m := by
 intro fuel
 induction fuel with
 | zero =>
  intro t listed _ _ hf a m _ _ h
  have : rest ops listed = [] := List.length_eq_zero_iff.1 (by omega)
  rw [this] at h; exact h
 | succ n ih =>
  intro t listed hsz hc hf a m hm hal h
  have hb : AlOk ops b := by
   simp only [orderOk, Bool.and_eq_true] at hok; exact alOk_ok hok.1.1
  simp only [lin]
  generalize hrs : (List.filter (fun i => !listed.getD i true && ((ops[i]?).map (·.after.all fun e => !Region.binds md e || listed.getD e.on false)).getD false) (List.range ops.size)) = rs
  cases hi : rs[t % rs.length]? with
  | none =>
   have hnil : rs = [] := by
    cases rs with
    | nil => rfl
    | cons x xs =>
     have : t % (x :: xs).length < (x :: xs).length := Nat.mod_lt _ (by simp)
     rw [List.getElem?_eq_getElem this] at hi; cases hi
   have hrest : rest ops listed = [] := by
    apply Classical.byContradiction
    intro hne
    obtain ⟨x, hx, hall⟩ := hgo listed hsz hne
    have hx' := mem_rest.1 hx
    have ho : ops[x]? = some ops[x] := Array.getElem?_eq_getElem hx'.1
    have : x ∈ rs := by
     rw [<- hrs]
     simp only [List.mem_filter, List.mem_range, Bool.and_eq_true, Bool.not_eq_true']
     refine ⟨hx'.1, hx'.2, ?_⟩
     rw [ho]
     simp only [Option.map_some, Option.getD_some]
     exact (all_deps ho).2 hall
    rw [hnil] at this; cases this
   rw [hrest] at h; exact h
  | some i =>
   have him : i ∈ rs := List.mem_of_getElem? hi
   rw [<- hrs] at him
   simp only [List.mem_filter, List.mem_range, Bool.and_eq_true, Bool.not_eq_true'] at him
   obtain ⟨hin, hil, hid⟩ := him
   have ho : ops[i]? = some ops[i] := Array.getElem?_eq_getElem hin
   rw [ho] at hid
   simp only [Option.map_some, Option.getD_some] at hid
   have hdeps := (all_deps ho).1 hid
   have hdt : ∀ y ∈ depsOf ops i, listed.getD y true = true := fun y hy => by
    have := (orderOk_at hok hin).1 y hy
    rw [getD_tf (by omega)]; exact hdeps y (depsM_any hy)
   have himr : i ∈ rest ops listed := by
    simp only [rest, List.mem_filter, List.mem_range, Bool.not_eq_true']; exact ⟨hin, hil⟩
   obtain ⟨A, B, hAB⟩ := List.append_of_mem himr
   have hs : (rest ops listed).Pairwise (· < ·) := List.Pairwise.filter _ List.pairwise_lt_range
   rw [hAB] at hs h
   have hA : ∀ x ∈ A, x < i := fun x hx => (List.pairwise_append.1 hs).2.2 x hx i (by simp)
   have hB : ∀ x ∈ B, i < x := fun x hx => (List.pairwise_cons.1 (List.pairwise_append.1 hs).2.1).1 x hx
   have hnew : rest ops (listed.setIfInBounds i true) = A ++ B := by
    have e1 : rest ops (listed.setIfInBounds i true) = (rest ops listed).filter (fun x => decide (x ≠ i)) := by
     simp only [rest, List.filter_filter]
     apply List.filter_congr
     intro x hx
     have hx' : x < listed.size := by rw [hsz]; simpa using hx
     by_cases e : x = i
     ·subst e; simp [hx']
     ·simp [Ne.symm e, e]
    rw [e1, hAB, List.filter_append, List.filter_cons]
    have eA : A.filter (fun x => decide (x ≠ i)) = A := List.filter_eq_self.2 fun x hx => by have := hA x hx; simp; omega
    have eB : B.filter (fun x => decide (x ≠ i)) = B := List.filter_eq_self.2 fun x hx => by have := hB x hx; simp; omega
    rw [eA, eB]; simp
   have hEc : ∀ j, (listed.getD j true = true /\ j < ops.size) -> ∀ k, (b.getD j 0).testBit k = true -> (listed.getD k true = true /\ k < ops.size) := by
    intro j hj k hk
    have hlt := hb.lt j k hj.2 hk
    exact ⟨bit_listed hok hc (j + 1) j (by omega) hj.2 (fun y hy => hc j hj.2 hj.1 y hy) k hlt hk, by omega⟩
   have hfront := opsD_front hb hdis ho B A (fun j => listed.getD j true = true /\ j < ops.size) hEc (fun k hk => by
     have hlt := hb.lt i k hin hk
     exact ⟨bit_listed hok hc (i + 1) i (by omega) hin hdt k hlt hk, by omega⟩) (List.pairwise_append.1 hs).1 (fun x hx h => by
     have hxr : x ∈ rest ops listed := by rw [hAB]; simp [hx]
     rw [(mem_rest.1 hxr).2] at h; exact absurd h.1 (by simp)) (fun x hx k hk => by
     have hxr := mem_rest.1 (show x ∈ rest ops listed by rw [hAB]; simp [hx])
     have hlt := hb.lt x k hxr.1 hk
     cases hl : listed.getD k true with
     | true => exact Or.inl ⟨rfl, by omega⟩
     | false =>
      right
      have hkr : k ∈ rest ops listed := mem_rest.2 ⟨by omega, hl⟩
      have hxi := hA x hx
      rw [hAB] at hkr
      rcases List.mem_append.1 hkr with h | h
      ·exact h
      ·rcases List.mem_cons.1 h with rfl | h
       ·omega
       ·have := hB k h; omega) (fun x hx => by
    have hxi := hA x hx
    have hxr : x ∈ rest ops listed := by rw [hAB]; simp [hx]
    simp only [rest, List.mem_filter, List.mem_range, Bool.not_eq_true'] at hxr
    have hp := (orderOk_at hok hin).2 x hxi
    have hox : ops[x]? = some ops[x] := Array.getElem?_eq_getElem hxr.1
    refine ⟨ops[x], hox, ?_⟩
    unfold pairOk at hp
    split at hp
    ·rename_i hb
     have := bit_listed hok hc (i + 1) i (by omega) hin hdt x hxi hb
     rw [this] at hxr; exact absurd hxr.2 (by simp)
    ·rename_i hb
     exact ⟨by simpa only [hox, ho] using hp, lvl_bit hox ho hin hxi hb⟩) hm hal h
   simp only [opsD, ho] at hfront ⊢
   refine stepD_mono ?_ (stepD_al (stepD_fin hm hfront))
   rintro a' m' ⟨⟨v, rfl, hv⟩, hm', hk⟩
   have hal' := hal.step hb hEc ho (fun h => by rw [h.1] at hil; cases hil) hv
   have hset0 : ∀ j, j < ops.size -> ((listed.setIfInBounds i true).getD j true = true <-> listed.getD j true = true \/ j = i) := by
    intro z hz
    by_cases e : z = i
    ·subst e; simp [hsz, hz]
    ·simp [Ne.symm e, e]
   refine ih _ _ (by simpa using hsz) ?_ ?_ hm' ⟨hal'.ext, fun j oj u d hj hoj => hal'.near j oj u d (by
    rcases (hset0 j hj.2).1 hj.1 with h | h
    ·exact Or.inl ⟨h, hj.2⟩
    ·exact Or.inr h) hoj⟩ (by rw [hnew]; exact hk)
   ·intro j hj hl y hy
    have hset : ∀ z, z < ops.size -> ((listed.setIfInBounds i true).getD z true = true <-> z = i \/ listed.getD z true = true) := by
     intro z hz
     by_cases e : z = i
     ·subst e; simp [hsz, hz]
     ·simp [Ne.symm e, e]
    have hyj := (orderOk_at hok hj).1 y hy
    rw [hset y (by omega)]
    rcases (hset j hj).1 hl with rfl | hl
    ·exact Or.inr (hdt y hy)
    ·exact Or.inr (hc j hj hl y hy)
   ·have : (rest ops listed).length = A.length + B.length + 1 := by rw [hAB]; simp; omega
    rw [hnew]; simp; omega
theorem opsD_any {dis : Tmp -> Tmp -> Bool} {ops : Array Oper} {b : Array Nat} (hok : orderOk P dis ops b = true) {K : Act -> Mem -> Prop} {a : Act} (hdis : Dis dis a) {m : Mem} (hm : Lives w0 m) (h : opsD P w0 Γ (lvl ops b) ops K (List.range ops.size) a m) (mixed : Bool) (t : Nat) :
  opsD P w0 Γ (lvl ops b) ops K (Region.schedule mixed ops t) a m := by
 have hr : rest ops (Array.replicate ops.size false) = List.range ops.size := by
  refine List.filter_eq_self.2 fun x hx => ?_
  have hx' : x < ops.size := by simpa using hx
  simp [hx']
 have key : ∀ (md : Region.Mode) (t : Nat), Goes md ops -> opsD P w0 Γ (lvl ops b) ops K (Region.linearise md ops t) a m := by
  intro md t hgo
  have e : Region.linearise md ops t = lin md ops ops.size t (Array.replicate ops.size false) := by
   simp only [Region.linearise, go_lin]
   rfl
  rw [e]
  refine lin_sound hok hgo hdis _ _ _ (by simp) ?_ (by rw [hr]; simp) hm (Al.start _ _ _ fun j hj hE => by simp [hj] at hE) (by rw [hr]; exact h)
  intro i hi hl
  simp [hi] at hl
 have hd : Region.departs ops = false \/ (progOk .text ops = true /\ progOk .gc ops = true) := by
  simp only [orderOk, Bool.and_eq_true, Bool.or_eq_true, Bool.not_eq_true'] at hok; exact hok.1.2
 unfold Region.schedule
 split
 ·exact key _ _ (goes_any hok)
 ·rename_i hm
  rcases hd with hd | ⟨h1, h2⟩
  ·simp [hd] at hm
  ·split
   ·exact key _ _ (goes_prog h1)
   ·exact key _ _ (goes_prog h2)
theorem wp_region_any {id : Nat} {dis : Tmp -> Tmp -> Bool} {ops : Array Oper} {b : Array Nat} (hok : orderOk P dis ops b = true) {K : Act -> Mem -> Prop} {Q : Exit -> Act -> World -> Prop} {a : Act} (hdis : Dis dis a) {m : Mem} {w : World}
  (hk : ∀ a' m' w', Holds w0 m' w' -> K a' m' -> Q .normal a' w') (h : opsD P w0 Γ (lvl ops b) ops K (List.range ops.size) a m) (H : Holds w0 m w) :
  (Code.region id ops true).wp P Q a w :=
 wp_region_draw fun t => opsD_sound hk _ (opsD_any hok hdis ⟨_, H⟩ h _ t) H.drew
inductive X where
 | lit (n : Int)
 | v (n lo hi : Int)
 | add (a b : X)
 | sub (a b : X)
 | mul (a b : X)
 | quo (a b : X)
 | rem (a b : X)
 | div (a : X) (d : Int)
 | mod (a : X) (d : Int)
 | wrap (k : IntKind) (a : X)
 | bits (op : BinOp) (k : IntKind) (a b : X)
 | shv (op : BinOp) (k : IntKind) (a b : X)
 | max (a b : X)
 | min (a b : X)
 | ite (i : X) (j : Int) (a b : X)
 | tbl (l : List Int) (i : X)
def bitsI (op : BinOp) (k : IntKind) (x y : Int) : Int :=
 let a := BitVec.ofInt k.bits x
 let b := BitVec.ofInt k.bits y
 match op with
 | .and => k.wrap ((a &&& b).toNat : Nat)
 | .or => k.wrap ((a ||| b).toNat : Nat)
 | .xor => k.wrap ((a ^^^ b).toNat : Nat)
 | .andNot => k.wrap ((a &&& ~~~b).toNat : Nat)
 | _ => 0
def shI (op : BinOp) (k : IntKind) (x y : Int) : Int :=
 match op with
 | .shl => k.wrap (x * 2 ^ (Min.min y.toNat k.bits))
 | .shr => x.fdiv (2 ^ (Min.min y.toNat k.bits))
 | _ => 0
def X.ev : X -> Int
 | .lit n => n
 | .v n _ _ => n
 | .add a b => a.ev + b.ev
 | .sub a b => a.ev - b.ev
 | .mul a b => a.ev * b.ev
 | .quo a b => a.ev.tdiv b.ev
 | .rem a b => a.ev.tmod b.ev
 | .div a d => a.ev / d
 | .mod a d => a.ev % d
 | .wrap k a => k.wrap a.ev
 | .bits op k a b => bitsI op k a.ev b.ev
 | .shv op k a b => shI op k a.ev b.ev
 | .max a b => Max.max a.ev b.ev
 | .min a b => Min.min a.ev b.ev
 | .ite i j a b => if i.ev = j then a.ev else b.ev
 | .tbl l i => l.getD i.ev.toNat 0
def X.ok : X -> Prop
 | .lit _ => True
 | .v n lo hi => lo <= n /\ n <= hi
 | .add a b => a.ok /\ b.ok
 | .sub a b => a.ok /\ b.ok
 | .mul a b => a.ok /\ b.ok
 | .quo a b => a.ok /\ b.ok
 | .rem a b => a.ok /\ b.ok
 | .div a d => a.ok /\ 0 < d
 | .mod a d => a.ok /\ 0 < d
 | .wrap _ a => a.ok
 | .bits _ _ a b => a.ok /\ b.ok
 | .shv _ _ a b => a.ok /\ b.ok
 | .max a b => a.ok /\ b.ok
 | .min a b => a.ok /\ b.ok
 | .ite i _ a b => i.ok /\ a.ok /\ b.ok
 | .tbl _ i => i.ok
def mn (a b : Int) : Int := if a <= b then a else b
def mx (a b : Int) : Int := if a <= b then b else a
def ab (a : Int) : Int := if a < 0 then -a else a
def lows : List Int -> Int
 | [] => 0
 | x :: r => mn x (lows r)
def tops : List Int -> Int
 | [] => 0
 | x :: r => mx x (tops r)
theorem mn_le (a b : Int) : mn a b <= a /\ mn a b <= b := by unfold mn; split <;> omega
theorem mx_le (a b : Int) : a <= mx a b /\ b <= mx a b := by unfold mx; split <;> omega
theorem lows_tops : ∀ (l : List Int) (q : Nat), lows l <= l.getD q 0 /\ l.getD q 0 <= tops l /\ lows l <= 0 /\ 0 <= tops l
 | [], q => by simp [lows, tops]
 | x :: r, q => by
  have h0 := lows_tops r 0
  have h1 := mn_le x (lows r)
  have h2 := mx_le x (tops r)
  simp only [lows, tops]
  cases q with
  | zero =>
   simp only [List.getD_cons_zero]
   omega
  | succ q =>
   have h := lows_tops r q
   simp only [List.getD_cons_succ]
   omega
def X.iv : X -> Int × Int
 | .lit n => (n, n)
 | .v _ lo hi => (lo, hi)
 | .add a b => (a.iv.1 + b.iv.1, a.iv.2 + b.iv.2)
 | .sub a b => (a.iv.1 - b.iv.2, a.iv.2 - b.iv.1)
 | .mul a b =>
  let p := a.iv.1 * b.iv.1; let q := a.iv.1 * b.iv.2; let r := a.iv.2 * b.iv.1; let s := a.iv.2 * b.iv.2
  (mn (mn p q) (mn r s), mx (mx p q) (mx r s))
 | .quo a _ => (-(mx (ab a.iv.1) (ab a.iv.2)), mx (ab a.iv.1) (ab a.iv.2))
 | .rem a _ => (mn a.iv.1 0, mx a.iv.2 0)
 | .div a d => (a.iv.1 / d, a.iv.2 / d)
 | .mod a d => (0, if 0 <= a.iv.1 then mn (d - 1) a.iv.2 else d - 1)
 | .wrap k _ => (k.min, k.max)
 | .bits _ k _ _ => (mn k.min 0, mx k.max 0)
 | .shv _ k a _ => (mn k.min (mn a.iv.1 0), mx k.max (mx a.iv.2 0))
 | .max a b => (mx a.iv.1 b.iv.1, mx a.iv.2 b.iv.2)
 | .min a b => (mn a.iv.1 b.iv.1, mn a.iv.2 b.iv.2)
 | .ite _ _ a b => (mn a.iv.1 b.iv.1, mx a.iv.2 b.iv.2)
 | .tbl l _ => (lows l, tops l)
theorem wrap_id {k : IntKind} {n : Int} (h1 : k.min <= n) (h2 : n <= k.max) : k.wrap n = n := by
 cases k <;> simp [IntKind.wrap, IntKind.min, IntKind.max, IntKind.bits, IntKind.signed] at * <;> omega
theorem wrap_in (k : IntKind) (n : Int) : k.min <= k.wrap n /\ k.wrap n <= k.max := by
 cases k <;> simp [IntKind.wrap, IntKind.min, IntKind.max, IntKind.bits, IntKind.signed] <;> omega
theorem mul_in {a b l1 h1 l2 h2 : Int} (ha : l1 <= a /\ a <= h1) (hb : l2 <= b /\ b <= h2) :
  mn (mn (l1 * l2) (l1 * h2)) (mn (h1 * l2) (h1 * h2)) <= a * b /\ a * b <= mx (mx (l1 * l2) (l1 * h2)) (mx (h1 * l2) (h1 * h2)) := by
 obtain ⟨a1, a2⟩ := ha
 obtain ⟨b1, b2⟩ := hb
 have key : ∀ x : Int, mn (x * l2) (x * h2) <= x * b /\ x * b <= mx (x * l2) (x * h2) := by
  intro x
  rcases Int.le_total 0 x with hx | hx
  ·have e1 : x * l2 <= x * b := Int.mul_le_mul_of_nonneg_left b1 hx
   have e2 : x * b <= x * h2 := Int.mul_le_mul_of_nonneg_left b2 hx
   unfold mn mx; split <;> omega
  ·have e1 : x * b <= x * l2 := Int.mul_le_mul_of_nonpos_left hx b1
   have e2 : x * h2 <= x * b := Int.mul_le_mul_of_nonpos_left hx b2
   unfold mn mx; split <;> omega
 have k1 := key l1
 have k2 := key h1
 rcases Int.le_total 0 b with hb | hb
 ·have e1 : l1 * b <= a * b := Int.mul_le_mul_of_nonneg_right a1 hb
  have e2 : a * b <= h1 * b := Int.mul_le_mul_of_nonneg_right a2 hb
  generalize l1 * l2 = p at *; generalize l1 * h2 = q at *; generalize h1 * l2 = r at *; generalize h1 * h2 = s at *
  generalize a * b = y at *; generalize l1 * b = y1 at *; generalize h1 * b = y2 at *
  unfold mn mx at *; (repeat' split at *) <;> omega
 ·have e1 : a * b <= l1 * b := Int.mul_le_mul_of_nonpos_right a1 hb
  have e2 : h1 * b <= a * b := Int.mul_le_mul_of_nonpos_right a2 hb
  generalize l1 * l2 = p at *; generalize l1 * h2 = q at *; generalize h1 * l2 = r at *; generalize h1 * h2 = s at *
  generalize a * b = y at *; generalize l1 * b = y1 at *; generalize h1 * b = y2 at *
  unfold mn mx at *; (repeat' split at *) <;> omega
theorem ab_le {a l h : Int} (h1 : l <= a) (h2 : a <= h) : ab a <= mx (ab l) (ab h) := by
 unfold mx ab; repeat' split <;> omega
theorem natAbs_ab (a : Int) : (a.natAbs : Int) = ab a := by unfold ab; omega
theorem tdiv_in {a b l h : Int} (h1 : l <= a) (h2 : a <= h) : -(mx (ab l) (ab h)) <= a.tdiv b /\ a.tdiv b <= mx (ab l) (ab h) := by
 have e := ab_le h1 h2
 rw [<- natAbs_ab] at e
 have : (a.tdiv b).natAbs <= a.natAbs := by rw [Int.natAbs_tdiv]; exact Nat.div_le_self _ _
 omega
theorem bitsI_in (op : BinOp) (k : IntKind) (x y : Int) : mn k.min 0 <= bitsI op k x y /\ bitsI op k x y <= mx k.max 0 := by
 have h := wrap_in k
 unfold bitsI
 have key : ∀ z : Int, (z = 0 \/ ∃ n, z = k.wrap n) -> mn k.min 0 <= z /\ z <= mx k.max 0 := by
  rintro z (rfl | ⟨n, rfl⟩)
  ·unfold mn mx; constructor <;> split <;> omega
  ·have := h n; unfold mn mx; constructor <;> split <;> omega
 apply key
 cases op <;> first | exact Or.inr ⟨_, rfl⟩ | exact Or.inl rfl
theorem shI_in (op : BinOp) (k : IntKind) {x l h : Int} (y : Int) (h1 : l <= x) (h2 : x <= h) : mn k.min (mn l 0) <= shI op k x y /\ shI op k x y <= mx k.max (mx h 0) := by
 have hw := wrap_in k
 have key : ∀ z : Int, (z = 0 \/ (∃ n, z = k.wrap n) \/ (mn l 0 <= z /\ z <= mx h 0)) -> mn k.min (mn l 0) <= z /\ z <= mx k.max (mx h 0) := by
  rintro z (rfl | ⟨n, rfl⟩ | h3)
  ·unfold mn mx; constructor <;> (repeat' split) <;> omega
  ·have := hw n; unfold mn mx; constructor <;> (repeat' split) <;> omega
  ·unfold mn mx at *; constructor <;> (repeat' split at *) <;> omega
 apply key
 cases op <;> first | exact Or.inl rfl | exact Or.inr (Or.inl ⟨_, rfl⟩) | skip
 refine Or.inr (Or.inr ?_)
 simp only [shI]
 have hp : (0 : Int) < 2 ^ (Min.min y.toNat k.bits) := Int.pow_pos (by decide)
 generalize (2 : Int) ^ (Min.min y.toNat k.bits) = p at *
 rw [Int.fdiv_eq_ediv_of_nonneg _ (Int.le_of_lt hp)]
 have e1 := Int.mul_ediv_add_emod x p
 have e2 := Int.emod_nonneg x (Int.ne_of_gt hp)
 have e3 := Int.emod_lt_of_pos x hp
 rcases Int.le_total 0 x with hx | hx
 ·have a1 : 0 <= x / p := Int.ediv_nonneg hx (Int.le_of_lt hp)
  have a2 : x / p <= x := Int.ediv_le_self _ hx
  unfold mn mx; constructor <;> split <;> omega
 ·have a1 : x / p <= 0 := by
   have : x / p < 1 := Int.ediv_lt_of_lt_mul hp (by omega)
   omega
  have a2 : x <= x / p := (Int.le_ediv_iff_mul_le hp).2 (by
   have := Int.mul_le_mul_of_nonpos_left hx (show (1 : Int) <= p by omega)
   omega)
  unfold mn mx; constructor <;> split <;> omega
theorem tmod_in {a b l h : Int} (h1 : l <= a) (h2 : a <= h) : mn l 0 <= a.tmod b /\ a.tmod b <= mx h 0 := by
 have e : (a.tmod b).natAbs <= a.natAbs := by rw [Int.natAbs_tmod]; exact Nat.mod_le _ _
 rcases Int.le_total 0 a with ha | ha
 ·have := Int.tmod_nonneg b ha
  unfold mn mx; constructor <;> split <;> omega
 ·have h3 := Int.tmod_nonneg b (show 0 <= -a by omega)
  rw [Int.neg_tmod] at h3
  unfold mn mx; constructor <;> split <;> omega
theorem X.iv_ok : ∀ (x : X), x.ok -> x.iv.1 <= x.ev /\ x.ev <= x.iv.2
 | .lit n, _ => ⟨Int.le_refl _, Int.le_refl _⟩
 | .v n lo hi, h => h
 | .add a b, h => by
  have h1 := X.iv_ok a h.1; have h2 := X.iv_ok b h.2
  simp only [X.iv, X.ev]; omega
 | .sub a b, h => by
  have h1 := X.iv_ok a h.1; have h2 := X.iv_ok b h.2
  simp only [X.iv, X.ev]; omega
 | .mul a b, h => mul_in (X.iv_ok a h.1) (X.iv_ok b h.2)
 | .quo a b, h => by
  have h1 := X.iv_ok a h.1
  exact tdiv_in h1.1 h1.2
 | .rem a b, h => by
  have h1 := X.iv_ok a h.1
  exact tmod_in h1.1 h1.2
 | .div a d, h => by
  have h1 := X.iv_ok a h.1
  exact ⟨Int.ediv_le_ediv h.2 h1.1, Int.ediv_le_ediv h.2 h1.2⟩
 | .mod a d, h => by
  have h1 := X.iv_ok a h.1
  have e2 := Int.emod_nonneg a.ev (Int.ne_of_gt h.2)
  have e3 := Int.emod_lt_of_pos a.ev h.2
  simp only [X.iv, X.ev]
  refine ⟨e2, ?_⟩
  split
  ·have : a.ev % d <= a.ev := by
    have e1 := Int.mul_ediv_add_emod a.ev d
    have e4 : 0 <= d * (a.ev / d) := Int.mul_nonneg (Int.le_of_lt h.2) (Int.ediv_nonneg (by omega) (Int.le_of_lt h.2))
    omega
   unfold mn; split <;> omega
  ·omega
 | .wrap k a, _ => wrap_in k _
 | .bits op k a b, _ => bitsI_in op k _ _
 | .shv op k a b, h => by
  have h1 := X.iv_ok a h.1
  exact shI_in op k _ h1.1 h1.2
 | .max a b, h => by
  have h1 := X.iv_ok a h.1; have h2 := X.iv_ok b h.2
  simp only [X.iv, X.ev]; unfold mx; constructor <;> split <;> omega
 | .min a b, h => by
  have h1 := X.iv_ok a h.1; have h2 := X.iv_ok b h.2
  simp only [X.iv, X.ev]; unfold mn; constructor <;> split <;> omega
 | .ite i j a b, h => by
  have h1 := X.iv_ok a h.2.1; have h2 := X.iv_ok b h.2.2
  simp only [X.iv, X.ev]; unfold mn mx; constructor <;> (repeat' split) <;> omega
 | .tbl l i, _ => ⟨(lows_tops l _).1, (lows_tops l _).2.1⟩
def fits (k : IntKind) (p : Int × Int) : Bool := decide (k.min <= p.1) && decide (p.2 <= k.max)
def mkWrap (k : IntKind) (x : X) : X :=
 match x with
 | .lit n => .lit (k.wrap n)
 | x => if fits k x.iv then x else .wrap k x
theorem mkWrap_ok {k : IntKind} {x : X} (h : x.ok) : (mkWrap k x).ok /\ (mkWrap k x).ev = k.wrap x.ev := by
 unfold mkWrap
 split
 ·exact ⟨trivial, rfl⟩
 ·split
  ·rename_i hf
   simp only [fits, Bool.and_eq_true, decide_eq_true_eq] at hf
   have := X.iv_ok x h
   exact ⟨h, (wrap_id (by omega) (by omega)).symm⟩
  ·exact ⟨h, rfl⟩
def mkAdd (a b : X) : X :=
 match a, b with
 | .lit m, .lit n => .lit (m + n)
 | a, .lit 0 => a
 | .lit 0, b => b
 | a, b => .add a b
theorem mkAdd_ok {a b : X} (ha : a.ok) (hb : b.ok) : (mkAdd a b).ok /\ (mkAdd a b).ev = a.ev + b.ev := by
 unfold mkAdd
 split
 ·exact ⟨trivial, rfl⟩
 ·exact ⟨ha, by simp [X.ev]⟩
 ·exact ⟨hb, by simp [X.ev]⟩
 ·exact ⟨⟨ha, hb⟩, rfl⟩
def mkSub (a b : X) : X :=
 match a, b with
 | .lit m, .lit n => .lit (m - n)
 | a, .lit 0 => a
 | a, b => .sub a b
theorem mkSub_ok {a b : X} (ha : a.ok) (hb : b.ok) : (mkSub a b).ok /\ (mkSub a b).ev = a.ev - b.ev := by
 unfold mkSub
 split
 ·exact ⟨trivial, rfl⟩
 ·exact ⟨ha, by simp [X.ev]⟩
 ·exact ⟨⟨ha, hb⟩, rfl⟩
def mkMul (a b : X) : X :=
 match a, b with
 | .lit m, .lit n => .lit (m * n)
 | a, .lit n => if n = 0 then .lit 0 else if n = 1 then a else .mul a (.lit n)
 | .lit m, b => if m = 0 then .lit 0 else if m = 1 then b else .mul (.lit m) b
 | a, b => .mul a b
theorem mkMul_ok {a b : X} (ha : a.ok) (hb : b.ok) : (mkMul a b).ok /\ (mkMul a b).ev = a.ev * b.ev := by
 unfold mkMul
 split
 ·exact ⟨trivial, rfl⟩
 ·split
  ·rename_i h; subst h; exact ⟨trivial, by simp [X.ev]⟩
  ·split
   ·rename_i h; subst h; exact ⟨ha, by simp [X.ev]⟩
   ·exact ⟨⟨ha, hb⟩, rfl⟩
 ·split
  ·rename_i h; subst h; exact ⟨trivial, by simp [X.ev]⟩
  ·split
   ·rename_i h; subst h; exact ⟨hb, by simp [X.ev]⟩
   ·exact ⟨⟨ha, hb⟩, rfl⟩
 ·exact ⟨⟨ha, hb⟩, rfl⟩
def mkQuo (a b : X) : X :=
 match a, b with
 | .lit m, .lit n => .lit (m.tdiv n)
 | a, .lit n => if 0 < n && decide (0 <= a.iv.1) then .div a n else .quo a (.lit n)
 | a, b => .quo a b
theorem mkQuo_ok {a b : X} (ha : a.ok) (hb : b.ok) : (mkQuo a b).ok /\ (mkQuo a b).ev = a.ev.tdiv b.ev := by
 unfold mkQuo
 split
 ·exact ⟨trivial, rfl⟩
 ·split
  ·rename_i h
   simp only [Bool.and_eq_true, decide_eq_true_eq] at h
   have := X.iv_ok a ha
   exact ⟨⟨ha, h.1⟩, (Int.tdiv_eq_ediv_of_nonneg (by omega)).symm⟩
  ·exact ⟨⟨ha, hb⟩, rfl⟩
 ·exact ⟨⟨ha, hb⟩, rfl⟩
def mkRem (a b : X) : X :=
 match a, b with
 | .lit m, .lit n => .lit (m.tmod n)
 | a, .lit n => if 0 < n && decide (0 <= a.iv.1) then (if a.iv.2 < n then a else .mod a n) else .rem a (.lit n)
 | a, b => .rem a b
theorem mkRem_ok {a b : X} (ha : a.ok) (hb : b.ok) : (mkRem a b).ok /\ (mkRem a b).ev = a.ev.tmod b.ev := by
 unfold mkRem
 split
 ·exact ⟨trivial, rfl⟩
 ·split
  ·rename_i h
   simp only [Bool.and_eq_true, decide_eq_true_eq] at h
   have := X.iv_ok a ha
   split
   ·rename_i h2
    refine ⟨ha, ?_⟩
    simp only [X.ev]
    rw [Int.tmod_eq_emod_of_nonneg (by omega), Int.emod_eq_of_lt (by omega) (by omega)]
   ·exact ⟨⟨ha, h.1⟩, (Int.tmod_eq_emod_of_nonneg (by omega)).symm⟩
  ·exact ⟨⟨ha, hb⟩, rfl⟩
 ·exact ⟨⟨ha, hb⟩, rfl⟩
def mkShr (a : X) (n : Nat) : X :=
 match a with
 | .lit m => .lit (m / 2 ^ n)
 | a => if n = 0 then a else .div a (2 ^ n)
theorem two_pow_pos' (n : Nat) : (0 : Int) < 2 ^ n := Int.pow_pos (by decide)
theorem mkShr_ok {a : X} {n : Nat} (ha : a.ok) : (mkShr a n).ok /\ (mkShr a n).ev = a.ev.fdiv (2 ^ n) := by
 have hp := two_pow_pos' n
 unfold mkShr
 rw [Int.fdiv_eq_ediv_of_nonneg _ (Int.le_of_lt hp)]
 split
 ·exact ⟨trivial, rfl⟩
 ·split
  ·rename_i h; subst h; exact ⟨ha, by simp⟩
  ·exact ⟨⟨ha, hp⟩, rfl⟩
def isMask (m : Int) : Bool := decide (0 <= m) && (m + 1 == 2 ^ (m + 1).toNat.log2)
def mkBits (op : BinOp) (k : IntKind) (a b : X) : X :=
 match op, a, b with
 | op, .lit m, .lit n => .lit (bitsI op k m n)
 | .and, a, .lit n => if isMask n && decide (0 <= a.iv.1) && fits k a.iv && decide (n <= k.max) then mkRem a (.lit (n + 1)) else .bits .and k a (.lit n)
 | .and, .lit n, b => if isMask n && decide (0 <= b.iv.1) && fits k b.iv && decide (n <= k.max) then mkRem b (.lit (n + 1)) else .bits .and k (.lit n) b
 | op, a, b => .bits op k a b
theorem and_mask {k : IntKind} {x n : Int} (h0 : 0 <= x) (h1 : x <= k.max) (hm : isMask n = true) (hn : n <= k.max) : bitsI .and k x n = x.tmod (n + 1) := by
 simp only [isMask, Bool.and_eq_true, decide_eq_true_eq, beq_iff_eq] at hm
 obtain ⟨hn0, hp⟩ := hm
 generalize hj : (n + 1).toNat.log2 = j at hp
 obtain ⟨x, rfl⟩ := Int.eq_ofNat_of_zero_le h0
 have hn' : n = ((2 ^ j - 1 : Nat) : Int) := by
  have : (2 : Int) ^ j = ((2 ^ j : Nat) : Int) := by simp
  have hpos : 0 < 2 ^ j := Nat.two_pow_pos j
  omega
 subst hn'
 have hpos : 0 < 2 ^ j := Nat.two_pow_pos j
 have e1 : (((2 ^ j - 1 : Nat) : Int) + 1) = ((2 ^ j : Nat) : Int) := by omega
 rw [Int.tmod_eq_emod_of_nonneg (by omega), e1]
 have hxm : x < 2 ^ k.bits := by
  cases k <;> simp [IntKind.max, IntKind.bits, IntKind.signed] at * <;> omega
 have hnm : 2 ^ j - 1 < 2 ^ k.bits := by
  cases k <;> simp [IntKind.max, IntKind.bits, IntKind.signed] at * <;> omega
 simp only [bitsI]
 have e2 : (BitVec.ofInt k.bits (x : Int) &&& BitVec.ofInt k.bits ((2 ^ j - 1 : Nat) : Int)).toNat = x % 2 ^ j := by
  simp only [BitVec.toNat_and, BitVec.ofInt_natCast, BitVec.toNat_ofNat, Nat.mod_eq_of_lt hxm, Nat.mod_eq_of_lt hnm]
  rw [Nat.and_two_pow_sub_one_eq_mod]
 rw [e2]
 have hle : x % 2 ^ j <= x := Nat.mod_le _ _
 have hk : k.min <= 0 := by cases k <;> simp [IntKind.min, IntKind.bits, IntKind.signed]
 rw [wrap_id (by omega) (by omega)]
 simp
theorem bitsI_and_comm (k : IntKind) (x y : Int) : bitsI .and k x y = bitsI .and k y x := by
 simp only [bitsI, BitVec.and_comm]
theorem mkBits_ok {op : BinOp} {k : IntKind} {a b : X} (ha : a.ok) (hb : b.ok) : (mkBits op k a b).ok /\ (mkBits op k a b).ev = bitsI op k a.ev b.ev := by
 unfold mkBits
 split
 ·exact ⟨trivial, rfl⟩
 ·split
  ·rename_i h
   simp only [Bool.and_eq_true, decide_eq_true_eq, fits] at h
   have := X.iv_ok a ha
   refine ⟨(mkRem_ok (b := .lit _) ha trivial).1, (mkRem_ok (b := .lit _) ha trivial).2.trans ?_⟩
   exact (and_mask (by omega) (by omega) h.1.1.1 h.2).symm
  ·exact ⟨⟨ha, hb⟩, rfl⟩
 ·split
  ·rename_i h
   simp only [Bool.and_eq_true, decide_eq_true_eq, fits] at h
   have := X.iv_ok b hb
   refine ⟨(mkRem_ok (b := .lit _) hb trivial).1, (mkRem_ok (b := .lit _) hb trivial).2.trans ?_⟩
   rw [bitsI_and_comm]
   exact (and_mask (by omega) (by omega) h.1.1.1 h.2).symm
  ·exact ⟨⟨ha, hb⟩, rfl⟩
 ·exact ⟨⟨ha, hb⟩, rfl⟩
def mkNot (k : IntKind) (a : X) : X :=
 if fits k a.iv then (if k.signed then mkSub (.lit (-1)) a else mkSub (.lit k.max) a) else .bits .xor k (.lit (if k.signed then -1 else k.max)) a
theorem xor_ones {k : IntKind} {x : Int} (h1 : k.min <= x) (h2 : x <= k.max) : bitsI .xor k (if k.signed then -1 else k.max) x = if k.signed then -1 - x else k.max - x := by
 have key : ∀ (n : Nat) (c : Int), BitVec.ofInt n c = BitVec.allOnes n -> (BitVec.ofInt n c ^^^ BitVec.ofInt n x).toNat = 2 ^ n - 1 - (x % (2 ^ n : Int)).toNat := by
  intro n c hc
  rw [hc, BitVec.allOnes_xor, BitVec.toNat_not]
  simp [BitVec.toNat_ofInt]
 simp only [bitsI]
 cases k <;> simp only [IntKind.signed, if_true, Bool.false_eq_true, if_false] <;>
  rw [key _ _ (by simp only [IntKind.bits, IntKind.max, IntKind.signed]; decide)] <;>
  simp [IntKind.wrap, IntKind.min, IntKind.max, IntKind.bits, IntKind.signed] at * <;> omega
theorem mkNot_ok {k : IntKind} {a : X} (ha : a.ok) : (mkNot k a).ok /\ (mkNot k a).ev = bitsI .xor k (if k.signed then -1 else k.max) a.ev := by
 unfold mkNot
 split
 ·rename_i h
  simp only [Bool.and_eq_true, decide_eq_true_eq, fits] at h
  have := X.iv_ok a ha
  rw [xor_ones (by omega) (by omega)]
  split
  ·exact mkSub_ok (a := .lit (-1)) trivial ha
  ·exact mkSub_ok (a := .lit k.max) trivial ha
 ·exact ⟨⟨trivial, ha⟩, rfl⟩
inductive B where
 | lit (b : Bool)
 | v (b : Bool)
 | lt (a b : X)
 | le (a b : X)
 | eq (a b : X)
 | not (b : B)
 | and (a b : B)
 | beq (a b : B)
def B.ev : B -> Bool
 | .lit b => b
 | .v b => b
 | .lt a b => decide (a.ev < b.ev)
 | .le a b => decide (a.ev <= b.ev)
 | .eq a b => a.ev == b.ev
 | .not b => !b.ev
 | .and a b => a.ev && b.ev
 | .beq a b => a.ev == b.ev
def B.ok : B -> Prop
 | .lit _ => True
 | .v _ => True
 | .lt a b => a.ok /\ b.ok
 | .le a b => a.ok /\ b.ok
 | .eq a b => a.ok /\ b.ok
 | .not b => b.ok
 | .and a b => a.ok /\ b.ok
 | .beq a b => a.ok /\ b.ok
def B.pr : B -> Prop
 | .lit b => b = true
 | .v b => b = true
 | .lt a b => a.ev < b.ev
 | .le a b => a.ev <= b.ev
 | .eq a b => a.ev = b.ev
 | .not b => ¬ b.pr
 | .and a b => a.pr /\ b.pr
 | .beq a b => (a.pr <-> b.pr)
theorem B.pr_ev : ∀ (b : B), b.pr <-> b.ev = true
 | .lit _ => Iff.rfl
 | .v _ => Iff.rfl
 | .lt a b => by simp [B.pr, B.ev]
 | .le a b => by simp [B.pr, B.ev]
 | .eq a b => by simp [B.pr, B.ev]
 | .not b => by simp [B.pr, B.ev, B.pr_ev b]
 | .and a b => by simp [B.pr, B.ev, B.pr_ev a, B.pr_ev b]
 | .beq a b => by
  simp only [B.pr, B.ev, B.pr_ev a, B.pr_ev b]
  cases a.ev <;> cases b.ev <;> simp
def mkLt (a b : X) : B := if a.iv.2 < b.iv.1 then .lit true else if b.iv.2 <= a.iv.1 then .lit false else .lt a b
def mkLe (a b : X) : B := if a.iv.2 <= b.iv.1 then .lit true else if b.iv.2 < a.iv.1 then .lit false else .le a b
def mkEq (a b : X) : B :=
 if a.iv.2 < b.iv.1 || b.iv.2 < a.iv.1 then .lit false
 else match a, b with
  | .lit m, .lit n => .lit (m == n)
  | a, b => .eq a b
def mkNotB : B -> B
 | .lit b => .lit (!b)
 | .not b => b
 | b => .not b
def mkAndB : B -> B -> B
 | .lit true, b => b
 | .lit false, _ => .lit false
 | b, .lit true => b
 | a, b => .and a b
def mkBeq : B -> B -> B
 | .lit a, .lit b => .lit (a == b)
 | .lit true, b => b
 | b, .lit true => b
 | .lit false, b => mkNotB b
 | b, .lit false => mkNotB b
 | a, b => .beq a b
theorem mkLt_ok {a b : X} (ha : a.ok) (hb : b.ok) : (mkLt a b).ok /\ (mkLt a b).ev = decide (a.ev < b.ev) := by
 have h1 := X.iv_ok a ha; have h2 := X.iv_ok b hb
 unfold mkLt
 split
 ·exact ⟨trivial, (decide_eq_true (by omega)).symm⟩
 ·split
  ·exact ⟨trivial, (decide_eq_false (by omega)).symm⟩
  ·exact ⟨⟨ha, hb⟩, rfl⟩
theorem mkLe_ok {a b : X} (ha : a.ok) (hb : b.ok) : (mkLe a b).ok /\ (mkLe a b).ev = decide (a.ev <= b.ev) := by
 have h1 := X.iv_ok a ha; have h2 := X.iv_ok b hb
 unfold mkLe
 split
 ·exact ⟨trivial, (decide_eq_true (by omega)).symm⟩
 ·split
  ·exact ⟨trivial, (decide_eq_false (by omega)).symm⟩
  ·exact ⟨⟨ha, hb⟩, rfl⟩
theorem mkEq_ok {a b : X} (ha : a.ok) (hb : b.ok) : (mkEq a b).ok /\ (mkEq a b).ev = (a.ev == b.ev) := by
 have h1 := X.iv_ok a ha; have h2 := X.iv_ok b hb
 unfold mkEq
 split
 ·rename_i h
  simp only [Bool.or_eq_true, decide_eq_true_eq] at h
  refine ⟨trivial, ?_⟩
  symm
  simp only [B.ev, beq_eq_false_iff_ne]
  omega
 ·split
  ·exact ⟨trivial, rfl⟩
  ·exact ⟨⟨ha, hb⟩, rfl⟩
theorem mkNotB_ok {b : B} (h : b.ok) : (mkNotB b).ok /\ (mkNotB b).ev = !b.ev := by
 unfold mkNotB; split <;> simp_all [B.ok, B.ev]
theorem mkAndB_ok {a b : B} (ha : a.ok) (hb : b.ok) : (mkAndB a b).ok /\ (mkAndB a b).ev = (a.ev && b.ev) := by
 unfold mkAndB; split <;> simp_all [B.ok, B.ev]
theorem mkBeq_ok {a b : B} (ha : a.ok) (hb : b.ok) : (mkBeq a b).ok /\ (mkBeq a b).ev = (a.ev == b.ev) := by
 unfold mkBeq
 split
 ·exact ⟨trivial, rfl⟩
 ·exact ⟨hb, by simp [B.ev]⟩
 ·exact ⟨ha, by simp [B.ev]⟩
 ·have := mkNotB_ok hb; exact ⟨this.1, by rw [this.2]; simp [B.ev]⟩
 ·have := mkNotB_ok ha; exact ⟨this.1, by rw [this.2]; simp [B.ev]⟩
 ·exact ⟨⟨ha, hb⟩, rfl⟩
def mkIte (i : X) (j : Int) (a b : X) : X :=
 match mkEq i (.lit j) with
 | .lit true => a
 | .lit false => b
 | _ => .ite i j a b
theorem mkIte_ok {i a b : X} (j : Int) (hi : i.ok) (ha : a.ok) (hb : b.ok) : (mkIte i j a b).ok /\ (mkIte i j a b).ev = if i.ev = j then a.ev else b.ev := by
 obtain ⟨_, h⟩ := mkEq_ok (a := i) (b := .lit j) hi trivial
 unfold mkIte
 split
 ·rename_i e
  rw [e] at h
  have : i.ev = j := by simpa [B.ev, X.ev] using h.symm
  exact ⟨ha, by rw [if_pos this]⟩
 ·rename_i e
  rw [e] at h
  have : ¬ i.ev = j := by simpa [B.ev, X.ev] using h.symm
  exact ⟨hb, by rw [if_neg this]⟩
 ·exact ⟨⟨hi, ha, hb⟩, rfl⟩
def selX (i : X) : Nat -> List X -> X
 | _, [] => .lit 0
 | _, [x] => x
 | k, x :: y :: r => mkIte i k x (selX i (k + 1) (y :: r))
theorem selX_ok {i : X} (hi : i.ok) : ∀ (xs : List X) (k q : Nat), (∀ x ∈ xs, x.ok) -> q < xs.length -> i.ev = ((k + q : Nat) : Int) -> (selX i k xs).ok /\ ∀ x, xs[q]? = some x -> (selX i k xs).ev = x.ev
 | [], k, q, _, h, _ => by simp at h
 | [x], k, q, hx, h, _ => by
  have : q = 0 := by simpa using h
  subst this
  exact ⟨hx x (by simp), fun y hy => by simp at hy; subst hy; rfl⟩
 | x :: y :: r, k, q, hx, h, he => by
  have hok : (selX i (k + 1) (y :: r)).ok := by
   cases q with
   | zero =>
    exact selX_okay hi (y :: r) (k + 1) (by simp) fun z hz => hx z (by simp [hz])
   | succ q => exact (selX_ok hi (y :: r) (k + 1) q (fun z hz => hx z (by simp [hz])) (by simpa using h) (by rw [he]; congr 1; omega)).1
  obtain ⟨h1, h2⟩ := mkIte_ok (k : Int) hi (hx x (by simp)) hok
  refine ⟨h1, fun z hz => ?_⟩
  simp only [selX, h2]
  cases q with
  | zero =>
   rw [if_pos (by rw [he]; simp)]
   simp at hz; subst hz; rfl
  | succ q =>
   rw [if_neg (by rw [he]; omega)]
   exact (selX_ok hi (y :: r) (k + 1) q (fun z hz => hx z (by simp [hz])) (by simpa using h) (by rw [he]; congr 1; omega)).2 z (by simpa using hz)
where
 selX_okay {i : X} (hi : i.ok) : ∀ (xs : List X) (k : Nat), xs ≠ [] -> (∀ x ∈ xs, x.ok) -> (selX i k xs).ok
 | [], _, h, _ => absurd rfl h
 | [x], _, _, hx => hx x (by simp)
 | x :: y :: r, k, _, hx => (mkIte_ok (k : Int) hi (hx x (by simp)) (selX_okay hi (y :: r) (k + 1) (by simp) fun z hz => hx z (by simp [hz]))).1
def litsX : List X -> Option (List Int)
 | [] => some []
 | .lit n :: r => (litsX r).map (n :: ·)
 | _ :: _ => none
theorem litsX_ok : ∀ (xs : List X) {l : List Int}, litsX xs = some l -> l.length = xs.length /\ ∀ q x, xs[q]? = some x -> l.getD q 0 = x.ev
 | [], l, h => by cases h; exact ⟨rfl, fun q x hx => by simp at hx⟩
 | .lit n :: r, l, h => by
  simp only [litsX, Option.map_eq_some_iff] at h
  obtain ⟨m, hm, rfl⟩ := h
  obtain ⟨h1, h2⟩ := litsX_ok r hm
  refine ⟨by simp [h1], fun q x hx => ?_⟩
  cases q with
  | zero => simp at hx; subst hx; rfl
  | succ q => simpa using h2 q x (by simpa using hx)
 | .v .. :: _, l, h => by cases h
 | .add .. :: _, l, h => by cases h
 | .sub .. :: _, l, h => by cases h
 | .mul .. :: _, l, h => by cases h
 | .quo .. :: _, l, h => by cases h
 | .rem .. :: _, l, h => by cases h
 | .div .. :: _, l, h => by cases h
 | .mod .. :: _, l, h => by cases h
 | .wrap .. :: _, l, h => by cases h
 | .bits .. :: _, l, h => by cases h
 | .shv .. :: _, l, h => by cases h
 | .max .. :: _, l, h => by cases h
 | .min .. :: _, l, h => by cases h
 | .ite .. :: _, l, h => by cases h
 | .tbl .. :: _, l, h => by cases h
def selB (i : X) (xs : List X) : X :=
 match litsX xs with
 | some l => if 4 < l.length then .tbl l i else selX i 0 xs
 | none => selX i 0 xs
theorem selB_ok {i : X} (hi : i.ok) (xs : List X) (q : Nat) (hx : ∀ x ∈ xs, x.ok) (hq : q < xs.length) (he : i.ev = (q : Int)) : (selB i xs).ok /\ ∀ x, xs[q]? = some x -> (selB i xs).ev = x.ev := by
 unfold selB
 split
 ·rename_i l hl
  split
  ·refine ⟨hi, fun x h => ?_⟩
   have := (litsX_ok xs hl).2 q x h
   simp only [X.ev, he, Int.toNat_natCast]
   exact this
  ·exact selX_ok hi xs 0 q hx hq (by rw [he]; simp)
 ·exact selX_ok hi xs 0 q hx hq (by rw [he]; simp)
end Go.Proofs.YtcjllibeaiofpaaGreatDoor.Sx
