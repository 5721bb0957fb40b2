/-
  A frame of our own for walks, part a: an abstract memory of known blocks, operations run in it, and regions in whatever order.
-/
import Derived.Test.YtogcbmadcgjljaaDoorSj
import Derived.Calls
import Derived.Below
import Derived.Scope
namespace Go.Proofs.YtogcbmadcgjljaaDoor.Sx
open Go Go.RowKit

/-- A known block: its cells, its type; own: it was made behind the start, and may be written. -/
structure Blk where
  cells : Array Value
  ty : TypeId
  own : Bool

def Mem := Nat → Option Blk

def Mem.cell (m : Mem) (a : Addr) : Option Value :=
  match m a.block with
  | some b => if a.spot.isSome then none else b.cells[a.off]?
  | none => none

def Mem.add (m : Mem) (b : Nat) (x : Blk) : Mem := fun k => if k = b then some x else m k

def Mem.set (m : Mem) (a : Addr) (v : Value) : Mem := fun k =>
  if k = a.block then (m k).map (fun b => { b with cells := b.cells.setIfInBounds a.off v }) else m k

def Mem.fin (m : Mem) : Prop := ∃ N, ∀ b, N ≤ b → m b = none

theorem Mem.fin_add {m : Mem} (h : m.fin) (b : Nat) (x : Blk) : (m.add b x).fin := by
  obtain ⟨N, hN⟩ := h
  refine ⟨N + b + 1, fun k hk => ?_⟩
  simp only [Mem.add]
  rw [if_neg (by omega)]
  exact hN k (by omega)

theorem Mem.fin_set {m : Mem} (h : m.fin) (a : Addr) (v : Value) : (m.set a v).fin := by
  obtain ⟨N, hN⟩ := h
  refine ⟨N, fun k hk => ?_⟩
  simp only [Mem.set]
  split
  · rw [hN k hk]; rfl
  · exact hN k hk

theorem Mem.add_comm (m : Mem) {b c : Nat} (h : b ≠ c) (x y : Blk) : (m.add b x).add c y = (m.add c y).add b x := by
  funext k
  simp only [Mem.add]
  by_cases h1 : k = b
  · subst h1; simp [h]
  · simp [h1]

def flat : Value → Bool
  | .agg _ => false
  | .tuple _ => false
  | _ => true

/-! ### the world -/
/-- w is w0 but for what is new, of which nothing is frozen. -/
def Sm (w0 w : World) : Prop := Below w0.heap.size w0 w ∧ ∀ a : Addr, w0.heap.size ≤ a.block → w.frozen? a = false

theorem Sm.refl (w : World) : Sm w w := by
  refine ⟨Below.refl _ _, fun a ha => ?_⟩
  have : w.heap[a.block]? = none := by simp; omega
  simp [World.frozen?, this]

theorem Sm.trans {a b c : World} (h : Sm a b) (k : Sm b c) : Sm a c := by
  refine ⟨h.1.trans (k.1.mono h.1.size), fun x hx => ?_⟩
  by_cases hb : x.block < b.heap.size
  · rw [k.1.frozen hb]; exact h.2 x hx
  · exact k.2 x (by omega)

theorem Sm.grown {a b : World} (h : Sm a b) : Grown a b := by
  refine ⟨h.1.frame _, fun x => ?_, h.1.size⟩
  by_cases hx : x.block < a.heap.size
  · exact h.1.frozen hx
  · rw [h.2 x (by omega), (Sm.refl a).2 x (by omega)]

theorem Sm.j {a b : World} (h : Sm a b) (j : J a) : J b := J_kept h.1 j

structure Holds (w0 : World) (m : Mem) (w : World) : Prop where
  sm : Sm w0 w
  j : J w0
  blk : ∀ b x, m b = some x → ∃ fr cs ty, w.heap[b]? = some (.cells cs ty fr) ∧ (∀ (i : Nat) (v : Value), x.cells[i]? = some v → cs[i]? = some v) ∧ (x.own = true → fr = (0, 0) ∧ w0.heap.size ≤ b)

theorem Holds.fin {w0 w : World} {m : Mem} (h : Holds w0 m w) : m.fin := by
  refine ⟨w.heap.size, fun b hb => ?_⟩
  cases hm : m b with
  | none => rfl
  | some x =>
    obtain ⟨fr, cs, ty, h1, _⟩ := h.blk b x hm
    have : w.heap[b]? = none := by simp; omega
    rw [this] at h1; cases h1

theorem Holds.size {w0 w : World} {m : Mem} (h : Holds w0 m w) {b : Nat} {x : Blk} (hb : m b = some x) : b < w.heap.size := by
  obtain ⟨fr, cs, ty, h1, _⟩ := h.blk b x hb
  exact Array.getElem?_eq_some_iff.1 h1 |>.1

theorem Holds.start (w : World) (j : J w) : Holds w (fun _ => none) w := ⟨Sm.refl w, j, fun _ _ h => by cases h⟩

theorem Holds.cell {w0 w : World} {m : Mem} (h : Holds w0 m w) {a : Addr} {v : Value} (hv : m.cell a = some v) : w.cell? a = some v := by
  unfold Mem.cell at hv
  split at hv
  · rename_i x hx
    obtain ⟨fr, cs, ty, h1, h2, _⟩ := h.blk _ _ hx
    simp only [World.cell?, h1]
    split at hv
    · cases hv
    · rename_i hs
      rw [if_neg hs]; exact h2 _ _ hv
  · cases hv

theorem Holds.sub {w0 w w' : World} {m : Mem} (h : Holds w0 m w) (k : Sm w w') : Holds w0 m w' := by
  refine ⟨h.sm.trans k, h.j, fun b x hb => ?_⟩
  obtain ⟨fr, cs, ty, h1, h2⟩ := h.blk b x hb
  exact ⟨fr, cs, ty, by rw [k.1.block b (h.size hb)]; exact h1, h2⟩

theorem Holds.drew {w0 w : World} {m : Mem} (h : Holds w0 m w) : Holds w0 m { w with drawn := w.drawn + 1 } :=
  ⟨⟨⟨h.sm.1.os, h.sm.1.tape, h.sm.1.output, h.sm.1.size, h.sm.1.block⟩, h.sm.2⟩, h.j, h.blk⟩

theorem Sm.alloc (w : World) (c : Array Value) (t : TypeId) : Sm w { w with heap := w.heap.push (.cells c t) } := by
  refine ⟨⟨rfl, rfl, rfl, by simp, fun k hk => ?_⟩, fun a ha => ?_⟩
  · rw [Array.getElem?_push, if_neg (by omega)]
  · simp only [World.frozen?]
    by_cases h : a.block = w.heap.size
    · rw [h]; simp
    · have : (w.heap.push (Obj.cells c t))[a.block]? = none := by simp; omega
      simp [this]

theorem Holds.alloc {w0 w : World} {m : Mem} (h : Holds w0 m w) (c : Array Value) (t : TypeId) :
    Holds w0 (m.add w.heap.size ⟨c, t, true⟩) { w with heap := w.heap.push (.cells c t) } := by
  refine ⟨h.sm.trans (Sm.alloc w c t), h.j, fun b x hb => ?_⟩
  simp only [Mem.add] at hb
  split at hb
  · rename_i e; subst e
    cases hb
    exact ⟨(0, 0), c, t, by simp, fun _ _ e => e, fun _ => ⟨rfl, h.sm.1.size⟩⟩
  · obtain ⟨fr, cs, ty, h1, h2⟩ := h.blk b x hb
    exact ⟨fr, cs, ty, by rw [Array.getElem?_push, if_neg (Nat.ne_of_lt (h.size hb))]; exact h1, h2⟩

theorem Holds.fresh {w0 w : World} {m : Mem} (h : Holds w0 m w) : m w.heap.size = none := by
  cases hm : m w.heap.size with
  | none => rfl
  | some x => exact absurd (h.size hm) (Nat.lt_irrefl _)

theorem Holds.set {w0 w : World} {m : Mem} (h : Holds w0 m w) {a : Addr} {v : Value} {x : Blk} (hx : m a.block = some x) (ho : x.own = true) (hs : a.spot = none) :
    Holds w0 (m.set a v) (w.setCell a v) := by
  obtain ⟨fr, cs, ty, h1, hpre, h2⟩ := h.blk _ _ hx
  obtain ⟨rfl, hb⟩ := h2 ho
  refine ⟨⟨h.sm.1.setCell hb v, fun p hp => ?_⟩, h.j, fun b y hy => ?_⟩
  · rw [World.frozen?_setCell]; exact h.sm.2 p hp
  · simp only [Mem.set] at hy
    split at hy
    · rename_i e; subst e
      rw [hx] at hy
      cases hy
      refine ⟨(0, 0), cs.setIfInBounds a.off v, ty, ?_, ?_, fun _ => ⟨rfl, hb⟩⟩
      · simp only [World.setCell, Array.getElem?_modify, if_pos trivial, h1, hs]
        rfl
      · intro i u hu
        simp only [Array.getElem?_setIfInBounds] at hu ⊢
        by_cases hi : a.off = i
        · rw [if_pos hi] at hu ⊢
          split at hu
          · rename_i hl
            have : i < cs.size := by
              have := hpre i x.cells[i] (by simp [hi ▸ hl])
              exact (Array.getElem?_eq_some_iff.1 this).1
            rw [if_pos (by omega)]; exact hu
          · cases hu
        · rw [if_neg hi] at hu ⊢
          exact hpre i u hu
    · rename_i e
      obtain ⟨fr', cs', ty', h3, h4⟩ := h.blk b y hy
      exact ⟨fr', cs', ty', by rw [Below.heap_setCell _ _ _ _ e]; exact h3, h4⟩

/-! ### operations run in the known memory -/
variable (P : Program)

/-- what only reads. -/
def qev {α : Type} : Sem α → Mem → Option α
  | .pure a, _ => some a
  | .load _ a k, m => match m.cell a with
    | some v => qev (k v) m
    | none => none
  | .program k, m => qev (k P) m
  | .mark _ k, m => qev k m
  | _, _ => none

/-- what reads and stores. -/
def wev {α : Type} : Sem α → Mem → Option (α × Mem)
  | .pure a, m => some (a, m)
  | .load _ a k, m => match m.cell a with
    | some v => wev (k v) m
    | none => none
  | .store _ a v k, m => match m a.block with
    | some b => if flat v && b.own && a.spot.isNone && decide (a.off < b.cells.size) then wev k (m.set a v) else none
    | none => none
  | .program k, m => wev (k P) m
  | .mark _ k, m => wev k m
  | _, _ => none

/-- what asks for nothing of the memory. -/
def nev {α : Type} : Sem α → Option α
  | .pure a => some a
  | .program k => nev (k P)
  | .mark _ k => nev k
  | _ => none

/-- what makes one block. -/
def aev {α : Type} : Sem α → Option (Array Value × TypeId × (Nat → Sem α))
  | .new (.cells c t fr) k => if fr = (0, 0) then some (c, t, k) else none
  | .program k => aev (k P)
  | .mark _ k => aev k
  | _ => none

variable {P}

theorem qev_run {α : Type} (s : Sem α) : ∀ {m : Mem} {r : α} {w0 w : World}, qev P s m = some r → Holds w0 m w → s.run P w = .ok r w := by
  induction s with
  | pure a => intro m r w0 w h _; cases h; rfl
  | load md a k ih =>
    intro m r w0 w h H
    simp only [qev] at h
    split at h
    · rename_i v hv
      simp only [Sem.run, H.cell hv]
      exact ih v h H
    · cases h
  | program k ih => intro m r w0 w h H; exact ih P h H
  | mark mk k ih => intro m r w0 w h H; exact ih h H
  | _ => intro m r w0 w h _; cases h

theorem nev_run {α : Type} (s : Sem α) : ∀ {r : α} {w : World}, nev P s = some r → s.run P w = .ok r w := by
  induction s with
  | pure a => intro r w h; cases h; rfl
  | program k ih => intro r w h; exact ih P h
  | mark mk k ih => intro r w h; exact ih h
  | _ => intro r w h; cases h

theorem nev_qev {α : Type} (s : Sem α) : ∀ {r : α} {m : Mem}, nev P s = some r → qev P s m = some r := by
  induction s with
  | pure a => intro r m h; cases h; rfl
  | program k ih => intro r m h; exact ih P h
  | mark mk k ih => intro r m h; exact ih h
  | _ => intro r m h; cases h

theorem aev_run {α : Type} (s : Sem α) : ∀ {c : Array Value} {t : TypeId} {k : Nat → Sem α} {w : World}, aev P s = some (c, t, k) →
    s.run P w = (k w.heap.size).run P { w with heap := w.heap.push (.cells c t) } := by
  induction s with
  | new o k ih =>
    intro c t k' w h
    cases o with
    | cells c0 t0 fr =>
      simp only [aev] at h
      split at h
      · rename_i e; subst e; cases h; rfl
      · cases h
    | _ => cases h
  | program k ih => intro c t k' w h; exact ih P h
  | mark mk k ih => intro c t k' w h; exact ih h
  | _ => intro c t k' w h; cases h

theorem wev_run {α : Type} (s : Sem α) : ∀ {m m' : Mem} {r : α} {w0 w : World}, wev P s m = some (r, m') → Holds w0 m w → ∃ w', s.run P w = .ok r w' ∧ Holds w0 m' w' := by
  induction s with
  | pure a => intro m m' r w0 w h H; cases h; exact ⟨w, rfl, H⟩
  | load md a k ih =>
    intro m m' r w0 w h H
    simp only [wev] at h
    split at h
    · rename_i v hv
      simp only [Sem.run, H.cell hv]
      exact ih v h H
    · cases h
  | store md a v k ih =>
    intro m m' r w0 w h H
    simp only [wev] at h
    split at h
    · rename_i x hx
      split at h
      · rename_i hc
        simp only [Bool.and_eq_true, Option.isNone_iff_eq_none, decide_eq_true_eq] at hc
        obtain ⟨⟨⟨hf, ho⟩, hs⟩, hl⟩ := hc
        obtain ⟨fr, cs, ty, h1, hpre, h2⟩ := H.blk _ _ hx
        obtain ⟨rfl, hb⟩ := h2 ho
        have hcell : ∃ u, w.cell? a = some u := by
          refine ⟨x.cells[a.off], ?_⟩
          simp [World.cell?, h1, hs, hpre a.off x.cells[a.off] (by simp [hl])]
        obtain ⟨u, hu⟩ := hcell
        have hfz : w.frozen? a = false := H.sm.2 a hb
        have hrun : (Sem.store md a v k).run P w = k.run P (w.setCell a v) := by
          cases v <;> first | (simp [flat] at hf; done) | simp [Sem.run, hu, hfz]
        rw [hrun]
        exact ih h (H.set hx ho hs)
      · cases h
    · cases h
  | program k ih => intro m m' r w0 w h H; exact ih P h H
  | mark mk k ih => intro m m' r w0 w h H; exact ih h H
  | _ => intro m m' r w0 w h _; cases h

end Go.Proofs.YtogcbmadcgjljaaDoor.Sx
