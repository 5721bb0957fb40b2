/-
  A frame of our own for walks, part h: each operation on values with trees.
-/
import Derived.Test.YtogcbmadcgjljaaDoorSxg
import Derived.Laws.Externs
namespace Go.Proofs.YtogcbmadcgjljaaDoor.Sx
open Go Go.RowKit

variable {P : Program}

/-! ### places -/
def symFieldAddr (P : Program) (s : TypeId) (x : V) (f : Nat) : Option S :=
  match P.underlying s, x with
  | some (.struct fields), .a (.s (.ptr id b off)) =>
    match fields[f]? with
    | some fd => match sizeT P fd.type with
      | some n => if n = 0 then none else some (.ptr id b (off + fd.offset))
      | none => none
    | none => none
  | some (.struct fields), .a (.s (.px id b off i len st)) =>
    match fields[f]? with
    | some fd => match sizeT P fd.type with
      | some n => if n = 0 then none else some (.px id b (off + fd.offset) i len st)
      | none => none
    | none => none
  | _, _ => none

theorem symFieldAddr_ok {bs : List Nat} {s : TypeId} {x : V} {f : Nat} (hx : x.ok bs) {r : S} (h : symFieldAddr P s x f = some r) (m : Mem) :
    r.ok bs ∧ qev P (Instr.fieldAt s x.ev f) m = some r.ev := by
  unfold symFieldAddr at h
  split at h
  · rename_i fields id b off hu
    split at h
    · rename_i fd hf
      split at h
      · rename_i n hn
        split at h
        · cases h
        · rename_i hz
          cases h
          refine ⟨hx, ?_⟩
          unfold Instr.fieldAt
          rw [qev_bind, qev_underlying hu]
          simp only [Option.bind_some, hf, V.ev, A.ev, S.ev]
          rw [qev_bind]
          simp only [Instr.sureAddr, qev_pure, Option.bind_some]
          rw [qev_bind]
          unfold fieldPlace
          rw [qev_bind, sizeT_some hn]
          simp [hz, add_plain]
      · cases h
    · cases h
  · rename_i fields id b off i len st hu
    split at h
    · rename_i fd hf
      split at h
      · rename_i n hn
        split at h
        · cases h
        · rename_i hz
          cases h
          refine ⟨hx, ?_⟩
          unfold Instr.fieldAt
          rw [qev_bind, qev_underlying hu]
          simp only [Option.bind_some, hf, V.ev, A.ev, S.ev]
          rw [qev_bind]
          simp only [Instr.sureAddr, qev_pure, Option.bind_some]
          rw [qev_bind]
          unfold fieldPlace
          rw [qev_bind, sizeT_some hn]
          simp only [Option.bind_some, hz, if_false, add_plain, qev_pure, Nat.add_assoc, Option.some.injEq, Value.pointer.injEq, Addr.mk.injEq, true_and, and_true]
          omega
      · cases h
    · cases h
  · cases h

def symField (P : Program) (t : TypeId) (x : V) (f : Nat) : Option A :=
  match P.underlying t, x with
  | some (.struct fields), .a (.agg cs) =>
    match fields[f]? with
    | some fd => partS P fd.type cs fd.offset
    | none => none
  | _, _ => none

theorem symField_ok {bs : List Nat} {t : TypeId} {x : V} {f : Nat} (hx : x.ok bs) {r : A} (h : symField P t x f = some r) (m : Mem) :
    r.ok bs ∧ qev P (Instr.field t x.ev f) m = some r.ev := by
  unfold symField at h
  split at h
  · rename_i fields cs hu
    split at h
    · rename_i fd hf
      obtain ⟨h1, h2⟩ := partS_ok hx h m
      refine ⟨h1, ?_⟩
      unfold Instr.field
      rw [qev_bind, qev_underlying hu]
      rw [show (V.a (A.agg cs)).ev = .agg (cs.map S.ev).toArray from rfl]
      simp only [Option.bind_some, hf]
      rw [qev_bind]
      simpa only [asAgg, qev_pure, Option.bind_some] using h2
    · cases h
  · cases h

def symIndexAddr (P : Program) (t : TypeId) (x : V) (j : Int) : Option S :=
  match P.underlying t, x with
  | some (.array len elem), .a (.s (.ptr id b off)) =>
    match sizeT P elem with
    | some n => if 0 ≤ j ∧ j < len then some (.ptr id b (off + j.toNat * n)) else none
    | none => none
  | some (.array len elem), .a (.s (.px id b off i l st)) =>
    match sizeT P elem with
    | some n => if 0 ≤ j ∧ j < len then some (.px id b (off + j.toNat * n) i l st) else none
    | none => none
  | some (.slice elem), .a (.s (.sl id b off len _)) =>
    match sizeT P elem with
    | some n => if 0 ≤ j ∧ j < len then some (.ptr id b (off + j.toNat * n)) else none
    | none => none
  | _, _ => none

theorem symIndexAddr_ok {bs : List Nat} {t : TypeId} {x : V} {j : Int} (k : IntKind) (hx : x.ok bs) {r : S} (h : symIndexAddr P t x j = some r) (m : Mem) :
    r.ok bs ∧ qev P (Instr.indexAt t x.ev (.int k j)) m = some r.ev := by
  unfold symIndexAddr at h
  split at h
  · rename_i len elem id b off hu
    split at h
    · rename_i n hn
      split at h
      · rename_i hj
        cases h
        refine ⟨hx, ?_⟩
        unfold Instr.indexAt
        simp only [asIntOf, qev_bind, qev_pure, Option.bind_some, qev_underlying hu, V.ev, A.ev, S.ev, Instr.sureAddr, hj, and_self, if_true, sizeT_some hn, add_plain]
      · cases h
    · cases h
  · rename_i len elem id b off i l st hu
    split at h
    · rename_i n hn
      split at h
      · rename_i hj
        cases h
        refine ⟨hx, ?_⟩
        unfold Instr.indexAt
        simp only [asIntOf, qev_bind, qev_pure, Option.bind_some, qev_underlying hu, V.ev, A.ev, S.ev, Instr.sureAddr, hj, and_self, if_true, sizeT_some hn, add_plain]
        congr 4
        omega
      · cases h
    · cases h
  · rename_i elem id b off len cap hu
    split at h
    · rename_i n hn
      split at h
      · rename_i hj
        cases h
        refine ⟨hx, ?_⟩
        unfold Instr.indexAt
        simp only [asIntOf, qev_bind, qev_pure, Option.bind_some, qev_underlying hu, V.ev, A.ev, S.ev, hj, and_self, if_true, sizeT_some hn, add_plain]
      · cases h
    · cases h
  · cases h

def symIndex (P : Program) (t : TypeId) (x : V) (j : Int) : Option A :=
  match P.underlying t, x with
  | some (.array len elem), .a (.agg cs) =>
    match sizeT P elem with
    | some n => if 0 ≤ j ∧ j < len then partS P elem cs (j.toNat * n) else none
    | none => none
  | _, _ => none

theorem symIndex_ok {bs : List Nat} {t : TypeId} {x : V} {j : Int} (k : IntKind) (hx : x.ok bs) {r : A} (h : symIndex P t x j = some r) (m : Mem) :
    r.ok bs ∧ qev P (Instr.index t x.ev (.int k j)) m = some r.ev := by
  unfold symIndex at h
  split at h
  · rename_i len elem cs hu
    split at h
    · rename_i n hn
      split at h
      · rename_i hj
        obtain ⟨h1, h2⟩ := partS_ok hx h m
        refine ⟨h1, ?_⟩
        unfold Instr.index
        simp only [asIntOf, qev_bind, qev_pure, Option.bind_some, qev_underlying hu, V.ev, A.ev, hj, and_self, if_true, sizeT_some hn]
        exact h2
      · cases h
    · cases h
  · cases h

/-! ### an index that is not known: one of several numbers -/
def symIndexX (P : Program) (t : TypeId) (x : V) (j : X) : Option S :=
  match P.underlying t, x with
  | some (.array len elem), .a (.s (.ptr id b off)) => (sizeT P elem).map fun n => .px id b off j len n
  | some (.slice elem), .a (.s (.sl id b off len _)) => (sizeT P elem).map fun n => .px id b off j len n
  | _, _ => none

def lenX (P : Program) (t : TypeId) (x : V) : Int :=
  match P.underlying t, x with
  | some (.array len _), _ => len
  | some (.slice _), .a (.s (.sl _ _ _ len _)) => len
  | _, _ => 0

theorem symIndexX_ok {bs : List Nat} {t : TypeId} {x : V} {j : X} (k : IntKind) (hx : x.ok bs) (hj : j.ok) (h0 : 0 ≤ j.ev) (h1 : j.ev < lenX P t x) {r : S} (h : symIndexX P t x j = some r) (m : Mem) :
    r.ok bs ∧ qev P (Instr.indexAt t x.ev (.int k j.ev)) m = some r.ev := by
  unfold symIndexX at h
  split at h
  · rename_i len elem id b off hu
    cases hn : sizeT P elem with
    | none => rw [hn] at h; cases h
    | some n =>
      rw [hn] at h; cases h
      simp only [lenX, hu] at h1
      refine ⟨⟨hx, hj, h0, h1⟩, ?_⟩
      unfold Instr.indexAt
      simp only [asIntOf, qev_bind, qev_pure, Option.bind_some, qev_underlying hu, V.ev, A.ev, S.ev, Instr.sureAddr, h0, h1, and_self, if_true, sizeT_some hn, add_plain]
  · rename_i elem id b off len cap hu
    cases hn : sizeT P elem with
    | none => rw [hn] at h; cases h
    | some n =>
      rw [hn] at h; cases h
      simp only [lenX, hu] at h1
      refine ⟨⟨hx, hj, h0, h1⟩, ?_⟩
      unfold Instr.indexAt
      simp only [asIntOf, qev_bind, qev_pure, Option.bind_some, qev_underlying hu, V.ev, A.ev, S.ev, h0, h1, and_self, if_true, sizeT_some hn, add_plain]
  · cases h

def kindAt (cells : List S) (off : Nat) : IntKind :=
  match cells[off]? with
  | some (.int k _) => k
  | _ => .i64

def collectX (cells : List S) (n : Nat) (kd : IntKind) : Nat → Nat → Option (List X)
  | _, 0 => some []
  | off, l + 1 => match cells[off]? with
    | some (.int k x) => if k = kd then (collectX cells n kd (off + n) l).map (x :: ·) else none
    | _ => none

theorem collectX_ok {cells : List S} {n : Nat} {kd : IntKind} : ∀ (l off : Nat) {xs : List X}, collectX cells n kd off l = some xs → xs.length = l ∧ ∀ q x, xs[q]? = some x → cells[off + q * n]? = some (.int kd x)
  | 0, off, xs, h => by cases h; exact ⟨rfl, fun q x hx => by simp at hx⟩
  | l + 1, off, xs, h => by
    simp only [collectX] at h
    split at h
    · rename_i k x hc
      split at h
      · rename_i hk; subst hk
        cases hr : collectX cells n k (off + n) l with
        | none => rw [hr] at h; cases h
        | some ys =>
          rw [hr] at h; cases h
          obtain ⟨h1, h2⟩ := collectX_ok l (off + n) hr
          refine ⟨by simp [h1], fun q y hy => ?_⟩
          cases q with
          | zero => simp at hy; subst hy; simpa using hc
          | succ q =>
            have := h2 q y (by simpa using hy)
            rw [← this]; congr 1; rw [Nat.succ_mul]; omega
      · cases h
    · cases h

def cellPx (cells : List S) (off : Nat) (i : X) (len n : Nat) : Option S :=
  (collectX cells n (kindAt cells off) off len).map fun xs => .int (kindAt cells off) (selB i xs)

theorem cellPx_ok {bs : List Nat} {cells : List S} (hc : ∀ c ∈ cells, c.ok bs) {off : Nat} {i : X} (hi : i.ok) {len n : Nat} (h0 : 0 ≤ i.ev) (h1 : i.ev < len) {r : S} (h : cellPx cells off i len n = some r) :
    r.ok bs ∧ ∃ y, cells[off + i.ev.toNat * n]? = some y ∧ y.ev = r.ev := by
  unfold cellPx at h
  cases hx : collectX cells n (kindAt cells off) off len with
  | none => rw [hx] at h; cases h
  | some xs =>
    rw [hx] at h; cases h
    obtain ⟨h2, h3⟩ := collectX_ok _ _ hx
    have hq : i.ev.toNat < xs.length := by omega
    have e := h3 i.ev.toNat xs[i.ev.toNat] (List.getElem?_eq_getElem hq)
    have hok : ∀ x ∈ xs, x.ok := by
      intro x hx'
      obtain ⟨q, hq'⟩ := List.getElem?_of_mem hx'
      exact hc _ (List.mem_of_getElem? (h3 q x hq'))
    obtain ⟨g1, g2⟩ := selB_ok hi xs i.ev.toNat hok hq (by omega)
    refine ⟨g1, _, e, ?_⟩
    simp only [S.ev, g2 _ (List.getElem?_eq_getElem hq)]

def cellsPx (cells : List S) (i : X) (len n : Nat) : Nat → Nat → Option (List S)
  | _, 0 => some []
  | off, m + 1 => match cellPx cells off i len n, cellsPx cells i len n (off + 1) m with
    | some c, some cs => some (c :: cs)
    | _, _ => none

theorem cellsPx_ok {bs : List Nat} {cells : List S} (hc : ∀ c ∈ cells, c.ok bs) {i : X} (hi : i.ok) {len n : Nat} (h0 : 0 ≤ i.ev) (h1 : i.ev < len) : ∀ (m off : Nat) {rs : List S}, cellsPx cells i len n off m = some rs →
    (∀ r ∈ rs, r.ok bs) ∧ rs.map S.ev = ((cells.drop (off + i.ev.toNat * n)).take m).map S.ev ∧ (0 < m → off + i.ev.toNat * n + m ≤ cells.length)
  | 0, off, rs, h => by cases h; exact ⟨(fun r hr => by cases hr), by simp, fun h => absurd h (by simp)⟩
  | m + 1, off, rs, h => by
    simp only [cellsPx] at h
    split at h
    · rename_i c cs hp hr
      cases h
      obtain ⟨g1, y, g2, g3⟩ := cellPx_ok hc hi h0 h1 hp
      obtain ⟨k1, k2, k3⟩ := cellsPx_ok hc hi h0 h1 m (off + 1) hr
      have hlt := (List.getElem?_eq_some_iff.1 g2).1
      have hy := (List.getElem?_eq_some_iff.1 g2).2
      refine ⟨?_, ?_, fun _ => ?_⟩
      · intro r hr'
        rcases List.mem_cons.1 hr' with rfl | hr'
        · exact g1
        · exact k1 r hr'
      · rw [List.drop_eq_getElem_cons hlt, List.take_succ_cons, List.map_cons, List.map_cons, k2, hy, g3]
        rw [show off + 1 + i.ev.toNat * n = off + i.ev.toNat * n + 1 by omega]
      · cases m with
        | zero => omega
        | succ m => have := k3 (by omega); omega
    · cases h

/-- a load through a place that is one of several. -/
def loadPx (P : Program) (mem : List SB) (t : TypeId) (id off : Nat) (i : X) (len n : Nat) : Option A :=
  match mem[id]?, isAggT P t with
  | some x, some true =>
    match sizeT P t with
    | some (m + 1) => (cellsPx x.cells i len n off (m + 1)).map .agg
    | _ => none
  | some x, some false => (cellPx x.cells off i len n).map .s
  | _, _ => none

theorem loadPx_ok {mem : List SB} (H : MemOk mem) {t : TypeId} {id b off : Nat} (hp : (bsOf mem)[id]? = some b) {i : X} (hi : i.ok) {len n : Nat} (h0 : 0 ≤ i.ev) (h1 : i.ev < len) {r : A} (h : loadPx P mem t id off i len n = some r) :
    r.ok (bsOf mem) ∧ qev P (loadVar t ⟨b, off + i.ev.toNat * n, none⟩) (memOf mem) = some r.ev := by
  unfold loadPx at h
  split at h
  · rename_i x hx ha
    split at h
    · rename_i m hm
      cases hc : cellsPx x.cells i len n off (m + 1) with
      | none => rw [hc] at h; cases h
      | some rs =>
        rw [hc] at h; cases h
        obtain ⟨g1, g2, g3⟩ := cellsPx_ok (H.ok x (List.mem_of_getElem? hx)) hi h0 h1 _ _ hc
        have hl : loadS P mem t id (off + i.ev.toNat * n) = some (.agg ((x.cells.drop (off + i.ev.toNat * n)).take (m + 1))) := by
          simp only [loadS, hx, ha, hm]
          rw [if_pos (g3 (by omega))]
        obtain ⟨k1, k2⟩ := loadS_ok H hp hl
        refine ⟨g1, ?_⟩
        rw [k2]
        simp only [A.ev, g2]
    · cases h
  · rename_i x hx ha
    cases hc : cellPx x.cells off i len n with
    | none => rw [hc] at h; cases h
    | some c =>
      rw [hc] at h; cases h
      obtain ⟨g1, y, g2, g3⟩ := cellPx_ok (H.ok x (List.mem_of_getElem? hx)) hi h0 h1 hc
      have hl : loadS P mem t id (off + i.ev.toNat * n) = some (.s y) := by
        simp only [loadS, hx, ha, g2, Option.map_some]
      obtain ⟨k1, k2⟩ := loadS_ok H hp hl
      exact ⟨g1, by rw [k2]; simp only [A.ev, g3]⟩
  · cases h

/-- one cell of so many written: the one that the index names. -/
def putPx1 (cells : List S) (n : Nat) (i : X) (kd : IntKind) (v : X) : Nat → Nat → Nat → Option (List S)
  | _, _, 0 => some cells
  | off, k, l + 1 => match putPx1 cells n i kd v (off + n) (k + 1) l with
    | some cs => match cells[off]? with
      | some (.int k' old) => if k' = kd then some (cs.set off (.int kd (mkIte i k v old))) else none
      | _ => none
    | none => none

theorem putPx1_ok {bs : List Nat} {cells : List S} (hc : ∀ c ∈ cells, c.ok bs) {n : Nat} (hn : 0 < n) {i : X} (hi : i.ok) {kd : IntKind} {v : X} (hv : v.ok) : ∀ (l off k : Nat) {cs : List S}, putPx1 cells n i kd v off k l = some cs →
    cs.length = cells.length ∧ (∀ c ∈ cs, c.ok bs) ∧ (∀ q, q < l → off + q * n < cells.length) ∧ (∀ j, j < off → cs[j]? = cells[j]?) ∧
    ∀ j, (cs.map S.ev)[j]? = if (∃ q, q < l ∧ j = off + q * n ∧ i.ev = ((k + q : Nat) : Int)) then some (.int kd v.ev) else (cells.map S.ev)[j]?
  | 0, off, k, cs, h => by
    cases h
    refine ⟨rfl, hc, fun q hq => absurd hq (by omega), fun j _ => rfl, fun j => ?_⟩
    rw [if_neg]
    rintro ⟨q, hq, _⟩; omega
  | l + 1, off, k, cs, h => by
    simp only [putPx1] at h
    split at h
    · rename_i cs' hr
      split at h
      · rename_i k' old hold
        split at h
        · rename_i hk; subst hk
          cases h
          obtain ⟨a1, a2, a3, a4, a5⟩ := putPx1_ok hc hn hi hv l (off + n) (k + 1) hr
          have hlt := (List.getElem?_eq_some_iff.1 hold).1
          obtain ⟨e1, e2⟩ := mkIte_ok (k : Int) hi hv (show old.ok from hc _ (List.mem_of_getElem? hold))
          refine ⟨by simp [a1], ?_, ?_, ?_, ?_⟩
          · intro c hc'
            rcases List.mem_or_eq_of_mem_set hc' with h1 | h1
            · exact a2 c h1
            · subst h1; exact e1
          · intro q hq
            cases q with
            | zero => simpa using hlt
            | succ q => have := a3 q (by omega); rw [Nat.succ_mul]; omega
          · intro j hj
            rw [List.getElem?_set_ne (by omega)]
            exact a4 j (by omega)
          · intro j
            rw [List.map_set, List.getElem?_set]
            by_cases hj : off = j
            · subst hj
              rw [if_pos rfl, if_pos (by simp [a1]; exact hlt)]
              simp only [S.ev, e2]
              by_cases hik : i.ev = (k : Int)
              · rw [if_pos hik, if_pos ⟨0, by omega, by simp, by simpa using hik⟩]
              · rw [if_neg hik, if_neg]
                · simp [hold, S.ev]
                · rintro ⟨q, hq, h1, h2⟩
                  have : q = 0 := by
                    cases q with
                    | zero => rfl
                    | succ q => rw [Nat.succ_mul] at h1; omega
                  subst this
                  exact hik (by simpa using h2)
            · rw [if_neg hj, a5 j]
              by_cases hex : ∃ q, q < l ∧ j = off + n + q * n ∧ i.ev = ((k + 1 + q : Nat) : Int)
              · rw [if_pos hex, if_pos]
                obtain ⟨q, h1, h2, h3⟩ := hex
                exact ⟨q + 1, by omega, by rw [Nat.succ_mul]; omega, by rw [h3]; congr 1; omega⟩
              · rw [if_neg hex, if_neg]
                rintro ⟨q, h1, h2, h3⟩
                cases q with
                | zero => exact hj (by simpa using h2.symm)
                | succ q => exact hex ⟨q, by omega, by rw [Nat.succ_mul] at h2; omega, by rw [h3]; congr 1; omega⟩
        · cases h
      · cases h
    · cases h

/-! ### made of parts -/
def putS (cs : List S) (off : Nat) : List S → List S
  | [] => cs
  | x :: xs => putS (cs.set off x) (off + 1) xs

theorem putS_length (xs : List S) : ∀ (cs : List S) (off : Nat), (putS cs off xs).length = cs.length := by
  induction xs with
  | nil => intro cs off; rfl
  | cons x xs ih => intro cs off; simp [putS, ih]

theorem putS_ok {bs : List Nat} (xs : List S) : ∀ (cs : List S) (off : Nat), (∀ c ∈ cs, c.ok bs) → (∀ c ∈ xs, c.ok bs) → ∀ c ∈ putS cs off xs, c.ok bs := by
  induction xs with
  | nil => intro cs off h _; exact h
  | cons x xs ih =>
    intro cs off h hx
    refine ih _ _ (fun c hc => ?_) fun c hc => hx c (by simp [hc])
    rcases List.mem_or_eq_of_mem_set hc with h1 | h1
    · exact h c h1
    · subst h1; exact hx _ (by simp)

def putA (cs : Array Value) (off : Nat) : List Value → Array Value
  | [] => cs
  | x :: xs => putA (cs.setIfInBounds off x) (off + 1) xs

theorem putA_map (xs : List S) : ∀ (cs : List S) (off : Nat), putA (cs.map S.ev).toArray off (xs.map S.ev) = ((putS cs off xs).map S.ev).toArray := by
  induction xs with
  | nil => intro cs off; rfl
  | cons x xs ih => intro cs off; simp only [List.map_cons, putA, putS, List.setIfInBounds_toArray]; rw [← List.map_set]; exact ih _ _

theorem foldl_put (l : List Value) : ∀ (cs : Array Value) (off k : Nat), (l.zipIdx k).foldl (fun cs (x : Value × Nat) => cs.setIfInBounds (off + x.2) x.1) cs = putA cs (off + k) l := by
  induction l with
  | nil => intro cs off k; rfl
  | cons x xs ih => intro cs off k; simp only [List.zipIdx_cons, List.foldl_cons, putA]; exact ih _ _ _

def fillS (place : Nat → Option (Nat × Nat)) (cells : List S) : List (Nat × A) → Option (List S)
  | [] => some cells
  | (i, v) :: rest =>
    match place i with
    | none => none
    | some (off, size) =>
      if v.cells.length ≠ size || off + v.cells.length > cells.length || !v.fl then none
      else fillS place (putS cells off v.cells) rest

theorem fillS_ok {bs : List Nat} {place : Nat → Option (Nat × Nat)} : ∀ (l : List (Nat × A)) (cells : List S), (∀ c ∈ cells, c.ok bs) → (∀ x ∈ l, x.2.ok bs) → ∀ {r : List S}, fillS place cells l = some r →
    (∀ c ∈ r, c.ok bs) ∧ Instr.fill place (cells.map S.ev).toArray (l.map fun x => (x.1, x.2.ev)) = some (r.map S.ev).toArray
  | [], cells, hc, _, r, h => by cases h; exact ⟨hc, rfl⟩
  | (i, v) :: rest, cells, hc, hl, r, h => by
    simp only [fillS] at h
    cases hp : place i with
    | none => rw [hp] at h; cases h
    | some p =>
      obtain ⟨off, size⟩ := p
      rw [hp] at h
      simp only at h
      split at h
      · cases h
      · rename_i hcond
        simp only [ne_eq, Bool.or_eq_true, decide_eq_true_eq, Bool.not_eq_true', not_or, Bool.not_eq_false, Decidable.not_not] at hcond
        obtain ⟨⟨h1, h2⟩, h3⟩ := hcond
        have hv : v.ok bs := hl (i, v) (by simp)
        have hvc : ∀ c ∈ v.cells, c.ok bs := by
          cases v with
          | s x => intro c hc'; simp [A.cells] at hc'; subst hc'; exact hv
          | agg xs => exact hv
        obtain ⟨h4, h5⟩ := fillS_ok rest _ (putS_ok _ _ _ hc hvc) (fun x hx => hl x (by simp [hx])) h
        refine ⟨h4, ?_⟩
        simp only [List.map_cons, Instr.fill, hp]
        have e1 : v.ev.cells = (v.cells.map S.ev).toArray := A.ev_cells h3
        rw [if_neg (by simp [e1, h1]; omega)]
        rw [← h5]
        congr 1
        rw [e1]
        have := foldl_put (v.cells.map S.ev) (cells.map S.ev).toArray off 0
        rw [Nat.add_zero, putA_map] at this
        rw [← this, ← Array.foldl_toList]
        simp

def zeroCells (P : Program) (t : TypeId) : Option (List S) :=
  match P.info? t with
  | some i => match i.zero with
    | some z => if (ofA z).fl then some (ofA z).cells else none
    | none => none
  | none => none

theorem zeroCells_ok {t : TypeId} {cs : List S} (h : zeroCells P t = some cs) (bs : List Nat) :
    (∀ c ∈ cs, c.ok bs) ∧ ∃ z, nev P (zeroValue t) = some z ∧ z.cells = (cs.map S.ev).toArray := by
  unfold zeroCells at h
  split at h
  · rename_i i hi
    split at h
    · rename_i z hz
      split at h
      · rename_i hf
        cases h
        refine ⟨?_, z, ?_, ?_⟩
        · have := ofA_ok bs z
          cases hz' : ofA z with
          | s x => rw [hz'] at this; intro c hc; simp [A.cells] at hc; subst hc; exact this
          | agg xs => rw [hz'] at this; exact this
        · unfold zeroValue typeInfo
          show nev P ((program.bind fun p => _).bind _) = _
          have hi' : P.toTables.info? t = some i := hi
          simp [Sem.bind, program, nev, hi', hz, pure]
        · have := A.ev_cells hf
          rw [ofA_ev] at this; exact this
      · cases h
    · cases h
  · cases h

def agsOf : List (Nat × V) → Option (List (Nat × A))
  | [] => some []
  | (i, .a x) :: r => (agsOf r).map ((i, x) :: ·)
  | _ => none

theorem agsOf_ok : ∀ (l : List (Nat × V)) {r : List (Nat × A)}, agsOf l = some r → l = r.map fun x => (x.1, V.a x.2)
  | [], r, h => by cases h; rfl
  | (i, .a x) :: l, r, h => by
    simp only [agsOf] at h
    cases hr : agsOf l with
    | none => rw [hr] at h; cases h
    | some q => rw [hr] at h; cases h; simp [← agsOf_ok l hr]
  | (i, .tup x) :: l, r, h => by cases h

def placesOf (P : Program) : List Field → Option (List (Nat × Nat))
  | [] => some []
  | f :: r =>
    match sizeT P f.type, placesOf P r with
    | some n, some q => some ((f.offset, n) :: q)
    | _, _ => none

theorem qev_mapM_places : ∀ (l : List Field) {q : List (Nat × Nat)}, placesOf P l = some q → ∀ m, qev P (l.mapM fun f => do pure (f.offset, ← sizeOf f.type)) m = some q
  | [], q, h, m => by cases h; rfl
  | f :: r, q, h, m => by
    simp only [placesOf] at h
    cases hn : sizeT P f.type with
    | none => rw [hn] at h; cases h
    | some n =>
      cases hr : placesOf P r with
      | none => rw [hn, hr] at h; cases h
      | some q' =>
        rw [hn, hr] at h; cases h
        simp only [List.mapM_cons, qev_bind, sizeT_some hn, Option.bind_some, qev_pure, qev_mapM_places r hr]

def symBuild (P : Program) (t : TypeId) (parts : List (Nat × V)) : Option A :=
  match zeroCells P t, agsOf parts, P.underlying t with
  | some z, some l, some (.struct fields) =>
    match placesOf P fields.toList with
    | some q => (fillS (q.toArray[·]?) z l).map .agg
    | none => none
  | some z, some l, some (.array _ elem) =>
    match sizeT P elem with
    | some n => (fillS (fun i => some (i * n, n)) z l).map .agg
    | none => none
  | _, _, _ => none

theorem symBuild_ok {bs : List Nat} {t : TypeId} {parts : List (Nat × V)} (hp : ∀ x ∈ parts, x.2.ok bs) {r : A} (h : symBuild P t parts = some r) (m : Mem) :
    r.ok bs ∧ qev P (Instr.build t (parts.map fun x => (x.1, x.2.ev)).toArray) m = some r.ev := by
  unfold symBuild at h
  split at h
  · rename_i z l fields hz hl hu
    obtain ⟨hz1, zv, hz2, hz3⟩ := zeroCells_ok hz bs
    split at h
    · rename_i q hq
      cases hf : fillS (q.toArray[·]?) z l with
      | none => rw [hf] at h; cases h
      | some cs =>
        rw [hf] at h; cases h
        have e := agsOf_ok _ hl
        obtain ⟨h1, h2⟩ := fillS_ok l z hz1 (fun x hx => by
          have := hp (x.1, V.a x.2) (by rw [e]; exact List.mem_map.2 ⟨x, hx, rfl⟩); exact this) hf
        refine ⟨h1, ?_⟩
        unfold Instr.build
        rw [qev_bind, nev_qev _ hz2]
        simp only [Option.bind_some]
        rw [qev_bind, qev_underlying hu]
        simp only [Option.bind_some]
        rw [qev_bind]
        have e2 : qev P (fields.mapM fun f => do pure (f.offset, ← sizeOf f.type)) m = some q.toArray := by
          rw [Array.mapM_eq_mapM_toList]
          refine (qev_bind _ (fun a => pure (List.toArray a)) m).trans ?_
          rw [qev_mapM_places _ hq]; rfl
        rw [e2]
        simp only [Option.bind_some]
        rw [hz3, e]
        simp only [List.map_map, Function.comp_def, V.ev]
        rw [h2]
        rfl
    · cases h
  · rename_i z l len elem hz hl hu
    obtain ⟨hz1, zv, hz2, hz3⟩ := zeroCells_ok hz bs
    split at h
    · rename_i n hn
      cases hf : fillS (fun i => some (i * n, n)) z l with
      | none => rw [hf] at h; cases h
      | some cs =>
        rw [hf] at h; cases h
        have e := agsOf_ok _ hl
        obtain ⟨h1, h2⟩ := fillS_ok l z hz1 (fun x hx => by
          have := hp (x.1, V.a x.2) (by rw [e]; exact List.mem_map.2 ⟨x, hx, rfl⟩); exact this) hf
        refine ⟨h1, ?_⟩
        unfold Instr.build
        rw [qev_bind, nev_qev _ hz2]
        simp only [Option.bind_some]
        rw [qev_bind, qev_underlying hu]
        simp only [Option.bind_some]
        rw [qev_bind, sizeT_some hn]
        simp only [Option.bind_some]
        rw [hz3, e]
        simp only [List.map_map, Function.comp_def, V.ev]
        rw [h2]
        rfl
    · cases h
  · cases h

/-! ### one value -/
def symUn (op : UnOp) (x : V) : Option S :=
  match op, x with
  | .neg, .a (.s (.int k a)) => some (.int k (mkWrap k (mkSub (.lit 0) a)))
  | .xor, .a (.s (.int k a)) => some (.int k (mkNot k a))
  | .not, .a (.s (.bool b)) => some (.bool (mkNotB b))
  | _, _ => none

theorem symUn_ok {bs : List Nat} {op : UnOp} {x : V} (hx : x.ok bs) {r : S} (h : symUn op x = some r) (m : Mem) : r.ok bs ∧ qev P (Op.unary op x.ev) m = some r.ev := by
  unfold symUn at h
  split at h
  · rename_i k a
    cases h
    obtain ⟨h1, h2⟩ := mkSub_ok (a := .lit 0) (b := a) trivial hx
    obtain ⟨h3, h4⟩ := mkWrap_ok (k := k) h1
    exact ⟨h3, by simp only [V.ev, A.ev, S.ev, Op.unary, Op.intArith, h4, h2]; rfl⟩
  · rename_i k a
    cases h
    obtain ⟨h1, h2⟩ := mkNot_ok (k := k) (a := a) hx
    exact ⟨h1, by simp only [V.ev, A.ev, S.ev, Op.unary, Op.intBits, h2, bitsI]; rfl⟩
  · cases h
    obtain ⟨h1, h2⟩ := mkNotB_ok hx
    exact ⟨h1, by simp only [V.ev, A.ev, S.ev, Op.unary, h2]; rfl⟩
  · cases h

def symConv (P : Program) (src dst : TypeId) (x : V) : Option S :=
  match P.underlying src, P.underlying dst, x with
  | some _, some (.int k), .a (.s (.int _ a)) => some (.int k (mkWrap k a))
  | _, _, _ => none

theorem symConv_ok {bs : List Nat} {src dst : TypeId} {x : V} (hx : x.ok bs) {r : S} (h : symConv P src dst x = some r) (m : Mem) : r.ok bs ∧ qev P (convert src dst x.ev) m = some r.ev := by
  unfold symConv at h
  split at h
  · rename_i d k k' a hs hd
    cases h
    obtain ⟨h3, h4⟩ := mkWrap_ok (k := k) (x := a) hx
    refine ⟨h3, ?_⟩
    unfold convert
    rw [qev_bind, qev_underlying hs]
    simp only [Option.bind_some]
    rw [qev_bind, qev_underlying hd]
    simp only [Option.bind_some, V.ev, A.ev, S.ev, Conv.intToInt, qev_pure, h4]
  · cases h

end Go.Proofs.YtogcbmadcgjljaaDoor.Sx
