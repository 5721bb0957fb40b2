/-
  Machines: what Run keeps.
-/
import Derived.Test.YtcjllibeaiofpaaGreatDoorHg
set_option linter.all false
set_option maxRecDepth 100000
namespace Go.Proofs.YtcjllibeaiofpaaGreatDoor
open Go.RowKit Mach
theorem if_err {p : Prop} [Decidable p] {a : List Cel} {er : Int} (h : (if p then Except.ok a else Except.error 10 : R (List Cel)) = .error er) : er ≠ 0 := by
 by_cases c : p
 ·rw [if_pos c] at h; cases h
 ·rw [if_neg c] at h; cases h; decide
theorem count_err {a : Cel} {er : Int} (h : count a = .error er) : er ≠ 0 := by
 unfold count at h
 split at h
 ·cases h
 ·cases h; decide
theorem takes_err {n : Nat} {s : List Cel} {er : Int} (h : takes n s = .error er) : er ≠ 0 := by
 unfold takes at h
 split at h
 ·cases h
 ·cases h; decide
theorem bind_err {α β : Type} {x : R α} {f : α -> R β} {er : Int} (h : Except.bind x f = .error er) (hx : ∀ e, x = .error e -> e ≠ 0) (hf : ∀ a, x = .ok a -> ∀ e, f a = .error e -> e ≠ 0) : er ≠ 0 := by
 cases x with
 | error e => cases h; exact hx _ rfl
 | ok a => exact hf a rfl _ h
theorem does_err {N : Num} {c : Cod} {t cl : Nat} (ho : opTab c.op = some (t, cl)) {l st : List Cel} (hl : l.length = t) {er : Int} (h : does N cl c l st = .error er) : er ≠ 0 := by
 unfold opTab at ho
 by_cases q0 : c.op = 0 \/ c.op = 1 \/ c.op = 2
 ·rw [if_pos q0] at ho; cases ho
  obtain rfl := List.eq_nil_of_length_eq_zero hl
  simp only [does] at h; cases h
 rw [if_neg q0] at ho
 by_cases q1 : c.op = 3
 ·rw [if_pos q1] at ho; cases ho
  obtain rfl := List.eq_nil_of_length_eq_zero hl
  simp only [does] at h; cases h
 rw [if_neg q1] at ho
 by_cases q2 : c.op = 35
 ·rw [if_pos q2] at ho; cases ho
  obtain ⟨k, n, kn, rfl⟩ := one_of hl
  simp only [does] at h; cases h
 rw [if_neg q2] at ho
 by_cases q3 : c.op = 4
 ·rw [if_pos q3] at ho; cases ho
  obtain ⟨k, n, kn, rfl⟩ := one_of hl
  exact if_err h
 rw [if_neg q3] at ho
 by_cases q4 : c.op = 5 \/ c.op = 32
 ·rw [if_pos q4] at ho; cases ho
  obtain ⟨k, n, kn, rfl⟩ := one_of hl
  exact if_err h
 rw [if_neg q4] at ho
 by_cases q5 : c.op = 10 \/ c.op = 20 \/ c.op = 37 \/ c.op = 41
 ·rw [if_pos q5] at ho; cases ho
  obtain ⟨k, n, kn, rfl⟩ := one_of hl
  exact if_err h
 rw [if_neg q5] at ho
 by_cases q6 : c.op = 38 \/ c.op = 12 \/ c.op = 39 \/ c.op = 26 \/ c.op = 27 \/ c.op = 14
 ·rw [if_pos q6] at ho; cases ho
  obtain ⟨k, n, kn, rfl⟩ := one_of hl
  exact if_err h
 rw [if_neg q6] at ho
 by_cases q7 : c.op = 13
 ·rw [if_pos q7] at ho; cases ho
  obtain ⟨k, n, kn, rfl⟩ := one_of hl
  exact if_err h
 rw [if_neg q7] at ho
 by_cases q8 : c.op = 6 \/ c.op = 40 \/ c.op = 30
 ·rw [if_pos q8] at ho; cases ho
  obtain ⟨k, n, kn, k2, n2, kn2, rfl⟩ := two_of hl
  exact if_err h
 rw [if_neg q8] at ho
 by_cases q9 : c.op = 15 \/ c.op = 19 \/ c.op = 8
 ·rw [if_pos q9] at ho; cases ho
  obtain ⟨k, n, kn, k2, n2, kn2, rfl⟩ := two_of hl
  exact if_err h
 rw [if_neg q9] at ho
 by_cases q10 : c.op = 23 \/ c.op = 29 \/ c.op = 9
 ·rw [if_pos q10] at ho; cases ho
  obtain ⟨k, n, kn, k2, n2, kn2, rfl⟩ := two_of hl
  exact if_err h
 rw [if_neg q10] at ho
 by_cases q11 : c.op = 7 \/ c.op = 34 \/ c.op = 42
 ·rw [if_pos q11] at ho; cases ho
  obtain ⟨k, n, kn, k2, n2, kn2, rfl⟩ := two_of hl
  exact if_err h
 rw [if_neg q11] at ho
 by_cases q12 : c.op = 17 \/ c.op = 31 \/ c.op = 28 \/ c.op = 25 \/ c.op = 22 \/ c.op = 21
 ·rw [if_pos q12] at ho; cases ho
  obtain ⟨k, n, kn, k2, n2, kn2, rfl⟩ := two_of hl
  exact if_err h
 rw [if_neg q12] at ho
 by_cases q13 : c.op = 33
 ·rw [if_pos q13] at ho; cases ho
  obtain ⟨k, n, kn, rfl⟩ := one_of hl
  exact if_err h
 rw [if_neg q13] at ho
 by_cases q14 : c.op = 16
 ·rw [if_pos q14] at ho; cases ho
  obtain ⟨k, n, kn, rfl⟩ := one_of hl
  simp only [does] at h; cases h
 rw [if_neg q14] at ho
 by_cases q15 : c.op = 18
 ·rw [if_pos q15] at ho; cases ho
  obtain ⟨k, n, kn, k2, n2, kn2, rfl⟩ := two_of hl
  simp only [does] at h; cases h
 rw [if_neg q15] at ho
 by_cases q16 : c.op = 11
 ·rw [if_pos q16] at ho; cases ho
  obtain ⟨k, n, kn, rfl⟩ := one_of hl
  simp only [does, bind] at h
  exact bind_err h (fun e he => count_err he) (fun m _ e he => bind_err he (fun e he => takes_err he) (fun x _ e he => by cases he))
 rw [if_neg q16] at ho
 by_cases q17 : c.op = 24
 ·rw [if_pos q17] at ho; cases ho
  obtain ⟨k, n, kn, rfl⟩ := one_of hl
  simp only [does, bind] at h
  exact bind_err h (fun e he => count_err he) (fun m _ e he => bind_err he (fun e he => takes_err he) (fun x _ e he => by cases he))
 rw [if_neg q17] at ho
 by_cases q18 : c.op = 36
 ·rw [if_pos q18] at ho; cases ho
  obtain ⟨k, n, kn, k2, n2, kn2, rfl⟩ := two_of hl
  simp only [does, bind] at h
  exact bind_err h (fun e he => by unfold must at he; split at he <;> cases he; decide) (fun _ _ e he => bind_err he (fun e he => count_err he) (fun m _ e he => bind_err he (fun e he => takes_err he) (fun x _ e he => by cases he)))
 rw [if_neg q18] at ho
 cases ho
theorem aft_err {N : Num} {c : Cod} {t cl : Nat} (ho : opTab c.op = some (t, cl)) {s : List Cel} {er : Int} (h : aft N c s = .error er) : er ≠ 0 := by
 unfold aft at h
 rw [ho] at h
 simp only [bind] at h
 refine bind_err h (fun e he => takes_err he) (fun x hx e he => ?_)
 refine bind_err he (fun e he => ?_) (fun y _ e he => ?_)
 ·refine does_err ho ?_ he
  unfold takes at hx
  split at hx
  ·cases hx; simp; omega
  ·cases hx
 ·split at he <;> cases he
  decide
theorem comes_err {w : Option (List Cel)} {l : List Cel} {er : Int} (h : comes w l = .error er) : er ≠ 0 := by
 cases w with
 | none => cases h
 | some v =>
  unfold comes at h
  by_cases c : v.map (·.k) = l.map (·.k)
  ·simp only [if_pos c] at h; cases h
  ·simp only [if_neg c] at h; cases h; decide
theorem step_err {N : Num} {len i : Nat} {x : Cod} {W : Ways} {er : Int} (hf : formedAt len i x = true) (h : Mach.stepT N i x W = .error er) : er ≠ 0 := by
 obtain ⟨t, cl, ho⟩ := formed_tab hf
 unfold Mach.stepT at h
 split at h
 ·cases h
 ·refine bind_err h (fun e he => aft_err ho he) (fun l _ e he => bind_err he (fun e he => ?_) (fun W1 _ e he => ?_))
  ·split at he
   ·exact bind_err he (fun e he => comes_err he) (fun v _ e he => by cases he)
   ·cases he
  ·split at he
   ·exact bind_err he (fun e he => comes_err he) (fun v _ e he => by cases he)
   ·cases he
theorem loopT_err {N : Num} {len : Nat} {er : Int} : ∀ (c : List Cod) (i : Nat) (W : Ways), formed len i c = true -> loopT N i c W = .error er -> er ≠ 0
 | [], _, _, _, h => by cases h
 | x :: c, i, W, hf, h => by
  obtain ⟨fa, ff⟩ := formed_at hf
  simp only [loopT, bind] at h
  exact bind_err h (fun e he => step_err fa he) (fun W1 _ e he => loopT_err c (i + 1) W1 ff he)
theorem type_ne {c : List Cod} {n : Nat} {er : Int} (h : typeW NN c n = .error er) : er ≠ 0 := by
 unfold typeW at h
 split at h
 ·cases h; decide
 ·split at h
  ·cases h; decide
  ·split at h
   ·cases h; decide
   ·rename_i hf
    simp only [bind] at h
    exact bind_err h (fun e he => loopT_err c 0 _ (by cases hh : formed c.length 0 c with | true => rfl | false => exact absurd hh hf) he) (fun W _ e he => by cases he)
def Fixs (n₀ : Nat) (W : World) (ad : Option Addr) (xs : List Int) : Prop :=
 xs = [] \/ ∃ b off, ad = some ⟨b, off, none⟩ /\ b < n₀ /\ ∀ j x, xs[j]? = some x -> W.cell? ⟨b, off + j, none⟩ = some (.int .i32 x)
theorem Fixs.on {w W : World} {ad : Option Addr} {xs : List Int} (h : Fixs w.heap.size w ad xs) (hB : Below w.heap.size w W) : Fixs W.heap.size W ad xs := by
 rcases h with rfl | ⟨b, off, e, hb, hc⟩
 ·exact .inl rfl
 ·exact .inr ⟨b, off, e, Nat.lt_of_lt_of_le hb hB.size, fun j x hx => (hB.cell (p := ⟨b, off + j, none⟩) hb).trans (hc j x hx)⟩
def ValsAt (lo : Nat) (V : World) (v : Value) (vs : List Cel) : Prop :=
 ∃ g cap, v = .slice (some ⟨g, 0, none⟩) vs.length cap /\ vs.length <= cap /\ lo <= g /\ g < V.heap.size /\ ∀ j a, vs[j]? = some a -> V.cell? ⟨g, j * 2, none⟩ = some (.int .u8 a.k) /\ V.cell? ⟨g, j * 2 + 1, none⟩ = some (.int .i32 a.n)
def RunP (c : List Cod) (ins : List Int) (w : World) (e : Ending) (w' : World) : Prop :=
 (∀ vs, runF NN c ins = .ok vs -> (∃ v, e = .returned (.tuple #[v, .int .i64 0]) /\ ValsAt w.heap.size w' v vs) /\ Below w.heap.size w w') /\
 ∀ er, runF NN c ins = .error er -> e = .returned (.tuple #[.slice none 0 0, .int .i64 er]) /\ Below w.heap.size w w'
theorem runP_err {c : List Cod} {ins : List Int} {w w' : World} {er : Int} (h : runF NN c ins = .error er) (hB : Below w.heap.size w w') : RunP c ins w (.returned (.tuple #[.slice none 0 0, .int .i64 er])) w' :=
 ⟨fun s e => (by rw [h] at e; cases e), fun er' e => by rw [h] at e; cases e; exact ⟨rfl, hB⟩⟩
theorem runP_ok {c : List Cod} {ins : List Int} {w w' : World} {vs : List Cel} {v : Value} (h : runF NN c ins = .ok vs) (hk : ValsAt w.heap.size w' v vs) (hB : Below w.heap.size w w') : RunP c ins w (.returned (.tuple #[v, .int .i64 0])) w' :=
 ⟨fun s' e => by rw [h] at e; cases e; exact ⟨⟨v, rfl, hk⟩, hB⟩, fun er' e => by rw [h] at e; cases e⟩
theorem steps_next {c : List Cod} {i : Nat} {l v : List Cel} (h : Mach.Steps NN c i l c.length v) (hi : i < c.length) : ∃ x l', c[i]? = some x /\ aft NN x l = .ok l' /\ Mach.Steps NN c (nextI i x l) l' c.length v := by
 generalize hn : c.length = n at h hi
 cases h with
 | refl => omega
 | step h1 h2 h3 => exact ⟨_, _, h1, h2, h3⟩
theorem steps_end {c : List Cod} {l v : List Cel} (h : Mach.Steps NN c c.length l c.length v) : l = v := by
 generalize hn : c.length = n at h
 cases h with
 | refl => rfl
 | step h1 h2 h3 =>
  have := (List.getElem?_eq_some_iff.1 h1).1
  omega
structure OutAt (w V : World) (g : Nat) (vs : List Cel) (k : Nat) : Prop where
 b : Below w.heap.size w V
 gb : w.heap.size <= g
 l : g < V.heap.size
 c : ∀ j a, j < k -> vs[j]? = some a -> V.cell? ⟨g, j * 2, none⟩ = some (.int .u8 a.k) /\ V.cell? ⟨g, j * 2 + 1, none⟩ = some (.int .i32 a.n)
 s : ∀ i, i < vs.length * 2 -> (V.cell? ⟨g, i, none⟩).isSome = true
 f : ∀ i, V.frozen? ⟨g, i, none⟩ = false
theorem cell_new (V : World) (A : Array Value) (ty : TypeId) {i : Nat} (hi : i < A.size) : ((V.alloc (.cells A ty)).cell? ⟨V.heap.size, i, none⟩).isSome = true := by
 have e : (V.alloc (.cells A ty)).heap[V.heap.size]? = some (.cells A ty (0, 0)) := Array.getElem?_push_size
 unfold World.cell?
 simp only [e]
 simp [hi]
theorem out_new {w V : World} {vs : List Cel} (h : Below w.heap.size w V) (ty : TypeId) : OutAt w (V.alloc (.cells (madeCells (Value.agg #[.int .u8 0, .int .i32 0]).cells (vs.length * 2)) ty)) V.heap.size vs 0 :=
 ⟨h.alloc h.size _, h.size, by simp, fun j a hj => absurd hj (by omega), fun i hi => cell_new _ _ _ (by rw [size_madeCells]; exact hi), fun i => by simp [go_sem]⟩
theorem OutAt.kB {w V V' : World} {g k : Nat} {vs : List Cel} (h : OutAt w V g vs k) (hB : Below V.heap.size V V') : OutAt w V' g vs k :=
 ⟨bstep h.b hB, h.gb, Nat.lt_of_lt_of_le h.l hB.size, fun j a hj ha => ⟨(hB.cell (p := ⟨g, j * 2, none⟩) h.l).trans (h.c j a hj ha).1, (hB.cell (p := ⟨g, j * 2 + 1, none⟩) h.l).trans (h.c j a hj ha).2⟩,
  fun i hi => by rw [hB.cell (p := ⟨g, i, none⟩) h.l]; exact h.s i hi, fun i => (hB.frozen (p := ⟨g, i, none⟩) h.l).trans (h.f i)⟩
theorem out_set {w V : World} {g k : Nat} {vs : List Cel} {a : Cel} (h : OutAt w V g vs k) (ha : vs[k]? = some a) : OutAt w ((V.setCell ⟨g, k * 2, none⟩ (.int .u8 a.k)).setCell ⟨g, k * 2 + 1, none⟩ (.int .i32 a.n)) g vs (k + 1) := by
 have hk := (List.getElem?_eq_some_iff.1 ha).1
 refine ⟨(h.b.setCell (p := ⟨g, k * 2, none⟩) h.gb _).setCell (p := ⟨g, k * 2 + 1, none⟩) h.gb _, h.gb, by simp; exact h.l, fun j b hj hb => ?_, fun i hi => ?_, fun i => by simp [h.f i]⟩
 ·by_cases c : j = k
  ·subst c
   rw [ha] at hb; cases hb
   refine ⟨?_, World.cell?_setCell_same' _ _ _ (by rw [cell_oth (by omega)]; exact h.s _ (by omega))⟩
   rw [cell_oth (by omega)]
   exact World.cell?_setCell_same' _ _ _ (h.s _ (by omega))
  ·rw [cell_oth (by omega), cell_oth (by omega), cell_oth (by omega), cell_oth (by omega)]
   exact h.c j b (by omega) hb
 ·by_cases c : i = k * 2 + 1
  ·subst c
   rw [World.cell?_setCell_same' _ _ _ (by rw [cell_oth (by omega)]; exact h.s _ (by omega))]; rfl
  ·rw [cell_oth (fun q => c q.symm)]
   by_cases d : i = k * 2
   ·subst d
    rw [World.cell?_setCell_same' _ _ _ (h.s _ (by omega))]; rfl
   ·rw [cell_oth (fun q => d q.symm)]
    exact h.s i hi
theorem infoVal : (Tryz.prog.info? 34).map (fun i => (i.zero, i.size, i.bytes)) = some (some (.agg #[.int .u8 0, .int .i32 0]), 2, 8) := by kernel_rfl
end Go.Proofs.YtcjllibeaiofpaaGreatDoor
