/-
  Machines: rows that a law makes.
-/
import Derived.Test.YtcjllibeaiofpaaGreatDoorHn
set_option linter.all false
set_option maxRecDepth 100000
namespace Go.Proofs.YtcjllibeaiofpaaGreatDoor
open Go.RowKit Mach
theorem info_cod : (Tryz.prog.info? 41).map (fun i => (i.zero, i.size, i.bytes)) = some (some (.agg #[.int .u8 0, .int .i32 0]), 2, 8) := by kernel_rfl
theorem info_fix : (Tryz.prog.info? 36).map (fun i => (i.zero, i.size, i.bytes)) = some (some (.int .i32 0), 1, 4) := by kernel_rfl
theorem info_knd : (Tryz.prog.info? 32).map (fun i => (i.zero, i.size, i.bytes)) = some (some (.int .u8 0), 1, 1) := by kernel_rfl
theorem cfl_app (s t : List Cod) : cfl (s ++ t) = cfl s ++ cfl t := by
 induction s with
 | nil => rfl
 | cons a s ih => simp [cfl, ih]
theorem cfl_len (s : List Cod) : (cfl s).length = s.length * 2 := by
 induction s with
 | nil => rfl
 | cons a s ih => simp [cfl, ih]; omega
theorem cfl_one (s : List Cod) : ∀ u ∈ cfl s, u.oneCell' = true := by
 induction s with
 | nil => intro u hu; cases hu
 | cons a s ih =>
  intro u hu
  simp only [cfl, List.mem_cons] at hu
  rcases hu with rfl | rfl | hu
  ·rfl
  ·rfl
  ·exact ih u hu
theorem ints_one (k : IntKind) (s : List Int) : ∀ u ∈ s.map (Value.int k), u.oneCell' = true := by
 intro u hu
 obtain ⟨x, _, rfl⟩ := List.mem_map.1 hu
 rfl
structure RW (w V : World) (e : TypeId) (s : Nat) (lv : Value) (n : Nat) (xs : List Value) : Prop where
 b : Below w.heap.size w V
 o : V.ownsRow w.heap.size e s lv n xs
 j : Sx.J V
theorem RW.kB {w V V' : World} {e : TypeId} {s n : Nat} {lv : Value} {xs : List Value} (h : RW w V e s lv n xs) (hB : Below V.heap.size V V') : RW w V' e s lv n xs :=
 ⟨bstep h.b hB, row_keep h.o (fun g hg => hB.block g (own_lt h.o g hg).1), Sx.J_kept hB h.j⟩
theorem RW.step {w V V1 V2 : World} {e : TypeId} {s n n2 : Nat} {lv v2 : Value} {xs xs2 : List Value} (h : RW w V e s lv n xs) (hB : Below V.heap.size V V1) (ho : V2.ownsRow w.heap.size e s v2 n2 xs2) (hg : V1.grownBy V2 lv.ownBlock) (hj : Sx.J w) : RW w V2 e s v2 n2 xs2 := by
 have hs := hB.size
 have own : ∀ g, lv.ownBlock = some g -> w.heap.size <= g := fun g hg => (own_lt h.o g hg).2
 have bb : Below w.heap.size w V2 := ⟨hg.os.trans (hB.os.trans h.b.os), hg.tape.trans (hB.tape.trans h.b.tape), hg.output.trans (hB.output.trans h.b.output), by have := h.b.size; have := hg.size; omega,
  fun i hi => (hg.block i (by have := h.b.size; omega) (fun q => by have := own i q.symm; omega)).trans ((hB.block i (by have := h.b.size; omega)).trans (h.b.block i hi))⟩
 exact ⟨bb, ho, Sx.J_kept bb hj⟩
theorem RW.nil (w : World) (e : TypeId) (s : Nat) (hj : Sx.J w) : RW w w e s (.slice none 0 0) 0 [] := ⟨Below.refl _ _, ⟨by simp, .inl ⟨rfl, rfl⟩⟩, hj⟩
theorem RW.lit (w : World) (e : TypeId) (s n : Nat) (arr : Array Value) (hs : arr.size = n * s) (hn : n <= maxLen) (hj : Sx.J w) : RW w (w.alloc (.cells arr e)) e s (.slice (some ⟨w.heap.size, 0, none⟩) n n) n arr.toList := by
 have hB : Below w.heap.size w (w.alloc (.cells arr e)) := (Below.refl _ _).alloc (Nat.le_refl _) _
 refine ⟨hB, ⟨by simpa using hs, .inr ⟨w.heap.size, n, arr, rfl, Nat.le_refl _, Array.getElem?_push_size, Nat.le_refl _, hn, hs, ?_⟩⟩, Sx.J_kept hB hj⟩
 rw [<- hs, <- Array.length_toList, List.take_length]
theorem row_cells {V : World} {base : Nat} {e : TypeId} {s n : Nat} {v : Value} {xs : List Value} (hs : 0 < s) (h : V.ownsRow base e s v n xs) :
  ∃ ad cap, v = .slice ad n cap /\ n <= maxLen /\ (xs = [] \/ ∃ g, ad = some ⟨g, 0, none⟩ /\ base <= g /\ g < V.heap.size /\ ∀ j u, xs[j]? = some u -> V.cell? ⟨g, j, none⟩ = some u) := by
 obtain ⟨hl, ⟨rfl, rfl⟩ | ⟨g, cap, cur, rfl, hb, hg, hc, hm, hz, ht⟩⟩ := h
 ·exact ⟨none, 0, rfl, Nat.zero_le _, .inl (List.eq_nil_of_length_eq_zero (by simpa using hl))⟩
 ·refine ⟨_, cap, rfl, Nat.le_trans hc hm, .inr ⟨g, rfl, hb, (Array.getElem?_eq_some_iff.1 hg).1, fun j u hu => ?_⟩⟩
  rw [<- ht, List.getElem?_take] at hu
  unfold World.cell?
  simp only [hg]
  split at hu
  ·simpa using hu
  ·cases hu
theorem RW.cods {w V : World} {lv : Value} {n : Nat} {c : List Cod} (h : RW w V 41 2 lv n (cfl c)) : ∃ ad cap, lv = .slice ad n cap /\ n = c.length /\ Cods V.heap.size V ad c := by
 obtain ⟨ad, cap, rfl, _, hc⟩ := row_cells (by decide) h.o
 have hn : n = c.length := by have := h.o.1; rw [cfl_len] at this; omega
 refine ⟨ad, cap, rfl, hn, ?_⟩
 rcases hc with e | ⟨g, rfl, _, hg, hc⟩
 ·left
  have := congrArg List.length e
  rw [cfl_len] at this
  exact List.eq_nil_of_length_eq_zero (by simp at this; omega)
 ·refine .inr ⟨g, 0, rfl, hg, fun j x hx => ?_⟩
  obtain ⟨h1, h2⟩ := cfl_at c j x hx
  rw [Nat.zero_add]
  exact ⟨hc _ _ h1, hc _ _ h2⟩
theorem RW.fixs {w V : World} {lv : Value} {n : Nat} {c : List Int} (h : RW w V 36 1 lv n (c.map (Value.int .i32))) : ∃ ad cap, lv = .slice ad n cap /\ n = c.length /\ Fixs V.heap.size V ad c := by
 obtain ⟨ad, cap, rfl, _, hc⟩ := row_cells (by decide) h.o
 have hn : n = c.length := by have := h.o.1; simp at this; omega
 refine ⟨ad, cap, rfl, hn, ?_⟩
 rcases hc with e | ⟨g, rfl, _, hg, hc⟩
 ·left; simpa using e
 ·refine .inr ⟨g, 0, rfl, hg, fun j x hx => ?_⟩
  rw [Nat.zero_add]
  exact hc _ _ (by rw [List.getElem?_map, hx]; rfl)
theorem RW.knds {w V : World} {lv : Value} {n : Nat} {c : List Int} (h : RW w V 32 1 lv n (c.map (Value.int .u8))) : ∃ ad cap, lv = .slice ad n cap /\ n = c.length /\ Knds V.heap.size V ad c := by
 obtain ⟨ad, cap, rfl, _, hc⟩ := row_cells (by decide) h.o
 have hn : n = c.length := by have := h.o.1; simp at this; omega
 refine ⟨ad, cap, rfl, hn, ?_⟩
 rcases hc with e | ⟨g, rfl, _, hg, hc⟩
 ·left; simpa using e
 ·refine .inr ⟨g, 0, rfl, hg, fun j x hx => ?_⟩
  rw [Nat.zero_add]
  exact hc _ _ (by rw [List.getElem?_map, hx]; rfl)
theorem Cods.hc {n₀ : Nat} {W : World} {p : Addr} {c : List Cod} (h : Cods n₀ W (some p) c) : ∀ j u, (cfl c)[j]? = some u -> W.cell? (p.add j) = some u := by
 intro j u hu
 rcases h with rfl | ⟨b, off, e, _, hc⟩
 ·simp [cfl] at hu
 ·cases e
  have hj : j < (cfl c).length := (List.getElem?_eq_some_iff.1 hu).1
  rw [cfl_len] at hj
  obtain ⟨x, hx⟩ : ∃ x, c[j / 2]? = some x := ⟨_, List.getElem?_eq_getElem (by omega)⟩
  obtain ⟨h1, h2⟩ := cfl_at c (j / 2) x hx
  obtain ⟨k1, k2⟩ := hc (j / 2) x hx
  rw [Addr.add_lit]
  rcases Nat.mod_two_eq_zero_or_one j with e | e
  ·rw [show j / 2 * 2 = j by omega] at h1 k1
   rw [hu] at h1
   rw [k1, h1]
  ·rw [show j / 2 * 2 + 1 = j by omega] at h2
   rw [show off + j / 2 * 2 + 1 = off + j by omega] at k2
   rw [hu] at h2
   rw [k2, h2]
theorem Fixs.hc {n₀ : Nat} {W : World} {p : Addr} {c : List Int} (h : Fixs n₀ W (some p) c) : ∀ j u, (c.map (Value.int .i32))[j]? = some u -> W.cell? (p.add j) = some u := by
 intro j u hu
 rcases h with rfl | ⟨b, off, e, _, hc⟩
 ·simp at hu
 ·cases e
  rw [Addr.add_lit]
  rw [List.getElem?_map] at hu
  cases hx : c[j]? with
  | none => rw [hx] at hu; cases hu
  | some x =>
   rw [hx] at hu
   cases hu
   exact hc j x hx
structure LM (w V : World) (l : List (Option Addr × List Cel)) : Prop where
 b : Below w.heap.size w V
 j : Sx.J V
 v : ∀ x ∈ l, Vals V.heap.size V x.1 x.2
theorem LM.kB {w V V' : World} {l : List (Option Addr × List Cel)} (h : LM w V l) (hB : Below V.heap.size V V') : LM w V' l :=
 ⟨bstep h.b hB, Sx.J_kept hB h.j, fun x hx => (h.v x hx).on hB⟩
theorem LM.add {w V : World} {l : List (Option Addr × List Cel)} (h : LM w V l) {a : Option Addr} {v : List Cel} (hv : Vals V.heap.size V a v) : LM w V ((a, v) :: l) :=
 ⟨h.b, h.j, fun x hx => by
  rcases List.mem_cons.1 hx with rfl | hx
  ·exact hv
  ·exact h.v x hx⟩
theorem fix_cell {n₀ : Nat} {W : World} {ad : Option Addr} {xs : List Int} (h : Fixs n₀ W ad xs) {i : Nat} {x : Int} (hx : xs[i]? = some x) : ∃ b off, ad = some ⟨b, off, none⟩ /\ b < n₀ /\ W.cell? ⟨b, off + i, none⟩ = some (.int .i32 x) := by
 rcases h with rfl | ⟨b, off, e, hb, hc⟩
 ·simp at hx
 ·exact ⟨b, off, e, hb, hc i x hx⟩
end Go.Proofs.YtcjllibeaiofpaaGreatDoor
