/-
  Machines: maps and numbers.
-/
import Derived.Test.YtcjllibeaiofpaaGreatDoorGx
import Derived.Test.YtcjllibeaiofpaaGreatDoorGg
import Derived.Test.YtcjllibeaiofpaaGreatDoorRv
import Derived.Maps.OwnSet
set_option linter.all false
set_option maxRecDepth 100000
namespace Go.Proofs.YtcjllibeaiofpaaGreatDoor
open Go.RowKit Mach
open Go.Maps (Keyed)
abbrev DW := DataW Unit
def efn (a b : Array Value) (d : DW) : Option (DW × List MemPlace) := if a.size = 0 /\ b.size = 0 then some (d, []) else none
def fRd : Value -> Option (DW × List MemPlace)
 | .func (.func f) a b => efn a b (.lit (.int .i64 f))
 | .nilFunc => some (.nil, [])
 | _ => none
def oRd2 : List Value -> Option (DW × List MemPlace)
 | [.int .i64 t, .func (.func f) a b] => efn a b (.agg [.lit (.int .i64 t), .lit (.int .i64 f)])
 | [.int .i64 0, .nilFunc] => some (.nil, [])
 | _ => none
def oRd : Value -> Option (DW × List MemPlace)
 | .agg c => oRd2 c.toList
 | _ => none
theorem fRd_fn (f : Nat) : fRd (.func (.func f) #[] #[]) = some (.lit (.int .i64 f), []) := rfl
theorem oRd_fn (t : Int) (f : Nat) : oRd (.agg #[.int .i64 t, .func (.func f) #[] #[]]) = some (.agg [.lit (.int .i64 t), .lit (.int .i64 f)], []) := rfl
theorem fRd_inv {v : Value} {f : Nat} {ps : List MemPlace} (h : fRd v = some (.lit (.int .i64 f), ps)) : v = .func (.func f) #[] #[] := by
 unfold fRd at h
 split at h
 ·rename_i g a b
  unfold efn at h
  by_cases c : a.size = 0 /\ b.size = 0
  ·rw [if_pos c] at h
   simp only [Option.some.injEq, Prod.mk.injEq, DataW.lit.injEq, Lit.int.injEq] at h
   obtain ⟨⟨_, h⟩, _⟩ := h
   obtain rfl : g = f := Int.ofNat.inj h
   rw [Array.eq_empty_of_size_eq_zero c.1, Array.eq_empty_of_size_eq_zero c.2]
  ·rw [if_neg c] at h; cases h
 ·cases h
 ·cases h
theorem oRd_inv {v : Value} {t : Int} {f : Nat} {ps : List MemPlace} (h : oRd v = some (.agg [.lit (.int .i64 t), .lit (.int .i64 f)], ps)) : v = .agg #[.int .i64 t, .func (.func f) #[] #[]] := by
 unfold oRd at h
 split at h
 ·rename_i c
  obtain ⟨l⟩ := c
  simp only at h
  unfold oRd2 at h
  split at h
  ·rename_i t' g a b
   unfold efn at h
   by_cases c : a.size = 0 /\ b.size = 0
   ·rw [if_pos c] at h
    simp only [Option.some.injEq, Prod.mk.injEq, DataW.agg.injEq, List.cons.injEq, DataW.lit.injEq, Lit.int.injEq] at h
    obtain ⟨⟨⟨_, rfl⟩, ⟨_, h⟩, _⟩, _⟩ := h
    obtain rfl : g = f := Int.ofNat.inj h
    rw [Array.eq_empty_of_size_eq_zero c.1, Array.eq_empty_of_size_eq_zero c.2]
   ·rw [if_neg c] at h; cases h
  ·cases h
  ·cases h
 ·cases h
abbrev KT : TypeId := 39
abbrev Rd := Value -> Option (DW × List MemPlace)
def MapO (R : Rd) (w : World) (b n : Nat) (g : Int -> Option DW) : Prop :=
 ∃ D, w.ownsMap Tryz.prog KT R b n D /\ Maps.IsMap D /\ ∀ x, D.atKey (.int .u8 x) .nil = (g x).getD .nil /\ Maps.has D (.int .u8 x) = (g x).isSome
section
variable {R : Rd} {w w' : World} {b n : Nat} {g : Int -> Option DW}
theorem mapO_of (h : MapO R w b n g) (e : w'.heap[b]? = w.heap[b]?) : MapO R w' b n g := by
 obtain ⟨D, ⟨es, clock, hb, F⟩, hr⟩ := h
 exact ⟨D, ⟨es, clock, e.trans hb, F⟩, hr⟩
theorem mapO_lt (h : MapO R w b n g) : b < w.heap.size := by
 obtain ⟨D, h, _⟩ := h
 exact h.lt
theorem mapO_made (w : World) (R : Rd) : MapO R (w.alloc (.map #[] 0)) w.heap.size 0 (fun _ => none) :=
 ⟨.map [], World.ownsMap_made w _ _ R, Maps.isMap_empty, fun _ => ⟨rfl, rfl⟩⟩
theorem key_ok (x : Int) (h0 : 0 <= x) (h1 : x <= 255) : keyOf Tryz.prog KT (.int .u8 x) = some (.int .u8 x) :=
 Maps.keyOf_int_mk Tryz.underlying39 (by
  have e1 : IntKind.min .u8 = 0 := by decide
  have e2 : IntKind.max .u8 = 255 := by decide
  simp [Lit.wf, e1, e2]; omega)
theorem mapO_put {x : Int} {d : DW} {D : DW} (h1 : Maps.IsMap D) (h2 : ∀ x, D.atKey (.int .u8 x) .nil = (g x).getD .nil /\ Maps.has D (.int .u8 x) = (g x).isSome) :
  Maps.IsMap (D.put (.int .u8 x) d) /\ ∀ y, (D.put (.int .u8 x) d).atKey (.int .u8 y) .nil = ((if y = x then some d else g y).getD .nil) /\ Maps.has (D.put (.int .u8 x) d) (.int .u8 y) = (if y = x then some d else g y).isSome := by
 refine ⟨h1.put _ _, fun y => ?_⟩
 by_cases e : y = x
 ·subst e
  rw [if_pos rfl, Maps.atKey_put_same h1 (show WideAt.IsKeyLit (.int .u8 y) from trivial), Maps.has_put_same h1 (show WideAt.IsKeyLit (.int .u8 y) from trivial)]
  exact ⟨rfl, rfl⟩
 ·have ne : (Lit.int .u8 y) ≠ .int .u8 x := fun q => e (Lit.int.inj q).2
  rw [if_neg e, Maps.atKey_put_other ne, Maps.has_put_other ne]
  exact h2 y
theorem mapO_run {t e : TypeId} {x : Int} {val : Value} {d : DW} {ps : List MemPlace} (h : MapO R w b n g) (ht : Tryz.prog.underlying t = some (.map KT e)) (hn : n < maxLen) (h0 : 0 <= x) (h1 : x <= 255) (hv : R val = some (d, ps)) :
  ∃ w', (Instr.mapUpdate t (.map (some b)) (.int .u8 x) val).run Tryz.prog w = .ok () w' /\ MapO R w' b (n + 1) (fun y => if y = x then some d else g y) /\ w.grownBy w' (some b) /\ w'.heap.size = w.heap.size := by
 obtain ⟨D, hD, hI, hg⟩ := h
 obtain ⟨w', r1, r2, r3⟩ := hD.store (Maps.int_keyed Tryz.underlying39) ht hn (key_ok x h0 h1) hv
 exact ⟨w', r1, ⟨_, r2, mapO_put hI hg⟩, r3.grown, by obtain ⟨_, _, _, _, _, rfl⟩ := r3; simp [ChangeMaps.setBlock]⟩
theorem mapO_look {t e : TypeId} {x : Int} (h : MapO R w b n g) (ht : Tryz.prog.underlying t = some (.map KT e)) {z : Value} {zp : List MemPlace} (hz : ∀ w, (zeroValue e).run Tryz.prog w = .ok z w) (hzd : R z = some (.nil, zp)) (h0 : 0 <= x) (h1 : x <= 255) :
  ∃ v ps, (Instr.lookup t (.map (some b)) (.int .u8 x) false).run Tryz.prog w = .ok v w /\ R v = some ((g x).getD .nil, ps) := by
 obtain ⟨D, hD, hI, hg⟩ := h
 obtain ⟨v, ps, r1, r2⟩ := hD.lookup (Maps.int_keyed Tryz.underlying39) ht (hz w) hzd (key_ok x h0 h1)
 exact ⟨v, ps, r1, by rw [r2, (hg x).1]⟩
theorem mapO_look_ok {t e : TypeId} {x : Int} (h : MapO R w b n g) (ht : Tryz.prog.underlying t = some (.map KT e)) {z : Value} {zp : List MemPlace} (hz : ∀ w, (zeroValue e).run Tryz.prog w = .ok z w) (hzd : R z = some (.nil, zp)) (h0 : 0 <= x) (h1 : x <= 255) :
  ∃ v ps, (Instr.lookup t (.map (some b)) (.int .u8 x) true).run Tryz.prog w = .ok (.tuple #[v, .bool (g x).isSome]) w /\ R v = some ((g x).getD .nil, ps) := by
 obtain ⟨D, hD, hI, hg⟩ := h
 obtain ⟨v, ps, r1, r2⟩ := hD.look_ok (Maps.int_keyed Tryz.underlying39) ht (hz w) hzd (key_ok x h0 h1)
 exact ⟨v, ps, by rw [r1, (hg x).2], by rw [r2, (hg x).1]⟩
end
theorem wpList_insert_o {R : Rd} (w : World) {ops : Array Oper} {rest : List Oper} {o : Oper} {a : Act} {Q : Exit -> Act -> World -> Prop} (hg : o.guard = none) (m x v : Operand) (t : TypeId) (hop : o.op = Op.insert t m x v)
  (e : TypeId) (ht : Tryz.prog.underlying t = some (.map KT e)) (b n : Nat) (g : Int -> Option DW) (k : Int) (hm : a.eval m = .map (some b)) (hown : MapO R w b n g) (hn : n < maxLen) (hx : a.eval x = .int .u8 k) (h0 : 0 <= k) (h1 : k <= 255)
  (val : Value) (hv : a.eval v = val) (d : DW) (ps : List MemPlace) (hval : R val = some (d, ps))
  (hK : ∀ w', MapO R w' b (n + 1) (fun y => if y = k then some d else g y) -> w.grownBy w' (some b) -> w'.heap.size = w.heap.size -> wpList Tryz.prog ops Q rest (a.put o.dst undef) w') : wpList Tryz.prog ops Q (o :: rest) a w := by
 refine wpList_plain hg fun K' hK' => ?_
 obtain ⟨w', hrun, r1, r2, r3⟩ := mapO_run hown ht hn h0 h1 hval
 unfold Oper.wp
 simp [execOp, hop, hm, hx, hv, hrun, Result.andThen]
 exact hK' _ _ (hK w' r1 r2 r3)
theorem wpList_update_o {R : Rd} (w : World) {ops : Array Oper} {rest : List Oper} {o : Oper} {a : Act} {Q : Exit -> Act -> World -> Prop} (hg : o.guard = none) (m x v : Operand) (t : TypeId) (hop : o.op = Op.mapUpdate t m x v)
  (e : TypeId) (ht : Tryz.prog.underlying t = some (.map KT e)) (b n : Nat) (g : Int -> Option DW) (k : Int) (hm : a.eval m = .map (some b)) (hown : MapO R w b n g) (hn : n < maxLen) (hx : a.eval x = .int .u8 k) (h0 : 0 <= k) (h1 : k <= 255)
  (val : Value) (hv : a.eval v = val) (d : DW) (ps : List MemPlace) (hval : R val = some (d, ps))
  (hK : ∀ w', MapO R w' b (n + 1) (fun y => if y = k then some d else g y) -> w.grownBy w' (some b) -> w'.heap.size = w.heap.size -> wpList Tryz.prog ops Q rest (a.put o.dst undef) w') : wpList Tryz.prog ops Q (o :: rest) a w := by
 refine wpList_plain hg fun K' hK' => ?_
 obtain ⟨w', hrun, r1, r2, r3⟩ := mapO_run hown ht hn h0 h1 hval
 unfold Oper.wp
 simp [execOp, hop, hm, hx, hv, hrun, Result.andThen]
 exact hK' _ _ (hK w' r1 r2 r3)
noncomputable def the (p : Int -> Prop) : Int := Classical.epsilon p
theorem the_eq {p : Int -> Prop} {v : Int} (h : p v) (hu : ∀ x y, p x -> p y -> x = y) : v = the p := hu _ _ h (Classical.epsilon_spec ⟨v, h⟩)
theorem clp_id {x : Int} (h : J32 x) : clp x = x := by unfold J32 at h; unfold clp; omega
noncomputable def mulR (a b : Int) : Int := the fun v => ∃ x, Sx.isNear (a * b) 65536 x /\ v = Sx.clamp32 x
noncomputable def sqrtR (x : Int) : Int := the fun v => (x < 0 -> v = 0) /\ (0 <= x -> Sx.isRoot (x * 65536) v)
noncomputable def divR (n d : Int) : Int := the fun v => (d = 0 -> v = 0) /\ (0 < d -> ∃ x, Sx.isNear (n * 65536) d x /\ v = Sx.clamp32 x) /\ (d < 0 -> ∃ x, Sx.isNear (n * -65536) (-d) x /\ v = Sx.clamp32 x)
def logR (x : Int) : Int := if x <= 0 then 0 else Sx.near24 (Sx.longF x)
def atanR (y x : Int) : Int := if x = 0 /\ y = 0 then 0 else Sx.atF y x
def powR (a n : Int) : Int := if n = 0 then 65536 else if a = 0 then 0 else if a < 0 /\ n % 65536 ≠ 0 then 0 else Sx.clamp32 (Sx.powA a n)
def cutR (a add : Int) : Int := clp (Go.bits .andNot .i64 (a + add) 65535)
def truncR (a : Int) : Int := if a < 0 then cutR a 65535 else cutR a 0
noncomputable def unR (op x : Int) : Int :=
 if op = 38 then Sx.sinF x else if op = 12 then Sx.cosF x else if op = 39 then sqrtR x else if op = 26 then mulR (logR x) 45426 else if op = 27 then mulR (logR x) 19728
 else if op = 20 then cutR x 0 else if op = 10 then cutR x 65535 else if op = 37 then cutR x 32768 else if op = 41 then truncR x else x
noncomputable def binR (op a b : Int) : Int :=
 if op = 6 then a + b else if op = 40 then a - b else if op = 30 then mulR a b else if op = 15 then divR a b else if op = 19 then powR a b else atanR a b
noncomputable def NN : Num := ⟨fun op x => clp (unR op x), fun op a b => clp (binR op a b)⟩
theorem nn_ok : NumOk NN := ⟨fun op x _ => clp_j _, fun op x y _ _ => clp_j _⟩
theorem powR_of {a n v e : Int} (h : Sx.powTo a n v e) : v = powR a n := by
 obtain ⟨h0, h1, h2, h3, h4⟩ := h
 unfold powR
 by_cases n0 : n = 0
 ·rw [if_pos n0]; exact (h0 n0).1
 rw [if_neg n0]
 by_cases a0 : a = 0
 ·rw [if_pos a0]
  rcases Int.lt_or_gt_of_ne n0 with h | h
  ·exact (h1 n0 a0 h).1
  ·exact (h2 n0 a0 h).1
 rw [if_neg a0]
 by_cases hb : a < 0 /\ n % 65536 ≠ 0
 ·rw [if_pos hb]; exact (h3 n0 hb.1 hb.2).1
 ·rw [if_neg hb]; exact (h4 n0 a0 hb).2
theorem powR_or {a n v e : Int} (h : Sx.powTo a n v e) : (if e = 0 then v else 0) = powR a n := by
 have hv := powR_of h
 by_cases he : e = 0
 ·rw [if_pos he, hv]
 ·rw [if_neg he]
  obtain ⟨h0, h1, h2, h3, h4⟩ := h
  unfold powR
  by_cases n0 : n = 0
  ·exact absurd (h0 n0).2 he
  rw [if_neg n0]
  by_cases a0 : a = 0
  ·rw [if_pos a0]
  rw [if_neg a0]
  by_cases hb : a < 0 /\ n % 65536 ≠ 0
  ·rw [if_pos hb]
  ·exact absurd (h4 n0 a0 hb).1 he
theorem near_the {A d x y : Int} (hd : 1 <= d) : (∃ q, Sx.isNear A d q /\ x = Sx.clamp32 q) -> (∃ q, Sx.isNear A d q /\ y = Sx.clamp32 q) -> x = y := by
 rintro ⟨p, hp, rfl⟩ ⟨q, hq, rfl⟩
 rw [Sx.near_uniq hd hp hq]
theorem root_pos {n x : Int} (h : Sx.isRoot n x) : 0 <= x := by
 obtain ⟨h1, h2⟩ := h
 by_cases c : 0 <= x
 ·exact c
 ·exfalso
  have : (x + 1) * (x + 1) <= x * x := by
   have e1 : (x + 1) * (x + 1) = x * x + (2 * x + 1) := by rw [Int.add_mul, Int.mul_add, Int.mul_one, Int.one_mul]; omega
   omega
  omega
theorem J.j {w w' : World} (j : Sx.J w) (e : w'.heap[0]? = w.heap[0]?) : Sx.J w' := by
 intro g hg
 obtain ⟨fr, ty, h⟩ := j g hg
 obtain rfl := List.mem_singleton.1 hg
 exact ⟨fr, ty, e.trans h⟩
theorem J.pos {w : World} (j : Sx.J w) : 0 < w.heap.size := by
 obtain ⟨fr, ty, h⟩ := j _ (List.mem_singleton.2 rfl)
 exact (Array.getElem?_eq_some_iff.1 h).1
theorem J.cells {w : World} (j : Sx.J w) : w.cell? ⟨0, 0, none⟩ = some (.int .i64 0) /\ w.cell? ⟨0, 1, none⟩ = some (.int .i64 65535) /\ w.cell? ⟨0, 2, none⟩ = some (.int .i64 32768) := by
 obtain ⟨fr, ty, h⟩ := j _ (List.mem_singleton.2 rfl)
 have h : w.heap[0]? = some (.cells #[.int .i64 0, .int .i64 65535, .int .i64 32768] ty fr) := h
 refine ⟨?_, ?_, ?_⟩ <;> simp [World.cell?, h]
def I1 (f : FuncId) (a : Int) (r : Int) (w : World) : Prop := Calls Tryz.prog f #[.int .i32 a] w fun e w' => e = .returned (.int .i32 r) /\ J32 r /\ Below w.heap.size w w'
def I2 (f : FuncId) (a b : Int) (r : Int) (w : World) : Prop := Calls Tryz.prog f #[.int .i32 a, .int .i32 b] w fun e w' => e = .returned (.int .i32 r) /\ J32 r /\ Below w.heap.size w w'
theorem sin_any (a : Int) (ha : J32 a) (w : World) (hj : Sx.J w) : I1 73 a (Sx.sinF a) w := by
 refine (Sx.pure_asin Sx.v40 Sx.p_asin [.int .i32 a] ⟨_, _, rfl, ⟨a, rfl, ha⟩, rfl⟩ trivial w hj).mono ?_
 rintro e w' ⟨v, rfl, ⟨hf, hpost⟩, hs⟩
 obtain ⟨x, rfl, hx⟩ := hf
 have : x = Sx.sinF a := hpost
 subst this
 exact ⟨rfl, ⟨by omega, by omega⟩, hs.1⟩
theorem cos_any (a : Int) (ha : J32 a) (w : World) (hj : Sx.J w) : I1 74 a (Sx.cosF a) w := by
 refine (Sx.pure_acos Sx.v41 Sx.p_acos [.int .i32 a] ⟨_, _, rfl, ⟨a, rfl, ha⟩, rfl⟩ trivial w hj).mono ?_
 rintro e w' ⟨v, rfl, ⟨hf, hpost⟩, hs⟩
 obtain ⟨x, rfl, hx⟩ := hf
 have : x = Sx.cosF a := hpost
 subst this
 exact ⟨rfl, ⟨by omega, by omega⟩, hs.1⟩
theorem mul_any (a b : Int) (ha : J32 a) (hb : J32 b) (w : World) (hj : Sx.J w) : I2 20 a b (mulR a b) w := by
 refine (Sx.pure_fmul Sx.v46 Sx.p_fmul [.int .i32 a, .int .i32 b] ⟨_, _, rfl, ⟨a, rfl, ha⟩, _, _, rfl, ⟨b, rfl, hb⟩, rfl⟩ trivial w hj).mono ?_
 rintro e w' ⟨v, rfl, ⟨hf, hpost⟩, hs⟩
 obtain ⟨x, rfl, hx⟩ := hf
 have : ∃ q, Sx.isNear (a * b) 65536 q /\ x = Sx.clamp32 q := hpost
 have hm : x = mulR a b := the_eq this fun _ _ h1 h2 => near_the (by decide) h1 h2
 subst hm
 exact ⟨rfl, hx, hs.1⟩
theorem add_any (a b : Int) (ha : J32 a) (hb : J32 b) (w : World) (hj : Sx.J w) : I2 18 a b (clp (a + b)) w := by
 refine (Sx.pure_fadd Sx.v57 Sx.p_fadd [.int .i32 a, .int .i32 b] ⟨_, _, rfl, ⟨a, rfl, ha⟩, _, _, rfl, ⟨b, rfl, hb⟩, rfl⟩ trivial w hj).mono ?_
 rintro e w' ⟨v, rfl, ⟨hf, hpost⟩, hs⟩
 obtain ⟨x, rfl, hx⟩ := hf
 have : x = clp (a + b) := hpost
 subst this
 exact ⟨rfl, hx, hs.1⟩
theorem sub_any (a b : Int) (ha : J32 a) (hb : J32 b) (w : World) (hj : Sx.J w) : I2 19 a b (clp (a - b)) w := by
 refine (Sx.pure_fsub Sx.v58 Sx.p_fsub [.int .i32 a, .int .i32 b] ⟨_, _, rfl, ⟨a, rfl, ha⟩, _, _, rfl, ⟨b, rfl, hb⟩, rfl⟩ trivial w hj).mono ?_
 rintro e w' ⟨v, rfl, ⟨hf, hpost⟩, hs⟩
 obtain ⟨x, rfl, hx⟩ := hf
 have : x = clp (a - b) := hpost
 subst this
 exact ⟨rfl, hx, hs.1⟩
theorem of_any (n : Int) (hn : -32768 <= n /\ n <= 32767) (w : World) (hj : Sx.J w) : Calls Tryz.prog 22 #[.int .i64 n] w fun e w' => e = .returned (.int .i32 (clp (n * 65536))) /\ Below w.heap.size w w' := by
 refine (Sx.pure_fof Sx.v60 Sx.p_fof [.int .i64 n] ⟨_, _, rfl, ⟨n, rfl, hn⟩, rfl⟩ trivial w hj).mono ?_
 rintro e w' ⟨v, rfl, ⟨hf, hpost⟩, hs⟩
 obtain ⟨x, rfl, hx⟩ := hf
 have : x = clp (n * 65536) := hpost
 subst this
 exact ⟨rfl, hs.1⟩
def Two (v : Value) (r : Int) : Prop := ∃ x e, v = .tuple #[.int .i32 x, .int .i64 e] /\ (if e = 0 then x else 0) = r /\ J32 r
theorem sqrt_any (x : Int) (h : J32 x) (w : World) (hj : Sx.J w) : Calls Tryz.prog 76 #[.int .i32 x] w fun e w' => (∃ v, e = .returned v /\ Two v (sqrtR x)) /\ Below w.heap.size w w' := by
 refine (Sx.pure_sqrt Sx.v31 Sx.p_sqrt [.int .i32 x] ⟨_, _, rfl, ⟨x, rfl, h⟩, rfl⟩ trivial w hj).mono ?_
 rintro e w' ⟨v, rfl, ⟨hf, hpost⟩, hs⟩
 obtain ⟨vs, rfl, hv⟩ := hf
 obtain ⟨_, _, rfl, ⟨y, rfl, hy⟩, _, _, rfl, ⟨c, rfl, hc⟩, rfl⟩ := hv
 have hp : (x < 0 -> y = 0 /\ c = 1) /\ (0 <= x -> c = 0 /\ Sx.isRoot (x * 65536) y) := hpost
 have hq : y = sqrtR x := the_eq ⟨fun q => (hp.1 q).1, fun q => (hp.2 q).2⟩ (fun a b h1 h2 => by
  by_cases q : x < 0
  ·rw [h1.1 q, h2.1 q]
  ·exact Sx.root_uniq (h1.2 (by omega)) (h2.2 (by omega)) (root_pos (h1.2 (by omega))) (root_pos (h2.2 (by omega))))
 refine ⟨⟨_, rfl, y, c, rfl, ?_, hq ▸ hy⟩, hs.1⟩
 rw [<- hq]
 by_cases q : x < 0
 ·rw [(hp.1 q).1, (hp.1 q).2]; rfl
 ·rw [if_pos (hp.2 (by omega)).1]
theorem log_any (x : Int) (h : J32 x) (w : World) (hj : Sx.J w) : Calls Tryz.prog 77 #[.int .i32 x] w fun e w' => (∃ v, e = .returned v /\ Two v (logR x)) /\ Below w.heap.size w w' := by
 refine (Sx.pure_log2 Sx.v55 Sx.p_log2 [.int .i32 x] ⟨_, _, rfl, ⟨x, rfl, h⟩, rfl⟩ trivial w hj).mono ?_
 rintro e w' ⟨v, rfl, ⟨hf, hpost⟩, hs⟩
 obtain ⟨vs, rfl, hv⟩ := hf
 obtain ⟨_, _, rfl, ⟨y, rfl, hy⟩, _, _, rfl, ⟨c, rfl, hc⟩, rfl⟩ := hv
 have hp : (x <= 0 -> y = 0 /\ c = 1) /\ (0 < x -> c = 0 /\ y = Sx.near24 (Sx.longF x)) := hpost
 have hj : J32 y := ⟨by omega, by omega⟩
 refine ⟨⟨_, rfl, y, c, rfl, ?_, ?_⟩, hs.1⟩
 ·unfold logR
  by_cases q : x <= 0
  ·rw [if_pos q, (hp.1 q).1, (hp.1 q).2]; rfl
  ·rw [if_neg q, if_pos (hp.2 (by omega)).1, (hp.2 (by omega)).2]
 ·unfold logR
  by_cases q : x <= 0
  ·rw [if_pos q]; exact ⟨by decide, by decide⟩
  ·rw [if_neg q, <- (hp.2 (by omega)).2]; exact hj
theorem pow_any (a n : Int) (ha : J32 a) (hn : J32 n) (w : World) (hj : Sx.J w) : Calls Tryz.prog 79 #[.int .i32 a, .int .i32 n] w fun e w' => (∃ v, e = .returned v /\ Two v (powR a n)) /\ Below w.heap.size w w' := by
 refine (Sx.pure_pow Sx.v56 Sx.p_pow [.int .i32 a, .int .i32 n] ⟨_, _, rfl, ⟨a, rfl, ha⟩, _, _, rfl, ⟨n, rfl, hn⟩, rfl⟩ trivial w hj).mono ?_
 rintro e w' ⟨v, rfl, ⟨hf, hpost⟩, hs⟩
 obtain ⟨vs, rfl, hv⟩ := hf
 obtain ⟨_, _, rfl, ⟨x, rfl, hx⟩, _, _, rfl, ⟨c, rfl, hc⟩, rfl⟩ := hv
 have : Sx.powTo a n x c := hpost
 exact ⟨⟨_, rfl, x, c, rfl, powR_or this, powR_of this ▸ hx⟩, hs.1⟩
theorem div_any (n d : Int) (ha : J32 n) (hn : J32 d) (w : World) (hj : Sx.J w) : Calls Tryz.prog 78 #[.int .i32 n, .int .i32 d] w fun e w' => (∃ v, e = .returned v /\ Two v (divR n d)) /\ Below w.heap.size w w' := by
 refine (Sx.pure_fdiv Sx.v59 Sx.p_fdiv [.int .i32 n, .int .i32 d] ⟨_, _, rfl, ⟨n, rfl, ha⟩, _, _, rfl, ⟨d, rfl, hn⟩, rfl⟩ trivial w hj).mono ?_
 rintro e w' ⟨v, rfl, ⟨hf, hpost⟩, hs⟩
 obtain ⟨vs, rfl, hv⟩ := hf
 obtain ⟨_, _, rfl, ⟨x, rfl, hx⟩, _, _, rfl, ⟨c, rfl, hc⟩, rfl⟩ := hv
 have hp : (d = 0 -> x = 0 /\ c = 12) /\ (0 < d -> c = 0 /\ ∃ q, Sx.isNear (n * 65536) d q /\ x = Sx.clamp32 q) /\ (d < 0 -> c = 0 /\ ∃ q, Sx.isNear (n * -65536) (-d) q /\ x = Sx.clamp32 q) := hpost
 have hq : x = divR n d := the_eq ⟨fun q => (hp.1 q).1, fun q => (hp.2.1 q).2, fun q => (hp.2.2 q).2⟩ (fun a b h1 h2 => by
  rcases Int.lt_trichotomy d 0 with q | q | q
  ·exact near_the (by omega) (h1.2.2 q) (h2.2.2 q)
  ·rw [h1.1 q, h2.1 q]
  ·exact near_the (by omega) (h1.2.1 q) (h2.2.1 q))
 refine ⟨⟨_, rfl, x, c, rfl, ?_, hq ▸ hx⟩, hs.1⟩
 rw [<- hq]
 rcases Int.lt_trichotomy d 0 with q | q | q
 ·rw [if_pos (hp.2.2 q).1]
 ·rw [(hp.1 q).1, (hp.1 q).2]; rfl
 ·rw [if_pos (hp.2.1 q).1]
theorem atan_any (y x : Int) (ha : J32 y) (hn : J32 x) (w : World) (hj : Sx.J w) : Calls Tryz.prog 80 #[.int .i32 y, .int .i32 x] w fun e w' => (∃ v, e = .returned v /\ Two v (atanR y x)) /\ Below w.heap.size w w' := by
 refine (Sx.pure_atan Sx.v43 Sx.p_atan [.int .i32 y, .int .i32 x] ⟨_, _, rfl, ⟨y, rfl, ha⟩, _, _, rfl, ⟨x, rfl, hn⟩, rfl⟩ trivial w hj).mono ?_
 rintro e w' ⟨v, rfl, ⟨hf, hpost⟩, hs⟩
 obtain ⟨vs, rfl, hv⟩ := hf
 obtain ⟨_, _, rfl, ⟨z, rfl, hz⟩, _, _, rfl, ⟨c, rfl, hc⟩, rfl⟩ := hv
 have hp : (x = 0 /\ y = 0 -> z = 0 /\ c = 12) /\ (¬ (x = 0 /\ y = 0) -> c = 0 /\ z = Sx.atF y x) := hpost
 have hj : J32 z := ⟨by omega, by omega⟩
 refine ⟨⟨_, rfl, z, c, rfl, ?_, ?_⟩, hs.1⟩
 ·unfold atanR
  by_cases q : x = 0 /\ y = 0
  ·rw [if_pos q, (hp.1 q).1, (hp.1 q).2]; rfl
  ·rw [if_neg q, if_pos (hp.2 q).1, (hp.2 q).2]
 ·unfold atanR
  by_cases q : x = 0 /\ y = 0
  ·rw [if_pos q]; exact ⟨by decide, by decide⟩
  ·rw [if_neg q, <- (hp.2 q).2]; exact hj
theorem cutw_any (i : Nat) (a add : Int) (hd : 0 <= add /\ add <= 65535) (ha : J32 a) (hi : i < 3) (w : World) (hc : w.cell? ⟨0, i, none⟩ = some (.int .i64 add)) :
  Calls Tryz.prog 35 #[.int .i32 a, .int .i64 i] w fun e w' => e = .returned (.int .i32 (cutR a add)) /\ w' = w := by
 unfold J32 at ha
 have HI : i = 0 \/ i = 1 \/ i = 2 := by omega
 clear hi
 rcases HI with rfl | rfl | rfl
 all_goals (
  go_enter Tryz.func35, Tryz.ntmps35
  go_wp2_with (go_at_call 32; refine (sat_any _ _).mono ?_; rintro e w' ⟨rfl, rfl⟩)
  go_ret
  exact ⟨rfl, rfl⟩)
theorem floor_any (a : Int) (ha : J32 a) (w : World) (hj : Sx.J w) : I1 21 a (cutR a 0) w := by
 have hc := (J.cells hj).1
 go_enter Tryz.func21, Tryz.ntmps21
 go_wp2_with (go_at_call 35; refine (cutw_any 0 a 0 ⟨by decide, by decide⟩ ha (by decide) _ hc).mono ?_; rintro e w' ⟨rfl, rfl⟩)
 go_ret
 exact ⟨rfl, clp_j _, Below.refl _ _⟩
theorem ceil_any (a : Int) (ha : J32 a) (w : World) (hj : Sx.J w) : I1 69 a (cutR a 65535) w := by
 have hc := (J.cells hj).2.1
 go_enter Tryz.func69, Tryz.ntmps69
 go_wp2_with (go_at_call 35; refine (cutw_any 1 a 65535 ⟨by decide, by decide⟩ ha (by decide) _ hc).mono ?_; rintro e w' ⟨rfl, rfl⟩)
 go_ret
 exact ⟨rfl, clp_j _, Below.refl _ _⟩
theorem round_any (a : Int) (ha : J32 a) (w : World) (hj : Sx.J w) : I1 70 a (cutR a 32768) w := by
 have hc := (J.cells hj).2.2
 go_enter Tryz.func70, Tryz.ntmps70
 go_wp2_with (go_at_call 35; refine (cutw_any 2 a 32768 ⟨by decide, by decide⟩ ha (by decide) _ hc).mono ?_; rintro e w' ⟨rfl, rfl⟩)
 go_ret
 exact ⟨rfl, clp_j _, Below.refl _ _⟩
theorem trunc_any (a : Int) (ha : J32 a) (w : World) (hj : Sx.J w) : I1 71 a (truncR a) w := by
 unfold truncR
 by_cases h0 : a < 0
 ·rw [if_pos h0]
  go_enter Tryz.func71, Tryz.ntmps71
  go_wp2_with (go_at_call 69; refine (ceil_any a ha _ hj).mono ?_; rintro e w' ⟨rfl, hJ, hB⟩)
  go_ret
  exact ⟨rfl, hJ, hB⟩
 ·rw [if_neg h0]
  go_enter Tryz.func71, Tryz.ntmps71
  go_wp2_with (go_at_call 21; refine (floor_any a ha _ hj).mono ?_; rintro e w' ⟨rfl, hJ, hB⟩)
  go_ret
  exact ⟨rfl, hJ, hB⟩
end Go.Proofs.YtcjllibeaiofpaaGreatDoor
