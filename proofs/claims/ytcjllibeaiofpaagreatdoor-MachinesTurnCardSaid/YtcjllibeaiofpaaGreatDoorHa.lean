/-
  Machines: forms, kinds, ways, walked.
-/
import Derived.Test.YtcjllibeaiofpaaGreatDoorGz
import Derived.Test.YtcjllibeaiofpaaGreatDoorMz
import Derived.Laws.EntriesVeiled
import Derived.Laws.CopyOwn
import Derived.Laws.MakeOwn
import Derived.Tactics2
import Derived.Defers
import Derived.Recover
import Derived.Laws.Pointers
set_option linter.all false
set_option maxRecDepth 100000
namespace Go.Proofs.YtcjllibeaiofpaaGreatDoor
open Go.RowKit Mach
def CodOk (c : List Cod) : Prop := ∀ x ∈ c, (0 <= x.op /\ x.op <= 255) /\ J32 x.n
def Cods (n₀ : Nat) (W : World) (ad : Option Addr) (c : List Cod) : Prop :=
 c = [] \/ ∃ b off, ad = some ⟨b, off, none⟩ /\ b < n₀ /\ ∀ j x, c[j]? = some x -> W.cell? ⟨b, off + j * 2, none⟩ = some (.int .u8 x.op) /\ W.cell? ⟨b, off + j * 2 + 1, none⟩ = some (.int .i32 x.n)
theorem Cods.on {w W : World} {ad : Option Addr} {c : List Cod} (h : Cods w.heap.size w ad c) (hB : Below w.heap.size w W) : Cods W.heap.size W ad c := by
 rcases h with rfl | ⟨b, off, e, hb, hc⟩
 ·exact .inl rfl
 ·exact .inr ⟨b, off, e, Nat.lt_of_lt_of_le hb hB.size, fun j x hx => ⟨(hB.cell (p := ⟨b, off + j * 2, none⟩) hb).trans (hc j x hx).1, (hB.cell (p := ⟨b, off + j * 2 + 1, none⟩) hb).trans (hc j x hx).2⟩⟩
theorem Cods.in {n₀ n₁ : Nat} {w W : World} {ad : Option Addr} {c : List Cod} (h : Cods n₀ w ad c) (hB : Below n₀ w W) (hn : n₀ <= n₁) : Cods n₁ W ad c := by
 rcases h with rfl | ⟨b, off, e, hb, hc⟩
 ·exact .inl rfl
 ·exact .inr ⟨b, off, e, by omega, fun j x hx => ⟨(hB.cell (p := ⟨b, off + j * 2, none⟩) hb).trans (hc j x hx).1, (hB.cell (p := ⟨b, off + j * 2 + 1, none⟩) hb).trans (hc j x hx).2⟩⟩
theorem oRd_nil {v : Value} {ps : List MemPlace} (h : oRd v = some (.nil, ps)) : v = .agg #[.int .i64 0, .nilFunc] := by
 unfold oRd at h
 split at h
 ·rename_i c
  obtain ⟨l⟩ := c
  simp only at h
  unfold oRd2 at h
  split at h
  ·unfold efn at h
   split at h <;> cases h
  ·rfl
  ·cases h
 ·cases h
theorem look_op {V : World} {mb n : Nat} (hM : MapO oRd V mb n opG) (x : Int) (h0 : 0 <= x) (h1 : x <= 255) :
  (∀ t cl, opTab x = some (t, cl) -> (Instr.lookup 62 (.map (some mb)) (.int .u8 x) true).run Tryz.prog V = .ok (.tuple #[.agg #[.int .i64 t, .func (.func (fnOf cl)) #[] #[]], .bool true]) V /\ (Instr.lookup 62 (.map (some mb)) (.int .u8 x) false).run Tryz.prog V = .ok (.agg #[.int .i64 t, .func (.func (fnOf cl)) #[] #[]]) V) /\
  (opTab x = none -> (Instr.lookup 62 (.map (some mb)) (.int .u8 x) true).run Tryz.prog V = .ok (.tuple #[.agg #[.int .i64 0, .nilFunc], .bool false]) V) := by
 obtain ⟨v, ps, r1, r2⟩ := mapO_look_ok hM Tryz.underlying62 (z := .agg #[.int .i64 0, .nilFunc]) (zp := []) (fun _ => rfl) rfl h0 h1
 obtain ⟨v', ps', r3, r4⟩ := mapO_look hM Tryz.underlying62 (z := .agg #[.int .i64 0, .nilFunc]) (zp := []) (fun _ => rfl) rfl h0 h1
 constructor
 ·intro t cl h
  have e : opG x = some (ent t (fnOf cl)) := by unfold opG; rw [h]; rfl
  rw [e] at r1 r2 r4
  obtain rfl := oRd_inv r2
  obtain rfl := oRd_inv r4
  exact ⟨r1, r3⟩
 ·intro h
  have e : opG x = none := by unfold opG; rw [h]; rfl
  rw [e] at r1 r2
  obtain rfl := oRd_nil r2
  exact r1
theorem formed_pre {len : Nat} : ∀ (c : List Cod) (i : Nat), (∀ j x, c[j]? = some x -> formedAt len (i + j) x = true) -> formed len i c = true
 | [], _, _ => rfl
 | x :: c, i, h => by
  unfold formed
  rw [show formedAt len i x = true from h 0 x rfl, formed_pre c (i + 1) fun j y hy => by
   have := h (j + 1) y hy
   rwa [show i + (j + 1) = i + 1 + j by omega] at this]
  rfl
theorem formed_no {len : Nat} {c : List Cod} {i j : Nat} {x : Cod} (h : c[j]? = some x) (hx : formedAt len (i + j) x = false) : formed len i c = false := by
 cases hf : formed len i c with
 | false => rfl
 | true =>
  have := at_formed c i j hf h
  rw [hx] at this; cases this
theorem formed_ext {c : List Cod} {k : Nat} {x : Cod} (h : ∀ j y, j < k -> c[j]? = some y -> formedAt c.length j y = true) (hx : c[k]? = some x) (hf : formedAt c.length k x = true) : ∀ j y, j < k + 1 -> c[j]? = some y -> formedAt c.length j y = true := by
 intro j y hj hy
 by_cases e : j = k
 ·subst e; rw [hx] at hy; cases hy; exact hf
 ·exact h j y (by omega) hy
set_option maxHeartbeats 4000000 in
theorem formed_any (c : List Cod) (ad : Option Addr) (m cap mb n : Nat) (w : World) (hm : m = c.length) (hc : Cods w.heap.size w ad c) (hok : CodOk c) (hM : MapO oRd w mb n opG) (hl : m <= 2000) :
  Calls Tryz.prog 24 #[.slice ad m cap, .map (some mb)] w fun e w' => e = .returned (.bool (formed c.length 0 c)) /\ Below w.heap.size w w' := by
 have HC := Lib.hid hc
 have HM := Lib.hid hm
 have HOK := Lib.hid hok
 have HMM := Lib.hid hM
 clear hc hm hok hM
 go_enter Tryz.func24, Tryz.ntmps24
 go_wp2
 go_loopw [12] (fun i V => ∃ k : Nat, k <= m /\ i = .int .i64 k /\ (∀ j x, j < k -> c[j]? = some x -> formedAt c.length j x = true) /\ Below w.heap.size w V) (fun i _ => m - (intOf i).toNat)
 case atStart => exact ⟨0, by omega, rfl, fun j x h => absurd h (by omega), Below.refl _ _⟩
 case round =>
  obtain ⟨k, hk, rfl, hpre, hB⟩ := hrel
  have HP := Lib.hid hpre
  clear hpre
  by_cases hlt : k < m
  ·obtain ⟨x, hx⟩ : ∃ x, c[k]? = some x := ⟨_, List.getElem?_eq_getElem (by have := HM.out; omega)⟩
   obtain ⟨⟨x0, x1⟩, xj⟩ := HOK.out x (List.mem_of_getElem? hx)
   obtain ⟨b, off, rfl, hbl, hcells⟩ : ∃ b off, ad = some ⟨b, off, none⟩ /\ b < w.heap.size /\ ∀ j x, c[j]? = some x -> w.cell? ⟨b, off + j * 2, none⟩ = some (.int .u8 x.op) /\ w.cell? ⟨b, off + j * 2 + 1, none⟩ = some (.int .i32 x.n) := by
    rcases HC.out with e | h
    ·rw [e] at hx; simp at hx
    ·exact h
   have hbr : b < wr.heap.size := Nat.lt_of_lt_of_le hbl hB.size
   have c0 := (hB.cell (p := ⟨b, off + k * 2, none⟩) hbl).trans (hcells k x hx).1
   have c1 := (hB.cell (p := ⟨b, off + k * 2 + 1, none⟩) hbl).trans (hcells k x hx).2
   obtain ⟨op, xn⟩ := x
   simp only at c0 c1 x0 x1 xj
   have hMr : MapO oRd (wr.alloc (.cells #[.int .u8 op, .int .i32 xn] 41)) mb n opG := by
    have hml := mapO_lt HMM.out
    have h1 := mapO_of HMM.out (hB.block mb hml)
    exact mapO_of h1 ((World.grownBy_alloc wr _ none).block mb (mapO_lt h1) (by simp))
   obtain ⟨lk1, lk2⟩ := look_op hMr op x0 x1
   have HX := Lib.hid hx
   clear hcells hMr hx
   unfold J32 at xj
   obtain ⟨xj1, xj2⟩ := xj
   match hop : opTab op with
   | none =>
    have e1 := lk2 hop
    have HF := Lib.hid (show formed c.length 0 c = false from formed_no HX.out (by unfold formedAt; simp only [hop]; rfl))
    clear lk1 lk2 hop
    go_wp2
    all_goals go_ret
    all_goals exact ⟨congrArg (fun b => Ending.returned (Value.bool b)) HF.out.symm, (hB.alloc hB.size _).alloc (hB.alloc hB.size _).size _⟩
   | some (t, cl) =>
    have e1 := (lk1 t cl hop).1
    have HOP := Lib.hid hop
    clear lk1 lk2 hop
    by_cases o3 : op = 3
    ·subst o3
     by_cases hn1 : xn <= (k : Int)
     ·have HF := Lib.hid (show formed c.length 0 c = false from formed_no HX.out (by unfold formedAt goes; simp; omega))
      go_wp2
      go_ret
      exact ⟨congrArg (fun b => Ending.returned (Value.bool b)) HF.out.symm, (hB.alloc hB.size _).alloc (hB.alloc hB.size _).size _⟩
     by_cases hn2 : xn > (m : Int)
     ·have HF := Lib.hid (show formed c.length 0 c = false from formed_no HX.out (by have := HM.out; unfold formedAt goes; simp; omega))
      go_wp2
      go_ret
      exact ⟨congrArg (fun b => Ending.returned (Value.bool b)) HF.out.symm, (hB.alloc hB.size _).alloc (hB.alloc hB.size _).size _⟩
     have hfa : formedAt c.length k ⟨3, xn⟩ = true := by have := HM.out; unfold formedAt goes; rw [HOP.out]; simp; omega
     have HFA := Lib.hid hfa
     clear hfa
     go_wp2
     go_roundw
     case rel => exact ⟨k + 1, by omega, by go_num, formed_ext HP.out HX.out HFA.out, (hB.alloc hB.size _).alloc (hB.alloc hB.size _).size _⟩
     case measure => simp [intOf]; omega
    have o3b : (op == 3) = false := by simpa using o3
    by_cases o4 : op = 4
    ·subst o4
     by_cases hn1 : xn <= (k : Int)
     ·have HF := Lib.hid (show formed c.length 0 c = false from formed_no HX.out (by unfold formedAt goes; simp; omega))
      go_wp2
      go_ret
      exact ⟨congrArg (fun b => Ending.returned (Value.bool b)) HF.out.symm, (hB.alloc hB.size _).alloc (hB.alloc hB.size _).size _⟩
     by_cases hn2 : xn > (m : Int)
     ·have HF := Lib.hid (show formed c.length 0 c = false from formed_no HX.out (by have := HM.out; unfold formedAt goes; simp; omega))
      go_wp2
      go_ret
      exact ⟨congrArg (fun b => Ending.returned (Value.bool b)) HF.out.symm, (hB.alloc hB.size _).alloc (hB.alloc hB.size _).size _⟩
     have hfa : formedAt c.length k ⟨4, xn⟩ = true := by have := HM.out; unfold formedAt goes; rw [HOP.out]; simp; omega
     have HFA := Lib.hid hfa
     clear hfa
     go_wp2
     go_roundw
     case rel => exact ⟨k + 1, by omega, by go_num, formed_ext HP.out HX.out HFA.out, (hB.alloc hB.size _).alloc (hB.alloc hB.size _).size _⟩
     case measure => simp [intOf]; omega
    have o4b : (op == 4) = false := by simpa using o4
    have hfa : formedAt c.length k ⟨op, xn⟩ = true := by unfold formedAt goes; rw [HOP.out]; simp [o3, o4]
    have HFA := Lib.hid hfa
    clear hfa
    go_wp2
    go_roundw
    case rel => exact ⟨k + 1, by omega, by go_num, formed_ext HP.out HX.out HFA.out, (hB.alloc hB.size _).alloc (hB.alloc hB.size _).size _⟩
    case measure => simp [intOf]; omega
  ·obtain rfl : k = m := by omega
   have HF := Lib.hid (show formed c.length 0 c = true from formed_pre c 0 (fun j x hx => by
    rw [Nat.zero_add]
    exact HP.out j x (by have := (List.getElem?_eq_some_iff.1 hx).1; have := HM.out; omega) hx))
   go_wp2
   go_ret
   exact ⟨congrArg (fun b => Ending.returned (Value.bool b)) HF.out.symm, hB⟩
theorem comes1_any (k n : Int) (kn : Bool) (k2 n2 : Int) (kn2 : Bool) (w : World) :
  Calls Tryz.prog 57 #[.agg #[.int .u8 k, .int .i32 n, .bool kn], .agg #[.int .u8 k2, .int .i32 n2, .bool kn2]] w fun e w' => e = .returned (.bool (k == k2)) /\ Below w.heap.size w w' := by
 go_enter Tryz.func57, Tryz.ntmps57
 go_wp2
 go_ret
 exact ⟨rfl, ((Below.refl _ w).alloc (Nat.le_refl _) _).alloc (by simp) _⟩
theorem kinds_ext {xs ys : List Cel} {k : Nat} {x y : Cel} (h : ∀ j a b, j < k -> xs[j]? = some a -> ys[j]? = some b -> a.k = b.k) (hx : xs[k]? = some x) (hy : ys[k]? = some y) (e : x.k = y.k) : ∀ j a b, j < k + 1 -> xs[j]? = some a -> ys[j]? = some b -> a.k = b.k := by
 intro j a b hj ha hb
 by_cases c : j = k
 ·subst c; rw [hx] at ha; rw [hy] at hb; cases ha; cases hb; exact e
 ·exact h j a b (by omega) ha hb
theorem kinds_all {xs ys : List Cel} (hl : xs.length = ys.length) (h : ∀ j a b, j < xs.length -> xs[j]? = some a -> ys[j]? = some b -> a.k = b.k) : xs.map (·.k) = ys.map (·.k) := by
 refine List.ext_getElem? fun j => ?_
 rw [List.getElem?_map, List.getElem?_map]
 by_cases hj : j < xs.length
 ·have h1 := List.getElem?_eq_getElem hj
  have h2 := List.getElem?_eq_getElem (l := ys) (i := j) (by omega)
  rw [h1, h2]
  simp only [Option.map_some]
  rw [h j _ _ hj h1 h2]
 ·rw [List.getElem?_eq_none (by omega), List.getElem?_eq_none (by omega)]
theorem kinds_ne {xs ys : List Cel} {j : Nat} {a b : Cel} (ha : xs[j]? = some a) (hb : ys[j]? = some b) (h : ¬ a.k = b.k) : ¬ xs.map (·.k) = ys.map (·.k) := by
 intro e
 have := congrArg (fun l => l[j]?) e
 simp only [List.getElem?_map, ha, hb, Option.map_some, Option.some.injEq] at this
 exact h this
theorem cels_some {n₀ : Nat} {W : World} {ad : Option Addr} {cs : List Cel} (h : Cels n₀ W ad cs) {i : Nat} {a : Cel} (ha : cs[i]? = some a) : ∃ b off, ad = some ⟨b, off, none⟩ /\ b < n₀ := by
 rcases h with rfl | ⟨b, off, e, hb, _⟩
 ·simp at ha
 ·exact ⟨b, off, e, hb⟩
set_option maxHeartbeats 4000000 in
theorem equal_any (xs ys : List Cel) (a1 a2 : Option Addr) (m1 m2 c1 c2 : Nat) (w : World) (h1 : m1 = xs.length) (h2 : m2 = ys.length) (hx : Cels w.heap.size w a1 xs) (hy : Cels w.heap.size w a2 ys) (hl : m1 <= 2000) (hl2 : m2 <= 2000) :
  Calls Tryz.prog 56 #[.slice a1 m1 c1, .slice a2 m2 c2, .func (.func 57) #[] #[]] w fun e w' =>
   e = .returned (.bool (decide (xs.map (·.k) = ys.map (·.k)))) /\ Below w.heap.size w w' := by
 have H1 := Lib.hid h1
 have H2 := Lib.hid h2
 have HX := Lib.hid hx
 have HY := Lib.hid hy
 clear h1 h2 hx hy
 by_cases hne : m1 = m2
 case neg =>
  have hb : ((m1 : Int) != (m2 : Int)) = true := by simp; omega
  have HF := Lib.hid (show decide (xs.map (·.k) = ys.map (·.k)) = false by
   simp only [decide_eq_false_iff_not]
   intro e
   have := congrArg List.length e
   simp at this
   have := H1.out
   have := H2.out
   omega)
  go_enter Tryz.func56, Tryz.ntmps56
  go_wp2
  go_ret
  exact ⟨congrArg (fun b => Ending.returned (Value.bool b)) HF.out.symm, Below.refl _ _⟩
 subst hne
 go_enter Tryz.func56, Tryz.ntmps56
 go_wp2
 go_loopw [17] (fun i V => ∃ k : Nat, k <= m1 /\ i = .int .i64 k /\ (∀ j a b, j < k -> xs[j]? = some a -> ys[j]? = some b -> a.k = b.k) /\ Below w.heap.size w V) (fun i _ => m1 - (intOf i).toNat)
 case atStart => exact ⟨0, by omega, rfl, fun j a b h => absurd h (by omega), Below.refl _ _⟩
 case round =>
  obtain ⟨k, hk, rfl, hpre, hB⟩ := hrel
  have HP := Lib.hid hpre
  clear hpre
  by_cases hlt : k < m1
  ·obtain ⟨x, hx⟩ : ∃ x, xs[k]? = some x := ⟨_, List.getElem?_eq_getElem (by have := H1.out; omega)⟩
   obtain ⟨y, hy⟩ : ∃ y, ys[k]? = some y := ⟨_, List.getElem?_eq_getElem (by have := H2.out; omega)⟩
   obtain ⟨b1, o1, rfl, hb1⟩ := cels_some HX.out hx
   obtain ⟨b2, o2, rfl, hb2⟩ := cels_some HY.out hy
   obtain ⟨p0, p1, p2⟩ := cel_at (HX.out.on hB) hx
   obtain ⟨q0, q1, q2⟩ := cel_at (HY.out.on hB) hy
   have hbr1 : b1 < wr.heap.size := Nat.lt_of_lt_of_le hb1 hB.size
   have hbr2 : b2 < wr.heap.size := Nat.lt_of_lt_of_le hb2 hB.size
   obtain ⟨xk, xn, xkn⟩ := x
   obtain ⟨yk, yn, ykn⟩ := y
   simp only at p0 p1 p2 q0 q1 q2
   have HXK := Lib.hid hx
   have HYK := Lib.hid hy
   clear hx hy
   have hA := (hB.alloc hB.size (.cells #[.int .u8 xk, .int .i32 xn, .bool xkn] 72)).alloc (hB.alloc hB.size _).size (.cells #[.int .u8 yk, .int .i32 yn, .bool ykn] 72)
   by_cases e : xk = yk
   ·subst e
    go_wp2_with (go_at_call 57; refine (comes1_any xk xn xkn xk yn ykn _).mono ?_; rintro e w2 ⟨rfl, hB2⟩; have hb3 := bstep hA hB2)
    go_roundw
    case rel => exact ⟨k + 1, by omega, by go_num, kinds_ext HP.out HXK.out HYK.out rfl, hb3⟩
    case measure => simp [intOf]; omega
   ·have eb : (xk == yk) = false := by simpa using e
    have HF := Lib.hid (show decide (xs.map (·.k) = ys.map (·.k)) = false by
     simp only [decide_eq_false_iff_not]
     exact kinds_ne HXK.out HYK.out e)
    go_wp2_with (go_at_call 57; refine (comes1_any xk xn xkn yk yn ykn _).mono ?_; rintro e w2 ⟨rfl, hB2⟩; have hb3 := bstep hA hB2)
    go_ret
    exact ⟨congrArg (fun b => Ending.returned (Value.bool b)) HF.out.symm, hb3⟩
  ·obtain rfl : k = m1 := by omega
   have HF := Lib.hid (show decide (xs.map (·.k) = ys.map (·.k)) = true by
    simp only [decide_eq_true_eq]
    have l1 := H1.out
    have l2 := H2.out
    exact kinds_all (by omega) (fun j a b hj => HP.out j a b (by omega)))
   go_wp2
   go_ret
   exact ⟨congrArg (fun b => Ending.returned (Value.bool b)) HF.out.symm, hB⟩
def StkAt (lo : Nat) (V : World) (s : Value) (cs : List Cel) : Prop :=
 ∃ ad cap, s = .slice ad cs.length cap /\ (ad = none -> cs.length = 0 /\ cap = 0) /\ (cs = [] \/ ∃ b off, ad = some ⟨b, off, none⟩ /\ lo <= b /\ b < V.heap.size /\ ∀ j u, (fl cs)[j]? = some u -> V.cell? ⟨b, off + j, none⟩ = some u)
theorem StkAt.cels {lo : Nat} {V : World} {ad : Option Addr} {m cap : Nat} {cs : List Cel} (h : StkAt lo V (.slice ad m cap) cs) : m = cs.length /\ (ad = none -> m = 0 /\ cap = 0) /\ Cels V.heap.size V ad cs := by
 obtain ⟨ad', cap', e, hn, hc⟩ := h
 cases e
 refine ⟨rfl, hn, ?_⟩
 rcases hc with rfl | ⟨b, off, rfl, h1, h2, h3⟩
 ·exact .inl rfl
 ·exact .inr ⟨b, off, rfl, h2, h3⟩
theorem StkAt.on {lo : Nat} {V V' : World} {s : Value} {cs : List Cel} (h : StkAt lo V s cs) (hs : V.heap.size <= V'.heap.size) (hb : ∀ k, lo <= k -> k < V.heap.size -> V'.heap[k]? = V.heap[k]?) : StkAt lo V' s cs := by
 obtain ⟨ad, cap, e, hn, hc⟩ := h
 refine ⟨ad, cap, e, hn, ?_⟩
 rcases hc with rfl | ⟨b, off, rfl, h1, h2, h3⟩
 ·exact .inl rfl
 ·exact .inr ⟨b, off, rfl, h1, Nat.lt_of_lt_of_le h2 hs, fun j u hu => (World.cell?_of_block (w := V) (a := ⟨b, off + j, none⟩) (hb b h1 h2)).trans (h3 j u hu)⟩
def WayC (lo : Nat) (V : World) (wb p : Nat) : Option (List Cel) -> Prop
 | none => V.cell? ⟨wb, p, none⟩ = some (.bool false) /\ V.cell? ⟨wb, p + 1, none⟩ = some (.slice none 0 0)
 | some cs => V.cell? ⟨wb, p, none⟩ = some (.bool true) /\ ∃ s, V.cell? ⟨wb, p + 1, none⟩ = some s /\ StkAt lo V s cs
structure Wrt (w W : World) (wb p : Nat) : Prop where
 os : W.os = w.os
 tape : W.tape = w.tape
 output : W.output = w.output
 size : w.heap.size <= W.heap.size
 block : ∀ k, k < w.heap.size -> k ≠ wb -> W.heap[k]? = w.heap[k]?
 cell : ∀ i, i ≠ p -> i ≠ p + 1 -> W.cell? ⟨wb, i, none⟩ = w.cell? ⟨wb, i, none⟩
 frozen : ∀ i, W.frozen? ⟨wb, i, none⟩ = w.frozen? ⟨wb, i, none⟩
theorem Wrt.of {w W : World} {wb p : Nat} (h : Below w.heap.size w W) (hw : wb < w.heap.size) : Wrt w W wb p :=
 ⟨h.os, h.tape, h.output, h.size, fun k hk _ => h.block k hk, fun i _ _ => h.cell (p := ⟨wb, i, none⟩) hw, fun i => h.frozen (p := ⟨wb, i, none⟩) hw⟩
theorem off_ne {b i j : Nat} (h : i ≠ j) : (⟨b, i, none⟩ : Addr) ≠ ⟨b, j, none⟩ := fun e => h (by cases e; rfl)
theorem cell_oth {w : World} {b i j : Nat} {v : Value} (h : i ≠ j) : (w.setCell ⟨b, i, none⟩ v).cell? ⟨b, j, none⟩ = w.cell? ⟨b, j, none⟩ := by
 apply World.cell?_setCell_other
 exact off_ne h
theorem wrt_set {w W : World} {wb p : Nat} (h : Wrt w W wb p) (i : Nat) (hi : i = p \/ i = p + 1) (v : Value) : Wrt w (W.setCell ⟨wb, i, none⟩ v) wb p :=
  ⟨h.os, h.tape, h.output, by simp; exact h.size, fun k hk hne => (Below.heap_setCell _ _ _ k hne).trans (h.block k hk hne),
   fun j h0 h1 => (cell_oth (by rcases hi with rfl | rfl <;> omega)).trans (h.cell j h0 h1), fun j => by rw [<- h.frozen j]; simp⟩
theorem wayC_set {lo wb p : Nat} {w W : World} {s : Value} {cs : List Cel} (hW : Wrt w W wb p) (hr : W.cell? ⟨wb, p, none⟩ = some (.bool true)) (hq : (W.cell? ⟨wb, p + 1, none⟩).isSome = true) (hlo : wb < lo) (hs : StkAt lo W s cs) :
  WayC lo (W.setCell ⟨wb, p + 1, none⟩ s) wb p (some cs) /\ Wrt w (W.setCell ⟨wb, p + 1, none⟩ s) wb p := by
 refine ⟨⟨(cell_oth (by omega)).trans hr, s, World.cell?_setCell_same' _ _ _ hq, hs.on (by simp) (fun k hk _ => Below.heap_setCell _ _ _ k (by show k ≠ wb; omega))⟩, wrt_set hW _ (.inr rfl) _⟩
def ComP (lo wb p : Nat) (o : Option (List Cel)) (l : List Cel) (w : World) (e : Ending) (w' : World) : Prop :=
 (∀ o', comes o l = .ok o' -> e = .returned (.tuple #[]) /\ WayC lo w' wb p o' /\ Wrt w w' wb p) /\ ∀ er, comes o l = .error er -> e = Pan er /\ Wrt w w' wb p
theorem comP_ok {lo wb p : Nat} {o o' : Option (List Cel)} {l : List Cel} {w w' : World} (h : comes o l = .ok o') (h1 : WayC lo w' wb p o') (h2 : Wrt w w' wb p) : ComP lo wb p o l w (.returned (.tuple #[])) w' :=
 ⟨fun o2 e => by rw [h] at e; cases e; exact ⟨rfl, h1, h2⟩, fun er e => by rw [h] at e; cases e⟩
theorem comP_err {lo wb p : Nat} {o : Option (List Cel)} {l : List Cel} {w w' : World} {er : Int} (h : comes o l = .error er) (h2 : Wrt w w' wb p) : ComP lo wb p o l w (Pan er) w' :=
 ⟨fun o2 e => (by rw [h] at e; cases e), fun er' e => by rw [h] at e; cases e; exact ⟨rfl, h2⟩⟩
set_option maxHeartbeats 4000000 in
theorem comes_new (lo wb p : Nat) (l : List Cel) (ad : Option Addr) (m cap : Nat) (w : World) (hw : WayC lo w wb p none) (hf0 : w.frozen? ⟨wb, p, none⟩ = false) (hf1 : w.frozen? ⟨wb, p + 1, none⟩ = false) (hlo : wb < lo) (hls : wb < w.heap.size) (hl : StkAt lo w (.slice ad m cap) l) :
  Calls Tryz.prog 26 #[.pointer (some ⟨wb, p, none⟩), .slice ad m cap] w (ComP lo wb p none l w) := by
 obtain ⟨q0, q1⟩ := hw
 have HL := Lib.hid hl
 clear hl
 go_enter Tryz.func26, Tryz.ntmps26
 go_wp2
 refine bodyPost_ret (v := .tuple #[]) (by simp [results, Tryz.f26]) rfl ?_
 have h1 := wrt_set (Wrt.of (p := p) (Below.refl _ w) hls) p (.inl rfl) (.bool true)
 obtain ⟨k1, k2⟩ := wayC_set (lo := lo) (s := .slice ad m cap) (cs := l) h1 (World.cell?_setCell_same' _ _ _ (by rw [q0]; rfl)) (by rw [cell_oth (by omega), q1]; rfl) hlo (HL.out.on (by simp) (fun k hk _ => Below.heap_setCell _ _ _ k (by show k ≠ wb; omega)))
 exact comP_ok rfl k1 k2
theorem comes_no {v l : List Cel} (h : ¬ v.map (·.k) = l.map (·.k)) : comes (some v) l = .error 10 := by unfold comes; simp only [if_neg h]
set_option maxHeartbeats 4000000 in
theorem comes_bad (lo wb p : Nat) (v l : List Cel) (ad : Option Addr) (m cap : Nat) (w : World) (hw : WayC lo w wb p (some v)) (hlo : wb < lo) (hls : wb < w.heap.size) (hl : StkAt lo w (.slice ad m cap) l) (hv1 : v.length <= 1000) (hl1 : l.length <= 1000) (hk : ¬ v.map (·.k) = l.map (·.k)) :
  Calls Tryz.prog 26 #[.pointer (some ⟨wb, p, none⟩), .slice ad m cap] w (ComP lo wb p (some v) l w) := by
 obtain ⟨q0, s, q1, av, cv', rfl, hvn, hvc⟩ := hw
 obtain ⟨rfl, hln, hlc⟩ := hl.cels
 have hvS : StkAt lo w (.slice av v.length cv') v := ⟨av, cv', rfl, hvn, hvc⟩
 obtain ⟨_, _, hvC⟩ := hvS.cels
 have HV := Lib.hid hvC
 have HL := Lib.hid hlc
 have hd : decide (v.map (·.k) = l.map (·.k)) = false := by simpa using hk
 have HK := Lib.hid hk
 clear hvC hlc hk hvc hl hvS hvn hln
 go_enter Tryz.func26, Tryz.ntmps26
 go_wp2_with (first
  | (go_at_call 56; refine (equal_any v l av ad v.length l.length _ _ _ rfl rfl HV.out HL.out (by omega) (by omega)).mono ?_; rintro e w2 ⟨rfl, hB2⟩; rw [hd])
  | (go_at_call 55; refine (must_no _ _).mono ?_; rintro e w' ⟨rfl, rfl⟩))
 exact ⟨rfl, comP_err (comes_no HK.out) (Wrt.of hB2 hls)⟩
def mix (v l : List Cel) (k : Nat) : List Cel := (merge v l).take k ++ l.drop k
theorem merge_len {v l : List Cel} (h : v.length = l.length) : (merge v l).length = l.length := by unfold merge; simp; omega
theorem mix_zero (v l : List Cel) : mix v l 0 = l := by simp [mix]
theorem mix_all {v l : List Cel} (h : v.length = l.length) : mix v l v.length = merge v l := by
 unfold mix
 rw [List.take_of_length_le (by rw [merge_len h]; omega), List.drop_of_length_le (by omega), List.append_nil]
theorem mix_split {v l : List Cel} {k : Nat} {a b : Cel} (h : v.length = l.length) (ha : v[k]? = some a) (hb : l[k]? = some b) :
  ∃ P R, P.length = k /\ mix v l k = P ++ b :: R /\ mix v l (k + 1) = P ++ ⟨b.k, b.n, b.kn && a.kn && decide (a.n = b.n)⟩ :: R := by
 have hk := (List.getElem?_eq_some_iff.1 hb).1
 refine ⟨(merge v l).take k, l.drop (k + 1), by rw [List.length_take, merge_len h]; omega, ?_, ?_⟩
 ·unfold mix
  rw [List.drop_eq_getElem_cons hk, (List.getElem?_eq_some_iff.1 hb).2]
 ·unfold mix
  have hm : (merge v l)[k]? = some ⟨b.k, b.n, b.kn && a.kn && decide (a.n = b.n)⟩ := by
   unfold merge
   rw [List.getElem?_zipWith, ha, hb]
  rw [List.take_succ, hm, List.append_assoc]
  rfl
structure BothAt (V : World) (g : Nat) (cs : List Cel) : Prop where
 c : ∀ j u, (fl cs)[j]? = some u -> V.cell? ⟨g, j, none⟩ = some u
 f : ∀ j, V.frozen? ⟨g, j, none⟩ = false
 l : g < V.heap.size
theorem both_new {w : World} {base g m cap : Nat} {cs : List Cel} (h : w.ownsRow base 72 3 (.slice (some ⟨g, 0, none⟩) m cap) m (fl cs)) : BothAt w g cs := by
 obtain ⟨h1, h2⟩ := row_cels h
 refine ⟨h2, fun j => ?_, h1⟩
 obtain ⟨_, ⟨h2, _⟩ | ⟨g2, cap2, cur, h2, hb, hg, _⟩⟩ := h
 ·cases h2
 ·cases h2
  simp [World.frozen?, hg]
theorem BothAt.on {V V' : World} {g : Nat} {cs : List Cel} (h : BothAt V g cs) (hB : Below V.heap.size V V') : BothAt V' g cs :=
 ⟨fun j u hu => (hB.cell (p := ⟨g, j, none⟩) h.l).trans (h.c j u hu), fun j => (hB.frozen (p := ⟨g, j, none⟩) h.l).trans (h.f j), Nat.lt_of_lt_of_le h.l hB.size⟩
theorem both_at {V : World} {g : Nat} {P R : List Cel} {b : Cel} (h : BothAt V g (P ++ b :: R)) : V.cell? ⟨g, P.length * 3, none⟩ = some (.int .u8 b.k) /\ V.cell? ⟨g, P.length * 3 + 1, none⟩ = some (.int .i32 b.n) /\ V.cell? ⟨g, P.length * 3 + 2, none⟩ = some (.bool b.kn) := by
 have hl := fl_len P
 refine ⟨h.c _ _ ?_, h.c _ _ ?_, h.c _ _ ?_⟩
 ·rw [fl_app, List.getElem?_append_right (by omega), hl, Nat.sub_self]; rfl
 ·rw [fl_app, List.getElem?_append_right (by omega), hl, show P.length * 3 + 1 - P.length * 3 = 1 by omega]; rfl
 ·rw [fl_app, List.getElem?_append_right (by omega), hl, show P.length * 3 + 2 - P.length * 3 = 2 by omega]; rfl
theorem both_set {V : World} {g : Nat} {P R : List Cel} {b : Cel} (h : BothAt V g (P ++ b :: R)) (x : Bool) (i : Nat) (hi : i = P.length * 3 + 2) : BothAt (V.setCell ⟨g, i, none⟩ (.bool x)) g (P ++ ⟨b.k, b.n, x⟩ :: R) := by
 subst hi
 have hl := fl_len P
 refine ⟨fun j u hu => ?_, fun j => by rw [<- h.f j]; simp, by simp; exact h.l⟩
 by_cases e : j = P.length * 3 + 2
 ·subst e
  rw [fl_app, List.getElem?_append_right (by omega), hl, show P.length * 3 + 2 - P.length * 3 = 2 by omega] at hu
  cases hu
  exact World.cell?_setCell_same' _ _ _ (by rw [(both_at h).2.2]; rfl)
 ·rw [cell_oth (fun q => e q.symm)]
  refine h.c j u ?_
  rw [fl_app] at hu ⊢
  by_cases c : j < (fl P).length
  ·rw [List.getElem?_append_left c] at hu ⊢; exact hu
  ·rw [List.getElem?_append_right (by omega)] at hu ⊢
   generalize hjj : j - (fl P).length = i at hu ⊢
   match i, hu with
   | 0, hu => exact hu
   | 1, hu => exact hu
   | 2, hu => exact absurd hjj (by omega)
   | i + 3, hu => exact hu
theorem row_form {W : World} {base m cap : Nat} {a : Option Addr} {cs : List Cel} (h : W.ownsRow base 72 3 (.slice a m cap) m (fl cs)) : a = none \/ ∃ g, a = some ⟨g, 0, none⟩ /\ base <= g /\ BothAt W g cs := by
 have h0 := h
 obtain ⟨_, ⟨h2, _⟩ | ⟨g, cap2, cur, h2, hb, _⟩⟩ := h
 ·cases h2; exact .inl rfl
 ·cases h2; exact .inr ⟨g, rfl, hb, both_new h0⟩
set_option maxHeartbeats 4000000 in
theorem comes_good (lo wb p : Nat) (v l : List Cel) (ad : Option Addr) (m cap : Nat) (w : World) (hw : WayC lo w wb p (some v)) (hf1 : w.frozen? ⟨wb, p + 1, none⟩ = false) (hlo : wb < lo) (hls : lo <= w.heap.size) (hl : StkAt lo w (.slice ad m cap) l) (hv1 : v.length <= 1000) (hl1 : l.length <= 1000) (hk : v.map (·.k) = l.map (·.k)) :
  Calls Tryz.prog 26 #[.pointer (some ⟨wb, p, none⟩), .slice ad m cap] w (ComP lo wb p (some v) l w) := by
 obtain ⟨q0, s, q1, av, cv', rfl, hvn, hvc⟩ := hw
 obtain ⟨rfl, hln, hlc⟩ := hl.cels
 have hvS : StkAt lo w (.slice av v.length cv') v := ⟨av, cv', rfl, hvn, hvc⟩
 obtain ⟨_, _, hvC⟩ := hvS.cels
 have hlen : v.length = l.length := by have := congrArg List.length hk; simpa using this
 have HV := Lib.hid hvC
 have HL := Lib.hid hlc
 have HN := Lib.hid hln
 have hd : decide (v.map (·.k) = l.map (·.k)) = true := by simpa using hk
 have HE := Lib.hid hlen
 have HOK := Lib.hid (show comes (some v) l = .ok (some (merge v l)) from comes_ok hk)
 have hwl : wb < w.heap.size := by omega
 clear hvC hlc hk hvc hl hvS hvn hln hlen
 go_enter Tryz.func26, Tryz.ntmps26
 go_wp2_with (first
  | (go_at_call 56; refine (equal_any v l av ad v.length l.length _ _ _ rfl rfl HV.out HL.out (by omega) (by omega)).mono ?_; rintro e w2 ⟨rfl, hB2⟩; rw [hd])
  | (go_at_call 55; refine (must_ok _ _).mono ?_; rintro e w' ⟨rfl, rfl⟩)
  | (go_at_call 58; refine (clone_any ad l.length cap l _ rfl (HL.out.on hB2) HN.out (by omega)).mono ?_; rintro e w3 ⟨v3, rfl, hr3, hB3⟩; obtain ⟨a3, c3, rfl, hn3, _, _⟩ := row_shape hr3; have q2 := (hB2.cell (p := ⟨wb, p + 1, none⟩) hwl).trans q1; have hb3 := bstep hB2 hB3; have q3 := (hb3.cell (p := ⟨wb, p + 1, none⟩) hwl).trans q1))
 have hform : ∀ g, a3 = some ⟨g, 0, none⟩ -> w.heap.size <= g /\ BothAt w3 g l := by
  intro g hg
  rcases row_form hr3 with e | ⟨g', e, hb, hB⟩
  ·rw [e] at hg; cases hg
  ·rw [e] at hg; cases hg; exact ⟨Nat.le_trans hB2.size hb, hB⟩
 have hsh : a3 = none \/ ∃ g, a3 = some ⟨g, 0, none⟩ := by
  rcases row_form hr3 with e | ⟨g', e, _⟩
  ·exact .inl e
  ·exact .inr ⟨g', e⟩
 have HFORM := Lib.hid hform
 have HSH := Lib.hid hsh
 have HN3 := Lib.hid hn3
 clear hform hsh hn3 hr3 hB3 hB2 q2 hd
 go_loopw [33] (fun i V => ∃ k : Nat, k <= v.length /\ i = .int .i64 k /\ Below w.heap.size w V /\ ∀ g, a3 = some ⟨g, 0, none⟩ -> w.heap.size <= g /\ BothAt V g (mix v l k)) (fun i _ => v.length - (intOf i).toNat)
 case atStart => exact ⟨0, by omega, rfl, hb3, by rw [mix_zero]; exact HFORM.out⟩
 case round =>
  obtain ⟨k, hk, rfl, hB, hG⟩ := hrel
  have HG := Lib.hid hG
  clear hG
  by_cases hlt : k < v.length
  ·obtain ⟨a, ha⟩ : ∃ x, v[k]? = some x := ⟨_, List.getElem?_eq_getElem hlt⟩
   obtain ⟨b, hb⟩ : ∃ x, l[k]? = some x := ⟨_, List.getElem?_eq_getElem (by have := HE.out; omega)⟩
   have hl0 : l.length ≠ 0 := by have := HE.out; omega
   obtain ⟨g, rfl⟩ : ∃ g, a3 = some ⟨g, 0, none⟩ := by
    rcases HSH.out with e | h
    ·exact absurd (HN3.out e).1 hl0
    ·exact h
   obtain ⟨hgw, hBA⟩ := HG.out g rfl
   obtain ⟨P, R, hP, hm1, hm2⟩ := mix_split HE.out ha hb
   rw [hm1] at hBA
   obtain ⟨b0, b1, b2⟩ := both_at hBA
   rw [hP] at b0 b1 b2
   have hfz := hBA.f (k * 3 + 2)
   obtain ⟨ab, ao, rfl, hab⟩ := cels_some HV.out ha
   obtain ⟨p0, p1, p2⟩ := cel_at (HV.out.on hB) ha
   have hkl : k < l.length := by have := HE.out; omega
   have hgr := hBA.l
   have habr : ab < wr.heap.size := Nat.lt_of_lt_of_le hab hB.size
   obtain ⟨bk, bn, bkn⟩ := b
   obtain ⟨ak, an, akn⟩ := a
   simp only at b0 b1 b2 p0 p1 p2
   have HBA := Lib.hid hBA
   have HM2 := Lib.hid hm2
   have HP := Lib.hid hP
   clear hBA hm1 hm2 hP ha hb
   have fin : ∀ (V : World) (x : Bool), Below wr.heap.size wr V -> x = (bkn && akn && decide (an = bn)) -> Below w.heap.size w (V.setCell ⟨g, k * 3 + 2, none⟩ (.bool x)) /\ ∀ g', (some ⟨g, 0, none⟩ : Option Addr) = some ⟨g', 0, none⟩ -> w.heap.size <= g' /\ BothAt (V.setCell ⟨g, k * 3 + 2, none⟩ (.bool x)) g' (mix v l (k + 1)) := by
    intro V x hV hx
    refine ⟨(bstep hB hV).setCell (p := ⟨g, k * 3 + 2, none⟩) hgw _, fun g' e => ?_⟩
    cases e
    refine ⟨hgw, ?_⟩
    have := both_set (HBA.out.on hV) x (k * 3 + 2) (by rw [HP.out])
    rw [HM2.out, <- hx]
    exact this
   have fin2 : ∀ (V : World) (x : Bool), Below (wr.setCell ⟨g, k * 3 + 2, none⟩ (.bool x)).heap.size (wr.setCell ⟨g, k * 3 + 2, none⟩ (.bool x)) V -> x = (bkn && akn && decide (an = bn)) -> Below w.heap.size w V /\ ∀ g', (some ⟨g, 0, none⟩ : Option Addr) = some ⟨g', 0, none⟩ -> w.heap.size <= g' /\ BothAt V g' (mix v l (k + 1)) := by
    intro V x hV hx
    obtain ⟨h1, h2⟩ := fin wr x (Below.refl _ _) hx
    exact ⟨bstep h1 hV, fun g' e => ⟨(h2 g' e).1, (h2 g' e).2.on hV⟩⟩
   have HFIN := Lib.hid fin
   have HFIN2 := Lib.hid fin2
   clear fin fin2
   cases bkn
   ·go_wp2
    go_region
    all_goals go_wp2
    all_goals go_roundw
    case rel => first
     | exact ⟨k + 1, by omega, by go_num, HFIN2.out _ _ ((Below.refl _ _).alloc (Nat.le_refl _) _).drew (by simp)⟩
     | exact ⟨k + 1, by omega, by go_num, HFIN.out _ _ ((Below.refl _ _).alloc (Nat.le_refl _) _).drew (by simp)⟩
    case measure => simp [intOf]; omega
   cases akn
   ·go_wp2
    go_region
    all_goals go_wp2
    all_goals go_roundw
    case rel => first
     | exact ⟨k + 1, by omega, by go_num, HFIN2.out _ _ ((Below.refl _ _).alloc (Nat.le_refl _) _).drew (by simp)⟩
     | exact ⟨k + 1, by omega, by go_num, HFIN.out _ _ ((Below.refl _ _).alloc (Nat.le_refl _) _).drew (by simp)⟩
    case measure => simp [intOf]; omega
   by_cases hab3 : an = bn
   ·subst hab3
    go_wp2
    go_region
    all_goals go_wp2
    all_goals go_roundw
    case rel => first
     | exact ⟨k + 1, by omega, by go_num, HFIN2.out _ _ ((Below.refl _ _).alloc (Nat.le_refl _) _).drew (by simp)⟩
     | exact ⟨k + 1, by omega, by go_num, HFIN.out _ _ ((Below.refl _ _).alloc (Nat.le_refl _) _).drew (by simp)⟩
    case measure => simp [intOf]; omega
   ·have hab4 : (an == bn) = false := by simpa using hab3
    go_wp2
    go_region
    all_goals go_wp2
    all_goals go_roundw
    case rel => first
     | exact ⟨k + 1, by omega, by go_num, HFIN2.out _ _ ((Below.refl _ _).alloc (Nat.le_refl _) _).drew (by simp [hab3])⟩
     | exact ⟨k + 1, by omega, by go_num, HFIN.out _ _ ((Below.refl _ _).alloc (Nat.le_refl _) _).drew (by simp [hab3])⟩
    case measure => simp [intOf]; omega
  ·obtain rfl : k = v.length := by omega
   have q4 := (hB.cell (p := ⟨wb, p + 1, none⟩) hwl).trans q1
   have q40 := (hB.cell (p := ⟨wb, p, none⟩) hwl).trans q0
   have f4 := (hB.frozen (p := ⟨wb, p + 1, none⟩) hwl).trans hf1
   go_wp2
   refine bodyPost_end (v := .tuple #[]) (by simp [results, Tryz.f26]) rfl ?_
   have hs : StkAt lo wr (.slice a3 l.length c3) (merge v l) := by
    have hml := merge_len HE.out
    refine ⟨a3, c3, by rw [hml], fun e => by rw [hml]; exact HN3.out e, ?_⟩
    rcases HSH.out with e | ⟨g, e⟩
    ·left
     refine List.eq_nil_of_length_eq_zero ?_
     rw [hml]; exact (HN3.out e).1
    ·right
     obtain ⟨hg, hBA⟩ := HG.out g e
     rw [mix_all HE.out] at hBA
     exact ⟨g, 0, e, by omega, hBA.l, fun j u hu => by rw [Nat.zero_add]; exact hBA.c j u hu⟩
   obtain ⟨k1, k2⟩ := wayC_set (lo := lo) (s := .slice a3 l.length c3) (cs := merge v l) (Wrt.of (p := p) hB hwl) q40 (by rw [q4]; rfl) hlo hs
   exact comP_ok HOK.out k1 k2
theorem comes_any (lo wb p : Nat) (o : Option (List Cel)) (l : List Cel) (ad : Option Addr) (m cap : Nat) (w : World) (hw : WayC lo w wb p o) (hf0 : w.frozen? ⟨wb, p, none⟩ = false) (hf1 : w.frozen? ⟨wb, p + 1, none⟩ = false) (hlo : wb < lo) (hls : lo <= w.heap.size) (hl : StkAt lo w (.slice ad m cap) l) (hv1 : ∀ v, o = some v -> v.length <= 1000) (hl1 : l.length <= 1000) :
  Calls Tryz.prog 26 #[.pointer (some ⟨wb, p, none⟩), .slice ad m cap] w (ComP lo wb p o l w) := by
 cases o with
 | none => exact comes_new lo wb p l ad m cap w hw hf0 hf1 hlo (by omega) hl
 | some v =>
  by_cases hk : v.map (·.k) = l.map (·.k)
  ·exact comes_good lo wb p v l ad m cap w hw hf1 hlo hls hl (hv1 v rfl) hl1 hk
  ·exact comes_bad lo wb p v l ad m cap w hw hlo (by omega) hl (hv1 v rfl) hl1 hk
theorem mulw_any (a b : Int) (ha : 0 <= a /\ a <= 1000) (hb : 0 <= b /\ b <= 1000) (w : World) (hj : Sx.J w) :
  Calls Tryz.prog 59 #[.int .u64 a, .int .u64 b] w fun e w' => e = .returned (.tuple #[.int .u64 0, .int .u64 (a * b)]) /\ Below w.heap.size w w' := by
 have key : Calls Tryz.prog 84 #[.int .u64 a, .int .u64 b] w fun e w' => e = .returned (.tuple #[.int .u64 0, .int .u64 (a * b)]) /\ Below w.heap.size w w' := by
  refine (Sx.pure_mul64 Sx.v1 Sx.p_mul64 [.int .u64 a, .int .u64 b] ⟨_, _, rfl, ⟨a, rfl, by omega, by omega⟩, _, _, rfl, ⟨b, rfl, by omega, by omega⟩, rfl⟩ trivial w hj).mono ?_
  rintro e w' ⟨v, rfl, ⟨hf, hpost⟩, hs⟩
  obtain ⟨vs, rfl, hv⟩ := hf
  obtain ⟨_, _, rfl, ⟨h, rfl, hh⟩, _, _, rfl, ⟨l, rfl, hl⟩, rfl⟩ := hv
  have hp : h * 18446744073709551616 + l = a * b := hpost
  have h3 : 0 <= a * b /\ a * b <= 1000000 := by
   refine ⟨Int.mul_nonneg ha.1 hb.1, ?_⟩
   have := Int.mul_le_mul ha.2 hb.2 hb.1 (by decide)
   omega
  have : h = 0 := by omega
  subst this
  have : l = a * b := by omega
  subst this
  exact ⟨rfl, hs.1⟩
 have HK := Lib.hid key
 clear key
 go_enter Tryz.func59, Tryz.ntmps59
 go_wp2_with (go_at_call 84; refine HK.out.mono ?_; rintro e w' ⟨rfl, hB⟩)
 go_ret2
 exact ⟨rfl, hB⟩
theorem fl_rep_get (a : Cel) : ∀ (n j : Nat), (fl (List.replicate n a))[j]? = if j < n * 3 then (#[Value.int .u8 a.k, Value.int .i32 a.n, Value.bool a.kn])[j % 3]? else none
 | 0, j => by simp [fl]
 | n + 1, j => by
  rw [List.replicate_succ]
  match j with
  | 0 => simp [fl]
  | 1 => simp [fl]; omega
  | 2 => simp [fl]; omega
  | j + 3 =>
   have ih := fl_rep_get a n j
   have e : (fl (a :: List.replicate n a))[j + 3]? = (fl (List.replicate n a))[j]? := rfl
   rw [e, ih, show (j + 3) % 3 = j % 3 by omega]
   by_cases c : j < n * 3
   ·rw [if_pos c, if_pos (by omega)]
   ·rw [if_neg c, if_neg (by omega)]
def zel : Cel := ⟨0, 0, false⟩
theorem made_eq (n : Nat) : madeCells (Value.agg #[.int .u8 0, .int .i32 0, .bool false]).cells (n * 3) = (fl (List.replicate n zel)).toArray := by
 apply Array.ext'
 apply List.ext_getElem?
 intro j
 rw [fl_rep_get]
 by_cases c : j < n * 3
 ·rw [if_pos c]
  have h3 : j % 3 = 0 \/ j % 3 = 1 \/ j % 3 = 2 := by omega
  have hc : (Value.agg #[.int .u8 0, .int .i32 0, .bool false]).cells = #[.int .u8 0, .int .i32 0, .bool false] := rfl
  simp only [madeCells, hc]
  rcases h3 with h | h | h <;> simp [c, h, zel]
 ·rw [if_neg c]
  simp [madeCells]; omega
theorem run_copy_rowS {P : Program} (k : Nat) (w : World) (dT sT ty elem : TypeId) (g o dLen dCap : Nat) (a : Addr) (sLen sCap n : Nat) (cur : Array Value) (t : TypeId) (cs : List Value)
  (hu : P.underlying dT = some (.slice elem)) (hs : (P.info? elem).map (·.size) = some k)
  (hg : w.heap[g]? = some (.cells cur t (0, 0))) (hm : Nat.min sLen dLen = n) (hn : cs.length = n * k)
  (hsrc : ∀ j v, cs[j]? = some v -> w.cell? (a.add j) = some v) (hfit : o + cs.length <= cur.size) (h1 : ∀ v ∈ cs, v.oneCell' = true) :
  (Builtin.copy_ #[dT, sT] ty #[.slice (some ⟨g, o, none⟩) dLen dCap, .slice (some a) sLen sCap]).run P w =
   .ok (goInt n) (w.setRow g (cur.toList.take o ++ cs ++ cur.toList.drop (o + cs.length)).toArray) := by
 have hl := run_loadCells_list (P := P) w a cs hsrc
 have hst := run_storeCells_at P g o t cs 0 cur w hg (by simpa using hfit) h1
 cases hq : P.info? elem with
 | none => simp [hq] at hs
 | some i =>
  have hi : i.size = k := by simpa [hq] using hs
  simp [Builtin.copy_, run_underlying hu, Builtin.lenOf, Builtin.firstCells, sizeOf, typeInfo, hq, hi, hm, <- hn, hl, hst]
def half (ins n : Nat) : List Cel := List.replicate n (real 0) ++ List.replicate (ins - n) zel
theorem half_fill {ins n k : Nat} (h : n + k <= ins) : (fl (half ins n)).take (n * 3) ++ fl (List.replicate k (real 0)) ++ (fl (half ins n)).drop (n * 3 + (fl (List.replicate k (real 0))).length) = fl (half ins (n + k)) := by
 rw [fl_len, List.length_replicate, show n * 3 + k * 3 = (n + k) * 3 by omega, <- fl_take, <- fl_drop, <- fl_app, <- fl_app]
 congr 1
 unfold half
 rw [List.take_append_of_le_length (by simp), List.take_of_length_le (by simp), List.drop_append, List.drop_of_length_le (by simp), List.length_replicate, List.drop_replicate, List.nil_append, <- List.replicate_append_replicate]
 rw [show ins - n - (n + k - n) = ins - (n + k) by omega]
theorem half_all (ins : Nat) : half ins ins = List.replicate ins (real 0) := by unfold half; rw [Nat.sub_self, List.replicate_zero, List.append_nil]
structure Hlf (w V : World) (g ins n : Nat) : Prop where
 c : V.heap[g]? = some (.cells (fl (half ins n)).toArray 72 (0, 0))
 b : Below w.heap.size w V
 g : w.heap.size <= g
theorem half_cells {w V : World} {g ins n : Nat} (h : Hlf w V g ins n) {j : Nat} {u : Value} (hu : (fl (half ins n))[j]? = some u) : V.cell? ⟨g, j, none⟩ = some u := by
 simp [World.cell?, h.c, hu]
theorem info72s : (Tryz.prog.info? 72).map (·.size) = some 3 := by
 obtain ⟨i0, hin, hz0, hz1, hz2⟩ := info_parts info72
 rw [hin]; simp [hz1]
theorem half_copy {w V : World} {g ins n k : Nat} (ty : TypeId) (h : Hlf w V g ins n) (ad : Addr) (sLen sCap dLen dCap : Nat) (hm : Nat.min sLen dLen = k) (hk : n + k <= ins) (hsrc : ∀ j u, (fl (List.replicate k (real 0)))[j]? = some u -> V.cell? (ad.add j) = some u) :
  ∃ V', (Builtin.copy_ #[66, 66] ty #[.slice (some ⟨g, n * 3, none⟩) dLen dCap, .slice (some ad) sLen sCap]).run Tryz.prog V = .ok (goInt k) V' /\ Hlf w V' g ins (n + k) := by
 have hlh : (fl (half ins n)).length = ins * 3 := by rw [fl_len]; unfold half; simp; omega
 refine ⟨_, run_copy_rowS 3 V _ _ ty 72 g (n * 3) dLen dCap ad sLen sCap k _ _ (fl (List.replicate k (real 0))) Tryz.underlying66 info72s h.c hm (by rw [fl_len]; simp) hsrc (by rw [fl_len]; simp [hlh]; omega) (fl_one _), ?_, below_setRow h.b h.g _, h.g⟩
 have e := half_fill (ins := ins) (n := n) (k := k) hk
 rw [setRow_heap V g _ _ _ _ h.c]
 simp only [List.toList_toArray]
 rw [e]
theorem half_new {w W : World} (h : Below w.heap.size w W) (ins : Nat) : Hlf w (W.alloc (.cells (fl (half ins 0)).toArray 72)) W.heap.size ins 0 :=
 ⟨Array.getElem?_push_size, h.alloc h.size _, h.size⟩
theorem Hlf.drew {w V : World} {g ins n : Nat} (h : Hlf w V g ins n) : Hlf w V.drew g ins n := ⟨h.c, h.b.drew, h.g⟩
theorem half_src {W : World} {xb : Nat} (ins : Nat) (h0 : W.cell? ⟨xb, 0, none⟩ = some (.int .u8 1)) (h1 : W.cell? ⟨xb, 1, none⟩ = some (.int .i32 0)) (h2 : W.cell? ⟨xb, 2, none⟩ = some (.bool false)) (hl : xb < W.heap.size) :
  ∀ (j : Nat) (u : Value), (fl (List.replicate (Nat.min 1 ins) (real 0)))[j]? = some u -> (W.alloc (.cells (fl (half ins 0)).toArray 72)).cell? ((⟨xb, 0, none⟩ : Addr).add j) = some u := by
 intro j u hu
 have hB : Below W.heap.size W (W.alloc (.cells (fl (half ins 0)).toArray 72)) := (Below.refl _ _).alloc (Nat.le_refl _) _
 rw [Addr.add_lit, Nat.zero_add, hB.cell (p := ⟨xb, j, none⟩) hl]
 rw [fl_rep_get] at hu
 split at hu
 ·rename_i hj
  have : Nat.min 1 ins <= 1 := Nat.min_le_left _ _
  have h3 : j = 0 \/ j = 1 \/ j = 2 := by omega
  rcases h3 with rfl | rfl | rfl
  ·cases hu; exact h0
  ·cases hu; exact h1
  ·cases hu; exact h2
 ·cases hu
set_option maxHeartbeats 4000000 in
theorem repeat_any (ins xb : Nat) (hi : ins <= 100) (w : World) (hx0 : w.cell? ⟨xb, 0, none⟩ = some (.int .u8 1)) (hx1 : w.cell? ⟨xb, 1, none⟩ = some (.int .i32 0)) (hx2 : w.cell? ⟨xb, 2, none⟩ = some (.bool false)) (hxl : xb < w.heap.size) (hj : Sx.J w) :
  Calls Tryz.prog 27 #[.slice (some ⟨xb, 0, none⟩) 1 1, .int .i64 ins] w fun e w' => ∃ s, e = .returned s /\ StkAt w.heap.size w' s (List.replicate ins (real 0)) /\ Below w.heap.size w w' := by
 obtain ⟨i0, hin, hz0, hz1, hz2⟩ := info_parts info72
 have hmk : ∀ V : World, (Instr.makeSlice 66 (.int .i64 (ins : Int)) (.int .i64 (ins : Int))).run Tryz.prog V = .ok (.slice (some ⟨V.heap.size, 0, none⟩) ins ins) (V.alloc (.cells (fl (half ins 0)).toArray 72)) := by
  intro V
  have := run_make (P := Tryz.prog) V 66 72 i0 _ Tryz.underlying66 hin hz0 .i64 .i64 ins ins (by omega) (Int.le_refl _) (by rw [hz2]; omega) (by omega)
  rw [this, hz1]
  simp only [Int.toNat_natCast, made_eq]
  unfold half
  simp
 have hins : (ins : Int) <= 100 := by omega
 go_enter Tryz.func27, Tryz.ntmps27
 go_wp2_with (go_at_call 59; refine (mulw_any _ _ (by constructor <;> simp) (by constructor <;> omega) _ hj).mono ?_; rintro e w2 ⟨rfl, hB2⟩; rw [Int.one_mul]; have hh := half_new hB2 ins; obtain ⟨V1, hc1, hH1⟩ := half_copy 3 hh ⟨xb, 0, none⟩ 1 1 ins ins rfl (by have : Nat.min 1 ins <= ins := Nat.min_le_right _ _; omega) (half_src ins ((hB2.cell (p := ⟨xb, 0, none⟩) hxl).trans hx0) ((hB2.cell (p := ⟨xb, 1, none⟩) hxl).trans hx1) ((hB2.cell (p := ⟨xb, 2, none⟩) hxl).trans hx2) (Nat.lt_of_lt_of_le hxl hB2.size)); rw [Nat.zero_mul] at hc1)
 have hk0 : 0 < ins -> 0 < Nat.min 1 ins := fun h => by show 0 < min 1 ins; omega
 have hk1 : Nat.min 1 ins <= ins := Nat.min_le_right _ _
 rw [Nat.zero_add] at hH1
 generalize Nat.min 1 ins = k1 at hk0 hk1 hH1 ⊢
 generalize hgg : w2.heap.size = g at hH1 ⊢
 have HH1 := Lib.hid hH1
 clear hH1 hc1 hh
 go_loopw [8] (fun i V => ∃ n : Nat, n <= ins /\ (0 < ins -> 0 < n) /\ i = .int .i64 n /\ Hlf w V g ins n) (fun i _ => ins - (intOf i).toNat)
 case atStart => exact ⟨k1, hk1, hk0, rfl, HH1.out⟩
 case round =>
  obtain ⟨n, hn, hn0, rfl, hH⟩ := hrel
  have HH := Lib.hid hH
  clear hH
  by_cases hlt : n < ins
  ·have hn1 : 0 < n := hn0 (by omega)
   obtain ⟨k, hkm, hk, hkp, hkn⟩ : ∃ k, Nat.min n (ins - n) = k /\ n + k <= ins /\ 0 < k /\ k <= n := ⟨_, rfl, by show n + min n (ins - n) <= ins; omega, by show 0 < min n (ins - n); omega, Nat.min_le_left _ _⟩
   obtain ⟨V2, hc2, hH2⟩ := half_copy (V := wr.drew) 3 (HH.out.drew) ⟨g, 0, none⟩ n ins (ins - n) (ins - n) hkm hk (fun j u hu => by
    rw [Addr.add_lit, Nat.zero_add]
    have hj := (List.getElem?_eq_some_iff.1 hu).1
    rw [fl_len, List.length_replicate] at hj
    refine half_cells HH.out.drew ?_
    unfold half
    rw [fl_app, List.getElem?_append_left (by rw [fl_len, List.length_replicate]; omega)]
    rw [fl_rep_get] at hu ⊢
    rw [if_pos (by omega)] at hu ⊢
    exact hu)
   have HH2 := Lib.hid hH2
   clear hH2 hkm
   go_wp2
   go_region
   all_goals go_wp2
   all_goals go_roundw
   case rel => exact ⟨n + k, hk, fun _ => by omega, by go_num, HH2.out⟩
   case measure => simp [intOf]; omega
  ·obtain rfl : n = ins := by omega
   go_wp2
   go_ret
   refine ⟨_, rfl, ?_, HH.out.b⟩
   have hl : (fl (half n n)).length = n * 3 := by rw [half_all, fl_len]; simp
   refine ⟨some ⟨g, 0, none⟩, n, by simp, (fun e => by cases e), .inr ⟨g, 0, rfl, HH.out.g, (Array.getElem?_eq_some_iff.1 HH.out.c).1, fun j u hu => ?_⟩⟩
   rw [Nat.zero_add]
   rw [<- half_all] at hu
   exact half_cells HH.out hu
theorem assert_errno (er : Int) (V : World) : (Instr.typeAssert (.iface 26 (.int .i64 er)) 20 26 true).run Tryz.prog V = .ok (.tuple #[.int .i64 er, .bool true]) V := by
 have hu := Tryz.underlying26
 simp [Instr.typeAssert, run_underlying hu, go_sem]
set_option maxHeartbeats 4000000 in
theorem catch_pan (kp ep : Addr) (er : Int) (s : Value) (e0 : Int) (older : List PanicEntry) (w : World) (hk : w.cell? kp = some s) (hkz : w.frozen? kp = false) (he : w.cell? ep = some (.int .i64 e0)) (hez : w.frozen? ep = false) (hne : kp ≠ ep) :
  CallsD Tryz.prog 25 #[.pointer (some kp), .pointer (some ep)] (.panicking ({ v := .iface 26 (.int .i64 er), recovered := false } :: older)) w fun e u' w' =>
   e = .returned (.tuple #[]) /\ u' = .panicking ({ v := .iface 26 (.int .i64 er), recovered := true } :: older) /\ w' = (w.setCell kp (.slice none 0 0)).setCell ep (.int .i64 er) := by
 refine callsD_of_wpS Tryz.func25 rfl fun c₀ cs hu => ?_
 apply wpS_seq
 apply wpS_region
 simp [wpOpsS, go_sem, recoverD, hu, Tryz.ntmps25, Exit.thenS]
 have hta := assert_errno er
 refine wpS_of_wp ?_
 go_wp2
 simp [bodyPostS, results, Tryz.f25]
set_option maxHeartbeats 4000000 in
theorem catch_idle (kp ep : Addr) (w : World) :
  CallsD Tryz.prog 25 #[.pointer (some kp), .pointer (some ep)] .returning w fun e u' w' => e = .returned (.tuple #[]) /\ u' = .returning /\ w' = w := by
 refine callsD_of_wpS Tryz.func25 rfl fun c₀ cs hu => ?_
 apply wpS_seq
 apply wpS_region
 simp [wpOpsS, go_sem, recoverD, hu, Tryz.ntmps25, Exit.thenS]
 refine wpS_of_wp ?_
 go_wp2
 cases c₀
 simp_all [bodyPostS, results, Tryz.f25]
set_option maxHeartbeats 400000 in
theorem clip_any (ad : Option Addr) (m cap : Nat) (hm : m <= cap) (w : World) :
  Calls Tryz.prog 30 #[.slice ad m cap] w fun e w' => e = .returned (.slice ad m m) /\ w' = w := by
 cases ad with
 | none =>
  go_enter Tryz.func30, Tryz.ntmps30
  go_wp2
  go_ret
  exact ⟨rfl, rfl⟩
 | some p =>
  go_enter Tryz.func30, Tryz.ntmps30
  go_wp2
  go_ret
  exact ⟨rfl, rfl⟩
theorem loop_take {N : Num} {c : List Cod} {k : Nat} {x : Cod} {W0 Wk : Ways} (hx : c[k]? = some x) (h : loopT N 0 (c.take k) W0 = .ok Wk) : loopT N 0 (c.take (k + 1)) W0 = Mach.stepT N k x Wk := by
 have hk := (List.getElem?_eq_some_iff.1 hx).1
 rw [List.take_succ, hx, Option.toList_some, loop_app, h, ok_bind, List.length_take, show 0 + min k c.length = k by omega]
 simp only [loopT, bind, Except.bind]
 cases Mach.stepT N k x Wk <;> rfl
theorem loop_err {N : Num} {c : List Cod} {k : Nat} {x : Cod} {W0 Wk : Ways} {er : Int} (hx : c[k]? = some x) (h : loopT N 0 (c.take k) W0 = .ok Wk) (he : Mach.stepT N k x Wk = .error er) : loopT N 0 c W0 = .error er := by
 have h1 := loop_take hx h
 rw [he] at h1
 have : c = c.take (k + 1) ++ c.drop (k + 1) := (List.take_append_drop _ _).symm
 rw [this, loop_app, h1]
 rfl
theorem step_none {N : Num} {k : Nat} {x : Cod} {W : Ways} (h : W k = none) : Mach.stepT N k x W = .ok W := by unfold Mach.stepT; rw [h]
theorem step_e1 {N : Num} {k : Nat} {x : Cod} {W : Ways} {s : List Cel} {er : Int} (h : W k = some s) (ha : aft N x s = .error er) : Mach.stepT N k x W = .error er := by
 unfold Mach.stepT; rw [h]; simp only [ha]; rfl
theorem step_e2 {N : Num} {k : Nat} {x : Cod} {W : Ways} {s l : List Cel} {er : Int} (h : W k = some s) (ha : aft N x s = .ok l) (hg : goes x = true) (hc : comes (W x.n.toNat) l = .error er) : Mach.stepT N k x W = .error er := by
 unfold Mach.stepT; rw [h]; simp only [ha, ok_bind, hg, if_true, hc]; rfl
theorem step_e3 {N : Num} {k : Nat} {x : Cod} {W W1 : Ways} {s l : List Cel} {er : Int} (h : W k = some s) (ha : aft N x s = .ok l) (hg : goes x = true -> ∃ v, comes (W x.n.toNat) l = .ok v /\ W1 = W.set x.n.toNat v) (hn : goes x = false -> W1 = W) (h3 : x.op ≠ 3) (hc : comes (W1 (k + 1)) l = .error er) : Mach.stepT N k x W = .error er := by
 rw [stepT_of h ha hg hn, if_pos h3, hc]; rfl
theorem step_ok {N : Num} {k : Nat} {x : Cod} {W W1 : Ways} {s l : List Cel} {v : Option (List Cel)} (h : W k = some s) (ha : aft N x s = .ok l) (hg : goes x = true -> ∃ v, comes (W x.n.toNat) l = .ok v /\ W1 = W.set x.n.toNat v) (hn : goes x = false -> W1 = W) (h3 : x.op ≠ 3) (hc : comes (W1 (k + 1)) l = .ok v) : Mach.stepT N k x W = .ok (W1.set (k + 1) v) := by
 rw [stepT_of h ha hg hn, if_pos h3, hc]; rfl
theorem step_ok3 {N : Num} {k : Nat} {x : Cod} {W W1 : Ways} {s l : List Cel} (h : W k = some s) (ha : aft N x s = .ok l) (hg : goes x = true -> ∃ v, comes (W x.n.toNat) l = .ok v /\ W1 = W.set x.n.toNat v) (hn : goes x = false -> W1 = W) (h3 : x.op = 3) : Mach.stepT N k x W = .ok W1 := by
 rw [stepT_of h ha hg hn, if_neg (by simp [h3])]
theorem merge_gd {v l : List Cel} (h : All l) : All (merge v l) := by
 intro a ha
 unfold merge at ha
 rw [List.mem_iff_getElem?] at ha
 obtain ⟨i, hi⟩ := ha
 rw [List.getElem?_zipWith] at hi
 match h1 : v[i]?, h2 : l[i]? with
 | none, _ => rw [h1] at hi; cases hi
 | some _, none => rw [h1, h2] at hi; cases hi
 | some x, some y =>
  rw [h1, h2] at hi
  cases hi
  have g := h y (List.mem_of_getElem? h2)
  exact ⟨fun q => g.kn (by simp only [Bool.and_eq_true] at q; exact q.1.1), g.b, g.r, g.4⟩
theorem comes_gd {w u : Option (List Cel)} {l : List Cel} (h : comes w l = .ok u) (hl : All l) (h100 : l.length <= 100) : ∀ s, u = some s -> All s /\ s.length <= 100 := by
 intro s hs
 subst hs
 cases w with
 | none => cases h; exact ⟨hl, h100⟩
 | some v =>
  unfold comes at h
  by_cases c : v.map (·.k) = l.map (·.k)
  ·simp only [if_pos c] at h; cases h; exact ⟨merge_gd hl, by unfold merge; simp; omega⟩
  ·simp only [if_neg c] at h; cases h
structure TE (w V : World) (mb wb len n : Nat) (W : Ways) : Prop where
 b : Below w.heap.size w V
 kc : V.cell? ⟨w.heap.size, 0, none⟩ = some (.slice none 0 0)
 kz : V.frozen? ⟨w.heap.size, 0, none⟩ = false
 ec : V.cell? ⟨w.heap.size + 1, 0, none⟩ = some (.int .i64 0)
 ez : V.frozen? ⟨w.heap.size + 1, 0, none⟩ = false
 m : MapO oRd V mb n opG
 ww : ∀ j, j <= len -> WayC (wb + 1) V wb (j * 2) (W j)
 wz : ∀ i, V.frozen? ⟨wb, i, none⟩ = false
 ml : w.heap.size + 1 < mb
 mw : mb < wb
 wl : wb < V.heap.size
 gd : ∀ j s, W j = some s -> All s /\ s.length <= 100
 j : Sx.J V
section
variable {w V V' : World} {mb wb len n : Nat} {W : Ways}
theorem WayC.on {lo wb p : Nat} {V V' : World} {o : Option (List Cel)} (h : WayC lo V wb p o) (h0 : V'.cell? ⟨wb, p, none⟩ = V.cell? ⟨wb, p, none⟩) (h1 : V'.cell? ⟨wb, p + 1, none⟩ = V.cell? ⟨wb, p + 1, none⟩) (hs : V.heap.size <= V'.heap.size) (hb : ∀ k, lo <= k -> k < V.heap.size -> V'.heap[k]? = V.heap[k]?) : WayC lo V' wb p o := by
 cases o with
 | none => exact ⟨h0.trans h.1, h1.trans h.2⟩
 | some cs =>
  obtain ⟨a, s, b, c⟩ := h
  exact ⟨h0.trans a, s, h1.trans b, c.on hs hb⟩
theorem TE.kB (h : TE w V mb wb len n W) (hB : Below V.heap.size V V') : TE w V' mb wb len n W := by
 have l1 := h.ml
 have l2 := h.mw
 have l3 := h.wl
 have k1 : w.heap.size < V.heap.size := by omega
 have k2 : w.heap.size + 1 < V.heap.size := by omega
 exact ⟨bstep h.b hB, (hB.cell (p := ⟨w.heap.size, 0, none⟩) k1).trans h.kc, (hB.frozen (p := ⟨w.heap.size, 0, none⟩) k1).trans h.kz, (hB.cell (p := ⟨w.heap.size + 1, 0, none⟩) k2).trans h.ec, (hB.frozen (p := ⟨w.heap.size + 1, 0, none⟩) k2).trans h.ez,
  mapO_of h.m (hB.block mb (by omega)), fun j hj => (h.ww j hj).on (hB.cell (p := ⟨wb, j * 2, none⟩) h.wl) (hB.cell (p := ⟨wb, j * 2 + 1, none⟩) h.wl) hB.size (fun k _ hk => hB.block k hk),
  fun i => (hB.frozen (p := ⟨wb, i, none⟩) h.wl).trans (h.wz i), l1, l2, Nat.lt_of_lt_of_le h.wl hB.size, h.gd, Sx.J_kept hB h.j⟩
theorem TE.kW (h : TE w V mb wb len n W) {i : Nat} {o : Option (List Cel)} (hw : WayC (wb + 1) V' wb (i * 2) o) (hr : Wrt V V' wb (i * 2)) (hg : ∀ s, o = some s -> All s /\ s.length <= 100) : TE w V' mb wb len n (W.set i o) := by
 have l1 := h.ml
 have l2 := h.mw
 have l3 := h.wl
 have k1 : w.heap.size < V.heap.size := by omega
 have k2 : w.heap.size + 1 < V.heap.size := by omega
 have hj := J.pos h.j
 refine ⟨⟨hr.os.trans h.b.os, hr.tape.trans h.b.tape, hr.output.trans h.b.output, Nat.le_trans h.b.size hr.size, fun k hk => (hr.block k (Nat.lt_of_lt_of_le hk h.b.size) (by omega)).trans (h.b.block k hk)⟩,
  (World.cell?_of_block (w := V) (a := ⟨w.heap.size, 0, none⟩) (hr.block _ k1 (by show w.heap.size ≠ wb; omega))).trans h.kc, (World.frozen?_of_block (w := V) (a := ⟨w.heap.size, 0, none⟩) (hr.block _ k1 (by show w.heap.size ≠ wb; omega))).trans h.kz,
  (World.cell?_of_block (w := V) (a := ⟨w.heap.size + 1, 0, none⟩) (hr.block _ k2 (by show w.heap.size + 1 ≠ wb; omega))).trans h.ec, (World.frozen?_of_block (w := V) (a := ⟨w.heap.size + 1, 0, none⟩) (hr.block _ k2 (by show w.heap.size + 1 ≠ wb; omega))).trans h.ez,
  mapO_of h.m (hr.block mb (by omega) (by omega)), fun j hj => ?_, fun i => (hr.frozen i).trans (h.wz i), l1, l2, Nat.lt_of_lt_of_le h.wl hr.size, fun j s hs => ?_, J.j h.j (hr.block 0 hj (by omega))⟩
 ·unfold Ways.set
  by_cases c : j = i
  ·subst c; rw [if_pos rfl]; exact hw
  ·rw [if_neg c]
   exact (h.ww j hj).on (hr.cell _ (by omega) (by omega)) (hr.cell _ (by omega) (by omega)) hr.size (fun k hk hk2 => hr.block k hk2 (by omega))
 ·unfold Ways.set at hs
  by_cases c : j = i
  ·subst c; rw [if_pos rfl] at hs; exact hg s hs
  ·rw [if_neg c] at hs; exact h.gd j s hs
end
def KindsAt (lo : Nat) (V : World) (v : Value) (ks : List Int) : Prop :=
 ∃ ad cap, v = .slice ad ks.length cap /\ (ad = none -> ks.length = 0 /\ cap = 0) /\ (ks = [] \/ ∃ b off, ad = some ⟨b, off, none⟩ /\ lo <= b /\ b < V.heap.size /\ ∀ j x, ks[j]? = some x -> V.cell? ⟨b, off + j, none⟩ = some (.int .u8 x))
def TypeP (c : List Cod) (ins : Nat) (w : World) (e : Ending) (w' : World) : Prop :=
 (∀ s, typeW NN c ins = .ok s -> (∃ v, e = .returned (.tuple #[v, .int .i64 0]) /\ KindsAt w.heap.size w' v (s.map (·.k))) /\ Below w.heap.size w w') /\
 ∀ er, typeW NN c ins = .error er -> e = .returned (.tuple #[.slice none 0 0, .int .i64 er]) /\ Below w.heap.size w w'
theorem typeP_err {c : List Cod} {ins : Nat} {w w' : World} {er : Int} (h : typeW NN c ins = .error er) (hB : Below w.heap.size w w') : TypeP c ins w (.returned (.tuple #[.slice none 0 0, .int .i64 er])) w' :=
 ⟨fun s e => (by rw [h] at e; cases e), fun er' e => by rw [h] at e; cases e; exact ⟨rfl, hB⟩⟩
theorem typeP_ok {c : List Cod} {ins : Nat} {w w' : World} {s : List Cel} {v : Value} (h : typeW NN c ins = .ok s) (hk : KindsAt w.heap.size w' v (s.map (·.k))) (hB : Below w.heap.size w w') : TypeP c ins w (.returned (.tuple #[v, .int .i64 0])) w' :=
 ⟨fun s' e => by rw [h] at e; cases e; exact ⟨⟨v, rfl, hk⟩, hB⟩, fun er' e => by rw [h] at e; cases e⟩
end Go.Proofs.YtcjllibeaiofpaaGreatDoor
