/-
  Machines: the laws' small functions and examples, walked.
-/
import Derived.Test.YtcjllibeaiofpaaGreatDoorHj
import Derived.Laws.StructEq
set_option linter.all false
set_option maxRecDepth 100000
namespace Go.Proofs.YtcjllibeaiofpaaGreatDoor
open Go.RowKit Mach
theorem lop_any (o : Int) (w : World) : Calls Tryz.prog 15 #[.int .u8 o] w fun e w' => e = .returned (.agg #[.int .u8 o, .int .i32 0]) /\ Below w.heap.size w w' := by
 go_enter Tryz.func15, Tryz.ntmps15
 go_wp2
 refine bodyPost_ret (v := .agg #[.int .u8 o, .int .i32 0]) (by simp [results, Tryz.f15, go_sem]) rfl ?_
 exact ⟨rfl, by first | exact Below.refl _ _ | exact (Below.refl _ _).alloc (Nat.le_refl _) _⟩
theorem lnum_any (n : Int) (w : World) : Calls Tryz.prog 14 #[.int .i32 n] w fun e w' => e = .returned (.agg #[.int .u8 0, .int .i32 n]) /\ Below w.heap.size w w' := by
 go_enter Tryz.func14, Tryz.ntmps14
 go_wp2
 refine bodyPost_ret (v := .agg #[.int .u8 0, .int .i32 n]) (by simp [results, Tryz.f14, go_sem]) rfl ?_
 exact ⟨rfl, by first | exact Below.refl _ _ | exact (Below.refl _ _).alloc (Nat.le_refl _) _⟩
theorem neq_val (a b c d : Int) (V : World) : (binOp .neq 34 (.agg #[.int .u8 a, .int .i32 b]) (.agg #[.int .u8 c, .int .i32 d])).run Tryz.prog V = .ok (.bool (!(a == c && b == d))) V := by
 have hS : Tryz.prog.underlying 34 = some (.struct (Tryz.prog.fieldsOf 34)) := by kernel_rfl
 have hp : Tryz.prog.stoodInHeld 34 = false := by kernel_rfl
 have u1 := Tryz.underlying32
 have u2 := Tryz.underlying21
 rw [run_neq_struct, show (10000 : Nat) = 9999 + 1 from rfl, run_equalIn_agg V 9999 34 _ _ hS hp]
 simp only [Program.fieldsOf, Tryz.underlying34]
 go_simp
 by_cases h1 : a = c <;> by_cases h2 : b = d <;> simp [h1, h2]
theorem gd_val : Tryz.prog.eqGuardType Tryz.prog.depth 34 = false := by kernel_rfl
def kn (a : Cel) : Int × Int := (a.k, a.n)
def Vals (n₀ : Nat) (V : World) (ad : Option Addr) (vs : List Cel) : Prop :=
 vs = [] \/ ∃ b off, ad = some ⟨b, off, none⟩ /\ b < n₀ /\ ∀ j a, vs[j]? = some a -> V.cell? ⟨b, off + j * 2, none⟩ = some (.int .u8 a.k) /\ V.cell? ⟨b, off + j * 2 + 1, none⟩ = some (.int .i32 a.n)
theorem Vals.on {w W : World} {ad : Option Addr} {vs : List Cel} (h : Vals w.heap.size w ad vs) (hB : Below w.heap.size w W) : Vals W.heap.size W ad vs := by
 rcases h with rfl | ⟨b, off, e, hb, hc⟩
 ·exact .inl rfl
 ·exact .inr ⟨b, off, e, Nat.lt_of_lt_of_le hb hB.size, fun j x hx => ⟨(hB.cell (p := ⟨b, off + j * 2, none⟩) hb).trans (hc j x hx).1, (hB.cell (p := ⟨b, off + j * 2 + 1, none⟩) hb).trans (hc j x hx).2⟩⟩
theorem ValsAt.vals {lo : Nat} {V : World} {v : Value} {vs : List Cel} (h : ValsAt lo V v vs) : ∃ g cap, v = .slice (some ⟨g, 0, none⟩) vs.length cap /\ Vals V.heap.size V (some ⟨g, 0, none⟩) vs := by
 obtain ⟨g, cap, e, _, _, hl, hc⟩ := h
 exact ⟨g, cap, e, .inr ⟨g, 0, rfl, hl, fun j a ha => by rw [Nat.zero_add]; exact hc j a ha⟩⟩
theorem ValsAt.vals2 {lo : Nat} {V : World} {v : Value} {vs : List Cel} (h : ValsAt lo V v vs) : ∃ g cap, v = .slice (some ⟨g, 0, none⟩) vs.length cap /\ vs.length <= cap /\ Vals V.heap.size V (some ⟨g, 0, none⟩) vs := by
 obtain ⟨g, cap, e, h1, _, hl, hc⟩ := h
 exact ⟨g, cap, e, h1, .inr ⟨g, 0, rfl, hl, fun j a ha => by rw [Nat.zero_add]; exact hc j a ha⟩⟩
theorem kn_ext {xs ys : List Cel} {k : Nat} {x y : Cel} (h : ∀ j a b, j < k -> xs[j]? = some a -> ys[j]? = some b -> kn a = kn b) (hx : xs[k]? = some x) (hy : ys[k]? = some y) (e : kn x = kn y) : ∀ j a b, j < k + 1 -> xs[j]? = some a -> ys[j]? = some b -> kn a = kn b := by
 intro j a b hj ha hb
 by_cases c : j = k
 ·subst c; rw [hx] at ha; rw [hy] at hb; cases ha; cases hb; exact e
 ·exact h j a b (by omega) ha hb
theorem kn_all {xs ys : List Cel} (hl : xs.length = ys.length) (h : ∀ j a b, j < xs.length -> xs[j]? = some a -> ys[j]? = some b -> kn a = kn b) : xs.map kn = ys.map kn := by
 refine List.ext_getElem? fun j => ?_
 rw [List.getElem?_map, List.getElem?_map]
 by_cases hj : j < xs.length
 ·have h1 := List.getElem?_eq_getElem hj
  have h2 := List.getElem?_eq_getElem (l := ys) (i := j) (by omega)
  rw [h1, h2]
  simp only [Option.map_some]
  rw [h j _ _ hj h1 h2]
 ·rw [List.getElem?_eq_none (by omega), List.getElem?_eq_none (by omega)]
theorem kn_ne {xs ys : List Cel} {j : Nat} {a b : Cel} (ha : xs[j]? = some a) (hb : ys[j]? = some b) (h : ¬ kn a = kn b) : ¬ xs.map kn = ys.map kn := by
 intro e
 have := congrArg (fun l => l[j]?) e
 simp only [List.getElem?_map, ha, hb, Option.map_some, Option.some.injEq] at this
 exact h this
theorem vals_some {n₀ : Nat} {W : World} {ad : Option Addr} {vs : List Cel} (h : Vals n₀ W ad vs) {i : Nat} {a : Cel} (ha : vs[i]? = some a) : ∃ b off, ad = some ⟨b, off, none⟩ /\ b < n₀ /\ W.cell? ⟨b, off + i * 2, none⟩ = some (.int .u8 a.k) /\ W.cell? ⟨b, off + i * 2 + 1, none⟩ = some (.int .i32 a.n) := by
 rcases h with rfl | ⟨b, off, e, hb, hc⟩
 ·simp at ha
 ·exact ⟨b, off, e, hb, hc i a ha⟩
set_option maxHeartbeats 4000000 in
theorem same_any (xs ys : List Cel) (a1 a2 : Option Addr) (m1 m2 c1 c2 : Nat) (w : World) (h1 : m1 = xs.length) (h2 : m2 = ys.length) (hx : Vals w.heap.size w a1 xs) (hy : Vals w.heap.size w a2 ys) (hl : m1 <= 2000) (hl2 : m2 <= 2000) :
  Calls Tryz.prog 31 #[.slice a1 m1 c1, .slice a2 m2 c2] w fun e w' => e = .returned (.bool (decide (xs.map kn = ys.map kn))) /\ Below w.heap.size w w' := by
 have H1 := Lib.hid h1
 have H2 := Lib.hid h2
 have HX := Lib.hid hx
 have HY := Lib.hid hy
 clear h1 h2 hx hy
 by_cases hne : m1 = m2
 case neg =>
  have hb : ((m1 : Int) != (m2 : Int)) = true := by simp; omega
  have HF := Lib.hid (show decide (xs.map kn = ys.map kn) = false by
   simp only [decide_eq_false_iff_not]
   intro e
   have := congrArg List.length e
   simp at this
   have := H1.out
   have := H2.out
   omega)
  go_enter Tryz.func31, Tryz.ntmps31
  go_wp2
  go_ret
  exact ⟨congrArg (fun b => Ending.returned (Value.bool b)) HF.out.symm, Below.refl _ _⟩
 subst hne
 go_enter Tryz.func31, Tryz.ntmps31
 go_wp2
 go_loopw [5] (fun i V => ∃ k : Nat, k <= m1 /\ i = .int .i64 k /\ (∀ j a b, j < k -> xs[j]? = some a -> ys[j]? = some b -> kn a = kn b) /\ Below w.heap.size w V) (fun i _ => m1 - (intOf i).toNat)
 case atStart => exact ⟨0, by omega, rfl, fun j a b h => absurd h (by omega), Below.refl _ _⟩
 case round =>
  obtain ⟨k, hk, rfl, hpre, hB⟩ := hrel
  have HP := Lib.hid hpre
  clear hpre
  by_cases hlt : k < m1
  ·obtain ⟨x, hx⟩ : ∃ x, xs[k]? = some x := ⟨_, List.getElem?_eq_getElem (by have := H1.out; omega)⟩
   obtain ⟨y, hy⟩ : ∃ y, ys[k]? = some y := ⟨_, List.getElem?_eq_getElem (by have := H2.out; omega)⟩
   obtain ⟨b1, o1, rfl, hb1, p0, p1⟩ := vals_some (HX.out.on hB) hx
   obtain ⟨b2, o2, rfl, hb2, q0, q1⟩ := vals_some (HY.out.on hB) hy
   obtain ⟨xk, xn, xkn⟩ := x
   obtain ⟨yk, yn, ykn⟩ := y
   simp only at p0 p1 q0 q1
   have HXK := Lib.hid hx
   have HYK := Lib.hid hy
   clear hx hy
   have hgd := gd_val
   by_cases e : xk = yk /\ xn = yn
   ·obtain ⟨rfl, rfl⟩ := e
    have hq : ∀ V : World, (binOp .neq 34 (.agg #[.int .u8 xk, .int .i32 xn]) (.agg #[.int .u8 xk, .int .i32 xn])).run Tryz.prog V = .ok (.bool false) V := fun V => by rw [neq_val]; simp
    go_wp2
    go_quiet (fail)
    go_wp2
    go_roundw
    case rel => exact ⟨k + 1, by omega, by go_num, kn_ext HP.out HXK.out HYK.out rfl, below_drewN hB _⟩
    case measure => simp [intOf]; omega
   ·have hq : ∀ V : World, (binOp .neq 34 (.agg #[.int .u8 xk, .int .i32 xn]) (.agg #[.int .u8 yk, .int .i32 yn])).run Tryz.prog V = .ok (.bool true) V := fun V => by
     rw [neq_val]
     have : (xk == yk && xn == yn) = false := by
      cases h : (xk == yk && xn == yn) with
      | false => rfl
      | true => simp at h; exact absurd h e
     rw [this]; rfl
    have HF := Lib.hid (show decide (xs.map kn = ys.map kn) = false by
     simp only [decide_eq_false_iff_not]
     exact kn_ne HXK.out HYK.out (fun q => e (by simpa [kn] using q)))
    go_wp2
    go_quiet (fail)
    go_wp2
    go_ret
    exact ⟨congrArg (fun b => Ending.returned (Value.bool b)) HF.out.symm, below_drewN hB _⟩
  ·obtain rfl : k = m1 := by omega
   have HF := Lib.hid (show decide (xs.map kn = ys.map kn) = true by
    simp only [decide_eq_true_eq]
    have l1 := H1.out
    have l2 := H2.out
    exact kn_all (by omega) (fun j a b hj => HP.out j a b (by omega)))
   go_wp2
   go_ret
   exact ⟨congrArg (fun b => Ending.returned (Value.bool b)) HF.out.symm, hB⟩
def cfl : List Cod -> List Value
 | [] => []
 | x :: c => .int .u8 x.op :: .int .i32 x.n :: cfl c
theorem cfl_at : ∀ (c : List Cod) (j : Nat) (x : Cod), c[j]? = some x -> (cfl c)[j * 2]? = some (.int .u8 x.op) /\ (cfl c)[j * 2 + 1]? = some (.int .i32 x.n)
  | [], j, x, h => by simp at h
  | y :: c, 0, x, h => by obtain rfl : y = x := by simpa using h
                          exact ⟨rfl, rfl⟩
  | y :: c, j + 1, x, h => by
    obtain ⟨h1, h2⟩ := cfl_at c j x (by simpa using h)
    rw [show (j + 1) * 2 = j * 2 + 1 + 1 by omega]
    exact ⟨h1, h2⟩
def vfl : List Cel -> List Value
 | [] => []
 | x :: c => .int .u8 x.k :: .int .i32 x.n :: vfl c
theorem vfl_at : ∀ (c : List Cel) (j : Nat) (x : Cel), c[j]? = some x -> (vfl c)[j * 2]? = some (.int .u8 x.k) /\ (vfl c)[j * 2 + 1]? = some (.int .i32 x.n)
  | [], j, x, h => by simp at h
  | y :: c, 0, x, h => by obtain rfl : y = x := by simpa using h
                          exact ⟨rfl, rfl⟩
  | y :: c, j + 1, x, h => by
    obtain ⟨h1, h2⟩ := vfl_at c j x (by simpa using h)
    rw [show (j + 1) * 2 = j * 2 + 1 + 1 by omega]
    exact ⟨h1, h2⟩
theorem alloc_at (V : World) (A : List Value) (ty : TypeId) {i : Nat} {u : Value} (h : A[i]? = some u) : (V.alloc (.cells A.toArray ty)).cell? ⟨V.heap.size, i, none⟩ = some u := by
 have e : (V.alloc (.cells A.toArray ty)).heap[V.heap.size]? = some (.cells A.toArray ty (0, 0)) := Array.getElem?_push_size
 unfold World.cell?
 simp only [e]
 simp [h]
theorem cods_at (V : World) (c : List Cod) (ty : TypeId) (p : Nat) (hp : p = V.heap.size) : Cods (V.alloc (.cells (cfl c).toArray ty)).heap.size (V.alloc (.cells (cfl c).toArray ty)) (some ⟨p, 0, none⟩) c := by
 subst hp
 refine .inr ⟨V.heap.size, 0, rfl, by simp, fun j x hx => ?_⟩
 obtain ⟨h1, h2⟩ := cfl_at c j x hx
 rw [Nat.zero_add]
 exact ⟨alloc_at V _ ty h1, alloc_at V _ ty h2⟩
theorem vals_at (V : World) (c : List Cel) (ty : TypeId) (p : Nat) (hp : p = V.heap.size) : Vals (V.alloc (.cells (vfl c).toArray ty)).heap.size (V.alloc (.cells (vfl c).toArray ty)) (some ⟨p, 0, none⟩) c := by
 subst hp
 refine .inr ⟨V.heap.size, 0, rfl, by simp, fun j x hx => ?_⟩
 obtain ⟨h1, h2⟩ := vfl_at c j x hx
 rw [Nat.zero_add]
 exact ⟨alloc_at V _ ty h1, alloc_at V _ ty h2⟩
theorem fixs_at (V : World) (xs : List Int) (ty : TypeId) (p : Nat) (hp : p = V.heap.size) : Fixs (V.alloc (.cells (xs.map (Value.int .i32)).toArray ty)).heap.size (V.alloc (.cells (xs.map (Value.int .i32)).toArray ty)) (some ⟨p, 0, none⟩) xs := by
 subst hp
 refine .inr ⟨V.heap.size, 0, rfl, by simp, fun j x hx => ?_⟩
 rw [Nat.zero_add]
 exact alloc_at V _ ty (by rw [List.getElem?_map, hx]; rfl)
structure L3 (w V : World) (a1 a2 a3 : Option Addr) (v1 v2 v3 : List Cel) : Prop where
 b : Below w.heap.size w V
 j : Sx.J V
 p1 : Vals V.heap.size V a1 v1
 p2 : Vals V.heap.size V a2 v2
 p3 : Vals V.heap.size V a3 v3
theorem L3.kB {w V V' : World} {a1 a2 a3 : Option Addr} {v1 v2 v3 : List Cel} (h : L3 w V a1 a2 a3 v1 v2 v3) (hB : Below V.heap.size V V') : L3 w V' a1 a2 a3 v1 v2 v3 :=
 ⟨bstep h.b hB, Sx.J_kept hB h.j, h.p1.on hB, h.p2.on hB, h.p3.on hB⟩
theorem mul_half : mulR 32768 32768 = 16384 := (the_eq (v := 16384) ⟨16384, ⟨by decide, by decide⟩, by decide⟩ fun _ _ h1 h2 => near_the (by decide) h1 h2).symm
theorem seq_l1 (x : Int) (N : Num) : seqF N [⟨16, 0⟩, ⟨30, 0⟩] [real x] = .ok [real (N.bin 30 x x)] := by
 rw [seq_cons (show aft N ⟨16, 0⟩ [real x] = .ok [real x, real x] from aft_of (st := []) (l := [real x]) (m := 1) (cl := 13) (by decide : opTab 16 = _) rfl rfl (by simp)), seq_cons (aft_two (cl := 7) (r := real (N.bin 30 x x)) (by decide) (by simp [does, real, sumF, fixOf]))]
 rfl
theorem run_l1 : runF NN [⟨16, 0⟩, ⟨30, 0⟩] [32768] = .ok [real 16384] := by
 have h := seq_run (N := NN) (c := [⟨16, 0⟩, ⟨30, 0⟩]) (ins := [32768]) (fun x hx => by simp at hx; rcases hx with rfl | rfl <;> rfl) (by simp) (by simp) (seq_l1 0 NN) (seq_l1 32768 NN)
 rw [h]
 have : NN.bin 30 32768 32768 = 16384 := by show clp (binR 30 32768 32768) = _; unfold binR; simp [mul_half]; decide
 rw [this]
theorem seq_l2 (N : Num) : seqF N [⟨0, 1⟩, ⟨0, 2⟩, ⟨6, 0⟩] [] = .ok [whole 3] := rfl
theorem run_l2 : runF NN [⟨0, 1⟩, ⟨0, 2⟩, ⟨6, 0⟩] [] = .ok [whole 3] :=
 seq_run (fun x hx => by simp at hx; rcases hx with rfl | rfl | rfl <;> rfl) (by simp) (by simp) (seq_l2 NN) (seq_l2 NN)
theorem seq_l3 (N : Num) (x y z : Int) : seqF N [⟨0, 3⟩, ⟨0, 1⟩, ⟨36, 0⟩] [real x, real y, real z] = .ok [real z, real x, real y] := by
 have hr : rolled 1 [real x, real y, real z] = [real z, real x, real y] := by simp [rolled]
 rw [seq_cons (aft_num 3 _ (by simp)), seq_cons (aft_num 1 _ (by simp))]
 rw [show [real x, real y, real z] ++ [(⟨0, 3, true⟩ : Cel)] ++ [⟨0, 1, true⟩] = [] ++ [real x, real y, real z] ++ [⟨0, ([real x, real y, real z].length : Nat), true⟩, ⟨0, 1, true⟩] from rfl, seq_cons (aft_roll 0 1 [] [real x, real y, real z] (by simp)), hr]
 rfl
theorem run_l3 : runF NN [⟨0, 3⟩, ⟨0, 1⟩, ⟨36, 0⟩] [65536, 131072, 196608] = .ok [real 196608, real 65536, real 131072] :=
 seq_run (fun x hx => by simp at hx; rcases hx with rfl | rfl | rfl <;> rfl) (by simp) (by simp) (seq_l3 NN 0 0 0) (seq_l3 NN 65536 131072 196608)
theorem type_l4 : typeW NN [⟨6, 0⟩] 1 = .error 15 := rfl
theorem type_l5 : typeW NN [⟨2, 1⟩, ⟨6, 0⟩] 1 = .error 10 := rfl
theorem codok_of {c : List Cod} (h : (c.all fun x => decide (0 <= x.op) && decide (x.op <= 255) && decide (-2147483648 <= x.n) && decide (x.n <= 2147483647)) = true) : CodOk c := by
 intro x hx
 have := List.all_eq_true.1 h x hx
 simp only [Bool.and_eq_true, decide_eq_true_eq] at this
 exact ⟨⟨this.1.1.1, this.1.1.2⟩, this.1.2, this.2⟩
theorem samev_any (xs ys : List Cel) (a1 a2 : Option Addr) (m1 m2 c1 c2 : Nat) (w : World) (h1 : m1 = xs.length) (h2 : m2 = ys.length) (hx : Vals w.heap.size w a1 xs) (hy : Vals w.heap.size w a2 ys) (hl : m1 <= 2000) (hl2 : m2 <= 2000) :
  Calls Tryz.prog 13 #[.slice a1 m1 c1, .slice a2 m2 c2] w fun e w' => e = .returned (.bool (decide (xs.map kn = ys.map kn))) /\ Below w.heap.size w w' := by
 have HS := Lib.hid (same_any xs ys a1 a2 m1 m2 c1 c2 w h1 h2 hx hy hl hl2)
 clear h1 h2 hx hy hl hl2
 go_enter Tryz.func13, Tryz.ntmps13
 go_wp2_with (go_at_call 31; refine HS.out.mono ?_; rintro e w2 ⟨rfl, hB⟩)
 go_ret
 exact ⟨rfl, hB⟩
theorem type_at (c : List Cod) (ins : Nat) (ad : Option Addr) (m cap : Nat) (w : World) (hm : m = c.length) (hc : Cods w.heap.size w ad c) (hok : CodOk c) (hj : Sx.J w) (hi : ins <= 2000 := by decide) (hl : c.length <= 2000 := by decide) :
  Calls Tryz.prog 11 #[.slice ad m cap, .int .i64 ins] w (TypeP c ins w) := by
 subst hm
 exact type_any c ins ad cap w hi hl hc hok hj
theorem ex1 (V : World) (p q : Nat) (hp : p = V.heap.size) (hq : q = (V.alloc (.cells #[.int .u8 16, .int .i32 0, .int .u8 30, .int .i32 0] 41)).heap.size) (hj : Sx.J ((V.alloc (.cells #[.int .u8 16, .int .i32 0, .int .u8 30, .int .i32 0] 41)).alloc (.cells #[.int .i32 32768] 36))) :
  Calls Tryz.prog 12 #[.slice (some ⟨p, 0, none⟩) 2 2, .slice (some ⟨q, 0, none⟩) 1 1] ((V.alloc (.cells #[.int .u8 16, .int .i32 0, .int .u8 30, .int .i32 0] 41)).alloc (.cells #[.int .i32 32768] 36)) fun e w2 => (∃ g cp, e = .returned (.tuple #[.slice (some ⟨g, 0, none⟩) 1 cp, .int .i64 0]) /\ Vals w2.heap.size w2 (some ⟨g, 0, none⟩) [real 16384]) /\ Below ((V.alloc (.cells #[.int .u8 16, .int .i32 0, .int .u8 30, .int .i32 0] 41)).alloc (.cells #[.int .i32 32768] 36)).heap.size ((V.alloc (.cells #[.int .u8 16, .int .i32 0, .int .u8 30, .int .i32 0] 41)).alloc (.cells #[.int .i32 32768] 36)) w2 := by
 have h1 : Cods ((V.alloc (.cells #[.int .u8 16, .int .i32 0, .int .u8 30, .int .i32 0] 41)).alloc (.cells #[.int .i32 32768] 36)).heap.size ((V.alloc (.cells #[.int .u8 16, .int .i32 0, .int .u8 30, .int .i32 0] 41)).alloc (.cells #[.int .i32 32768] 36)) (some ⟨p, 0, none⟩) [⟨16, 0⟩, ⟨30, 0⟩] := (cods_at V [⟨16, 0⟩, ⟨30, 0⟩] 41 p hp).on ((Below.refl _ _).alloc (Nat.le_refl _) (.cells #[.int .i32 32768] 36))
 have h2 : Fixs ((V.alloc (.cells #[.int .u8 16, .int .i32 0, .int .u8 30, .int .i32 0] 41)).alloc (.cells #[.int .i32 32768] 36)).heap.size ((V.alloc (.cells #[.int .u8 16, .int .i32 0, .int .u8 30, .int .i32 0] 41)).alloc (.cells #[.int .i32 32768] 36)) (some ⟨q, 0, none⟩) [32768] := fixs_at (V.alloc (.cells #[.int .u8 16, .int .i32 0, .int .u8 30, .int .i32 0] 41)) [32768] 36 q hq
 refine (run_any [⟨16, 0⟩, ⟨30, 0⟩] [32768] _ _ 2 2 1 1 _ rfl rfl (by decide) (by decide) h1 (codok_of (by decide)) h2 (fun x hx => by simp at hx; first | (subst hx; exact ⟨by decide, by decide⟩) | (rcases hx with rfl | rfl | rfl <;> exact ⟨by decide, by decide⟩)) hj).mono ?_
 intro e w2 hP
 obtain ⟨⟨v, rfl, hv⟩, hB⟩ := hP.1 _ run_l1
 obtain ⟨g, cp, rfl, hw⟩ := hv.vals
 exact ⟨⟨g, cp, rfl, hw⟩, hB⟩
theorem ex2 (V : World) (p : Nat) (hp : p = V.heap.size) (hj : Sx.J (V.alloc (.cells #[.int .u8 0, .int .i32 1, .int .u8 0, .int .i32 2, .int .u8 6, .int .i32 0] 41))) :
  Calls Tryz.prog 12 #[.slice (some ⟨p, 0, none⟩) 3 3, .slice none 0 0] (V.alloc (.cells #[.int .u8 0, .int .i32 1, .int .u8 0, .int .i32 2, .int .u8 6, .int .i32 0] 41)) fun e w2 => (∃ g cp, e = .returned (.tuple #[.slice (some ⟨g, 0, none⟩) 1 cp, .int .i64 0]) /\ Vals w2.heap.size w2 (some ⟨g, 0, none⟩) [whole 3]) /\ Below (V.alloc (.cells #[.int .u8 0, .int .i32 1, .int .u8 0, .int .i32 2, .int .u8 6, .int .i32 0] 41)).heap.size (V.alloc (.cells #[.int .u8 0, .int .i32 1, .int .u8 0, .int .i32 2, .int .u8 6, .int .i32 0] 41)) w2 := by
 have h1 : Cods (V.alloc (.cells #[.int .u8 0, .int .i32 1, .int .u8 0, .int .i32 2, .int .u8 6, .int .i32 0] 41)).heap.size (V.alloc (.cells #[.int .u8 0, .int .i32 1, .int .u8 0, .int .i32 2, .int .u8 6, .int .i32 0] 41)) (some ⟨p, 0, none⟩) [⟨0, 1⟩, ⟨0, 2⟩, ⟨6, 0⟩] := (cods_at V [⟨0, 1⟩, ⟨0, 2⟩, ⟨6, 0⟩] 41 p hp)
 have h2 : Fixs (V.alloc (.cells #[.int .u8 0, .int .i32 1, .int .u8 0, .int .i32 2, .int .u8 6, .int .i32 0] 41)).heap.size (V.alloc (.cells #[.int .u8 0, .int .i32 1, .int .u8 0, .int .i32 2, .int .u8 6, .int .i32 0] 41)) none [] := .inl rfl
 refine (run_any [⟨0, 1⟩, ⟨0, 2⟩, ⟨6, 0⟩] [] _ _ 3 3 0 0 _ rfl rfl (by decide) (by decide) h1 (codok_of (by decide)) h2 (fun x hx => by simp at hx) hj).mono ?_
 intro e w2 hP
 obtain ⟨⟨v, rfl, hv⟩, hB⟩ := hP.1 _ run_l2
 obtain ⟨g, cp, rfl, hw⟩ := hv.vals
 exact ⟨⟨g, cp, rfl, hw⟩, hB⟩
theorem ex3 (V : World) (p q : Nat) (hp : p = V.heap.size) (hq : q = (V.alloc (.cells #[.int .u8 0, .int .i32 3, .int .u8 0, .int .i32 1, .int .u8 36, .int .i32 0] 41)).heap.size) (hj : Sx.J ((V.alloc (.cells #[.int .u8 0, .int .i32 3, .int .u8 0, .int .i32 1, .int .u8 36, .int .i32 0] 41)).alloc (.cells #[.int .i32 65536, .int .i32 131072, .int .i32 196608] 36))) :
  Calls Tryz.prog 12 #[.slice (some ⟨p, 0, none⟩) 3 3, .slice (some ⟨q, 0, none⟩) 3 3] ((V.alloc (.cells #[.int .u8 0, .int .i32 3, .int .u8 0, .int .i32 1, .int .u8 36, .int .i32 0] 41)).alloc (.cells #[.int .i32 65536, .int .i32 131072, .int .i32 196608] 36)) fun e w2 => (∃ g cp, e = .returned (.tuple #[.slice (some ⟨g, 0, none⟩) 3 cp, .int .i64 0]) /\ Vals w2.heap.size w2 (some ⟨g, 0, none⟩) [real 196608, real 65536, real 131072]) /\ Below ((V.alloc (.cells #[.int .u8 0, .int .i32 3, .int .u8 0, .int .i32 1, .int .u8 36, .int .i32 0] 41)).alloc (.cells #[.int .i32 65536, .int .i32 131072, .int .i32 196608] 36)).heap.size ((V.alloc (.cells #[.int .u8 0, .int .i32 3, .int .u8 0, .int .i32 1, .int .u8 36, .int .i32 0] 41)).alloc (.cells #[.int .i32 65536, .int .i32 131072, .int .i32 196608] 36)) w2 := by
 have h1 : Cods ((V.alloc (.cells #[.int .u8 0, .int .i32 3, .int .u8 0, .int .i32 1, .int .u8 36, .int .i32 0] 41)).alloc (.cells #[.int .i32 65536, .int .i32 131072, .int .i32 196608] 36)).heap.size ((V.alloc (.cells #[.int .u8 0, .int .i32 3, .int .u8 0, .int .i32 1, .int .u8 36, .int .i32 0] 41)).alloc (.cells #[.int .i32 65536, .int .i32 131072, .int .i32 196608] 36)) (some ⟨p, 0, none⟩) [⟨0, 3⟩, ⟨0, 1⟩, ⟨36, 0⟩] := (cods_at V [⟨0, 3⟩, ⟨0, 1⟩, ⟨36, 0⟩] 41 p hp).on ((Below.refl _ _).alloc (Nat.le_refl _) (.cells #[.int .i32 65536, .int .i32 131072, .int .i32 196608] 36))
 have h2 : Fixs ((V.alloc (.cells #[.int .u8 0, .int .i32 3, .int .u8 0, .int .i32 1, .int .u8 36, .int .i32 0] 41)).alloc (.cells #[.int .i32 65536, .int .i32 131072, .int .i32 196608] 36)).heap.size ((V.alloc (.cells #[.int .u8 0, .int .i32 3, .int .u8 0, .int .i32 1, .int .u8 36, .int .i32 0] 41)).alloc (.cells #[.int .i32 65536, .int .i32 131072, .int .i32 196608] 36)) (some ⟨q, 0, none⟩) [65536, 131072, 196608] := fixs_at (V.alloc (.cells #[.int .u8 0, .int .i32 3, .int .u8 0, .int .i32 1, .int .u8 36, .int .i32 0] 41)) [65536, 131072, 196608] 36 q hq
 refine (run_any [⟨0, 3⟩, ⟨0, 1⟩, ⟨36, 0⟩] [65536, 131072, 196608] _ _ 3 3 3 3 _ rfl rfl (by decide) (by decide) h1 (codok_of (by decide)) h2 (fun x hx => by simp at hx; first | (subst hx; exact ⟨by decide, by decide⟩) | (rcases hx with rfl | rfl | rfl <;> exact ⟨by decide, by decide⟩)) hj).mono ?_
 intro e w2 hP
 obtain ⟨⟨v, rfl, hv⟩, hB⟩ := hP.1 _ run_l3
 obtain ⟨g, cp, rfl, hw⟩ := hv.vals
 exact ⟨⟨g, cp, rfl, hw⟩, hB⟩
theorem ex4 (V : World) (p : Nat) (hp : p = V.heap.size) (hj : Sx.J (V.alloc (.cells #[.int .u8 6, .int .i32 0] 41))) :
  Calls Tryz.prog 11 #[.slice (some ⟨p, 0, none⟩) 1 1, .int .i64 1] (V.alloc (.cells #[.int .u8 6, .int .i32 0] 41)) fun e w2 => e = .returned (.tuple #[.slice none 0 0, .int .i64 15]) /\ Below (V.alloc (.cells #[.int .u8 6, .int .i32 0] 41)).heap.size (V.alloc (.cells #[.int .u8 6, .int .i32 0] 41)) w2 := by
 have h1 : Cods (V.alloc (.cells #[.int .u8 6, .int .i32 0] 41)).heap.size (V.alloc (.cells #[.int .u8 6, .int .i32 0] 41)) (some ⟨p, 0, none⟩) [⟨6, 0⟩] := cods_at V [⟨6, 0⟩] 41 p hp
 exact (type_at [⟨6, 0⟩] 1 _ 1 1 _ rfl h1 (codok_of (by decide)) hj).mono fun e w2 hP => hP.2 _ type_l4
theorem ex5 (V : World) (p : Nat) (hp : p = V.heap.size) (hj : Sx.J (V.alloc (.cells #[.int .u8 2, .int .i32 1, .int .u8 6, .int .i32 0] 41))) :
  Calls Tryz.prog 11 #[.slice (some ⟨p, 0, none⟩) 2 2, .int .i64 1] (V.alloc (.cells #[.int .u8 2, .int .i32 1, .int .u8 6, .int .i32 0] 41)) fun e w2 => e = .returned (.tuple #[.slice none 0 0, .int .i64 10]) /\ Below (V.alloc (.cells #[.int .u8 2, .int .i32 1, .int .u8 6, .int .i32 0] 41)).heap.size (V.alloc (.cells #[.int .u8 2, .int .i32 1, .int .u8 6, .int .i32 0] 41)) w2 := by
 have h1 : Cods (V.alloc (.cells #[.int .u8 2, .int .i32 1, .int .u8 6, .int .i32 0] 41)).heap.size (V.alloc (.cells #[.int .u8 2, .int .i32 1, .int .u8 6, .int .i32 0] 41)) (some ⟨p, 0, none⟩) [⟨2, 1⟩, ⟨6, 0⟩] := cods_at V [⟨2, 1⟩, ⟨6, 0⟩] 41 p hp
 exact (type_at [⟨2, 1⟩, ⟨6, 0⟩] 1 _ 2 2 _ rfl h1 (codok_of (by decide)) hj).mono fun e w2 hP => hP.2 _ type_l5
theorem ex6 (V : World) (a : Option Addr) (cp p : Nat) (hp : p = V.heap.size) (ha : Vals V.heap.size V a [real 16384]) :
  Calls Tryz.prog 13 #[.slice a 1 cp, .slice (some ⟨p, 0, none⟩) 1 1] (V.alloc (.cells #[.int .u8 1, .int .i32 16384] 34)) fun e w2 => e = .returned (.bool true) /\ Below (V.alloc (.cells #[.int .u8 1, .int .i32 16384] 34)).heap.size (V.alloc (.cells #[.int .u8 1, .int .i32 16384] 34)) w2 := by
 have h1 : Vals (V.alloc (.cells #[.int .u8 1, .int .i32 16384] 34)).heap.size (V.alloc (.cells #[.int .u8 1, .int .i32 16384] 34)) (some ⟨p, 0, none⟩) [real 16384] := vals_at V [real 16384] 34 p hp
 have h2 : Vals (V.alloc (.cells #[.int .u8 1, .int .i32 16384] 34)).heap.size (V.alloc (.cells #[.int .u8 1, .int .i32 16384] 34)) a [real 16384] := ha.on ((Below.refl _ _).alloc (Nat.le_refl _) _)
 refine (samev_any [real 16384] [real 16384] a (some ⟨p, 0, none⟩) 1 1 cp 1 _ rfl rfl h2 h1 (by decide) (by decide)).mono ?_
 rintro e w2 ⟨rfl, hB⟩
 rw [show decide (List.map kn [real 16384] = List.map kn [real 16384]) = true by decide]
 exact ⟨rfl, hB⟩
theorem ex7 (V : World) (a : Option Addr) (cp p : Nat) (hp : p = V.heap.size) (ha : Vals V.heap.size V a [whole 3]) :
  Calls Tryz.prog 13 #[.slice a 1 cp, .slice (some ⟨p, 0, none⟩) 1 1] (V.alloc (.cells #[.int .u8 0, .int .i32 3] 34)) fun e w2 => e = .returned (.bool true) /\ Below (V.alloc (.cells #[.int .u8 0, .int .i32 3] 34)).heap.size (V.alloc (.cells #[.int .u8 0, .int .i32 3] 34)) w2 := by
 have h1 : Vals (V.alloc (.cells #[.int .u8 0, .int .i32 3] 34)).heap.size (V.alloc (.cells #[.int .u8 0, .int .i32 3] 34)) (some ⟨p, 0, none⟩) [whole 3] := vals_at V [whole 3] 34 p hp
 have h2 : Vals (V.alloc (.cells #[.int .u8 0, .int .i32 3] 34)).heap.size (V.alloc (.cells #[.int .u8 0, .int .i32 3] 34)) a [whole 3] := ha.on ((Below.refl _ _).alloc (Nat.le_refl _) _)
 refine (samev_any [whole 3] [whole 3] a (some ⟨p, 0, none⟩) 1 1 cp 1 _ rfl rfl h2 h1 (by decide) (by decide)).mono ?_
 rintro e w2 ⟨rfl, hB⟩
 rw [show decide (List.map kn [whole 3] = List.map kn [whole 3]) = true by decide]
 exact ⟨rfl, hB⟩
theorem ex8 (V : World) (a : Option Addr) (cp p : Nat) (hp : p = V.heap.size) (ha : Vals V.heap.size V a [real 196608, real 65536, real 131072]) :
  Calls Tryz.prog 13 #[.slice a 3 cp, .slice (some ⟨p, 0, none⟩) 3 3] (V.alloc (.cells #[.int .u8 1, .int .i32 196608, .int .u8 1, .int .i32 65536, .int .u8 1, .int .i32 131072] 34)) fun e w2 => e = .returned (.bool true) /\ Below (V.alloc (.cells #[.int .u8 1, .int .i32 196608, .int .u8 1, .int .i32 65536, .int .u8 1, .int .i32 131072] 34)).heap.size (V.alloc (.cells #[.int .u8 1, .int .i32 196608, .int .u8 1, .int .i32 65536, .int .u8 1, .int .i32 131072] 34)) w2 := by
 have h1 : Vals (V.alloc (.cells #[.int .u8 1, .int .i32 196608, .int .u8 1, .int .i32 65536, .int .u8 1, .int .i32 131072] 34)).heap.size (V.alloc (.cells #[.int .u8 1, .int .i32 196608, .int .u8 1, .int .i32 65536, .int .u8 1, .int .i32 131072] 34)) (some ⟨p, 0, none⟩) [real 196608, real 65536, real 131072] := vals_at V [real 196608, real 65536, real 131072] 34 p hp
 have h2 : Vals (V.alloc (.cells #[.int .u8 1, .int .i32 196608, .int .u8 1, .int .i32 65536, .int .u8 1, .int .i32 131072] 34)).heap.size (V.alloc (.cells #[.int .u8 1, .int .i32 196608, .int .u8 1, .int .i32 65536, .int .u8 1, .int .i32 131072] 34)) a [real 196608, real 65536, real 131072] := ha.on ((Below.refl _ _).alloc (Nat.le_refl _) _)
 refine (samev_any [real 196608, real 65536, real 131072] [real 196608, real 65536, real 131072] a (some ⟨p, 0, none⟩) 3 3 cp 3 _ rfl rfl h2 h1 (by decide) (by decide)).mono ?_
 rintro e w2 ⟨rfl, hB⟩
 rw [show decide (List.map kn [real 196608, real 65536, real 131072] = List.map kn [real 196608, real 65536, real 131072]) = true by decide]
 exact ⟨rfl, hB⟩
set_option maxHeartbeats 8000000 in
theorem lives_any (w : World) (hj : Sx.J w) : Calls Tryz.prog 10 #[] w fun e w' => e = .returned (.bool true) /\ Below w.heap.size w w' := by
 have hL : L3 w w none none none [] [] [] := ⟨Below.refl _ _, hj, .inl rfl, .inl rfl, .inl rfl⟩
 have t1 : True := trivial
 have t2 : True := trivial
 have t3 : True := trivial
 have t4 : True := trivial
 have t5 : True := trivial
 have t6 : True := trivial
 have t7 : True := trivial
 have t8 : True := trivial
 go_enter Tryz.func10, Tryz.ntmps10
 go_wp2_with (first
  | (go_at_call 15; refine (lop_any _ _).mono ?_; rintro e w1 ⟨rfl, hB1⟩; replace hL := (hL.kB (by first | exact Below.refl _ _ | exact (Below.refl _ _).alloc (Nat.le_refl _) _ | exact ((Below.refl _ _).alloc (Nat.le_refl _) _).alloc (by simp) _)).kB hB1; clear hB1)
  | (go_at_call 14; refine (lnum_any _ _).mono ?_; rintro e w1 ⟨rfl, hB1⟩; replace hL := (hL.kB (by first | exact Below.refl _ _ | exact (Below.refl _ _).alloc (Nat.le_refl _) _ | exact ((Below.refl _ _).alloc (Nat.le_refl _) _).alloc (by simp) _)).kB hB1; clear hB1)
  | (clear t1; go_at_call 12; refine (ex1 _ _ _ rfl (by simp) (hL.kB (by first | exact Below.refl _ _ | exact (Below.refl _ _).alloc (Nat.le_refl _) _ | exact ((Below.refl _ _).alloc (Nat.le_refl _) _).alloc (by simp) _)).j).mono ?_; rintro e w1 ⟨⟨g1, c1, rfl, hv⟩, hB1⟩; replace hL := (hL.kB (by first | exact Below.refl _ _ | exact (Below.refl _ _).alloc (Nat.le_refl _) _ | exact ((Below.refl _ _).alloc (Nat.le_refl _) _).alloc (by simp) _)).kB hB1; replace hL := L3.mk hL.b hL.j hv hL.p2 hL.p3; clear hv hB1)
  | (clear t2; go_at_call 12; refine (ex2 _ _ rfl (hL.kB (by first | exact Below.refl _ _ | exact (Below.refl _ _).alloc (Nat.le_refl _) _ | exact ((Below.refl _ _).alloc (Nat.le_refl _) _).alloc (by simp) _)).j).mono ?_; rintro e w1 ⟨⟨g2, c2, rfl, hv⟩, hB1⟩; replace hL := (hL.kB (by first | exact Below.refl _ _ | exact (Below.refl _ _).alloc (Nat.le_refl _) _ | exact ((Below.refl _ _).alloc (Nat.le_refl _) _).alloc (by simp) _)).kB hB1; replace hL := L3.mk hL.b hL.j hL.p1 hv hL.p3; clear hv hB1)
  | (clear t3; go_at_call 12; refine (ex3 _ _ _ rfl (by simp) (hL.kB (by first | exact Below.refl _ _ | exact (Below.refl _ _).alloc (Nat.le_refl _) _ | exact ((Below.refl _ _).alloc (Nat.le_refl _) _).alloc (by simp) _)).j).mono ?_; rintro e w1 ⟨⟨g3, c3, rfl, hv⟩, hB1⟩; replace hL := (hL.kB (by first | exact Below.refl _ _ | exact (Below.refl _ _).alloc (Nat.le_refl _) _ | exact ((Below.refl _ _).alloc (Nat.le_refl _) _).alloc (by simp) _)).kB hB1; replace hL := L3.mk hL.b hL.j hL.p1 hL.p2 hv; clear hv hB1)
  | (clear t4; go_at_call 11; refine (ex4 _ _ rfl (hL.kB (by first | exact Below.refl _ _ | exact (Below.refl _ _).alloc (Nat.le_refl _) _ | exact ((Below.refl _ _).alloc (Nat.le_refl _) _).alloc (by simp) _)).j).mono ?_; rintro e w1 ⟨rfl, hB1⟩; replace hL := (hL.kB (by first | exact Below.refl _ _ | exact (Below.refl _ _).alloc (Nat.le_refl _) _ | exact ((Below.refl _ _).alloc (Nat.le_refl _) _).alloc (by simp) _)).kB hB1; clear hB1)
  | (clear t5; go_at_call 11; refine (ex5 _ _ rfl (hL.kB (by first | exact Below.refl _ _ | exact (Below.refl _ _).alloc (Nat.le_refl _) _ | exact ((Below.refl _ _).alloc (Nat.le_refl _) _).alloc (by simp) _)).j).mono ?_; rintro e w1 ⟨rfl, hB1⟩; replace hL := (hL.kB (by first | exact Below.refl _ _ | exact (Below.refl _ _).alloc (Nat.le_refl _) _ | exact ((Below.refl _ _).alloc (Nat.le_refl _) _).alloc (by simp) _)).kB hB1; clear hB1)
  | (clear t6; go_at_call 13; refine (ex6 _ _ _ _ rfl hL.p1).mono ?_; rintro e w1 ⟨rfl, hB1⟩; replace hL := (hL.kB (by first | exact Below.refl _ _ | exact (Below.refl _ _).alloc (Nat.le_refl _) _ | exact ((Below.refl _ _).alloc (Nat.le_refl _) _).alloc (by simp) _)).kB hB1; clear hB1)
  | (clear t7; go_at_call 13; refine (ex7 _ _ _ _ rfl hL.p2).mono ?_; rintro e w1 ⟨rfl, hB1⟩; replace hL := (hL.kB (by first | exact Below.refl _ _ | exact (Below.refl _ _).alloc (Nat.le_refl _) _ | exact ((Below.refl _ _).alloc (Nat.le_refl _) _).alloc (by simp) _)).kB hB1; clear hB1)
  | (clear t8; go_at_call 13; refine (ex8 _ _ _ _ rfl hL.p3).mono ?_; rintro e w1 ⟨rfl, hB1⟩; replace hL := (hL.kB (by first | exact Below.refl _ _ | exact (Below.refl _ _).alloc (Nat.le_refl _) _ | exact ((Below.refl _ _).alloc (Nat.le_refl _) _).alloc (by simp) _)).kB hB1; clear hB1))
 go_ret
 exact ⟨rfl, hL.b⟩
end Go.Proofs.YtcjllibeaiofpaaGreatDoor
