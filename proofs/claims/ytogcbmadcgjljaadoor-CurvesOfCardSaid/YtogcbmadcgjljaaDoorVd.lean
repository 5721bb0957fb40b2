/-
  Curves: Eval, at whatever it is handed.
-/
import Derived.Test.YtogcbmadcgjljaaDoorVb
import Derived.Test.YtogcbmadcgjljaaDoorVc
import Derived.Maps.AppendAt
import Derived.Sort.QuietTacIn
set_option linter.all false
namespace Go.Proofs.YtogcbmadcgjljaaDoor
open Go.RowKit
attribute [local go_sem] Oper.semAt_some

theorem info27 : (Tryd.prog.info? 27).map (fun i => (i.zero, i.size, i.bytes)) = some (some (.int .i32 0), 1, 4) := by kernel_rfl
/-- a number that a power tells, of its two ends. -/
def outAt (p : Int) (rs : List (Int × Int)) (i : Nat) (x : Int × Int) : Int :=
  let v := clamp32 (x.1 + (p * (x.2 - x.1) + 32768) / 65536)
  if i < rs.length then min (max v (rs[i]?.getD (0, 0)).1) (rs[i]?.getD (0, 0)).2 else v
def outs (p : Int) (rs : List (Int × Int)) (l : List (Int × Int)) : List Int := l.mapIdx (outAt p rs)
theorem outs_snoc (p : Int) (rs : List (Int × Int)) (l : List (Int × Int)) (x : Int × Int) : outs p rs (l ++ [x]) = outs p rs l ++ [outAt p rs l.length x] := by simp [outs]
theorem outs_len (p : Int) (rs : List (Int × Int)) (l : List (Int × Int)) : (outs p rs l).length = l.length := by simp [outs]
/-- the fourteen parts of a function, boxed at block b. -/
def Box14 (b : Nat) (W : World) (f0 f1 f2 f3 f4 f5 f6 f7 f8 f9 f10 f11 f12 f13 : Value) : Prop :=
  W.cell? ⟨b, 0, none⟩ = some f0 ∧ W.cell? ⟨b, 1, none⟩ = some f1 ∧ W.cell? ⟨b, 2, none⟩ = some f2 ∧ W.cell? ⟨b, 3, none⟩ = some f3 ∧ W.cell? ⟨b, 4, none⟩ = some f4 ∧ W.cell? ⟨b, 5, none⟩ = some f5 ∧ W.cell? ⟨b, 6, none⟩ = some f6 ∧ W.cell? ⟨b, 7, none⟩ = some f7 ∧ W.cell? ⟨b, 8, none⟩ = some f8 ∧ W.cell? ⟨b, 9, none⟩ = some f9 ∧ W.cell? ⟨b, 10, none⟩ = some f10 ∧ W.cell? ⟨b, 11, none⟩ = some f11 ∧ W.cell? ⟨b, 12, none⟩ = some f12 ∧ W.cell? ⟨b, 13, none⟩ = some f13
theorem Box14.new (w : World) (t : TypeId) (f0 f1 f2 f3 f4 f5 f6 f7 f8 f9 f10 f11 f12 f13 : Value) : Box14 w.heap.size (w.alloc (.cells #[f0, f1, f2, f3, f4, f5, f6, f7, f8, f9, f10, f11, f12, f13] t)) f0 f1 f2 f3 f4 f5 f6 f7 f8 f9 f10 f11 f12 f13 := by
  refine ⟨?_, ?_, ?_, ?_, ?_, ?_, ?_, ?_, ?_, ?_, ?_, ?_, ?_, ?_⟩ <;> simp [go_sem]
theorem Box14.on {b n : Nat} {W V : World} {f0 f1 f2 f3 f4 f5 f6 f7 f8 f9 f10 f11 f12 f13 : Value} (h : Box14 b W f0 f1 f2 f3 f4 f5 f6 f7 f8 f9 f10 f11 f12 f13) (hB : Below n W V) (hb : b < n) : Box14 b V f0 f1 f2 f3 f4 f5 f6 f7 f8 f9 f10 f11 f12 f13 := by
  obtain ⟨h0, h1, h2, h3, h4, h5, h6, h7, h8, h9, h10, h11, h12, h13⟩ := h
  have hc : ∀ o, V.cell? ⟨b, o, none⟩ = W.cell? ⟨b, o, none⟩ := fun o => hB.cell (p := ⟨b, o, none⟩) hb
  exact ⟨(hc _).trans h0, (hc _).trans h1, (hc _).trans h2, (hc _).trans h3, (hc _).trans h4, (hc _).trans h5, (hc _).trans h6, (hc _).trans h7, (hc _).trans h8, (hc _).trans h9, (hc _).trans h10, (hc _).trans h11, (hc _).trans h12, (hc _).trans h13⟩
theorem wp_cut {P : Program} {c : Code} {Q : Exit → Act → World → Prop} {a : Act} {w : World} (R : Act → Act → World → Prop) (h1 : c.wp P (fun e a' W => e = .normal ∧ R a a' W) a w) (h2 : ∀ a' W, R a a' W → Q .normal a' W) : c.wp P Q a w :=
  Code.wp_mono (fun e a' W h => by obtain ⟨rfl, h⟩ := h; exact h2 a' W h) h1
/-- what the region that asks for the power reads. -/
def SS (V0 : World) (bi oi h Bd : Nat) (x lo hi n : Int) (V : World) : Prop :=
  (V.cell? ⟨bi, oi, none⟩ = some (.int .i32 x) ∧ V.cell? ⟨Bd, 0, none⟩ = some (.int .i32 lo) ∧ V.cell? ⟨Bd, 1, none⟩ = some (.int .i32 hi) ∧ V.cell? ⟨h, 10, none⟩ = some (.int .i32 n)) ∧ Below V0.heap.size V0 V ∧ (bi < V0.heap.size ∧ h < V0.heap.size ∧ Bd < V0.heap.size) ∧ Sx.J V0
section
variable {V0 V V' : World} {bi oi h Bd : Nat} {x lo hi n : Int}
theorem SS.to (s : SS V0 bi oi h Bd x lo hi n V) (hB : Below V0.heap.size V V') : SS V0 bi oi h Bd x lo hi n V' := by
  obtain ⟨⟨h1, h2, h3, h4⟩, h5, ⟨h6, h7, h8⟩, h9⟩ := s
  exact ⟨⟨(hB.cell (p := ⟨bi, oi, none⟩) h6).trans h1, (hB.cell (p := ⟨Bd, 0, none⟩) h8).trans h2, (hB.cell (p := ⟨Bd, 1, none⟩) h8).trans h3, (hB.cell (p := ⟨h, 10, none⟩) h7).trans h4⟩, h5.trans hB, ⟨h6, h7, h8⟩, h9⟩
theorem SS.kA (o : Obj) (s : SS V0 bi oi h Bd x lo hi n V) : SS V0 bi oi h Bd x lo hi n (V.alloc o) := s.to ((Below.refl _ _).alloc s.2.1.size _)
theorem SS.kD (s : SS V0 bi oi h Bd x lo hi n V) : SS V0 bi oi h Bd x lo hi n V.drew := s.to (Below.refl _ _).drew
theorem SS.kB (s : SS V0 bi oi h Bd x lo hi n V) (hB : Below V.heap.size V V') : SS V0 bi oi h Bd x lo hi n V' := s.to (hB.mono s.2.1.size)
theorem SS.kS {b o : Nat} (v : Value) (s : SS V0 bi oi h Bd x lo hi n V) (hb : V0.heap.size ≤ b) : SS V0 bi oi h Bd x lo hi n (V.setCell ⟨b, o, none⟩ v) := s.to ((Below.refl _ _).setCell (p := ⟨b, o, none⟩) hb _)
theorem below_swap {n : Nat} {V : World} (h : n ≤ V.heap.size) (o o' : Obj) : Below n (V.alloc o) (V.alloc o') := by
  have a := (Below.refl n V).alloc h o
  have b := (Below.refl n V).alloc h o'
  exact ⟨rfl, rfl, rfl, by simp, fun k hk => (b.block k hk).trans (a.block k hk).symm⟩
theorem SS.kR {o : Obj} (o' : Obj) (s : SS V0 bi oi h Bd x lo hi n (V.alloc o)) (hV : V0.heap.size ≤ V.heap.size) : SS V0 bi oi h Bd x lo hi n (V.alloc o') := s.to (below_swap hV o o')
theorem SS.j (s : SS V0 bi oi h Bd x lo hi n V) : Sx.J V := Sx.J_kept s.2.1 s.2.2.2
end
theorem withh {p q : Prop} (h : p) (k : p → q) : q := k h
theorem held32 {x lo hi : Int} (hx : I32 x) (hl : I32 lo) (hh : I32 hi) : I32 (min (max x lo) hi) := by unfold I32 at *; omega
set_option maxHeartbeats 400000 in
theorem ends_any (f0 f1 f2 f3 f4 f5 f6 f7 f8 f9 f10 f11 f12 f13 : Value) (w : World) :
    Calls Tryd.prog 18 #[.agg #[f0, f1, f2, f3, f4, f5, f6, f7, f8, f9, f10, f11, f12, f13]] w fun e w' => e = .returned (.func (.func 30) #[] #[.pointer (some ⟨w.heap.size, 0, none⟩)]) ∧ w' = w.alloc (.cells #[f0, f1, f2, f3, f4, f5, f6, f7, f8, f9, f10, f11, f12, f13] 30) := by
  go_enter Tryd.func18, Tryd.ntmps18
  go_wp2
  go_ret
  exact ⟨rfl, rfl⟩
theorem Fixs.more {n₀ n₁ : Nat} {W : World} {a : Option Addr} {len : Nat} {xs : List Int} (h : Fixs n₀ W a len xs) (hn : n₀ ≤ n₁) : Fixs n₁ W a len xs := by
  obtain ⟨h1, h2 | ⟨b, off, e, hb, hc⟩⟩ := h
  · exact ⟨h1, .inl h2⟩
  · exact ⟨h1, .inr ⟨b, off, e, by omega, hc⟩⟩
theorem own_block {β : Type} (B E : Nat) (cs : Array Value) (t : TypeId) (fr : Nat × Nat) : OwnFrom B (fun (_ : β) W => W.heap[E]? = some (.cells cs t fr)) := by
  intro s W W' row hs hg hr
  refine (hg.block E (Array.getElem?_eq_some_iff.1 hs).1 (fun e => ?_)).trans hs
  obtain ⟨_, o, ho, hc⟩ := hr E e.symm
  rw [hs] at ho; cases ho; cases hc
theorem cell_blk {W : World} {b : Nat} {cs : Array Value} {t : TypeId} {fr : Nat × Nat} (h : W.heap[b]? = some (.cells cs t fr)) (i : Nat) : W.cell? ⟨b, i, none⟩ = cs[i]? := by
  simp [World.cell?, h]
theorem mulB {p a b : Int} (hp : I32 p) (ha : I32 a) (hb : I32 b) : -9223372034707292160 ≤ p * (b - a) ∧ p * (b - a) ≤ 9223372034707292160 := by
  unfold I32 at *
  obtain ⟨d, hd⟩ : ∃ d, d = b - a := ⟨_, rfl⟩
  rw [← hd]
  have h1 : 0 ≤ (2147483648 - p) * (4294967295 + d) := Int.mul_nonneg (by omega) (by omega)
  have h2 : 0 ≤ (2147483648 + p) * (4294967295 - d) := Int.mul_nonneg (by omega) (by omega)
  have h3 : 0 ≤ (2147483648 - p) * (4294967295 - d) := Int.mul_nonneg (by omega) (by omega)
  have h4 : 0 ≤ (2147483648 + p) * (4294967295 + d) := Int.mul_nonneg (by omega) (by omega)
  simp only [Int.sub_mul, Int.add_mul, Int.mul_sub, Int.mul_add] at h1 h2 h3 h4
  omega
theorem oper_round {l n : Nat} {P : Program} {o : Oper} {a : Act} {w : World} {K : Act → World → Prop} {Q : Exit → Act → World → Prop} (hd : ∀ c, o.op ≠ .defer c) (h : o.wpIn Fence.wide n P a w K Q) : o.wpIn (Fence.wide.inRound l) n P a w K Q := by
  unfold Oper.wpIn at h ⊢
  rw [Oper.semAt_plain _ _ _ hd] at h ⊢
  exact h
theorem any_round {l n : Nat} {P : Program} {md : Region.Mode} {ops : Array Oper} {Q : Exit → Act → World → Prop} (hd : ∀ (i : Nat) (o : Oper), ops[i]? = some o → ∀ c, o.op ≠ .defer c) : ∀ (fuel : Nat) (listed : Array Bool) (a : Act) (w : World),
    wpAnyIn Fence.wide n P md ops Q fuel listed a w → wpAnyIn (Fence.wide.inRound l) n P md ops Q fuel listed a w
  | 0, _, _, _, h => h
  | fuel + 1, listed, a, w, h => by
    refine ⟨h.1, fun i hi => ?_⟩
    have h2 := h.2 i hi
    unfold wpOpIn at h2 ⊢
    split
    · rename_i ho; simp only [ho] at h2; exact any_round hd fuel _ _ _ h2
    · rename_i o ho
      simp only [ho] at h2
      split
      · rename_i hw
        simp only [hw, if_true] at h2
        exact oper_round (hd i o ho) (Oper.wpIn_mono (fun a w h => any_round hd fuel _ a w h) h2)
      · rename_i hw
        simp only [hw] at h2
        exact ⟨h2.1, any_round hd fuel _ _ _ h2.2⟩
theorem wpIn_region_quiet_round {l n : Nat} {P : Program} {id : Nat} {Q : Exit → Act → World → Prop} {a : Act} {w : World} {ls : List Oper} (hm : P.follows .mixedOrders = true) (hB : Region.lexB .any ls.toArray = true) (hd : ls.all (fun o => match o.op with | .defer _ => false | _ => true) = true)
    (h : wpQuietIn Fence.wide n P ls.toArray (fun w' => ∃ n, w' = w.drewN n) (fun a' => ∀ w', (∃ n, w' = w.drewN n) → Q .normal a' w') ls a) : (Code.region id ls.toArray true).wpIn (Fence.wide.inRound l) n P Q a w := by
  simp only [Region.lexB, Bool.and_eq_true] at hB
  refine wpIn_region_any hm (any_round ?_ _ _ _ _ (wpAnyIn_of_quiet (F := Fence.wide) (C := fun w' => ∃ n, w' = w.drewN n) (Q := fun a' => ∀ w', (∃ n, w' = w.drewN n) → Q .normal a' w') rfl (fun _ w' hw' h => h w' hw') _ _ _ _ ⟨1, rfl⟩ ?_))
  · intro i o ho c e
    have := List.all_eq_true.1 hd o (by have := Array.mem_of_getElem? ho; simpa using this)
    simp [e] at this
  · have := wpAnyQIn_lex (F := Fence.wide) (n := n) (C := fun w' => ∃ n, w' = w.drewN n) (md := .any) hB.1 ls 0 (Array.replicate ls.length false) a (by simp) (by simpa using hB.2) h
    simpa using this
theorem lowerRow {W : World} {b b' : Nat} {e : TypeId} {size : Nat} {v : Value} {n : Nat} {xs : List Value} (h : W.ownsRow b e size v n xs) (hb : b' ≤ b) : W.ownsRow b' e size v n xs := by
  obtain ⟨h1, h2 | ⟨g, cap, cur, e1, e2, e3⟩⟩ := h
  · exact ⟨h1, .inl h2⟩
  · exact ⟨h1, .inr ⟨g, cap, cur, e1, Nat.le_trans hb e2, e3⟩⟩
theorem keepE {W w1 : World} {tmp : Obj} {E Bo g k cap base : Nat} {cs : Array Value} {fr : Nat × Nat} {xs : List Value} (hE : W.heap[E]? = some (.cells cs 30 fr)) (hrow : W.ownsRow base 27 1 (.slice (some ⟨g, 0, none⟩) k cap) k xs)
    (hgrow : (W.alloc tmp).grownBy w1 (Value.slice (some ⟨g, 0, none⟩) k cap).ownBlock) (hBo : E ≠ Bo) (v' : Value) : (w1.setCell ⟨Bo, 0, none⟩ v').heap[E]? = some (.cells cs 30 fr) := by
  have hlt := (Array.getElem?_eq_some_iff.1 hE).1
  refine (Below.heap_setCell _ _ _ E hBo).trans ((hgrow.block E (by simp; omega) ?_).trans ((Below.heap_alloc W tmp E hlt).trans hE))
  rcases hrow.2 with ⟨e, _⟩ | ⟨g2, cap2, cur, e, _, hgb, _⟩
  · cases e
  · cases e
    intro e'
    obtain rfl : E = g := by simpa [Value.ownBlock] using e'
    rw [hE] at hgb
    cases hgb
theorem fin_row {X : World} {b g' cap' : Nat} {P : Int} {rs : List (Int × Int)} {pre : List PI} {z1 z2 val : Int} {hz : I32 z1 ∧ I32 z2} (h : X.ownsRow b 27 1 (.slice (some ⟨g', 0, none⟩) (pre.length + 1) cap') (pre.length + 1) ((outs P rs (pre.map (·.1))).map (.int .i32) ++ [.int .i32 val])) (hv : val = outAt P rs pre.length (z1, z2)) :
    X.ownsRow b 27 1 (.slice (some ⟨g', 0, none⟩) (pre.length + 1) cap') (pre ++ [(⟨(z1, z2), hz⟩ : PI)]).length ((outs P rs ((pre ++ [(⟨(z1, z2), hz⟩ : PI)]).map (·.1))).map (.int .i32)) := by
  subst hv
  have : (outs P rs ((pre ++ [(⟨(z1, z2), hz⟩ : PI)]).map (·.1))).map (Value.int .i32) = (outs P rs (pre.map (·.1))).map (.int .i32) ++ [.int .i32 (outAt P rs pre.length (z1, z2))] := by
    rw [List.map_append, List.map_cons, List.map_nil, outs_snoc, List.length_map, List.map_append]; rfl
  rw [this]
  simpa using h
set_option maxRecDepth 100000 in
set_option maxHeartbeats 2000000 in
theorem eval_t (siz bits enc dec dat fns bnd txt : Value) (bd od cd bi oi ci : Nat) (ar a0 a1 : Option Addr) (rl pr_ m p0 p1 M : Nat) (hM : M = max (max m m) 1) (hM4 : M ≤ 4) (lo hi n x : Int) (w : World) (rs : List (Int × Int)) (xs ys : List Int)
    (hbd : ∀ j : Nat, I32 (xs[j]?.getD 0) ∧ I32 (ys[j]?.getD 0)) (hn : I32 n) (hx : I32 x) (hlo' : I32 lo) (hhi' : I32 hi) (hj : Sx.J w) (hb : bd < w.heap.size)
    (hlo : w.cell? ⟨bd, od, none⟩ = some (.int .i32 lo)) (hhi : w.cell? ⟨bd, od + 1, none⟩ = some (.int .i32 hi))
    (hxc : w.cell? ⟨bi, oi, none⟩ = some (.int .i32 x)) (hbi : bi < w.heap.size)
    (hchk : ∀ W, Below w.heap.size w W → Calls Tryd.prog 9 #[.agg #[.int .u8 2, .slice (some ⟨bd, od, none⟩) 1 cd, .slice ar rl pr_, siz, bits, enc, dec, dat, .slice a0 m p0, .slice a1 m p1, .int .i32 n, fns, bnd, txt]] W fun e w' => e = .returned (.int .i64 0) ∧ Below W.heap.size W w')
    (hr : Rngs w.heap.size w ar rl rs) (h0 : Fixs w.heap.size w a0 m xs) (h1 : Fixs w.heap.size w a1 m ys) :
    Calls Tryd.prog 7 #[.agg #[.int .u8 2, .slice (some ⟨bd, od, none⟩) 1 cd, .slice ar rl pr_, siz, bits, enc, dec, dat, .slice a0 m p0, .slice a1 m p1, .int .i32 n, fns, bnd, txt], .slice (some ⟨bi, oi, none⟩) 1 ci] w fun e w' =>
      (∃ v, e = .returned (.tuple #[v, .int .i64 0]) ∧ w'.ownsRow w.heap.size 27 1 v (endsL xs ys).length ((outs (powR (min (max x lo) hi) n) rs (endsL xs ys)).map (.int .i32))) ∧ Below w.heap.size w w' := by
  have HM := Lib.hid hM; clear hM
  have HC := Lib.hid hchk; clear hchk
  refine (callsIn_wide (n := 6)).1 (callsIn_of_wp_marks Tryd.func7 rfl trivial (wpIn_wide.2 ?_) rfl)
  simp only [Tryd.ntmps7, List.size_toArray, List.length_cons, List.length_nil, Nat.reduceAdd, Nat.reduceSub, Array.replicate_succ, Array.replicate_zero, List.push_toArray, List.append_toArray, List.nil_append, List.cons_append]
  go_wp2_with (go_at_call 9; refine (HC.out _ ?_).mono ?_; (first | exact (Below.refl _ w).alloc (Nat.le_refl _) _ | done); rintro e w' ⟨rfl, hBk⟩; obtain ⟨f0, f1, f2, f3, f4, f5, f6, f7, f8, f9, f10, f11, f12, f13⟩ := (Box14.new _ _ _ _ _ _ _ _ _ _ _ _ _ _ _ _).on hBk (by simp); have hBw := ((Below.refl _ w).alloc (Nat.le_refl _) _).trans (hBk.mono (by simp)); have hlo2 := (hBw.cell (p := ⟨bd, od, none⟩) hb).trans hlo; have hhi2 := (hBw.cell (p := ⟨bd, od + 1, none⟩) hb).trans hhi; have hsz := hBk.size; simp only [World.size_alloc] at hsz)
  refine wp_cut (fun a a' W => ∃ (Bp : Nat) (c : Int), a' = ((((((((((((((((a.put (some 29) (.slice (some ⟨bi, oi, none⟩) 1 ci)).put (some 30) (.pointer (some ⟨bi, oi, none⟩))).put (some 31) (.int .i32 x)).put (some 32) (.pointer (some ⟨w'.heap.size, 0, none⟩))).put (some 33) (.int .i32 lo)).put (some 34) (.pointer (some ⟨w'.heap.size, 1, none⟩))).put (some 35) (.int .i32 hi)).put (some 36) (.int .i32 (min (max x lo) hi))).put (some 37) (.pointer (some ⟨w.heap.size, 10, none⟩))).put (some 38) (.int .i32 n)).put (some 39) (.tuple #[.int .i32 (powR (min (max x lo) hi) n), .int .i64 c])).put (some 28) (.tuple #[.int .i32 (powR (min (max x lo) hi) n), .int .i64 c])).put (some 40) (.int .i32 (powR (min (max x lo) hi) n))).put (some 41) (.int .i64 c)).put (some 8) (.pointer (some ⟨Bp, 0, none⟩))).put (some 9) (.int .i64 c)) ∧
    w'.heap.size < Bp ∧ Bp < W.heap.size ∧ W.cell? ⟨Bp, 0, none⟩ = some (.int .i32 (powR (min (max x lo) hi) n)) ∧ I32 (powR (min (max x lo) hi) n) ∧ SS (w'.alloc (Obj.cells #[Value.int IntKind.i32 lo, Value.int IntKind.i32 hi] 43)) bi oi w.heap.size w'.heap.size x lo hi n W) ?reg ?rest
  case reg =>
    have hw0 : w.heap.size < w'.heap.size := by omega
    have s0 : SS (w'.alloc (Obj.cells #[Value.int IntKind.i32 lo, Value.int IntKind.i32 hi] 43)) bi oi w.heap.size w'.heap.size x lo hi n (w'.alloc (Obj.cells #[Value.int IntKind.i32 lo, Value.int IntKind.i32 hi] 43)) := by
      refine ⟨⟨?_, ?_, ?_, ?_⟩, Below.refl _ _, ⟨?_, ?_, ?_⟩, Sx.J_kept (Below.trans ?_ ((Below.refl _ w').alloc (Nat.le_refl _) _ |>.mono ?_)) hj⟩
      · refine (((Below.refl _ w').alloc (Nat.le_refl _) _).cell (p := ⟨bi, oi, none⟩) (by simp; omega)).trans ((hBw.cell (p := ⟨bi, oi, none⟩) hbi).trans hxc)
      · simp [go_sem]
      · simp [go_sem]
      · exact (((Below.refl _ w').alloc (Nat.le_refl _) _).cell (p := ⟨w.heap.size, 10, none⟩) (by simp; omega)).trans f10
      · simp; omega
      · simp; omega
      · simp
      · exact hBw
      · omega
    go_region_held3 (fun V => (V.cell? ⟨bi, oi, none⟩ = some (.int .i32 x) ∧ V.cell? ⟨w'.heap.size, 0, none⟩ = some (.int .i32 lo) ∧ V.cell? ⟨w'.heap.size, 1, none⟩ = some (.int .i32 hi) ∧ V.cell? ⟨w.heap.size, 10, none⟩ = some (.int .i32 n)) ∧ Below (w'.alloc (Obj.cells #[Value.int IntKind.i32 lo, Value.int IntKind.i32 hi] 43)).heap.size (w'.alloc (Obj.cells #[Value.int IntKind.i32 lo, Value.int IntKind.i32 hi] 43)) V ∧ (bi < (w'.alloc (Obj.cells #[Value.int IntKind.i32 lo, Value.int IntKind.i32 hi] 43)).heap.size ∧ w.heap.size < (w'.alloc (Obj.cells #[Value.int IntKind.i32 lo, Value.int IntKind.i32 hi] 43)).heap.size ∧ w'.heap.size < (w'.alloc (Obj.cells #[Value.int IntKind.i32 lo, Value.int IntKind.i32 hi] 43)).heap.size) ∧ Sx.J (w'.alloc (Obj.cells #[Value.int IntKind.i32 lo, Value.int IntKind.i32 hi] 43)))
      (first | exact SS.kD s0 | exact SS.kA _ (by assumption) | exact SS.kB (by assumption) (by assumption) | assumption | exact SS.kS _ (by assumption) (by simp) | exact SS.kR _ (by assumption) (by have := Below.size hB9; simp at this ⊢; omega))
      (first
        | (go_at_call 16; refine (held_any _ _ _ _).mono ?_; rintro e w9 ⟨rfl, rfl⟩)
        | (go_at_call 15; refine (pow_any _ _ (held32 hx hlo' hhi') hn _ (SS.j (by assumption))).mono ?_; rintro e w9 ⟨⟨c9, rfl⟩, hI9, hB9⟩; (try (refine withh (p := w9.cell? ⟨w'.heap.size + 1, 0, none⟩ = some (.int .i32 0)) ?_ ?_; (focus (rw [Below.cell hB9] <;> (simp [go_sem]; done))); intro hq9)); (try (refine withh (p := w9.frozen? ⟨w'.heap.size + 1, 0, none⟩ = false) ?_ ?_; (focus (rw [Below.frozen hB9] <;> (simp [go_sem]; done))); intro hz9))))
    all_goals (refine ⟨rfl, _, c9, rfl, ?_, ?_, ?_, hI9, by assumption⟩)
    all_goals (have hz9' := Below.size hB9; simp only [World.size_alloc, World.size_drew] at hz9')
    all_goals (first | (simp [go_sem]; done) | (simp [go_sem]; omega) | (exact World.cell?_setCell_same' _ _ _ (by rw [hq9]; rfl)) | trace_state)
  case rest =>
    rintro a' W ⟨Bp, c, rfl, hBp1, hBp2, hBp3, hp, hS⟩
    simp only [Act.put, List.setIfInBounds_toArray, List.set_cons_zero, List.set_cons_succ]
    obtain ⟨⟨hS1, hS2, hS3, hS4⟩, hS5, ⟨hS6, hS7, hS8⟩, hS9⟩ := hS
    obtain ⟨g0, g1, g2, g3, g4, g5, g6, g7, g8, g9, g10, g11, g12, g13⟩ := Box14.on (Box14.on ⟨f0, f1, f2, f3, f4, f5, f6, f7, f8, f9, f10, f11, f12, f13⟩ ((Below.refl _ w').alloc (Nat.le_refl _) _) (by omega)) hS5 hS7
    have hwW : w.heap.size < W.heap.size := by have := hS5.size; simp only [World.size_alloc] at this; omega
    obtain ⟨i0, hin, hz0, hz1, hz2⟩ := info_parts info27
    go_wp2_with (first
      | (go_at_call 17; (with_reducible refine (many_any _ _ _ _ _ _ _ _ _ _ _ _ _ _ _ _ _ M _ _ HM.out).mono ?_); rintro e w' ⟨rfl, rfl⟩)
      | (at_make; refine wpList_make_own _ rfl _ _ 26 rfl W.heap.size 27 i0 (.int .i32 0) 1 Tryd.underlying26 hin hz0 hz1 _ _ _ M rfl rfl rfl (by rw [hz2]; omega) (by unfold maxLen; omega) (by simp) ?_; intro w8 hown8 hgrow8; have hB8 := ((Below.refl _ W).alloc (Nat.le_refl _) _).grown hgrow8 (by simp) (by simp); obtain ⟨k0, k1, k2, k3, k4, k5, k6, k7, k8, k9, k10, k11, k12, k13⟩ := Box14.on ⟨g0, g1, g2, g3, g4, g5, g6, g7, g8, g9, g10, g11, g12, g13⟩ hB8 hwW; have hsz8 := hgrow8.size; simp only [World.size_alloc] at hsz8 hown8; have hb8 : w.heap.size < w8.heap.size := by omega)
      | (go_at_call 18; refine (ends_any _ _ _ _ _ _ _ _ _ _ _ _ _ _ _).mono ?_; rintro e w' ⟨rfl, rfl⟩))
    have bO := Boxed.new w8 26 (.slice (some ⟨W.heap.size + 1, 0, none⟩) 0 M)
    have bE := World.alloc_heap_new (w8.alloc (.cells #[.slice (some ⟨W.heap.size + 1, 0, none⟩) 0 M] 26)) (.cells #[.int .u8 2, .slice (some ⟨bd, od, none⟩) 1 cd, .slice ar rl pr_, siz, bits, enc, dec, dat, .slice a0 m p0, .slice a1 m p1, .int .i32 n, fns, bnd, txt] 30)
    rw [World.size_alloc] at bE
    have hwW8 := hB8.size
    have hBL : Below W.heap.size W ((w8.alloc (.cells #[.slice (some ⟨W.heap.size + 1, 0, none⟩) 0 M] 26)).alloc (.cells #[.int .u8 2, .slice (some ⟨bd, od, none⟩) 1 cd, .slice ar rl pr_, siz, bits, enc, dec, dat, .slice a0 m p0, .slice a1 m p1, .int .i32 n, fns, bnd, txt] 30)) := (hB8.alloc hwW8 _).alloc (by simp; omega) _
    have hwWB : Below w.heap.size w W := hBw.trans (((Below.refl _ w').alloc (by omega) _).trans (hS5.mono (by simp; omega)))
    have hwL := hwWB.trans (hBL.mono (by omega))
    refine range_w (n := 6) (by omega) (gf := 30) (lb := #[.pointer (some ⟨w8.heap.size + 1, 0, none⟩)]) rfl (enters_of Tryd.func30 (by kernel_rfl) rfl)
      (ends1_stops 5 (by omega) (w8.heap.size + 1) W.heap.size p0 p1 m a0 a1 xs ys (by have := HM.out; omega) hbd _ (by simp) (by simp; omega) ((cell_blk bE 8).trans rfl) ((cell_blk bE 9).trans rfl) ((h0.below hwL).more (by omega)) ((h1.below hwL).more (by omega)))
      (fun h k => h.trans k) (fun V l o o' hl ho hc hw => ⟨belowK_b (w := w8) (by omega) V l o o' (by simp at hl; omega) ho hc hw, World.putObj_heap_other (by simp at hl; omega)⟩) (Below.refl _ _) (fun _ => rfl)
      (fun pre V => (∃ v, Boxed V w8.heap.size 26 v ∧ V.ownsRow W.heap.size 27 1 v pre.length ((outs (powR (min (max x lo) hi) n) rs (pre.map (·.1))).map (.int .i32)) ∧ ∃ g cap, v = .slice (some ⟨g, 0, none⟩) pre.length cap) ∧ (Below W.heap.size W V ∧ V.heap[w8.heap.size + 1]? = some (.cells #[.int .u8 2, .slice (some ⟨bd, od, none⟩) 1 cd, .slice ar rl pr_, siz, bits, enc, dec, dat, .slice a0 m p0, .slice a1 m p1, .int .i32 n, fns, bnd, txt] 30 (0, 0))))
      (OwnFrom.and (Own.from (holdsRow_own W.heap.size w8.heap.size 26 27 1 (fun pre : List PI => pre.length) (fun pre : List PI => (outs (powR (min (max x lo) hi) n) rs (pre.map (·.1))).map (.int .i32)) (fun (pre : List PI) v => ∃ g cap, v = .slice (some ⟨g, 0, none⟩) pre.length cap)) _) (OwnFrom.and (ownFrom_below (Nat.le_refl _) (by simp; omega)) (own_block _ _ _ _ _)))
      ⟨⟨_, bO.alloc _, ?own0, _, _, rfl⟩, hBL, bE⟩
      (fun a x => { tmps := (((a.tmps.setIfInBounds 47 (.int .i32 x.1.1)).setIfInBounds 48 (.int .i32 x.1.2)).setIfInBounds 11 (.int .i32 x.1.1)).setIfInBounds 12 (.int .i32 x.1.2), defers := [] }) ?assign ?body ?done
    case own0 => exact (hown8.alloc _).alloc _
    case assign =>
      intro l x W K hK
      simp only [List.setIfInBounds_toArray, List.set_cons_zero, List.set_cons_succ] at hK
      gi_wp2
      exact hK
    case body =>
      rintro l pre z V ⟨⟨v, hv, hrow, g, cap, rfl⟩, hB, hE⟩ hlt
      simp only [List.setIfInBounds_toArray, List.set_cons_zero, List.set_cons_succ]
      have hp' := (hB.cell (p := ⟨Bp, 0, none⟩) (by omega)).trans hBp3
      have hg2 := (hB.cell (p := ⟨w.heap.size, 2, none⟩) (by omega)).trans g2
      have hc := hv.cell
      obtain ⟨⟨z1, z2⟩, hz1', hz2'⟩ := z
      have hmb := mulB hp hz1' hz2'
      dsimp only at hz1' hz2' hmb ⊢
      unfold I32 at hp hz1' hz2'
      by_cases hlt2 : pre.length < rl
      · have hlt3 : (pre.length : Int) < rl := by omega
        obtain ⟨hrl, hrr⟩ := hr
        obtain ⟨br, or, rfl, hbr, hcr⟩ := hrr.resolve_left (by rintro rfl; simp at hrl; omega)
        have hcr1 := ((hwWB.trans (hB.mono (by omega))).cell (p := ⟨br, or + pre.length * 2, none⟩) hbr).trans (hcr pre.length (by omega)).1
        have hcr2 := ((hwWB.trans (hB.mono (by omega))).cell (p := ⟨br, or + pre.length * 2 + 1, none⟩) hbr).trans (hcr pre.length (by omega)).2
        have hvD : ∀ nq, Boxed (V.drewN nq) _ _ _ := fun _ => hv
        have hrowD : ∀ nq, (V.drewN nq).ownsRow _ _ _ _ _ _ := fun _ => hrow
        have hBD := fun nq => below_drewN hB nq
        gi_wp2_with (first
          | (gi_at_call 19; refine (CallsIn.inRound l (callsIn_wide.2 (sat_any _ _))).mono ?_; rintro e w' ⟨rfl, rfl⟩)
          | (refine ⟨trivial, ?_⟩; gi_at_call 19; refine (CallsIn.inRound l (callsIn_wide.2 (sat_any _ _))).mono ?_; rintro e w' ⟨rfl, rfl⟩)
          )
        refine wpIn_region_quiet_round (by kernel_rfl) (by kernel_rfl) (by kernel_rfl) ?_
        repeat (refine wpQuietIn_step (fun _ _ _ _ => trivial) (fun K hK => ?_); go_simp; first | (refine hK _ ?_; clear hK K) | (apply Exists.intro; refine ⟨fun _ => ?_, hK _ ?_⟩; (gi_at_call 16; exact CallsIn.quiet_of_same (callsIn_wide.2 (held_any _ _ _ _))); clear hK K))
        refine wpQuietIn_nil ?_
        intro V' hV'
        obtain ⟨nq, hV''⟩ := hV'
        subst hV''
        all_goals gi_wp2_with ((gi_at_builtin; go_loud (refine wpListIn_append_own _ rfl _ _ 26 rfl W.heap.size 27 i0 (.int .i32 0) 1 4 Tryd.underlying26 hin hz0 hz1 hz2 rfl (by decide) _ _ _ rfl ((hrowD nq).alloc _) ⟨(w'.drewN nq).heap.size, 0, none⟩ 1 1 [_] rfl rfl (cell_one_new _ _ _) (by simp [Value.oneCell']) (by unfold maxLen; omega) (by omega) (by have := hB.size; simp; omega) ?_); intro v' w1 hown' hgrow _; obtain ⟨g', cap', rfl⟩ := ownsRow_succ hown'; obtain ⟨hv1, hv2, hr2, hk2, hb2⟩ := (hvD nq).appended (by decide) (hrowD nq) (hBD nq).size (by omega) hown' hgrow; have hc1 := hv1.cell; have hf1 := hv1.frozen))
        have hb3 : Below W.heap.size w' (w1.setCell ⟨w8.heap.size, 0, none⟩ (.slice (some ⟨g', 0, none⟩) (pre.length + 1) cap')) := ⟨hb2.os, hb2.tape, hb2.output, hb2.size, hb2.block⟩
        have hk3 : KeepsOthers w' (w1.setCell ⟨w8.heap.size, 0, none⟩ (.slice (some ⟨g', 0, none⟩) (pre.length + 1) cap')) := ⟨hk2.size, hk2.same⟩
        have hE3 := keepE (W := w'.drewN nq) hE (hrowD nq) hgrow (Bo := w8.heap.size) (by omega) (.slice (some ⟨g', 0, none⟩) (pre.length + 1) cap')
        exact ⟨hk3.from _, ⟨hb3, hE3.trans hE.symm⟩, ⟨⟨_, hv2, fin_row hr2 (by simp [outAt, ← hrl, hlt2]), g', cap', by simp⟩, hB.trans hb3, hE3⟩⟩
      · have hlt3 : (rl : Int) ≤ pre.length := by omega
        gi_wp2_with (first
          | (gi_at_call 19; refine (CallsIn.inRound l (callsIn_wide.2 (sat_any _ _))).mono ?_; rintro e w' ⟨rfl, rfl⟩)
          | (refine ⟨trivial, ?_⟩; gi_at_call 19; refine (CallsIn.inRound l (callsIn_wide.2 (sat_any _ _))).mono ?_; rintro e w' ⟨rfl, rfl⟩)
          | (gi_at_builtin; go_loud (refine wpListIn_append_own _ rfl _ _ 26 rfl W.heap.size 27 i0 (.int .i32 0) 1 4 Tryd.underlying26 hin hz0 hz1 hz2 rfl (by decide) _ _ _ rfl (hrow.alloc _) ⟨w'.heap.size, 0, none⟩ 1 1 [_] rfl rfl (cell_one_new _ _ _) (by simp [Value.oneCell']) (by unfold maxLen; omega) (by omega) (by have := hB.size; simp; omega) ?_); intro v' w1 hown' hgrow _; obtain ⟨g', cap', rfl⟩ := ownsRow_succ hown'; obtain ⟨hv1, hv2, hr2, hk2, hb2⟩ := hv.appended (by decide) hrow hB.size (by omega) hown' hgrow; have hc1 := hv1.cell; have hf1 := hv1.frozen))
        exact ⟨KeepsOthers.from hk2 _, ⟨hb2, (keepE hE hrow hgrow (by omega) _).trans hE.symm⟩, ⟨⟨_, hv2, fin_row hr2 (by simp [outAt, ← hr.1, hlt2]), g', cap', by simp⟩, hB.trans hb2, keepE hE hrow hgrow (by omega) _⟩⟩
    case done =>
      rintro D zs V hD hzs ⟨⟨v, hv, hrow, g, cap, rfl⟩, hB, hE⟩ hK
      have hc := hv.cell
      go_wp2
      refine ⟨by simp, .inl ⟨_, _, rfl, run_takeDeferred hK, ?_⟩⟩
      refine ⟨_, results_tmp2 rfl _ _ _, ⟨_, rfl, ?_⟩, ?_⟩
      · have hz : zs.length = (endsL xs ys).length := by rw [← hzs, List.length_map]
        have := ownsRow_putObj hrow (.deferred none) hK rfl
        rw [hzs] at this
        rw [← hz]
        exact lowerRow this (Nat.le_of_lt hwW)
      · exact hwWB.trans ((hB.trans (belowK_b (w := W) (Nat.le_refl _) V D _ _ (by simp at hD; omega) hK rfl rfl)).mono (by omega))
end Go.Proofs.YtogcbmadcgjljaaDoor

/-
  Curves: Eval in all its ways; the small functions of the laws.
-/
set_option linter.all false
namespace Go.Proofs.YtogcbmadcgjljaaDoor
open Go.RowKit

set_option maxHeartbeats 1000000 in
theorem eval_b (f0 f1 f2 f3 f4 f5 f6 f7 f8 f9 f10 f11 f12 f13 vi : Value) (c : Int) (hc : c ≠ 0) (w : World)
    (hchk : ∀ W, Below w.heap.size w W → Calls Tryd.prog 9 #[.agg #[f0, f1, f2, f3, f4, f5, f6, f7, f8, f9, f10, f11, f12, f13]] W fun e w' => e = .returned (.int .i64 c) ∧ Below W.heap.size W w') :
    Calls Tryd.prog 7 #[.agg #[f0, f1, f2, f3, f4, f5, f6, f7, f8, f9, f10, f11, f12, f13], vi] w fun e w' => e = .returned (.tuple #[.slice none 0 0, .int .i64 c]) ∧ Below w.heap.size w w' := by
  have HC := Lib.hid hchk; clear hchk
  go_enter Tryd.func7, Tryd.ntmps7
  go_wp2_with (go_at_call 9; refine (HC.out _ ?_).mono ?_; (first | exact (Below.refl _ w).alloc (Nat.le_refl _) _ | done); rintro e w' ⟨rfl, hBk⟩)
  go_ret2
  exact ⟨rfl, ((Below.refl _ w).alloc (Nat.le_refl _) _).trans (hBk.mono (by simp))⟩
set_option maxHeartbeats 1000000 in
theorem eval_l (f0 f1 f2 f3 f4 f5 f6 f7 f8 f9 f10 f11 f12 f13 : Value) (ai : Option Addr) (li pi : Nat) (hl : li ≠ 1) (hl' : ¬ ((li : Int) = 1)) (w : World)
    (hchk : ∀ W, Below w.heap.size w W → Calls Tryd.prog 9 #[.agg #[f0, f1, f2, f3, f4, f5, f6, f7, f8, f9, f10, f11, f12, f13]] W fun e w' => e = .returned (.int .i64 0) ∧ Below W.heap.size W w') :
    Calls Tryd.prog 7 #[.agg #[f0, f1, f2, f3, f4, f5, f6, f7, f8, f9, f10, f11, f12, f13], .slice ai li pi] w fun e w' => e = .returned (.tuple #[.slice none 0 0, .int .i64 1]) ∧ Below w.heap.size w w' := by
  have HC := Lib.hid hchk; clear hchk
  go_enter Tryd.func7, Tryd.ntmps7
  go_wp2_with (go_at_call 9; refine (HC.out _ ?_).mono ?_; (first | exact (Below.refl _ w).alloc (Nat.le_refl _) _ | done); rintro e w' ⟨rfl, hBk⟩)
  go_ret2
  exact ⟨rfl, ((Below.refl _ w).alloc (Nat.le_refl _) _).trans (hBk.mono (by simp))⟩


/-- all 32 bits. -/
def AllI (xs : List Int) : Prop := ∀ j : Nat, I32 (xs[j]?.getD 0)
def AllR (rs : List (Int × Int)) : Prop := ∀ j : Nat, I32 (rs[j]?.getD (0, 0)).1 ∧ I32 (rs[j]?.getD (0, 0)).2
theorem Rngs.below {n₀ : Nat} {A B : World} (h : Below n₀ A B) {a : Option Addr} {len : Nat} {rs : List (Int × Int)} (hf : Rngs n₀ A a len rs) : Rngs n₀ B a len rs := by
  obtain ⟨h1, h2 | ⟨b, off, e, hb, hc⟩⟩ := hf
  · exact ⟨h1, .inl h2⟩
  · exact ⟨h1, .inr ⟨b, off, e, hb, fun j hj => ⟨(h.cell (p := ⟨b, off + j * 2, none⟩) hb).trans (hc j hj).1, (h.cell (p := ⟨b, off + j * 2 + 1, none⟩) hb).trans (hc j hj).2⟩⟩⟩
theorem Rngs.more {n₀ n₁ : Nat} {W : World} {a : Option Addr} {len : Nat} {rs : List (Int × Int)} (h : Rngs n₀ W a len rs) (hn : n₀ ≤ n₁) : Rngs n₁ W a len rs := by
  obtain ⟨h1, h2 | ⟨b, off, e, hb, hc⟩⟩ := h
  · exact ⟨h1, .inl h2⟩
  · exact ⟨h1, .inr ⟨b, off, e, by omega, hc⟩⟩
theorem j_cell {w : World} (h : Sx.J w) : w.cell? ⟨0, 0, none⟩ = some (.int .i64 0) := by
  obtain ⟨fr, ty, e⟩ := h _ (List.mem_singleton.2 rfl)
  have e' : w.heap[0]? = some (.cells (Sx.gcells (0, [(.i64, 0), (.i64, 65535), (.i64, 32768)])) ty fr) := e
  exact (cell_blk (b := 0) e' 0).trans rfl
/-- Check, in whatever world is behind. -/
theorem check_w (k : Int) (siz bits enc dec dat fns bnd txt : Value) (ad ar a0 a1 : Option Addr) (dl rl l0 l1 pd pr p0 p1 : Nat) (n : Int) (ds rs : List (Int × Int)) (w : World) (hn : I32 n) (hj : Sx.J w)
    (hd : Rngs w.heap.size w ad dl ds) (hr : Rngs w.heap.size w ar rl rs) (W : World) (hW : Below w.heap.size w W) :
    Calls Tryd.prog 9 #[.agg #[.int .u8 k, .slice ad dl pd, .slice ar rl pr, siz, bits, enc, dec, dat, .slice a0 l0 p0, .slice a1 l1 p1, .int .i32 n, fns, bnd, txt]] W fun e w' => e = .returned (.int .i64 (chkAll k ds rs l0 l1 n)) ∧ Below W.heap.size W w' :=
  check_any k siz bits enc dec dat fns bnd txt ad ar a0 a1 dl rl l0 l1 pd pr p0 p1 n ds rs W hn (j_cell (Sx.J_kept hW hj)) ((hd.below hW).more hW.size) ((hr.below hW).more hW.size)
theorem chk_zero {k : Int} {ds rs : List (Int × Int)} {l0 l1 : Nat} {n : Int} (h : chkAll k ds rs l0 l1 n = 0) : k = 2 ∧ ds.length = 1 ∧ l0 = l1 ∧ max l0 1 ≤ 4 ∧ (rs.length = 0 ∨ rs.length = max l0 1) ∧ chkF rs (ds[0]?.getD (0, 0)).1 (ds[0]?.getD (0, 0)).2 n = 0 := by
  unfold chkAll at h
  split at h
  · rename_i hh; exact ⟨hh.1, hh.2.1, hh.2.2.1, hh.2.2.2.1, hh.2.2.2.2, h⟩
  · omega
/-- what a power tells. -/
def evalL (ds rs : List (Int × Int)) (xs ys : List Int) (n x : Int) : List Int :=
  outs (powR (min (max x (ds[0]?.getD (0, 0)).1) (ds[0]?.getD (0, 0)).2) n) rs (endsL xs ys)
theorem eval_any (k : Int) (siz bits enc dec dat fns bnd txt : Value) (ad ar a0 a1 ai : Option Addr) (dl rl l0 l1 li pd pr p0 p1 pi : Nat) (n : Int) (ds rs : List (Int × Int)) (xs ys is : List Int) (w : World) (hn : I32 n) (hj : Sx.J w)
    (hd : Rngs w.heap.size w ad dl ds) (hr : Rngs w.heap.size w ar rl rs) (h0 : Fixs w.heap.size w a0 l0 xs) (h1 : Fixs w.heap.size w a1 l1 ys) (hi : Fixs w.heap.size w ai li is) (id : AllR ds) (ix : AllI xs) (iy : AllI ys) (ii : AllI is) :
    Calls Tryd.prog 7 #[.agg #[.int .u8 k, .slice ad dl pd, .slice ar rl pr, siz, bits, enc, dec, dat, .slice a0 l0 p0, .slice a1 l1 p1, .int .i32 n, fns, bnd, txt], .slice ai li pi] w fun e w' =>
      (∃ v c, e = .returned (.tuple #[v, .int .i64 c]) ∧
        (chkAll k ds rs l0 l1 n ≠ 0 → v = .slice none 0 0 ∧ c = chkAll k ds rs l0 l1 n) ∧ (chkAll k ds rs l0 l1 n = 0 → is.length ≠ 1 → v = .slice none 0 0 ∧ c = 1) ∧
        (chkAll k ds rs l0 l1 n = 0 → is.length = 1 → c = 0 ∧ w'.ownsRow w.heap.size 27 1 v (endsL xs ys).length ((evalL ds rs xs ys n (is[0]?.getD 0)).map (.int .i32)))) ∧ Below w.heap.size w w' := by
  have hW := check_w k siz bits enc dec dat fns bnd txt ad ar a0 a1 dl rl l0 l1 pd pr p0 p1 n ds rs w hn hj hd hr
  by_cases hc : chkAll k ds rs l0 l1 n = 0
  · rw [hc] at hW ⊢
    by_cases hl : li = 1
    · obtain ⟨rfl, e1, rfl, e4, e5, e6⟩ := chk_zero hc
      subst hl
      obtain ⟨q1, q2⟩ := hi
      obtain ⟨bi, oi, rfl, hbi, hci⟩ := q2.resolve_left (by rintro rfl; simp at q1)
      have hd' := hd
      obtain ⟨d1, d2⟩ := hd
      obtain ⟨bd, od, rfl, hbd, hcd⟩ := d2.resolve_left (by rintro rfl; simp at e1)
      obtain rfl : dl = 1 := by omega
      refine (eval_t siz bits enc dec dat fns bnd txt bd od pd bi oi pi ar a0 a1 rl pr l0 p0 p1 (max (max l0 l0) 1) rfl (by omega) _ _ n _ w rs xs ys (fun j => ⟨ix j, iy j⟩) hn (ii 0) (id 0).1 (id 0).2 hj hbd (by simpa using (hcd 0 (by omega)).1) (by simpa using (hcd 0 (by omega)).2) (by simpa using hci 0 (by omega)) hbi hW hr h0 h1).mono ?_
      rintro e w' ⟨⟨v, rfl, hv⟩, hB⟩
      exact ⟨⟨v, 0, rfl, fun h => absurd rfl h, fun _ h => absurd q1.symm h, fun _ _ => ⟨rfl, hv⟩⟩, hB⟩
    · refine (eval_l _ _ _ _ _ _ _ _ _ _ _ _ _ _ ai li pi hl (by omega) w hW).mono ?_
      rintro e w' ⟨rfl, hB⟩
      exact ⟨⟨_, 1, rfl, fun h => absurd rfl h, fun _ _ => ⟨rfl, rfl⟩, fun _ h => absurd (hi.1.trans h) hl⟩, hB⟩
  · refine (eval_b _ _ _ _ _ _ _ _ _ _ _ _ _ _ _ _ hc w hW).mono ?_
    rintro e w' ⟨rfl, hB⟩
    exact ⟨⟨_, _, rfl, fun _ => ⟨rfl, rfl⟩, fun h => absurd h hc, fun h => absurd h hc⟩, hB⟩
end Go.Proofs.YtogcbmadcgjljaaDoor
