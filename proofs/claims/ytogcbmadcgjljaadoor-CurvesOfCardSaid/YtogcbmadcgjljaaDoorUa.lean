/-
  What a walk around an append needs besides the frame: one operation at a time, a row that the call owns, and pieces whose slots are followed.
-/
import Derived.Test.YtogcbmadcgjljaaDoorSxr
import Derived.Great.BuildSlice
import Derived.KernelRfl
import Derived.Test.YtogcbmadcgjljaaDoorRx
import Derived.Test.YtogcbmadcgjljaaDoorRq
import Derived.OwnWalk
set_option linter.all false
namespace Go.Proofs.YtogcbmadcgjljaaDoor.Sx
open Go Go.RowKit

variable {P : Program}

theorem owns_sm {w0 w w' : World} {e : TypeId} {size n : Nat} {v : Value} {xs : List Value} (h : w.ownsRow w0.heap.size e size v n xs) (s : Sm w w') : w'.ownsRow w0.heap.size e size v n xs := by
  refine ⟨h.1, ?_⟩
  rcases h.2 with h | ⟨g, cap, cur, h1, h2, h3, h4⟩
  · exact .inl h
  · refine .inr ⟨g, cap, cur, h1, h2, ?_, h4⟩
    rw [s.1.block g (Array.getElem?_eq_some_iff.1 h3).1]; exact h3

theorem owns_holds {w : World} {base g n cap size : Nat} {e : TypeId} {xs : List Value} (cells : List S) (hx : cells.map S.ev = xs) (h : w.ownsRow base e size (.slice (some ⟨g, 0, none⟩) n cap) n xs) (j : J w) :
    Holds w (memOf [⟨g, cells, 0, false, false⟩]) w := by
  refine ⟨Sm.refl w, j, fun b x hb => ?_⟩
  simp only [memOf, List.find?_cons, List.find?_nil] at hb
  by_cases e : g = b
  · subst e
    simp only [beq_self_eq_true, Option.map_some, Option.some.injEq] at hb
    subst hb
    rcases h.2 with ⟨h', _⟩ | ⟨g', cap', cur, h1, _, h3, _, _, _, h7⟩
    · cases h'
    · cases h1
      refine ⟨_, _, _, h3, fun i v hi => ?_, fun h => by cases h⟩
      simp only [SB.blk, List.getElem?_toArray, hx] at hi
      rw [← h7, List.getElem?_take] at hi
      split at hi
      · simpa using hi
      · cases hi
  · rw [show (g == b) = false by simpa using e] at hb
    cases hb

theorem owns_slice {w : World} {base n size : Nat} {e : TypeId} {v : Value} {xs : List Value} (h : w.ownsRow base e size v n xs) (hn : 0 < n) : ∃ g cap, v = .slice (some ⟨g, 0, none⟩) n cap ∧ base ≤ g := by
  rcases h.2 with ⟨_, h⟩ | ⟨g, cap, cur, h1, h2, _⟩
  · omega
  · exact ⟨g, cap, h1, h2⟩

theorem memOk_one {g : Nat} {cells : List S} (h : ∀ c ∈ cells, c.ok [g]) : MemOk [⟨g, cells, 0, false, false⟩] := by
  refine ⟨by simp [bsOf], fun x hx c hc => ?_⟩
  rw [List.mem_singleton.1 hx] at hc
  exact h c hc
theorem memOk_nil : MemOk [] := ⟨by simp [bsOf], fun x hx => by cases hx⟩
theorem holds_nil {w : World} (j : J w) : Holds w (memOf []) w := ⟨Sm.refl w, j, fun b x hb => by cases hb⟩

/-! ### one operation -/
theorem wpOps_one {ops : Array Oper} {Q : Exit → Act → World → Prop} {i : Nat} {rest : List Nat} {o : Oper} {a : Act} {w : World} (h : ops[i]? = some o) (hg : o.guard = none) (hw : o.wp P a w (wpOps P ops Q rest) Q) : wpOps P ops Q (i :: rest) a w := by
  simp only [wpOps, h]
  rw [if_pos (by simp [Region.wanted, hg])]
  exact .inl hw

theorem mv_wp {o : Oper} {x : Operand} (h : o.op = .move x ∨ o.op = .assign x) {a : Act} {w : World} {K : Act → World → Prop} {Q : Exit → Act → World → Prop} (hk : K (a.put o.dst (a.eval x)) w) : o.wp P a w K Q := by
  unfold Oper.wp execOp
  rcases h with h | h <;> (simp only [h]; exact hk)

theorem bd_wp {o : Oper} {t : TypeId} {parts : Array (Nat × Operand)} (ho : o.op = .build t parts) {a : Act} {w : World} {K : Act → World → Prop} {Q : Exit → Act → World → Prop} (cells : Array Value)
    (hb : P.built t (parts.map fun (i, x) => (i, a.eval x)).toList = some cells) (hk : K (a.put o.dst (.agg cells)) w) : o.wp P a w K Q := by
  unfold Oper.wp execOp
  simp only [ho, Sem.run_bind, run_build w t _ _ hb, Result.andThen_ok]
  exact hk

/-! ### slots that a piece leaves alone -/
def dsOf (ops : Array Oper) (l : List Nat) : List Nat := l.flatMap fun i => match ops[i]? with | some o => o.dst.toList | none => []

theorem symOps_ok2 {tab : Tab} {E : Ctx} {ds : List Deferred} (hV : Valid P tab E) {w0 : World} {inl : Inl} (hI : ∀ w0, InlOk P w0 E inl) {draw : Nat → Lv} {ops : Array Oper} {K : List V → List SB → T} {Kd : Act → Mem → Prop} :
    ∀ (l : List Nat) {mem : List SB}, MemOk mem → ∀ {tmps : List V}, (∀ v ∈ tmps, v.ok (bsOf mem)) → sat E (symOps P tab inl draw ops l tmps mem K) →
      (∀ tmps' mem', Ext mem mem' → Fr (dsOf ops l) tmps tmps' → MemOk mem' → (∀ v ∈ tmps', v.ok (bsOf mem')) → sat E (K tmps' mem') → Kd (actOf ds tmps') (memOf mem')) →
      opsD P w0 (gam tab E) draw ops Kd l (actOf ds tmps) (memOf mem)
  | [], mem, H, tmps, ht, h, hk => hk _ _ (Ext.refl _) (Fr.refl _ _) H ht h
  | i :: r, mem, H, tmps, ht, h, hk => by
    simp only [symOps] at h
    simp only [opsD]
    cases ho : ops[i]? with
    | none =>
      simp only [ho] at h
      refine symOps_ok2 hV hI r H ht h fun t m a f b c d => hk t m a (f.mono fun k hk => ?_) b c d
      simp only [dsOf, List.flatMap_cons, List.mem_append]
      exact .inr hk
    | some o =>
      simp only [ho] at h
      refine symOper_ok hV hI H ht h ?_
      intro tmps' mem' h1 hf h2 h3 h4
      refine symOps_ok2 hV hI r h2 h3 h4 fun t m a f b c d => hk t m (h1.trans a) ((hf.mono fun k hk => ?_).trans (f.mono fun k hk => ?_)) b c d
      · simp only [dsOf, List.flatMap_cons, List.mem_append, ho]
        exact .inl hk
      · simp only [dsOf, List.flatMap_cons, List.mem_append]
        exact .inr hk

theorem move_D {w0 : World} {Γ : FuncId → Array Value → Value → Prop} {g : Lv} {ops : Array Oper} {o : Oper} {x : Operand} {K : Act → Mem → Prop} {a : Act} {m : Mem} (ho : o.op = .move x) (hg : o.guard = none) (h : stepD P w0 Γ g ops o K a m) :
    K (a.put o.dst (a.eval x)) m := by
  unfold stepD at h
  rw [if_pos (by simp [Region.wanted, hg])] at h
  unfold opD at h
  simp only [ho, cls] at h
  obtain ⟨r, h1, h2⟩ := h
  have e : execOp a.eval o = pure (.value (a.eval x)) := by unfold execOp; simp only [ho]
  rw [e] at h1
  cases h1
  exact h2

/-- a plain region's first operations, the first of which is a move. -/
theorem pre_ok2 {tab : Tab} {E : Ctx} (hV : Valid P tab E) {n : Nat} {w0 : World} {id : Nat} {ops : Array Oper} {Q : Exit → Act → World → Prop} {K : List V → List SB → T} (l1 l2 : List Nat) (hl : List.range ops.size = 0 :: l1 ++ l2) {o : Oper} {x d : Nat}
    (ho : ops[0]? = some o) (hop : o.op = .move (.tmp x)) (hg : o.guard = none) (hd : o.dst = some d) {tmps : List V} {mem : List SB}
    (h : sat E (symOps P tab (symFn P (symCode P tab n)) (fun _ => .all) ops (0 :: l1) tmps mem K)) (H : MemOk mem) (ht : ∀ v ∈ tmps, v.ok (bsOf mem)) {v : Value} (hv : (tmps.map V.ev)[x]? = some v) (hdl : d < tmps.length)
    (hk : ∀ tmps' mem', Ext mem mem' → tmps'.length = tmps.length → (∀ i, i ≠ d → i ∉ dsOf ops l1 → (tmps'.map V.ev)[i]? = (tmps.map V.ev)[i]?) → (d ∉ dsOf ops l1 → (tmps'.map V.ev)[d]? = some v) → MemOk mem' → (∀ v ∈ tmps', v.ok (bsOf mem')) → sat E (K tmps' mem') →
      ∀ w, Holds w0 (memOf mem') w → wpOps P ops Q l2 (actOf [] tmps') w)
    (w : World) (Hw : Holds w0 (memOf mem) w) : (Code.region id ops false).wp P Q (actOf [] tmps) w := by
  refine wp_region ?_
  rw [hl]
  simp only [symOps, ho] at h
  have h1 := symOper_ok (ds := []) (w0 := w0) (Kd := fun a m => ∃ t1, a = actOf [] t1 ∧ Fr [d] tmps t1 ∧ opsD P w0 (gam tab E) (fun _ => .all) ops (fun a m => ∃ tmps' mem', a = actOf [] tmps' ∧ m = memOf mem' ∧ Ext mem mem' ∧ Fr (dsOf ops l1) t1 tmps' ∧ MemOk mem' ∧ (∀ v ∈ tmps', v.ok (bsOf mem')) ∧ sat E (K tmps' mem')) l1 a m) hV (fun w => symFn_ok (symCode_ok hV n w)) H ht h ?_
  · have h2 := move_D hop hg h1
    rw [hd] at h2
    obtain ⟨t1, e, f, h2⟩ := h2
    have hx : (actOf [] tmps).eval (.tmp x) = v := by
      simp only [Act.eval, actOf, Array.getD_eq_getD_getElem?, List.getElem?_toArray, hv, Option.getD_some]
    have ht1 : (t1.map V.ev)[d]? = some v := by
      have e2 := e
      rw [hx] at e2
      have := congrArg (fun a : Act => a.tmps.toList[d]?) e2
      simp only [Act.put, actOf] at this
      rw [← this]
      simp [hdl]
    have hh : wpOps P ops Q (l1 ++ l2) ((actOf [] tmps).put (some d) ((actOf [] tmps).eval (.tmp x))) w := by
      refine opsD_pre ?_ l1 h2 Hw
      rintro a' m' w' H' ⟨tmps', mem', rfl, rfl, x1, x2, x3, x4, x5⟩
      refine hk tmps' mem' x1 (x2.1.trans f.1) (fun i hi hn => (x2.2 i hn).trans (f.2 i (by simpa using hi))) (fun hn => (x2.2 d hn).trans ht1) x3 x4 x5 w' H'
    refine wpOps_one ho hg (mv_wp (.inl hop) ?_)
    rw [hd]
    exact hh
  · intro t1 m1 e1 f1 H1 o1 s1
    refine ⟨t1, rfl, by rw [hd] at f1; exact f1, ?_⟩
    exact symOps_ok2 hV (fun w => symFn_ok (symCode_ok hV n w)) l1 H1 o1 s1 fun t m a f b c d => ⟨t, m, rfl, rfl, e1.trans a, f, b, c, d⟩

end Go.Proofs.YtogcbmadcgjljaaDoor.Sx

/-
  The document's roots of 2, made by append: what the slice holds.
-/
set_option linter.all false
set_option maxRecDepth 100000
namespace Go.Proofs.YtogcbmadcgjljaaDoor.Sx
open Go Go.RowKit

noncomputable def tuB : Code := bodyOf Tryd.prog 56
noncomputable def tuHd : Code := sL (tuC Tryd.prog)
noncomputable def tuR4 : Code := sR (sR (tuC Tryd.prog))
noncomputable def tuMi : List Code := tuMids Tryd.prog
noncomputable def tuAp : Array Oper := tuA Tryd.prog
noncomputable def tu0 : Array Oper := rO (sL tuB)
noncomputable def tu1 : Array Oper := rO (sL (sR tuB))
noncomputable def tu1b : Array Oper := rO (sL (sR (sR tuB)))
noncomputable def tu2 : Array Oper := rO (sL (tuM Tryd.prog))
noncomputable def tu11 : Array Oper := rO (sL (sR (sR (sR (sR tuB)))))
def opAt (ops : Array Oper) (n : Nat) : Oper := (ops[n]?).getD default

noncomputable def tuRound : Code := tuHd.seq ((Code.block 1 (seqs tuMi (.region 8 tuAp false))).seq tuR4)

theorem tu_body : Tryd.f56.body = some ((Code.region 0 tu0 false).seq ((Code.region 1 tu1 false).seq ((Code.region 2 tu1b false).seq (((Code.region 3 tu2 false).seq (.block 0 (.loop tuRound))).seq ((Code.region 9 tu11 false).seq .ret))))) := by kernel_rfl

def kT (k : Nat) : Int := if k = 0 then 9223372036854775808 else rT.getD (k - 1) 0
def tuV (n : Nat) : List Value := (tuCells.take n).map litV

theorem tu_num : ∀ k : Fin 32, 0 ≤ kT k ∧ kT k ≤ 9223372036854775808 ∧ 0 < kT (k + 1) ∧
    kT (k + 1) * kT (k + 1) ≤ kT k * 4611686018427387904 ∧ kT k * 4611686018427387904 < (kT (k + 1) + 1) * (kT (k + 1) + 1) := by decide +kernel
theorem tu_take : ∀ k : Fin 32, tuCells.take (k + 1) = tuCells.take k ++ [(.u64, kT (k + 1))] := by decide +kernel

theorem tuV_succ {k : Nat} (h : k < 32) : tuV (k + 1) = tuV k ++ [.int .u64 (kT (k + 1))] := by
  unfold tuV
  rw [tu_take ⟨k, h⟩, List.map_append]
  rfl

theorem root_pos {n c : Int} (h : isRoot n c) : 0 ≤ c := by
  rcases Int.lt_or_le c 0 with z | z
  · obtain ⟨h1, h2⟩ := h
    obtain ⟨d, rfl⟩ : ∃ d, c = -1 - d := ⟨-1 - c, by omega⟩
    have e1 : (-1 - d) * (-1 - d) = d * d + 2 * d + 1 := by grind
    have e2 : (-1 - d + 1) * (-1 - d + 1) = d * d := by grind
    omega
  · exact z

theorem tu_next {k : Nat} (hk : k < 32) {c : Int} (h : isRoot (kT k * 4611686018427387904) c) : c = kT (k + 1) := by
  obtain ⟨_, _, h5, h6, h7⟩ := tu_num ⟨k, hk⟩
  exact root_uniq h ⟨h6, h7⟩ (root_pos h) (Int.le_of_lt h5)

structure TuI (w0 : World) (a : Act) (w : World) (k : Nat) : Prop where
  d : a.defers = []
  n : a.tmps.toList.length = 31
  le : k ≤ 32
  m : a.tmps.toList[0]? = some (.int .i64 32)
  t : a.tmps.toList[4]? = some (.int .u64 (kT k))
  i : a.tmps.toList[5]? = some (.int .i64 k)
  s : ∃ v, a.tmps.toList[3]? = some v ∧ w.ownsRow w0.heap.size 61 1 v k (tuV k)
  sm : Sm w0 w

theorem tu_rng : List.range tuAp.size = 0 :: [1, 2] ++ [3, 4] := by kernel_rfl
theorem tu_g0 : ((tuHd :: tuMi).flatMap dsts).contains 0 = false := by kernel_rfl
theorem tu_g3 : ((tuHd :: tuMi).flatMap dsts).contains 3 = false := by kernel_rfl
theorem tu_g5 : ((tuHd :: tuMi).flatMap dsts).contains 5 = false := by kernel_rfl
theorem tu_g26 : (dsOf tuAp [1, 2]).contains 26 = false := by kernel_rfl
theorem tu_h0 : (dsOf tuAp [1, 2]).contains 0 = false := by kernel_rfl
theorem tu_h5 : (dsOf tuAp [1, 2]).contains 5 = false := by kernel_rfl
theorem tu_r0 : (dsts tuR4).contains 0 = false := by kernel_rfl
theorem tu_r3 : (dsts tuR4).contains 3 = false := by kernel_rfl
theorem tu_r4 : (dsts tuR4).contains 4 = false := by kernel_rfl
theorem tu_o0 : (dsts tuHd).contains 0 = false := by kernel_rfl
theorem tu_o3 : (dsts tuHd).contains 3 = false := by kernel_rfl
theorem tu_o4 : (dsts tuHd).contains 4 = false := by kernel_rfl
theorem tu_o5 : (dsts tuHd).contains 5 = false := by kernel_rfl
theorem tu_p0 : tuAp[0]? = some (opAt tuAp 0) := by kernel_rfl
theorem tu_p0o : (opAt tuAp 0).op = .move (.tmp 3) := by kernel_rfl
theorem tu_p0g : (opAt tuAp 0).guard = none := by kernel_rfl
theorem tu_p0d : (opAt tuAp 0).dst = some 26 := by kernel_rfl
theorem tu_p3 : tuAp[3]? = some (opAt tuAp 3) := by kernel_rfl
theorem tu_p3o : (opAt tuAp 3).op = .call { callee := .builtin .append, args := #[.tmp 26, .tmp 28], argTypes := #[89, 89] } := by kernel_rfl
theorem tu_p3g : (opAt tuAp 3).guard = none := by kernel_rfl
theorem tu_p3d : (opAt tuAp 3).dst = some 29 := by kernel_rfl
theorem tu_p4 : tuAp[4]? = some (opAt tuAp 4) := by kernel_rfl
theorem tu_p4o : (opAt tuAp 4).op = .assign (.tmp 29) := by kernel_rfl
theorem tu_p4g : (opAt tuAp 4).guard = none := by kernel_rfl
theorem tu_p4d : (opAt tuAp 4).dst = some 3 := by kernel_rfl
theorem tu_under : Tryd.prog.underlying 89 = some (.slice 61) := by kernel_rfl
theorem tu_info : (Tryd.prog.info? 61).map (fun i => (i.zero, i.size, i.bytes)) = some (some (.int .u64 0), 1, 8) := by kernel_rfl

theorem put_get (a : Act) (d i : Nat) (v : Value) (h : d < a.tmps.toList.length) : (a.put (some d) v).tmps.toList[i]? = if d = i then some v else a.tmps.toList[i]? := by
  simp only [Act.put, Array.toList_setIfInBounds]
  rw [List.getElem?_set]
  by_cases e : d = i
  · subst e; simp only [if_true]; rw [if_pos h]
  · simp [e]
theorem put_len (a : Act) (d : Nat) (v : Value) : (a.put (some d) v).tmps.toList.length = a.tmps.toList.length := by
  simp only [Act.put, Array.toList_setIfInBounds, List.length_set]
theorem notin {l : List Nat} {i : Nat} (h : l.contains i = false) : i ∉ l := by
  intro hm
  rw [List.contains_iff_mem.2 hm] at h
  cases h

theorem get_act {a : Act} {ts : List V} (h : actOf [] ts = a) : ts.map V.ev = a.tmps.toList := by
  have := congrArg (fun a : Act => a.tmps.toList) h
  simpa [actOf] using this

theorem act_get {a : Act} {t : Nat} {v : Value} (h : a.tmps.toList[t]? = some v) : a.eval (.tmp t) = v := by
  simp only [Act.eval, Array.getD_eq_getD_getElem?]
  rw [← Array.getElem?_toList, h]
  rfl
theorem actOf_toList (ts : List V) : (actOf [] ts).tmps.toList = ts.map V.ev := by simp [actOf]

theorem tu_round (h1 : P_tround) (h2 : P_tnext) (hV : Valid Tryd.prog tab60 E) {w0 : World} {a : Act} {w : World} {k : Nat} (j : J w0) (hk : k < 32) (I : TuI w0 a w k) {Q : Exit → Act → World → Prop} :
    tuRound.wp Tryd.prog (Exit.then (fun a' w' => TuI w0 a' w' (k + 1)) Q) a w := by
  obtain ⟨v, hv, hown⟩ := I.s
  have jw : J w := I.sm.j j
  obtain ⟨x0, x1, _, _, _⟩ := tu_num ⟨k, hk⟩
  simp only at x0 x1
  have ha : actOf [] (hdT 31 a.tmps.toList [(0, .a (.s (.int .i64 (.lit 32)))), (4, .a (.s (.int .u64 (.v (kT k) 0 9223372036854775808)))), (5, .a (.s (.int .i64 (.lit k))))]) = a := by
    refine hdT_act I.d I.n ?_
    intro p hp
    simp only [List.mem_cons, List.not_mem_nil, or_false] at hp
    rcases hp with rfl | rfl | rfl
    · exact I.m
    · exact I.t
    · exact I.i
  have hev := get_act ha
  have hT := all_tround h1 a.tmps.toList k hk (kT k) x0 x1 trivial
  rw [← ha]
  refine seq_ok hV (w0 := w) [tuHd] (last := (Code.block 1 (seqs tuMi (.region 8 tuAp false))).seq tuR4) hT memOk_nil (hdT_ok ?_) ?_ w (holds_nil jw)
  · intro p hp
    simp only [List.mem_cons, List.not_mem_nil, or_false] at hp
    rcases hp with rfl | rfl | rfl
    · trivial
    · exact ⟨x0, x1⟩
    · trivial
  intro t1 m1 e1 f1 H1 o1 s1 w1 Hw1
  refine wp_seq (wp_block ?_)
  refine seq_ok hV (w0 := w) tuMi s1 H1 o1 ?_ w1 Hw1
  intro t2 m2 e2 f2 H2 o2 s2 w2 Hw2
  have f12 : Fr ((tuHd :: tuMi).flatMap dsts) (hdT 31 a.tmps.toList [(0, .a (.s (.int .i64 (.lit 32)))), (4, .a (.s (.int .u64 (.v (kT k) 0 9223372036854775808)))), (5, .a (.s (.int .i64 (.lit k))))]) t2 :=
    (f1.mono fun i hi => by simpa using Or.inl hi).trans (f2.mono fun i hi => by simpa using Or.inr hi)
  have q0 : (t2.map V.ev)[0]? = some (.int .i64 32) := by rw [f12.2 0 (notin tu_g0), hev]; exact I.m
  have q3 : (t2.map V.ev)[3]? = some v := by rw [f12.2 3 (notin tu_g3), hev]; exact hv
  have q5 : (t2.map V.ev)[5]? = some (.int .i64 k) := by rw [f12.2 5 (notin tu_g5), hev]; exact I.i
  have hl2 : t2.length = 31 := by
    rw [f12.1]
    have := congrArg List.length hev
    rw [List.length_map, I.n] at this
    exact this
  refine pre_ok2 hV (w0 := w) [1, 2] [3, 4] tu_rng tu_p0 tu_p0o tu_p0g tu_p0d s2 H2 o2 q3 (by omega) ?_ w2 Hw2
  intro t3 m3 e3 l3 f3 g3 H3 o3 s3 w3 Hw3
  obtain ⟨s3a, s3b⟩ := s3
  obtain ⟨b, ns, hb, hn, hpost, hnews⟩ := endT_ok H3 o3 s3a
  obtain ⟨c', hc', hpost'⟩ := endN_ok s3b
  match ns, hn with
  | [c], _ =>
  obtain rfl := tu_next hk (show isRoot _ c from hpost)
  obtain rfl := tu_next hk (show isRoot _ c' from hpost')
  have h26 : (t3.map V.ev)[26]? = some v := g3 (notin tu_g26)
  have r0 : (t3.map V.ev)[0]? = some (.int .i64 32) := by rw [f3 0 (by omega) (notin tu_h0)]; exact q0
  have r5 : (t3.map V.ev)[5]? = some (.int .i64 k) := by rw [f3 5 (by omega) (notin tu_h5)]; exact q5
  obtain ⟨ti, hi, hz, hsz, hby⟩ := info_parts tu_info
  have e26 : (actOf [] t3).eval (.tmp 26) = v := act_get (by rw [actOf_toList]; exact h26)
  refine wpOps_one tu_p3 tu_p3g ?_
  refine ap_wp (w0 := w0) (.tmp 26) (.tmp 28) 89 tu_p3o 61 ti _ 1 8 tu_under hi hz hsz hby rfl (by omega) _ k (tuV k) e26 (owns_sm hown Hw3.sm) (I.sm.trans Hw3.sm) ⟨b, 0, none⟩ 1 1 [.int .u64 (kT (k + 1))] hb rfl (hnews Hw3) ?_ (by omega) (by simp only [maxLen]; omega) (by omega) ?_
  · intro u hu
    simp only [List.mem_cons, List.not_mem_nil, or_false] at hu
    subst hu
    rfl
  intro g' cap' w4 hown4 hsm4
  rw [← tuV_succ (by omega)] at hown4
  rw [tu_p3d]
  refine wpOps_one tu_p4 tu_p4g (mv_wp (.inr tu_p4o) ?_)
  rw [tu_p4d]
  generalize hv' : Value.slice (some ⟨g', 0, none⟩) (k + 1) cap' = v' at hown4 ⊢
  have l3' : (actOf [] t3).tmps.toList.length = 31 := by simp [actOf, l3, hl2]
  have e61 : ((actOf [] t3).put (some 29) v').eval (.tmp 29) = v' := act_get (by rw [put_get _ _ _ _ (by omega), if_pos rfl])
  rw [e61]
  generalize ha5 : ((actOf [] t3).put (some 29) v').put (some 3) v' = a5
  have n5 : a5.tmps.toList.length = 31 := by rw [← ha5, put_len, put_len, l3']
  have d5 : a5.defers = [] := by rw [← ha5]; rfl
  have keep : ∀ i u, i ≠ 29 → i ≠ 3 → (t3.map V.ev)[i]? = some u → a5.tmps.toList[i]? = some u := by
    intro i u i1 i2 h
    rw [← ha5, put_get _ _ _ _ (by rw [put_len, l3']; omega), if_neg (by omega), put_get _ _ _ _ (by rw [l3']; omega), if_neg (by omega), actOf_toList]
    exact h
  have s53 : a5.tmps.toList[3]? = some v' := by rw [← ha5, put_get _ _ _ _ (by rw [put_len, l3']; omega), if_pos rfl]
  have s50 := keep 0 _ (by omega) (by omega) r0
  have s54 := keep 4 _ (by omega) (by omega) hc'
  have s55 := keep 5 _ (by omega) (by omega) r5
  show tuR4.wp Tryd.prog _ a5 w4
  have hT2 := all_tnext h2 a5.tmps.toList 0 (by omega) (k : Int) (by omega) (by omega) trivial
  have ha6 : actOf [] (hdT 31 a5.tmps.toList [(5, .a (.s (.int .i64 (.v (k : Int) 0 31))))]) = a5 := by
    refine hdT_act d5 n5 ?_
    intro p hp
    simp only [List.mem_cons, List.not_mem_nil, or_false] at hp
    subst hp
    exact s55
  have hev6 := get_act ha6
  rw [← ha6]
  refine (symCode_ok hV 2000 w4 [] 56 tuR4 _ [] _ _ hT2 memOk_nil (hdT_ok ?_) ?_ w4 (holds_nil (hsm4.j j))).1
  · intro p hp
    simp only [List.mem_cons, List.not_mem_nil, or_false] at hp
    subst hp
    exact ⟨by omega, by omega⟩
  intro ex t6 m6 e6 f6 H6 o6 s6 w6 Hw6
  cases ex with
  | exit id => exact s6.elim
  | ret => exact s6.elim
  | normal =>
    obtain ⟨n, hn6, hp6⟩ := endN_ok s6
    have hp6' : n = (k : Int) + 1 := hp6
    refine ⟨rfl, ?_, by omega, ?_, ?_, ?_, ⟨v', ?_, owns_sm hown4 Hw6.sm⟩, hsm4.trans Hw6.sm⟩
    · have := congrArg List.length hev6
      simp only [List.length_map] at this
      simp [actOf, f6.1, this, n5]
    · rw [actOf_toList, f6.2 0 (notin tu_r0), hev6]; exact s50
    · rw [actOf_toList, f6.2 4 (notin tu_r4), hev6]; exact s54
    · rw [actOf_toList, hn6, hp6']
      congr 2
    · rw [actOf_toList, f6.2 3 (notin tu_r3), hev6]; exact s53

def tuK (ex : Ex) (tmps : List V) (mem : List SB) : T := match ex with | .exit 0 => .is (.lit true) | _ => .fail "out"
theorem tu_leave (vs : List Value) : sat E (symCode Tryd.prog tab60 2000 56 tuHd (hdT 31 vs [(0, .a (.s (.int .i64 (.lit 32)))), (5, .a (.s (.int .i64 (.lit 32))))]) [] tuK) = sat E (.is (.lit true)) := by kernel_rfl

theorem tu_out (hV : Valid Tryd.prog tab60 E) {w0 : World} {a : Act} {w : World} (j : J w0) (I : TuI w0 a w 32) {Q : Exit → Act → World → Prop} (hQ : ∀ a' w', TuI w0 a' w' 32 → Q (.exit 0) a' w') :
    tuRound.wp Tryd.prog Q a w := by
  obtain ⟨v, hv, hown⟩ := I.s
  have ha : actOf [] (hdT 31 a.tmps.toList [(0, .a (.s (.int .i64 (.lit 32)))), (5, .a (.s (.int .i64 (.lit 32))))]) = a := by
    refine hdT_act I.d I.n ?_
    intro p hp
    simp only [List.mem_cons, List.not_mem_nil, or_false] at hp
    rcases hp with rfl | rfl
    · exact I.m
    · exact I.i
  have hev := get_act ha
  rw [← ha]
  refine wp_seq ?_
  refine (symCode_ok hV 2000 w [] 56 tuHd _ [] tuK _ ((tu_leave a.tmps.toList).mpr rfl) memOk_nil (hdT_ok ?_) ?_ w (holds_nil (I.sm.j j))).1
  · intro p hp
    simp only [List.mem_cons, List.not_mem_nil, or_false] at hp
    rcases hp with rfl | rfl <;> trivial
  intro ex t6 m6 e6 f6 H6 o6 s6 w6 Hw6
  match ex, s6 with
  | .exit 0, _ =>
    refine hQ _ _ ⟨rfl, ?_, by omega, ?_, ?_, ?_, ⟨v, ?_, owns_sm hown Hw6.sm⟩, I.sm.trans Hw6.sm⟩
    · have := congrArg List.length hev
      simp only [List.length_map] at this
      simp [actOf, f6.1, this, I.n]
    · rw [actOf_toList, f6.2 0 (notin tu_o0), hev]; exact I.m
    · rw [actOf_toList, f6.2 4 (notin tu_o4), hev]; exact I.t
    · rw [actOf_toList, f6.2 5 (notin tu_o5), hev]; exact I.i
    · rw [actOf_toList, f6.2 3 (notin tu_o3), hev]; exact hv

def tuMu (a : Act) (_ : World) : Nat := match a.tmps.toList[5]? with | some (Value.int _ n) => (33 - n).toNat | _ => 0
theorem tuMu_eq {w0 : World} {a : Act} {w : World} {k : Nat} (I : TuI w0 a w k) : tuMu a w = 33 - k := by
  unfold tuMu
  rw [I.i]
  simp only
  have := I.le
  omega

theorem tu_loop (h1 : P_tround) (h2 : P_tnext) (hV : Valid Tryd.prog tab60 E) {w0 : World} (j : J w0) {a : Act} {w : World} (h0 : TuI w0 a w 0) {Q : Exit → Act → World → Prop} (hQ : ∀ a' w', TuI w0 a' w' 32 → Q (.exit 0) a' w') :
    (Code.loop tuRound).wp Tryd.prog Q a w := by
  refine wp_loop (fun a w => ∃ k, TuI w0 a w k) tuMu ⟨0, h0⟩ ?_
  rintro a w ⟨k, I⟩
  rcases Nat.lt_or_ge k 32 with hk | hk
  · refine Code.wp_mono ?_ (tu_round h1 h2 hV j hk I (Q := Q))
    intro e a' w' q
    cases e with
    | normal => exact ⟨⟨k + 1, q⟩, by rw [tuMu_eq I, tuMu_eq q]; omega⟩
    | _ => exact q
  · have e : k = 32 := Nat.le_antisymm I.le hk
    subst e
    exact tu_out hV j I hQ

theorem one_result {fn : Func} {tmps : Array Value} {t : Nat} {v : Value} (h : fn.results = #[.tmp t]) (hv : tmps.toList[t]? = some v) (w : World) : (results fn tmps).run Tryd.prog w = .ok v w := by
  have e : tmps[t]?.getD undef = v := by
    rw [← Array.getElem?_toList, hv]
    rfl
  unfold results
  rw [h]
  simp [e]

theorem tu_0o : (opAt tu0 0).op = .assign (.const (.slice none 0 0)) := by kernel_rfl
theorem tu_1o : (opAt tu1 0).op = .assign (.const (.slice none 0 0)) := by kernel_rfl
theorem tu_1bo : (opAt tu1b 0).op = .assign (.const (.int .u64 9223372036854775808)) := by kernel_rfl
theorem tu_2o : (opAt tu2 0).op = .assign (.const (.int .i64 0)) := by kernel_rfl
theorem tu_11a : (opAt tu11 0).op = .move (.tmp 3) := by kernel_rfl
theorem tu_11b : (opAt tu11 1).op = .assign (.tmp 30) := by kernel_rfl

theorem roots_new (h1 : P_tround) (h2 : P_tnext) : P_roots := by
  intro hV w j
  refine calls_of_wp Tryd.func56 tu_body ?_
  have hnt : Tryd.f56.ntmps = 31 := by kernel_rfl
  generalize ha0 : ({ tmps := ((new_roots.args.map litV).toArray : Array Value) ++ Array.replicate (Tryd.f56.ntmps - (new_roots.args.map litV).toArray.size) undef, defers := [] } : Act) = a0
  have l0 : a0.tmps.toList.length = 31 := by rw [← ha0, hnt]; simp [new_roots]
  have d0 : a0.defers = [] := by rw [← ha0]
  have g0 : a0.tmps.toList[0]? = some (.int .i64 32) := by rw [← ha0, hnt]; rfl
  refine wp_seq (wp_region ?_)
  rw [show List.range tu0.size = [0] by kernel_rfl]
  refine wpOps_one (o := opAt tu0 0) (by kernel_rfl) (by kernel_rfl) (mv_wp (.inr tu_0o) ?_)
  rw [show (opAt tu0 0).dst = some 2 by kernel_rfl]
  generalize ha1 : a0.put (some 2) (a0.eval (.const (.slice none 0 0))) = a1
  have l1 : a1.tmps.toList.length = 31 := by rw [← ha1, put_len, l0]
  have d1 : a1.defers = [] := by rw [← ha1]; exact d0
  have g1 : a1.tmps.toList[0]? = some (.int .i64 32) := by rw [← ha1, put_get _ _ _ _ (by omega), if_neg (by omega)]; exact g0
  refine wp_seq (wp_region ?_)
  rw [show List.range tu1.size = [0] by kernel_rfl]
  refine wpOps_one (o := opAt tu1 0) (by kernel_rfl) (by kernel_rfl) (mv_wp (.inr tu_1o) ?_)
  rw [show (opAt tu1 0).dst = some 3 by kernel_rfl]
  generalize ha2 : a1.put (some 3) (a1.eval (.const (.slice none 0 0))) = a2
  have l2 : a2.tmps.toList.length = 31 := by rw [← ha2, put_len, l1]
  have d2 : a2.defers = [] := by rw [← ha2]; exact d1
  have g2 : a2.tmps.toList[0]? = some (.int .i64 32) := by rw [← ha2, put_get _ _ _ _ (by omega), if_neg (by omega)]; exact g1
  have k2 : a2.tmps.toList[3]? = some (.slice none 0 0) := by rw [← ha2, put_get _ _ _ _ (by omega), if_pos rfl]; rfl
  refine wp_seq (wp_region ?_)
  rw [show List.range tu1b.size = [0] by kernel_rfl]
  refine wpOps_one (o := opAt tu1b 0) (by kernel_rfl) (by kernel_rfl) (mv_wp (.inr tu_1bo) ?_)
  rw [show (opAt tu1b 0).dst = some 4 by kernel_rfl]
  generalize ha3 : a2.put (some 4) (a2.eval (.const (.int .u64 9223372036854775808))) = a3
  have l3 : a3.tmps.toList.length = 31 := by rw [← ha3, put_len, l2]
  have d3 : a3.defers = [] := by rw [← ha3]; exact d2
  have g3 : a3.tmps.toList[0]? = some (.int .i64 32) := by rw [← ha3, put_get _ _ _ _ (by omega), if_neg (by omega)]; exact g2
  have k3 : a3.tmps.toList[3]? = some (.slice none 0 0) := by rw [← ha3, put_get _ _ _ _ (by omega), if_neg (by omega)]; exact k2
  have m3 : a3.tmps.toList[4]? = some (.int .u64 9223372036854775808) := by rw [← ha3, put_get _ _ _ _ (by omega), if_pos rfl]; rfl
  refine wp_seq (wp_seq (wp_region ?_))
  rw [show List.range tu2.size = [0] by kernel_rfl]
  refine wpOps_one (o := opAt tu2 0) (by kernel_rfl) (by kernel_rfl) (mv_wp (.inr tu_2o) ?_)
  rw [show (opAt tu2 0).dst = some 5 by kernel_rfl]
  have I : TuI w (a3.put (some 5) (a3.eval (.const (.int .i64 0)))) w 0 := by
    refine ⟨d3, by rw [put_len, l3], by omega, ?_, ?_, by rw [put_get _ _ _ _ (by omega), if_pos rfl]; rfl, ⟨.slice none 0 0, ?_, ⟨rfl, .inl ⟨rfl, rfl⟩⟩⟩, Sm.refl w⟩
    · rw [put_get _ _ _ _ (by omega), if_neg (by omega)]; exact g3
    · rw [put_get _ _ _ _ (by omega), if_neg (by omega)]; exact m3
    · rw [put_get _ _ _ _ (by omega), if_neg (by omega)]; exact k3
  refine wp_block (tu_loop h1 h2 hV j I ?_)
  intro a5 w5 I5
  refine wp_seq (wp_region ?_)
  rw [show List.range tu11.size = [0, 1] by kernel_rfl]
  refine wpOps_one (o := opAt tu11 0) (by kernel_rfl) (by kernel_rfl) (mv_wp (.inl tu_11a) ?_)
  rw [show (opAt tu11 0).dst = some 30 by kernel_rfl]
  obtain ⟨v, hv, hown5⟩ := I5.s
  obtain ⟨g, cap, rfl, hg⟩ := owns_slice hown5 (by omega)
  rw [act_get hv]
  have l6 := I5.n
  refine wpOps_one (o := opAt tu11 1) (by kernel_rfl) (by kernel_rfl) (mv_wp (.inr tu_11b) ?_)
  rw [show (opAt tu11 1).dst = some 2 by kernel_rfl]
  rw [act_get (t := 30) (a := a5.put (some 30) _) (by rw [put_get _ _ _ _ (by omega), if_pos rfl])]
  refine wp_ret ⟨I5.d, _, one_result (t := 2) (by kernel_rfl) (by rw [put_get _ _ _ _ (by rw [put_len]; omega), if_pos rfl]) w5, ?_⟩
  refine ⟨g, cap, rfl, I5.sm, hg, ?_⟩
  rcases hown5.2 with ⟨h', _⟩ | ⟨g', cap', cur, q1, _, q3, _, _, _, q7⟩
  · cases h'
  · cases q1
    refine ⟨_, _, _, q3, fun i u hu => ?_⟩
    have e : tuV 32 = new_roots.cells.map litV := by
      unfold tuV
      rw [List.take_of_length_le (by decide)]
      rfl
    rw [← e, ← q7, List.getElem?_take] at hu
    split at hu
    · simpa using hu
    · cases hu

end Go.Proofs.YtogcbmadcgjljaaDoor.Sx
