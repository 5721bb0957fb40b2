/-
  What a walk around an append needs besides the frame: one operation at a time, a row that the call owns, and pieces whose slots are followed.
-/
import Derived.Test.YthiinecohgmnmaaSxr
import Derived.Great.BuildSlice
import Derived.KernelRfl
set_option linter.all false
namespace Go.Proofs.Ythiinecohgmnmaa.Sx
open Go Go.RowKit

variable {P : Program}

theorem owns_sm {w0 w w' : World} {e : TypeId} {size n : Nat} {v : Value} {xs : List Value} (h : w.ownsRow w0.heap.size e size v n xs) (s : Sm w w') : w'.ownsRow w0.heap.size e size v n xs := by
  refine ⟨h.1, ?_⟩
  rcases h.2 with h | ⟨g, cap, cur, h1, h2, h3, h4⟩
  · exact .inl h
  · refine .inr ⟨g, cap, cur, h1, h2, ?_, h4⟩
    rw [s.1.block g (Array.getElem?_eq_some_iff.1 h3).1]; exact h3

theorem owns_holds {w : World} {base g n cap size : Nat} {e : TypeId} {xs : List Value} (cells : List S) (hx : cells.map S.ev = xs) (h : w.ownsRow base e size (.slice (some ⟨g, 0, none⟩) n cap) n xs) (j : J w) :
    Holds w (memOf [⟨g, cells, 0, false, false⟩]) w := by
  refine ⟨Sm.refl w, j, fun b x hb => ?_⟩
  simp only [memOf, List.find?_cons, List.find?_nil] at hb
  by_cases e : g = b
  · subst e
    simp only [beq_self_eq_true, Option.map_some, Option.some.injEq] at hb
    subst hb
    rcases h.2 with ⟨h', _⟩ | ⟨g', cap', cur, h1, _, h3, _, _, _, h7⟩
    · cases h'
    · cases h1
      refine ⟨_, _, _, h3, fun i v hi => ?_, fun h => by cases h⟩
      simp only [SB.blk, List.getElem?_toArray, hx] at hi
      rw [← h7, List.getElem?_take] at hi
      split at hi
      · simpa using hi
      · cases hi
  · rw [show (g == b) = false by simpa using e] at hb
    cases hb

theorem owns_slice {w : World} {base n size : Nat} {e : TypeId} {v : Value} {xs : List Value} (h : w.ownsRow base e size v n xs) (hn : 0 < n) : ∃ g cap, v = .slice (some ⟨g, 0, none⟩) n cap ∧ base ≤ g := by
  rcases h.2 with ⟨_, h⟩ | ⟨g, cap, cur, h1, h2, _⟩
  · omega
  · exact ⟨g, cap, h1, h2⟩

theorem memOk_one {g : Nat} {cells : List S} (h : ∀ c ∈ cells, c.ok [g]) : MemOk [⟨g, cells, 0, false, false⟩] := by
  refine ⟨by simp [bsOf], fun x hx c hc => ?_⟩
  rw [List.mem_singleton.1 hx] at hc
  exact h c hc
theorem memOk_nil : MemOk [] := ⟨by simp [bsOf], fun x hx => by cases hx⟩
theorem holds_nil {w : World} (j : J w) : Holds w (memOf []) w := ⟨Sm.refl w, j, fun b x hb => by cases hb⟩

/-! ### one operation -/
theorem wpOps_one {ops : Array Oper} {Q : Exit → Act → World → Prop} {i : Nat} {rest : List Nat} {o : Oper} {a : Act} {w : World} (h : ops[i]? = some o) (hg : o.guard = none) (hw : o.wp P a w (wpOps P ops Q rest) Q) : wpOps P ops Q (i :: rest) a w := by
  simp only [wpOps, h]
  rw [if_pos (by simp [Region.wanted, hg])]
  exact .inl hw

theorem mv_wp {o : Oper} {x : Operand} (h : o.op = .move x ∨ o.op = .assign x) {a : Act} {w : World} {K : Act → World → Prop} {Q : Exit → Act → World → Prop} (hk : K (a.put o.dst (a.eval x)) w) : o.wp P a w K Q := by
  unfold Oper.wp execOp
  rcases h with h | h <;> (simp only [h]; exact hk)

theorem bd_wp {o : Oper} {t : TypeId} {parts : Array (Nat × Operand)} (ho : o.op = .build t parts) {a : Act} {w : World} {K : Act → World → Prop} {Q : Exit → Act → World → Prop} (cells : Array Value)
    (hb : P.built t (parts.map fun (i, x) => (i, a.eval x)).toList = some cells) (hk : K (a.put o.dst (.agg cells)) w) : o.wp P a w K Q := by
  unfold Oper.wp execOp
  simp only [ho, Sem.run_bind, run_build w t _ _ hb, Result.andThen_ok]
  exact hk

/-! ### slots that a piece leaves alone -/
def dsOf (ops : Array Oper) (l : List Nat) : List Nat := l.flatMap fun i => match ops[i]? with | some o => o.dst.toList | none => []

theorem symOps_ok2 {tab : Tab} {E : Ctx} {ds : List Deferred} (hV : Valid P tab E) {w0 : World} {inl : Inl} (hI : ∀ w0, InlOk P w0 E inl) {draw : Nat → Lv} {ops : Array Oper} {K : List V → List SB → T} {Kd : Act → Mem → Prop} :
    ∀ (l : List Nat) {mem : List SB}, MemOk mem → ∀ {tmps : List V}, (∀ v ∈ tmps, v.ok (bsOf mem)) → sat E (symOps P tab inl draw ops l tmps mem K) →
      (∀ tmps' mem', Ext mem mem' → Fr (dsOf ops l) tmps tmps' → MemOk mem' → (∀ v ∈ tmps', v.ok (bsOf mem')) → sat E (K tmps' mem') → Kd (actOf ds tmps') (memOf mem')) →
      opsD P w0 (gam tab E) draw ops Kd l (actOf ds tmps) (memOf mem)
  | [], mem, H, tmps, ht, h, hk => hk _ _ (Ext.refl _) (Fr.refl _ _) H ht h
  | i :: r, mem, H, tmps, ht, h, hk => by
    simp only [symOps] at h
    simp only [opsD]
    cases ho : ops[i]? with
    | none =>
      simp only [ho] at h
      refine symOps_ok2 hV hI r H ht h fun t m a f b c d => hk t m a (f.mono fun k hk => ?_) b c d
      simp only [dsOf, List.flatMap_cons, List.mem_append]
      exact .inr hk
    | some o =>
      simp only [ho] at h
      refine symOper_ok hV hI H ht h ?_
      intro tmps' mem' h1 hf h2 h3 h4
      refine symOps_ok2 hV hI r h2 h3 h4 fun t m a f b c d => hk t m (h1.trans a) ((hf.mono fun k hk => ?_).trans (f.mono fun k hk => ?_)) b c d
      · simp only [dsOf, List.flatMap_cons, List.mem_append, ho]
        exact .inl hk
      · simp only [dsOf, List.flatMap_cons, List.mem_append]
        exact .inr hk

theorem move_D {w0 : World} {Γ : FuncId → Array Value → Value → Prop} {g : Lv} {ops : Array Oper} {o : Oper} {x : Operand} {K : Act → Mem → Prop} {a : Act} {m : Mem} (ho : o.op = .move x) (hg : o.guard = none) (h : stepD P w0 Γ g ops o K a m) :
    K (a.put o.dst (a.eval x)) m := by
  unfold stepD at h
  rw [if_pos (by simp [Region.wanted, hg])] at h
  unfold opD at h
  simp only [ho, cls] at h
  obtain ⟨r, h1, h2⟩ := h
  have e : execOp a.eval o = pure (.value (a.eval x)) := by unfold execOp; simp only [ho]
  rw [e] at h1
  cases h1
  exact h2

/-- a plain region's first operations, the first of which is a move. -/
theorem pre_ok2 {tab : Tab} {E : Ctx} (hV : Valid P tab E) {n : Nat} {w0 : World} {id : Nat} {ops : Array Oper} {Q : Exit → Act → World → Prop} {K : List V → List SB → T} (l1 l2 : List Nat) (hl : List.range ops.size = 0 :: l1 ++ l2) {o : Oper} {x d : Nat}
    (ho : ops[0]? = some o) (hop : o.op = .move (.tmp x)) (hg : o.guard = none) (hd : o.dst = some d) {tmps : List V} {mem : List SB}
    (h : sat E (symOps P tab (symFn P (symCode P tab n)) (fun _ => .all) ops (0 :: l1) tmps mem K)) (H : MemOk mem) (ht : ∀ v ∈ tmps, v.ok (bsOf mem)) {v : Value} (hv : (tmps.map V.ev)[x]? = some v) (hdl : d < tmps.length)
    (hk : ∀ tmps' mem', Ext mem mem' → tmps'.length = tmps.length → (∀ i, i ≠ d → i ∉ dsOf ops l1 → (tmps'.map V.ev)[i]? = (tmps.map V.ev)[i]?) → (d ∉ dsOf ops l1 → (tmps'.map V.ev)[d]? = some v) → MemOk mem' → (∀ v ∈ tmps', v.ok (bsOf mem')) → sat E (K tmps' mem') →
      ∀ w, Holds w0 (memOf mem') w → wpOps P ops Q l2 (actOf [] tmps') w)
    (w : World) (Hw : Holds w0 (memOf mem) w) : (Code.region id ops false).wp P Q (actOf [] tmps) w := by
  refine wp_region ?_
  rw [hl]
  simp only [symOps, ho] at h
  have h1 := symOper_ok (ds := []) (w0 := w0) (Kd := fun a m => ∃ t1, a = actOf [] t1 ∧ Fr [d] tmps t1 ∧ opsD P w0 (gam tab E) (fun _ => .all) ops (fun a m => ∃ tmps' mem', a = actOf [] tmps' ∧ m = memOf mem' ∧ Ext mem mem' ∧ Fr (dsOf ops l1) t1 tmps' ∧ MemOk mem' ∧ (∀ v ∈ tmps', v.ok (bsOf mem')) ∧ sat E (K tmps' mem')) l1 a m) hV (fun w => symFn_ok (symCode_ok hV n w)) H ht h ?_
  · have h2 := move_D hop hg h1
    rw [hd] at h2
    obtain ⟨t1, e, f, h2⟩ := h2
    have hx : (actOf [] tmps).eval (.tmp x) = v := by
      simp only [Act.eval, actOf, Array.getD_eq_getD_getElem?, List.getElem?_toArray, hv, Option.getD_some]
    have ht1 : (t1.map V.ev)[d]? = some v := by
      have e2 := e
      rw [hx] at e2
      have := congrArg (fun a : Act => a.tmps.toList[d]?) e2
      simp only [Act.put, actOf] at this
      rw [← this]
      simp [hdl]
    have hh : wpOps P ops Q (l1 ++ l2) ((actOf [] tmps).put (some d) ((actOf [] tmps).eval (.tmp x))) w := by
      refine opsD_pre ?_ l1 h2 Hw
      rintro a' m' w' H' ⟨tmps', mem', rfl, rfl, x1, x2, x3, x4, x5⟩
      refine hk tmps' mem' x1 (x2.1.trans f.1) (fun i hi hn => (x2.2 i hn).trans (f.2 i (by simpa using hi))) (fun hn => (x2.2 d hn).trans ht1) x3 x4 x5 w' H'
    refine wpOps_one ho hg (mv_wp (.inl hop) ?_)
    rw [hd]
    exact hh
  · intro t1 m1 e1 f1 H1 o1 s1
    refine ⟨t1, rfl, by rw [hd] at f1; exact f1, ?_⟩
    exact symOps_ok2 hV (fun w => symFn_ok (symCode_ok hV n w)) l1 H1 o1 s1 fun t m a f b c d => ⟨t, m, rfl, rfl, e1.trans a, f, b, c, d⟩

end Go.Proofs.Ythiinecohgmnmaa.Sx
