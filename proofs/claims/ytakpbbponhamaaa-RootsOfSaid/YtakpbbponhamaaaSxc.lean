/-
  A frame of our own for walks, part c: a region whose order is drawn comes to what its text's order comes to.
-/
import Derived.Test.YtakpbbponhamaaaSxb
namespace Go.Proofs.Ytakpbbponhamaaa.Sx
open Go Go.RowKit

variable {P : Program} {w0 : World} {Γ : FuncId → Array Value → Value → Prop}

/-! ### what an operation reads -/
def tmpsOf (l : List Operand) : List Tmp := l.filterMap fun | .tmp t => some t | _ => none

def reads (ops : Array Oper) (o : Oper) : List Tmp :=
  tmpsOf o.op.operands.toList ++ (match o.guard with | none => [] | some (j, _) => ((ops[j]?).bind (·.dst)).toList)

def okOp : Op → Bool
  | .move _ | .assign _ | .pick .. | .alloc _ | .box .. | .build .. | .buildSlice .. | .load .. | .store .. | .nilCheck _ | .binOp .. | .unOp .. | .convert .. | .makeInterface ..
  | .makeSlice .. | .slice .. | .fieldAddr .. | .field .. | .indexAddr .. | .index .. | .extract .. | .typeAssert .. => true
  | .call { callee := .value _, .. } => true
  | .call { callee := .builtin _, .. } => true
  | _ => false

theorem mem_tmpsOf {l : List Operand} {t : Tmp} : t ∈ tmpsOf l ↔ Operand.tmp t ∈ l := by
  unfold tmpsOf
  rw [List.mem_filterMap]
  constructor
  · rintro ⟨x, hx, h⟩
    cases x <;> simp at h
    subst h; exact hx
  · intro h; exact ⟨_, h, rfl⟩

theorem map_congr_arr {ρ ρ' : Operand → Value} {xs : Array Operand} (h : ∀ x ∈ xs.toList, ρ x = ρ' x) : xs.map ρ = xs.map ρ' := by
  apply Array.map_congr_left
  intro x hx; exact h x (by simpa using hx)

theorem execOp_congr {ρ ρ' : Operand → Value} {o : Oper} (hok : okOp o.op = true) (h : ∀ x ∈ o.op.operands.toList, ρ x = ρ' x) : execOp ρ o = execOp ρ' o := by
  obtain ⟨dst, op, ty, pos, after, guard⟩ := o
  dsimp only at hok h
  cases op <;> try (simp [okOp] at hok; done)
  case build t parts =>
    have : (parts.map fun (x : Nat × Operand) => (x.1, ρ x.2)) = parts.map fun (x : Nat × Operand) => (x.1, ρ' x.2) := by
      apply Array.map_congr_left
      intro x hx
      rw [h x.2 (by simp [Op.operands]; exact ⟨x.1, by simpa using hx⟩)]
    simp only [execOp]; rw [this]
  case buildSlice t n parts =>
    have : (parts.map fun (x : Nat × Operand) => (x.1, ρ x.2)) = parts.map fun (x : Nat × Operand) => (x.1, ρ' x.2) := by
      apply Array.map_congr_left
      intro x hx
      rw [h x.2 (by simp [Op.operands]; exact ⟨x.1, by simpa using hx⟩)]
    simp only [execOp]; rw [this]
  case call c =>
    obtain ⟨callee, args, argTypes⟩ := c
    cases callee with
    | value f =>
      have h1 : args.map ρ = args.map ρ' := map_congr_arr fun x hx => h x (by simp [Op.operands, Call.operands]; right; simpa using hx)
      have h2 : ρ f = ρ' f := h f (by simp [Op.operands, Call.operands])
      simp only [execOp, resolve, h1, h2]
    | builtin b =>
      have h1 : args.map ρ = args.map ρ' := map_congr_arr fun x hx => h x (by simp [Op.operands, Call.operands]; simpa using hx)
      simp only [execOp, resolve, h1]
    | invoke r s => simp [okOp] at hok
  case slice t x lo hi mx =>
    have h0 : ρ x = ρ' x := h x (by simp [Op.operands])
    have h1 : lo.map ρ = lo.map ρ' := by cases lo with | none => rfl | some y => simp [h y (by simp [Op.operands])]
    have h2 : hi.map ρ = hi.map ρ' := by cases hi with | none => rfl | some y => simp [h y (by simp [Op.operands])]
    have h3 : mx.map ρ = mx.map ρ' := by cases mx with | none => rfl | some y => simp [h y (by simp [Op.operands])]
    simp only [execOp, h0, h1, h2, h3]
  all_goals first | (simp only [execOp]; done) | (simp only [execOp, h _ (by simp [Op.operands])]; done) | (simp [Op.operands] at h; simp [execOp, h])

theorem put_eval {a : Act} {d : Option Tmp} {v : Value} {x : Operand} (h : ∀ t, d = some t → x ≠ .tmp t) : (a.put d v).eval x = a.eval x := by
  cases d with
  | none => rfl
  | some t =>
    cases x with
    | tmp s =>
      have : t ≠ s := by rintro rfl; exact h t rfl rfl
      simp [Act.put, Act.eval, this]
    | _ => rfl

theorem put_comm {a : Act} {d e : Option Tmp} {u v : Value} (h : ∀ t, d = some t → e ≠ some t) : (a.put d u).put e v = (a.put e v).put d u := by
  cases d with
  | none => rfl
  | some t =>
    cases e with
    | none => rfl
    | some s =>
      have : t ≠ s := by rintro rfl; exact h t rfl rfl
      simp only [Act.put]
      congr 1
      rw [Array.setIfInBounds_comm _ _ this]

def off (ops : Array Oper) (d : Option Tmp) (o : Oper) : Bool :=
  match d with
  | none => true
  | some t => !(reads ops o).contains t

theorem off_exec {ops : Array Oper} {a : Act} {d : Option Tmp} {v : Value} {o : Oper} (hok : okOp o.op = true) (h : off ops d o = true) : execOp (a.put d v).eval o = execOp a.eval o := by
  refine execOp_congr hok fun x hx => put_eval fun t ht => ?_
  rintro rfl
  subst ht
  simp [off, reads, mem_tmpsOf] at h
  exact h.1 (by simpa using hx)

theorem off_wanted {ops : Array Oper} {a : Act} {d : Option Tmp} {v : Value} {o : Oper} (h : off ops d o = true) : Region.wanted o (yielded ops (a.put d v).tmps) = Region.wanted o (yielded ops a.tmps) := by
  cases d with
  | none => rfl
  | some t =>
    unfold Region.wanted
    cases hg : o.guard with
    | none => rfl
    | some jw =>
      obtain ⟨j, want⟩ := jw
      dsimp only
      congr 1
      unfold yielded
      cases hd : (ops[j]?).bind (·.dst) with
      | none => rfl
      | some s =>
        have : t ≠ s := by
          rintro rfl
          simp [off, reads, hg, hd] at h
        simp only [Option.bind_some, Act.put, Array.getElem?_setIfInBounds, this, if_false]

/-! ### results -/
def resD (P : Program) (Γ : FuncId → Array Value → Value → Prop) (F : Value → Prop) : Next → Prop
  | .value v => F v
  | .skip => F undef
  | .enter f args => Pure P f args (Γ f args) ∧ ∀ v, Γ f args v → F v
  | _ => False

theorem uponD_res {dst : Option Tmp} {K : Act → Mem → Prop} {a : Act} {m : Mem} {r : Next} : uponD P w0 Γ false dst K a m r ↔ resD P Γ (fun v => K (a.put dst v) m) r := by
  cases r <;> simp [uponD, resD]

theorem resD_mono {F G : Value → Prop} {r : Next} (h : ∀ v, F v → G v) (hr : resD P Γ F r) : resD P Γ G r := by
  cases r <;> first | exact h _ hr | exact hr.elim | skip
  exact ⟨hr.1, fun v hv => h v (hr.2 v hv)⟩

theorem resD_some {F : Value → Prop} {r : Next} (hr : resD P Γ F r) : ∃ v, F v := by
  cases r <;> first | exact ⟨_, hr⟩ | exact hr.elim | skip
  obtain ⟨hp, hf⟩ := hr
  obtain ⟨e, w', fr, ⟨v, _, hv, _⟩, _⟩ := hp default []
  exact ⟨v, hf v hv⟩

theorem resD_swap {F : Value → Value → Prop} {r s : Next} (h : resD P Γ (fun v => resD P Γ (fun u => F v u) s) r) : resD P Γ (fun u => resD P Γ (fun v => F v u) r) s := by
  cases r <;> first | exact h.elim | exact h | skip
  obtain ⟨hp, hr⟩ := h
  cases s <;> first | exact ⟨hp, hr⟩ | skip
  case enter f args f' args' =>
    obtain ⟨v, hv⟩ : ∃ v, Γ f args v := by
      obtain ⟨e, w', fr, ⟨v, _, hv, _⟩, _⟩ := hp default []
      exact ⟨v, hv⟩
    exact ⟨(hr v hv).1, fun u hu => ⟨hp, fun v hv => (hr v hv).2 u hu⟩⟩
  all_goals
    obtain ⟨v, hv⟩ : ∃ v, Γ _ _ v := by
      obtain ⟨e, w', fr, ⟨v, _, hv, _⟩, _⟩ := hp default []
      exact ⟨v, hv⟩
    exact (hr v hv).elim

theorem resD_all {ι : Type} {p : ι → Prop} {F : ι → Value → Prop} {r : Next} {i0 : ι} (h0 : p i0) (h : ∀ i, p i → resD P Γ (F i) r) : resD P Γ (fun v => ∀ i, p i → F i v) r := by
  cases r <;> first | exact h | exact (h i0 h0).elim | skip
  exact ⟨(h i0 h0).1, fun v hv i hi => (h i hi).2 v hv⟩

/-! ### two operations that do not meet -/
def clash : Cls → Cls → Bool
  | .st, .q | .q, .st | .st, .st => true
  | _, _ => false

def indep (ops : Array Oper) (x y : Oper) : Bool :=
  okOp x.op && okOp y.op && !clash (cls x.op) (cls y.op) && off ops x.dst y && off ops y.dst x && (match x.dst with | none => true | some t => y.dst != some t)

theorem fresh_from {m : Mem} (hm : m.fin) (n : Nat) : ∃ b, n ≤ b ∧ m b = none := by
  obtain ⟨N, hN⟩ := hm
  exact ⟨n + N, by omega, hN _ (by omega)⟩

theorem opD_comm {ops : Array Oper} {x y : Oper} (hi : indep ops x y = true) {K : Act → Mem → Prop} {a : Act} {m : Mem} (hm : m.fin)
    (h : opD P w0 Γ false x (opD P w0 Γ false y K) a m) : opD P w0 Γ false y (opD P w0 Γ false x K) a m := by
  simp only [indep, Bool.and_eq_true, Bool.not_eq_true'] at hi
  obtain ⟨⟨⟨⟨⟨okx, oky⟩, hc⟩, hxy⟩, hyx⟩, hd⟩ := hi
  have hput : ∀ (u v : Value), (a.put x.dst u).put y.dst v = (a.put y.dst v).put x.dst u := fun u v => put_comm fun t ht => by
    rw [ht] at hd; simpa using hd
  have ex : ∀ v, execOp (a.put y.dst v).eval x = execOp a.eval x := fun v => off_exec okx hyx
  have ey : ∀ v, execOp (a.put x.dst v).eval y = execOp a.eval y := fun v => off_exec oky hxy
  unfold opD at h ⊢
  cases hx : cls x.op <;> cases hy : cls y.op <;> simp only [hx, hy, clash] at h hc ⊢ <;> try (cases hc; done)
  · -- q q
    obtain ⟨r, hr, h⟩ := h
    rw [uponD_res] at h
    simp only [ey, uponD_res] at h
    obtain ⟨v, s, hs, _⟩ := resD_some h
    refine ⟨s, hs, ?_⟩
    rw [uponD_res]
    simp only [ex, uponD_res]
    have h' : resD P Γ (fun v => resD P Γ (fun u => K ((a.put x.dst v).put y.dst u) m) s) r := resD_mono (fun v hv => by
      obtain ⟨s', hs', h2⟩ := hv
      rw [hs] at hs'; cases hs'; exact h2) h
    refine resD_mono (fun u hu => ⟨r, hr, ?_⟩) (resD_swap h')
    simpa only [hput] using hu
  · -- q al
    obtain ⟨r, hr, h⟩ := h
    rw [uponD_res] at h
    simp only [ey] at h
    obtain ⟨v0, c, t, k, ha, hb0⟩ := resD_some h
    refine ⟨c, t, k, ha, fun b hb hB => ?_⟩
    obtain ⟨u, hu, _⟩ := hb0 b hb hB
    refine ⟨u, hu, r, ?_, ?_⟩
    · rw [ex]; exact qev_add _ _ hb hr
    · rw [uponD_res]
      refine resD_mono (fun v hv => ?_) h
      obtain ⟨c', t', k', ha', hb'⟩ := hv
      rw [ha] at ha'; cases ha'
      obtain ⟨u', hu', hK⟩ := hb' b hb hB
      rw [hu] at hu'; cases hu'
      rw [← hput]; exact hK
  · -- al q
    obtain ⟨c, t, k, ha, h⟩ := h
    simp only [ey] at h
    obtain ⟨N, hN⟩ := qev_far (P := P) (execOp a.eval y) m
    obtain ⟨b0, hb0, hf0⟩ := fresh_from hm (N + w0.heap.size)
    obtain ⟨u0, hu0, s, hs, h0⟩ := h b0 hf0 (by omega)
    rw [hN b0 _ (by omega)] at hs
    refine ⟨s, hs, ?_⟩
    rw [uponD_res]
    have h' : resD P Γ (fun v => ∀ b, (m b = none ∧ w0.heap.size ≤ b) → ∃ u, nev P (k b) = some (.value u) ∧ K ((a.put x.dst u).put y.dst v) (m.add b ⟨c, t, true⟩)) s := by
      refine resD_all (i0 := b0) ⟨hf0, by omega⟩ fun b hb => ?_
      obtain ⟨u, hu, s', hs', h2⟩ := h b hb.1 hb.2
      rw [qev_add _ _ hb.1 hs] at hs'; cases hs'
      rw [uponD_res] at h2
      exact resD_mono (fun v hv => ⟨u, hu, hv⟩) h2
    refine resD_mono (fun v hv => ?_) h'
    refine ⟨c, t, k, by rw [ex]; exact ha, fun b hb hB => ?_⟩
    obtain ⟨u, hu, hK⟩ := hv b ⟨hb, hB⟩
    exact ⟨u, hu, by rw [← hput]; exact hK⟩
  · -- al al
    obtain ⟨c, t, k, ha, h⟩ := h
    simp only [ey] at h
    obtain ⟨b0, hb0, hf0⟩ := fresh_from hm w0.heap.size
    obtain ⟨_, _, c', t', k', ha', _⟩ := h b0 hf0 hb0
    refine ⟨c', t', k', ha', fun b2 hb2 hB2 => ?_⟩
    obtain ⟨b1, hb1, hf1⟩ := fresh_from hm (w0.heap.size + b2 + 1)
    have hu2 : ∃ u2, nev P (k' b2) = some (.value u2) := by
      obtain ⟨_, _, c3, t3, k3, ha3, h3⟩ := h b1 hf1 (by omega)
      rw [ha'] at ha3; cases ha3
      obtain ⟨u2, hu2, _⟩ := h3 b2 (by simp only [Mem.add]; rw [if_neg (by omega)]; exact hb2) hB2
      exact ⟨u2, hu2⟩
    obtain ⟨u2, hu2⟩ := hu2
    refine ⟨u2, hu2, c, t, k, by rw [ex]; exact ha, fun b hb hB => ?_⟩
    have hne : b2 ≠ b := by rintro rfl; simp [Mem.add] at hb
    have hbm : m b = none := by simp only [Mem.add] at hb; rw [if_neg (Ne.symm hne)] at hb; exact hb
    obtain ⟨u, hu, c3, t3, k3, ha3, h3⟩ := h b hbm hB
    rw [ha'] at ha3; cases ha3
    obtain ⟨u2', hu2', hK⟩ := h3 b2 (by simp only [Mem.add]; rw [if_neg hne]; exact hb2) hB2
    rw [hu2] at hu2'; cases hu2'
    refine ⟨u, hu, ?_⟩
    rw [← hput, Mem.add_comm _ hne]; exact hK
  · -- al st
    obtain ⟨c, t, k, ha, h⟩ := h
    simp only [ey] at h
    obtain ⟨N, hN⟩ := wev_far (P := P) (execOp a.eval y) m
    obtain ⟨b0, hb0, hf0⟩ := fresh_from hm (N + w0.heap.size)
    obtain ⟨u0, hu0, m2, hm2, _⟩ := h b0 hf0 (by omega)
    obtain ⟨m', hm'⟩ := hN b0 _ (by omega) hf0 _ _ hm2
    refine ⟨m', hm', c, t, k, by rw [ex]; exact ha, fun b hb hB => ?_⟩
    have hbm : m b = none := (wev_dom _ hm' b).1 hb
    obtain ⟨u, hu, m3, hm3, hK⟩ := h b hbm hB
    rw [(wev_add _ _ hbm hm').1] at hm3; cases hm3
    exact ⟨u, hu, by rw [← hput]; exact hK⟩
  · -- st al
    obtain ⟨m', hw, c, t, k, ha, h⟩ := h
    simp only [ey] at ha
    refine ⟨c, t, k, ha, fun b hb hB => ?_⟩
    obtain ⟨h1, h2⟩ := wev_add _ ⟨c, t, true⟩ hb hw
    obtain ⟨u, hu, hK⟩ := h b h2 hB
    exact ⟨u, hu, _, by rw [ex]; exact h1, by rw [← hput]; exact hK⟩

theorem opD_fin {g : Bool} {o : Oper} {K : Act → Mem → Prop} {a : Act} {m : Mem} (hm : m.fin) (h : opD P w0 Γ g o K a m) : opD P w0 Γ g o (fun a m => m.fin ∧ K a m) a m := by
  unfold opD at h ⊢
  split at h
  · obtain ⟨r, h1, h2⟩ := h
    refine ⟨r, h1, ?_⟩
    cases r <;> first | exact ⟨hm, h2⟩ | exact h2.elim | skip
    rcases h2 with ⟨h3, h4⟩ | ⟨h3, h4⟩
    · exact Or.inl ⟨h3, fun v hv => ⟨hm, h4 v hv⟩⟩
    · refine Or.inr ⟨h3, fun w H => (h4 w H).mono ?_⟩
      rintro e w' ⟨v, m', h5, h6, h7⟩
      exact ⟨v, m', h5, h6, h6.fin, h7⟩
  · obtain ⟨c, t, k, h1, h2⟩ := h
    exact ⟨c, t, k, h1, fun b hb hB => let ⟨v, h3, h4⟩ := h2 b hb hB; ⟨v, h3, Mem.fin_add hm _ _, h4⟩⟩
  · obtain ⟨m', h1, h2⟩ := h
    refine ⟨m', h1, ?_, h2⟩
    obtain ⟨N, hN⟩ := hm
    exact ⟨N, fun b hb => (wev_dom _ h1 b).2 (hN b hb)⟩

theorem stepD_fin {g : Bool} {ops : Array Oper} {o : Oper} {K : Act → Mem → Prop} {a : Act} {m : Mem} (hm : m.fin) (h : stepD P w0 Γ g ops o K a m) : stepD P w0 Γ g ops o (fun a m => m.fin ∧ K a m) a m := by
  unfold stepD at *
  split
  · rename_i hw; rw [if_pos hw] at h; exact opD_fin hm h
  · rename_i hw; rw [if_neg hw] at h; exact ⟨hm, h⟩

/-- what an operation's own step leaves in the slots: but for its own, they are as they were. -/
theorem opD_put {o : Oper} {K : Act → Mem → Prop} {a : Act} {m : Mem} (h : opD P w0 Γ false o K a m) : opD P w0 Γ false o (fun a' m' => (∃ v, a' = a.put o.dst v) ∧ K a' m') a m := by
  unfold opD at h ⊢
  split at h
  · obtain ⟨r, h1, h2⟩ := h
    refine ⟨r, h1, ?_⟩
    rw [uponD_res] at *
    exact resD_mono (fun v hv => ⟨⟨v, rfl⟩, hv⟩) h2
  · obtain ⟨c, t, k, h1, h2⟩ := h
    exact ⟨c, t, k, h1, fun b hb hB => let ⟨v, h3, h4⟩ := h2 b hb hB; ⟨v, h3, ⟨v, rfl⟩, h4⟩⟩
  · obtain ⟨m', h1, h2⟩ := h
    exact ⟨m', h1, ⟨_, rfl⟩, h2⟩

/-- an operation that is passed over: its slot holds nothing; the other one's step goes by it. -/
theorem opD_past {ops : Array Oper} {y : Oper} {d : Option Tmp} {u : Value} (ok : okOp y.op = true) (ho : off ops d y = true) (hd : ∀ t, d = some t → y.dst ≠ some t) {K : Act → Mem → Prop} {a : Act} {m : Mem} :
    opD P w0 Γ false y K (a.put d u) m ↔ opD P w0 Γ false y (fun a' m' => K (a'.put d u) m') a m := by
  have ey : ∀ v, execOp (a.put d v).eval y = execOp a.eval y := fun v => off_exec ok ho
  have hput : ∀ v, (a.put d u).put y.dst v = (a.put y.dst v).put d u := fun v => put_comm hd
  unfold opD
  cases cls y.op <;> simp only [ey, uponD_res, hput]

theorem stepD_comm {ops : Array Oper} {x y : Oper} (hi : indep ops x y = true) {K : Act → Mem → Prop} {a : Act} {m : Mem} (hm : m.fin)
    (h : stepD P w0 Γ false ops x (stepD P w0 Γ false ops y K) a m) : stepD P w0 Γ false ops y (stepD P w0 Γ false ops x K) a m := by
  have hi' := hi
  simp only [indep, Bool.and_eq_true, Bool.not_eq_true'] at hi'
  obtain ⟨⟨⟨⟨⟨okx, oky⟩, hc⟩, hxy⟩, hyx⟩, hd⟩ := hi'
  have hd1 : ∀ t, x.dst = some t → y.dst ≠ some t := fun t ht => by rw [ht] at hd; simpa using hd
  have hd2 : ∀ t, y.dst = some t → x.dst ≠ some t := fun t ht h => hd1 t h ht
  have wy : ∀ v, Region.wanted y (yielded ops (a.put x.dst v).tmps) = Region.wanted y (yielded ops a.tmps) := fun v => off_wanted hxy
  have wx : ∀ v, Region.wanted x (yielded ops (a.put y.dst v).tmps) = Region.wanted x (yielded ops a.tmps) := fun v => off_wanted hyx
  unfold stepD at h
  by_cases h1 : Region.wanted x (yielded ops a.tmps) = true
  · rw [if_pos h1] at h
    by_cases h2 : Region.wanted y (yielded ops a.tmps) = true
    · have h' : opD P w0 Γ false x (opD P w0 Γ false y K) a m := by
        refine opD_mono ?_ (opD_put h)
        rintro a' m' ⟨⟨v, rfl⟩, hk⟩
        rwa [wy, if_pos h2] at hk
      have h'' := opD_comm hi hm h'
      unfold stepD
      rw [if_pos h2]
      refine opD_mono ?_ (opD_put h'')
      rintro a' m' ⟨⟨v, rfl⟩, hk⟩
      rw [wx, if_pos h1]; exact hk
    · have h' : opD P w0 Γ false x (fun a' m' => K (a'.put y.dst undef) m') a m := by
        refine opD_mono ?_ (opD_put h)
        rintro a' m' ⟨⟨v, rfl⟩, hk⟩
        rwa [wy, if_neg h2] at hk
      unfold stepD
      rw [if_neg h2, wx, if_pos h1]
      exact (opD_past okx hyx hd2).2 h'
  · rw [if_neg h1] at h
    simp only [wy] at h
    unfold stepD
    by_cases h2 : Region.wanted y (yielded ops a.tmps) = true
    · rw [if_pos h2] at h ⊢
      have h' := (opD_past oky hxy hd1).1 h
      refine opD_mono ?_ (opD_put h')
      rintro a' m' ⟨⟨v, rfl⟩, hk⟩
      rw [wx, if_neg h1]; exact hk
    · rw [if_neg h2] at h ⊢
      rw [wx, if_neg h1, put_comm hd2]; exact h

end Go.Proofs.Ytakpbbponhamaaa.Sx
