/-
  A frame of our own for walks, part o: code, functions, calls: what the trees say is what the program does.
-/
import Derived.Test.YtogcbmadcgjljaaDoorSxn
namespace Go.Proofs.YtogcbmadcgjljaaDoor.Sx
open Go Go.RowKit

variable {P : Program} {ds : List Deferred}

def RunOk (P : Program) (w0 : World) (E : Ctx) (run : FuncId → Code → List V → List SB → (Ex → List V → List SB → T) → T) : Prop :=
  ∀ (ds : List Deferred) (f : FuncId) (c : Code) (tmps : List V) (mem : List SB) (K : Ex → List V → List SB → T) (Q : Exit → Act → World → Prop), sat E (run f c tmps mem K) → MemOk mem → (∀ v ∈ tmps, v.ok (bsOf mem)) →
    (∀ ex tmps' mem', Ext mem mem' → Fr (dsts c) tmps tmps' → MemOk mem' → (∀ v ∈ tmps', v.ok (bsOf mem')) → sat E (K ex tmps' mem') → ∀ w, Holds w0 (memOf mem') w → Q ex.ex (actOf ds tmps') w) →
    ∀ w, Holds w0 (memOf mem) w → Wp P c Q (actOf ds tmps) w

theorem act_in {ntmps : Nat} (args : List A) : (actOf [] (args.map .a ++ List.replicate (ntmps - args.length) (.tup []))) = { tmps := (args.map A.ev).toArray ++ Array.replicate (ntmps - (args.map A.ev).toArray.size) undef, defers := [] } := by
  simp only [actOf]
  congr 1
  apply Array.ext'
  simp only [List.map_append, List.map_map, List.map_replicate, Array.toList_append, List.size_toArray, List.length_map, Array.toList_replicate]
  rfl

theorem args_ok {bs : List Nat} {args : List A} (ha : ∀ a ∈ args, a.ok bs) (n : Nat) : ∀ v ∈ args.map V.a ++ List.replicate n (.tup []), v.ok bs := by
  intro v hv
  rcases List.mem_append.1 hv with hv | hv
  · obtain ⟨a, ha', rfl⟩ := List.mem_map.1 hv; exact ha a ha'
  · rw [List.eq_of_mem_replicate hv]; intro x hx; cases hx

/-- a body's run, as its function's end needs it. -/
theorem symBody_ok {w0 : World} {E : Ctx} {run : FuncId → Code → List V → List SB → (Ex → List V → List SB → T) → T} (hR : RunOk P w0 E run) {f : FuncId} {fn : Func} {c : Code} {args : List A} {mem : List SB} {K : V → List SB → T} {Kd : Value → Mem → Prop}
    (h : sat E (symBody P run f fn c args mem K)) (H : MemOk mem) (ha : ∀ a ∈ args, a.ok (bsOf mem))
    (hk : ∀ v mem', Ext mem mem' → MemOk mem' → v.ok (bsOf mem') → sat E (K v mem') → Kd v.ev (memOf mem')) (w : World) (Hw : Holds w0 (memOf mem) w) :
    c.wp P (bodyPost P fn fun e w' => ∃ v m', e = .returned v ∧ Holds w0 m' w' ∧ Kd v m') { tmps := (args.map A.ev).toArray ++ Array.replicate (fn.ntmps - (args.map A.ev).toArray.size) undef, defers := [] } w := by
  rw [← act_in]
  unfold symBody at h
  refine (hR [] f c _ mem _ _ h H (args_ok ha _) ?_ w Hw).1
  intro ex tmps' mem' h1 _ h2 h3 h4 w' Hw'
  have fin : ∀ xs, resS P fn.results.toList tmps' mem' = some xs → sat E (K (resV xs) mem') →
      (actOf [] tmps').defers = [] ∧ ∃ v, (results fn (actOf [] tmps').tmps).run P w' = .ok v w' ∧ ∃ v' m', Ending.returned v = .returned v' ∧ Holds w0 m' w' ∧ Kd v' m' := by
    intro xs hx hs
    obtain ⟨h5, h6⟩ := results_ok (ds := []) h2 h3 hx
    exact ⟨rfl, _, qev_run _ h6 Hw', _, _, rfl, Hw', hk _ _ h1 h2 h5 hs⟩
  cases ex with
  | normal =>
    simp only at h4
    split at h4
    · rename_i xs hx; exact fin xs hx h4
    · exact h4.elim
  | exit id => exact h4.elim
  | ret =>
    simp only at h4
    split at h4
    · rename_i xs hx; exact fin xs hx h4
    · exact h4.elim

theorem toAs_map {l : List V} {r : List A} (h : toAs l = some r) : l = r.map V.a := toAs_ok l h

theorem defer_run {ρ : Operand → Value} {o : Oper} {call : Call} {f : Operand} {g : FuncId} (ho : o.op = .defer call) (hc : call.callee = .value f) (hf : ρ f = .func (.func g) #[] #[]) (w : World) :
    (execOp ρ o).run P w = .ok (.defer { target := .fn (.func g) #[], args := call.args.map ρ }) w := by
  simp only [execOp, ho, resolve, hc, hf, Deferred.ofValue]
  simp

theorem invoke_fn {g : FuncId} {args : Array Value} (h : callable P g = true) (w : World) (j : J w) : (invoke (.fn (.func g) #[]) args).run P w = .ok (.enter g args) w := by
  unfold callable at h
  split at h
  · rename_i fn hfn
    simp only [Bool.and_eq_true, Bool.not_eq_true'] at h
    obtain ⟨c, hb⟩ := Option.isSome_iff_exists.1 h.2
    refine qev_run _ ?_ (Holds.start w j)
    simp only [invoke, Array.append_empty]
    exact qev_callFunc hfn h.1 hb args _
  · cases h

theorem symDefer_ok {w0 : World} {E : Ctx} {run : FuncId → Code → List V → List SB → (Ex → List V → List SB → T) → T} (hR : RunOk P w0 E run) {f : FuncId} {fn : Func} (hf : P.funcs[f]? = some fn) {a b : Code} {id : Nat} {ops : Array Oper} {o : Oper} {call : Call}
    (hb : fn.body = some (.seq a (.seq (.region id ops false) b))) (h1 : ops = #[o]) (h2 : o.op = .defer call) (h3 : o.dst = none) (h4 : o.guard = none)
    {args : List A} {mem : List SB} {K : V → List SB → T} {Kd : Value → Mem → Prop}
    (h : sat E (symDefer P run f fn a b call args mem K)) (H : MemOk mem) (ha : ∀ x ∈ args, x.ok (bsOf mem))
    (hk : ∀ v mem', Ext mem mem' → MemOk mem' → v.ok (bsOf mem') → sat E (K v mem') → Kd v.ev (memOf mem')) : Gen P w0 f (args.map A.ev).toArray (memOf mem) Kd := by
  intro w Hw
  refine calls_of_wp_defers hf hb ?_
  rw [← act_in]
  unfold symDefer at h
  refine wp_seq ?_
  refine (hR [] f a _ mem _ _ h H (args_ok ha _) ?_ w Hw).1
  intro ex tmps mem1 e1 _ g1 g2 g3 w1 Hw1
  cases ex with
  | exit i => exact g3.elim
  | ret => exact g3.elim
  | normal =>
    simp only at g3
    split at g3
    case h_2 => exact g3.elim
    rename_i x1 x2 fo xs hcal hxs
    split at g3
    case h_2 => exact g3.elim
    rename_i x3 gid hfn
    show (Code.seq (.region id ops false) b).wp P _ _ _
    refine wp_seq (wp_region ?_)
    subst h1
    show wpOps P #[o] _ [0] _ _
    have hw : Region.wanted o (yielded #[o] (actOf [] tmps).tmps) = true := by simp [Region.wanted, h4]
    simp only [wpOps, List.getElem?_toArray, List.getElem?_cons_zero]
    rw [if_pos hw]
    left
    unfold Oper.wp
    have hfe : (actOf [] tmps).eval fo = .func (.func gid) #[] #[] := by rw [opv_ev, hfn]; rfl
    rw [defer_run h2 hcal hfe, Oper.upon_defer, h3]
    show b.wp P _ (actOf [⟨.fn (.func gid) #[], call.args.map (actOf [] tmps).eval⟩] tmps) w1
    have hargs : call.args.map (actOf [] tmps).eval = (xs.map A.ev).toArray := by
      apply Array.ext'
      have e := toAs_map hxs
      have e2 : call.args.toList.map (actOf [] tmps).eval = (call.args.toList.map (opv tmps)).map V.ev := by
        rw [List.map_map]; exact List.map_congr_left fun x _ => opv_ev tmps x
      simp only [Array.toList_map]
      rw [e2, e, List.map_map]; rfl
    have hxok : ∀ x ∈ xs, x.ok (bsOf mem1) := by
      intro x hx
      have : V.a x ∈ call.args.toList.map (opv tmps) := by rw [toAs_map hxs]; exact List.mem_map.2 ⟨x, hx, rfl⟩
      obtain ⟨y, _, e⟩ := List.mem_map.1 this
      have := opv_ok g2 y
      rw [e] at this; exact this
    rw [hargs]
    refine (hR _ f b tmps mem1 _ _ g3 g1 g2 ?_ w1 Hw1).1
    intro ex tmps2 mem2 e2 _ g4 g5 g6 w2 Hw2
    have fin : callable P gid = true → ∀ gn gc, P.funcs[gid]? = some gn → gn.body = some gc → sat E (symBody P run gid gn gc xs mem2 fun _ mem3 => match resS P fn.results.toList tmps2 mem3 with | some rs => K (resV rs) mem3 | none => .fail "results") →
        Leaves P fn (actOf [⟨.fn (.func gid) #[], (xs.map A.ev).toArray⟩] tmps2).tmps (fun e w' => ∃ v m', e = .returned v ∧ Holds w0 m' w' ∧ Kd v m') [⟨.fn (.func gid) #[], (xs.map A.ev).toArray⟩] .returning w2 := by
      intro hcal2 gn gc hgn hgc hs
      have hx2 : ∀ x ∈ xs, x.ok (bsOf mem2) := fun x hx => A.ok_mono e2.pre (hxok x hx)
      have hbody := symBody_ok (Kd := fun _ m3 => ∃ v, Kd v m3 ∧ ∀ w3, Holds w0 m3 w3 → (results fn (actOf [⟨.fn (.func gid) #[], (xs.map A.ev).toArray⟩] tmps2).tmps).run P w3 = .ok v w3) hR hs g4 hx2 (fun v mem3 i1 i2 _ i4 => by
        split at i4
        · rename_i rs hrs
          have ht3 : ∀ v ∈ tmps2, v.ok (bsOf mem3) := fun v hv => V.ok_mono i1.pre (g5 v hv)
          obtain ⟨j1, j2⟩ := results_ok (ds := [⟨.fn (.func gid) #[], (xs.map A.ev).toArray⟩]) i2 ht3 hrs
          exact ⟨_, hk _ _ ((e1.trans e2).trans i1) i2 j1 i4, fun w3 H3 => qev_run _ j2 H3⟩
        · exact i4.elim) w2 Hw2
      refine leaves_cons (by simp) (invoke_fn hcal2 w2 (Hw2.sm.j Hw2.j)) ?_
      refine (callsD_of_wp (u := .returning) hgn hgc hbody).mono ?_
      rintro e u' w3 ⟨rfl, v, m3, rfl, H3, v', hv', hr⟩
      exact ⟨v', hr w3 H3, v', m3, rfl, H3, hv'⟩
    have go : sat E (symAfter P run gid xs fn tmps2 mem2 K) → Leaves P fn (actOf [⟨.fn (.func gid) #[], (xs.map A.ev).toArray⟩] tmps2).tmps (fun e w' => ∃ v m', e = .returned v ∧ Holds w0 m' w' ∧ Kd v m') [⟨.fn (.func gid) #[], (xs.map A.ev).toArray⟩] .returning w2 := by
      intro hs
      unfold symAfter at hs
      split at hs
      · exact hs.elim
      rename_i hcb
      have hcb' : callable P gid = true := by simpa using hcb
      split at hs
      · rename_i gn hgn
        split at hs
        · rename_i gc hgc; exact fin hcb' gn gc hgn hgc hs
        · exact hs.elim
      · exact hs.elim
    cases ex with
    | normal => exact go g6
    | exit i => exact g6.elim
    | ret => exact go g6

theorem symFn_ok {w0 : World} {E : Ctx} {run : FuncId → Code → List V → List SB → (Ex → List V → List SB → T) → T} (hR : RunOk P w0 E run) : InlOk P w0 E (symFn P run) := by
  intro f args mem K Kd h H ha hk
  unfold symFn at h
  split at h
  · rename_i fn hf
    split at h
    · rename_i a id ops b hc
      split at h
      · rename_i hsz
        split at h
        · rename_i o ho
          split at h
          · rename_i call h2 h3 h4
            have hops : ops = #[o] := by
              apply Array.ext (by simpa using hsz)
              intro i h1 h2
              have : i = 0 := by simp at h2; omega
              subst this
              obtain ⟨_, e⟩ := Array.getElem?_eq_some_iff.1 ho
              simpa using e
            exact symDefer_ok hR hf hc hops h2 h3 h4 h H ha hk
          · intro w Hw
            exact calls_of_wp hf hc (symBody_ok hR h H ha hk w Hw)
        · exact h.elim
      · intro w Hw
        exact calls_of_wp hf hc (symBody_ok hR h H ha hk w Hw)
    · rename_i c hc
      intro w Hw
      exact calls_of_wp hf hc (symBody_ok hR h H ha hk w Hw)
    · exact h.elim
  · exact h.elim

theorem blksS_info {mem : List SB} : ∀ (blks : List (Nat × List Sh)) {xs : List S}, blksS mem blks = some xs → ∀ p ∈ blks, ∀ (x : SB), mem[p.1]? = some x → p.2.length = x.cells.length ∧ x.lock = false
  | [], _, _, p, hp => by cases hp
  | (id, sh) :: r, xs, h, p, hp => by
    simp only [blksS] at h
    split at h
    · rename_i y ys hy hr
      split at h
      · rename_i hc
        simp only [Bool.and_eq_true, Bool.not_eq_true'] at hc
        intro x hx
        rcases List.mem_cons.1 hp with rfl | hp
        · rw [hy] at hx; cases hx
          exact ⟨(takesL_len hc.1).symm, hc.2⟩
        · exact blksS_info r hr p hp x hx
      · cases h
    · cases h

theorem symLoop_ok {E : Ctx} {w0 : World} {an : Ann} {c : Code} {body : List V → List SB → (Ex → List V → List SB → T) → T}
    (hb : ∀ (tmps : List V) (mem : List SB) (K : Ex → List V → List SB → T) (Q : Exit → Act → World → Prop), sat E (body tmps mem K) → MemOk mem → (∀ v ∈ tmps, v.ok (bsOf mem)) →
      (∀ ex tmps' mem', Ext mem mem' → Fr (dsts c) tmps tmps' → MemOk mem' → (∀ v ∈ tmps', v.ok (bsOf mem')) → sat E (K ex tmps' mem') → ∀ w, Holds w0 (memOf mem') w → Q ex.ex (actOf ds tmps') w) →
      ∀ w, Holds w0 (memOf mem) w → c.wp P Q (actOf ds tmps) w)
    {tmps : List V} {mem : List SB} {K : Ex → List V → List SB → T} {Q : Exit → Act → World → Prop} (h : sat E (symLoop an (dsts c) tmps mem body K)) (H : MemOk mem) (ht : ∀ v ∈ tmps, v.ok (bsOf mem))
    (hk : ∀ ex tmps' mem', Ext mem mem' → Fr (dsts c) tmps tmps' → MemOk mem' → (∀ v ∈ tmps', v.ok (bsOf mem')) → sat E (K ex tmps' mem') → ∀ w, Holds w0 (memOf mem') w → Q ex.ex (actOf ds tmps') w)
    {w : World} (Hw : Holds w0 (memOf mem) w) : LW P c Q (actOf ds tmps) w := by
  unfold symLoop at h
  generalize hslots : an.slots.map (·.1) = slots at h
  generalize hsh : an.slots.map (·.2) = sh at h
  simp only at h
  split at h
  case isFalse => exact h.elim
  rename_i hcond
  simp only [Bool.and_eq_true, List.all_eq_true, List.contains_iff_mem, decide_eq_true_eq] at hcond
  obtain ⟨hsub, hlt⟩ := hcond
  split at h
  case h_2 => exact h.elim
  rename_i fs ws wc hfs hws hwc
  split at h
  case isFalse => exact h.elim
  rename_i htk
  obtain ⟨hinv, hall⟩ := h
  have hi : ∀ l : List S, l.map S.i = (l.map S.ev).map vint := fun l => by rw [List.map_map]; rfl
  obtain ⟨hbf, hbo⟩ := blksS_fits H _ hwc
  have hinfo := blksS_info _ hwc
  -- the head, at whatever fits
  have claim : ∀ (N : Nat) (ysv ycv : List Value), shFits sh ysv → shFits (an.blks.flatMap (·.2)) ycv → E.inv an.l (fs.map S.i) ((ysv ++ ycv).map vint) → E.mea an.l (fs.map S.i) ((ysv ++ ycv).map vint) = N →
      ∀ (ys0 yc0 : List S), ys0.map S.ev = ysv → yc0.map S.ev = ycv → ∀ (vs : List Value), vs.length = (dsts c).length → ∀ w, Holds w0 (memOf (headM an.blks mem yc0)) w →
      LW P c Q (actOf ds (headT (dsts c) slots tmps ys0 vs)) w := by
    intro N
    induction N using Nat.strongRecOn with
    | _ N ih =>
      intro ysv ycv hy hyc hI hN ys0 yc0 e0 ec0 vs hvs w Hw
      obtain ⟨ys, e1, o1, hs1⟩ := shAll_ok (bsOf mem) _ hall hy
      obtain ⟨yc, e2, o2, hs2⟩ := shAll_ok (bsOf mem) _ hs1 hyc
      have hbody := hs2 (by rw [hi (ys ++ yc), List.map_append, e1, e2]; exact hI) vs hvs
      simp only [fillV_eq _ _ hvs] at hbody
      have ea : actOf ds (headT (dsts c) slots tmps ys0 vs) = actOf ds (headT (dsts c) slots tmps ys vs) := by
        apply actOf_eq; rw [headT_ev, headT_ev, e0, e1]
      have em : (headM an.blks mem yc0).map vb = (headM an.blks mem yc).map vb := setBlks_vb _ _ _ _ _ rfl (by rw [ec0, e2])
      rw [ea]
      rw [memOf_vb em] at Hw
      have hbs : bsOf (headM an.blks mem yc) = bsOf mem := by
        unfold headM
        rw [setBlks_bs]
        exact vb_bs (lockAll_vb mem)
      have hycl : yc.length = (an.blks.flatMap (·.2)).length := by
        have := shFits_len hyc
        rw [← e2] at this; simpa using this
      have HM : MemOk (headM an.blks mem yc) := by
        refine ⟨by rw [hbs]; exact H.nodup, ?_⟩
        rw [hbs]
        refine setBlks_ok _ _ _ ?_ o2
        intro x hx cc hcc
        simp only [lockAll, List.mem_map] at hx
        obtain ⟨x', hx', rfl⟩ := hx
        exact H.ok x' hx' cc hcc
      have htH : ∀ v ∈ headT (dsts c) slots tmps ys vs, v.ok (bsOf (headM an.blks mem yc)) := by
        rw [hbs]
        refine setAll_ok _ _ _ (setAll_ok _ _ _ ht ?_) ?_
        · intro v hv; obtain ⟨u, _, rfl⟩ := List.mem_map.1 hv; trivial
        · intro v hv; obtain ⟨u, hu, rfl⟩ := List.mem_map.1 hv; exact o1 u hu
      have hfrH : Fr (dsts c) tmps (headT (dsts c) slots tmps ys vs) := (setAll_fr _ _ _ _ (fun i hi => hi)).trans (setAll_fr _ _ _ _ hsub)
      -- how the head's blocks stand to the memory before
      have hhead : ∀ (id : Nat) (x : SB), mem[id]? = some x → ∃ y : SB, (headM an.blks mem yc)[id]? = some y ∧ y.b = x.b ∧ y.ty = x.ty ∧ y.own = x.own ∧ y.cells.length = x.cells.length ∧ (id ∉ an.blks.map (·.1) → y.lock = true ∧ y.cells = x.cells) := by
        intro id x hx
        obtain ⟨y, g1, g2, g3, g4, g5, g6⟩ := setBlks_get an.blks (lockAll mem) yc hycl id _ (lockAll_get hx) (fun p hp e => (hinfo p hp x (by rw [e]; exact hx)).1)
        exact ⟨y, g1, g2, g3, g4, g5, fun hn => by rw [g6 hn]; exact ⟨rfl, rfl⟩⟩
      have leave : ∀ (ex : Ex) (tmps' : List V) (mem' : List SB) (w' : World), Ext (headM an.blks mem yc) mem' → Fr (dsts c) (headT (dsts c) slots tmps ys vs) tmps' → MemOk mem' → (∀ v ∈ tmps', v.ok (bsOf mem')) →
          sat E (K ex tmps' (unlock mem mem')) → Holds w0 (memOf mem') w' → Q ex.ex (actOf ds tmps') w' := by
        intro ex tmps' mem' w' x1 x2 x3 x4 x5 Hw'
        have ev := unlock_vb mem mem'
        have ebs := vb_bs ev
        refine hk ex tmps' (unlock mem mem') ?_ (hfrH.trans x2) ⟨by rw [ebs]; exact x3.nodup, ?_⟩ (by rw [ebs]; exact x4) x5 w' (by rw [memOf_vb ev]; exact Hw')
        · intro id x hx
          obtain ⟨y, g1, g2, g3, g4, g5, g6⟩ := hhead id x hx
          obtain ⟨z, hz, hi⟩ := x1 id y g1
          obtain ⟨l, h1, h2⟩ := unlock_get mem mem' id z hz
          refine ⟨_, h1, hi.b.trans g2, hi.ty.trans g3, hi.own.trans g4, h2 x hx, hi.len.trans g5, fun hl => ?_⟩
          have hn : id ∉ an.blks.map (·.1) := by
            intro hin
            obtain ⟨p, hp, rfl⟩ := List.mem_map.1 hin
            rw [(hinfo p hp x hx).2] at hl; cases hl
          exact (hi.same (g6 hn).1).trans (g6 hn).2
        · rw [ebs]
          intro x hx cc hcc
          obtain ⟨id, hid⟩ := List.getElem?_of_mem hx
          have hz : ∃ z, mem'[id]? = some z := by
            have hl : (unlock mem mem').length = mem'.length := by
              have := congrArg List.length ev; simpa using this
            exact ⟨_, List.getElem?_eq_getElem (by rw [← hl]; exact (List.getElem?_eq_some_iff.1 hid).1)⟩
          obtain ⟨z, hz⟩ := hz
          obtain ⟨l, h1, _⟩ := unlock_get mem mem' id z hz
          rw [hid] at h1; cases h1
          exact x3.ok z (List.mem_of_getElem? hz) cc hcc
      refine LW.of ?_
      refine hb _ _ _ _ hbody HM htH ?_ w Hw
      intro ex tmps' mem' x1 x2 x3 x4 x5 w' Hw'
      cases ex with
      | normal =>
        simp only at x5
        obtain ⟨t2, ft1, ft2, ft3, x5⟩ := fitT_ok an.slots x4 x5
        obtain ⟨m2, fb1, fb2, fb3, fb4, x5⟩ := fitB_ok an.blks x3 x5
        show LW P c Q (actOf ds tmps') w'
        rw [← ft1]
        replace x1 := x1.trans fb3
        replace x2 := x2.trans (ft2.mono (by simp))
        replace x3 := fb4
        replace x4 : ∀ v ∈ t2, v.ok (bsOf m2) := by rw [fb2]; exact ft3
        replace Hw' : Holds w0 (memOf m2) w' := by rw [fb1]; exact Hw'
        clear ft1 ft2 ft3 fb1 fb2 fb3 fb4
        split at x5
        case h_2 => exact x5.elim
        rename_i ws' wc' hws' hwc'
        split at x5
        case isFalse => exact x5.elim
        rename_i htk'
        obtain ⟨hI', hlt'⟩ := x5
        obtain ⟨hbf', _⟩ := blksS_fits x3 _ hwc'
        have hw2 : (ws' ++ wc').map S.i = (ws'.map S.ev ++ wc'.map S.ev).map vint := by rw [hi, List.map_append]
        have hy2 : (ys ++ yc).map S.i = (ysv ++ ycv).map vint := by rw [hi, List.map_append, e1, e2]
        rw [hw2] at hI'
        rw [hw2, hy2, hN] at hlt'
        have hlen : t2.length = tmps.length := x2.1.trans hfrH.1
        have hm := headT_meets (ds := ds) (W := dsts c) (slots := slots) (tmps := tmps) hlen (fun i hi => (x2.2 i hi).trans (hfrH.2 i hi)) hws'
        have hmm : Holds w0 (memOf (headM an.blks mem wc')) w' := by
          refine headM_meets x3 hwc' ?_ (fun id x hx p hp e => (hinfo p hp x (by rw [e]; exact hx)).1) Hw'
          intro id x hx
          obtain ⟨y, g1, g2, g3, g4, _, g6⟩ := hhead id x hx
          obtain ⟨z, hz, hi⟩ := x1 id y g1
          exact ⟨z, hz, hi.b.trans g2, hi.ty.trans g3, hi.own.trans g4, fun hn => (hi.same (g6 hn).1).trans (g6 hn).2⟩
        rw [hm]
        exact ih _ hlt' _ _ (takesL_fits htk' (slotsS_ok x4 _ hws')) hbf' hI' rfl ws' wc' rfl rfl _ (by simp) w' hmm
      | exit id => exact leave (.exit id) tmps' mem' w' x1 x2 x3 x4 x5 Hw'
      | ret => exact leave .ret tmps' mem' w' x1 x2 x3 x4 x5 Hw'
  have hm := headT_meets (ds := ds) (W := dsts c) (slots := slots) (tmps := tmps) (tmps' := tmps) rfl (fun _ _ => rfl) hws
  rw [hm]
  refine claim _ _ _ (takesL_fits htk (slotsS_ok ht _ hws)) hbf (by rw [hi (ws ++ wc), List.map_append] at hinv; exact hinv) rfl ws wc rfl rfl _ (by simp) w ?_
  exact headM_meets H hwc (fun id x hx => ⟨x, hx, rfl, rfl, rfl, fun _ => rfl⟩) (fun id x hx p hp e => (hinfo p hp x (by rw [e]; exact hx)).1) Hw
theorem litAt_fr {tmps : List V} {c : Operand} {bb : Bool} (h : actOf ds (litAt tmps c bb) = actOf ds tmps) : Fr [] tmps (litAt tmps c bb) := by
  have e : (litAt tmps c bb).length = tmps.length := by unfold litAt; split <;> simp
  refine ⟨e, fun i _ => ?_⟩
  have := congrArg (fun a : Act => a.tmps.toList[i]?) h
  simpa [actOf] using this

theorem symCode_ok {tab : Tab} {E : Ctx} (hV : Valid P tab E) : ∀ n (w0 : World), RunOk P w0 E (symCode P tab n) := by
  intro n
  induction n with
  | zero => intro w0 ds fid c tmps mem K Q h; exact h.elim
  | succ n ih =>
    intro w0 ds fid c tmps mem K Q h H ht hk w Hw
    have here : ∀ ex, sat E (K ex tmps mem) → Q ex.ex (actOf ds tmps) w := fun ex hs => hk ex tmps mem (Ext.refl _) (Fr.refl _ _) H ht hs w Hw
    cases c
    case skip => exact Wp.of (by simp) (wp_skip (here .normal h))
    case label l => exact Wp.of (by simp) (wp_label (here .normal h))
    case exit id => exact Wp.of (by simp) (wp_exit (here (.exit id) h))
    case ret => exact Wp.of (by simp) (wp_ret (here .ret h))
    case region id ops draw =>
      refine Wp.of (by simp) ?_
      simp only [symCode] at h
      split at h
      · exact h.elim
      · rename_i hc
        have hops := symOps_ok (w0 := w0) (Kd := fun a m => ∀ w, Holds w0 m w → Q .normal a w) hV (fun w => symFn_ok (ih w)) (List.range ops.size) H ht h (by
          intro t m a f b c d
          obtain ⟨t', e, ho, hs⟩ := splitT_ok (ds := ds) c d
          have hf : Fr (dsts (.region id ops draw)) tmps t' := f.trans (by
            refine ⟨?_, fun i _ => ?_⟩
            · have := congrArg (fun a : Act => a.tmps.size) e
              simpa [actOf] using this
            · have := congrArg (fun a : Act => a.tmps.toList[i]?) e
              simpa [actOf] using this)
          rw [← e]
          obtain ⟨m', g1, g2, g3, g4, hs'⟩ := astM_ok _ b hs
          rw [← g1]
          exact hk .normal t' m' (a.trans g3) hf g4 (by rw [g2]; exact ho) hs')
        cases draw with
        | false => exact wp_region_D (fun a m w Hw' hq => hq w Hw') hops Hw
        | true =>
          have hok : orderOk P (disOf tmps) ops (Region.before ops) = true := by simpa using hc
          have e : (fun i => if true = true then lvl ops (Region.before ops) i else Lv.all) = lvl ops (Region.before ops) := by funext i; simp
          rw [e] at hops
          exact wp_region_any hok (disOf_ok H.nodup ht) (fun a m w Hw' hq => hq w Hw') hops Hw
    case seq a b =>
      refine Wp.of (by simp) (wp_seq ?_)
      simp only [symCode] at h
      refine (ih w0 ds fid a tmps mem _ _ h H ht ?_ w Hw).1
      intro ex tmps' mem' h1 hf h2 h3 h4 w' Hw'
      have hf' : Fr (dsts (.seq a b)) tmps tmps' := hf.mono fun i hi => List.mem_append_left _ hi
      cases ex with
      | normal => exact (ih w0 ds fid b tmps' mem' _ _ h4 h2 h3 (fun ex t m a f b c d => hk ex t m (h1.trans a) (hf'.trans (f.mono fun i hi => List.mem_append_right _ hi)) b c d) w' Hw').1
      | exit id => exact hk (.exit id) tmps' mem' h1 hf' h2 h3 h4 w' Hw'
      | ret => exact hk .ret tmps' mem' h1 hf' h2 h3 h4 w' Hw'
    case cond c x y =>
      refine Wp.of (by simp) ?_
      simp only [symCode] at h
      have hx : ∀ i ∈ dsts x, i ∈ dsts (.cond c x y) := fun i hi => List.mem_append_left _ hi
      have hy : ∀ i ∈ dsts y, i ∈ dsts (.cond c x y) := fun i hi => List.mem_append_right _ hi
      split at h
      · rename_i t hp
        have hc : (actOf ds tmps).eval c = .bool t := by rw [opv_ev, hp]; rfl
        refine wp_cond hc (ih w0 ds fid _ tmps mem K Q h H ht (fun ex t' m a f b c d => hk ex t' m a (f.mono ?_) b c d) w Hw).1
        cases t with
        | true => exact hx
        | false => exact hy
      · rename_i b _ hp
        have hc : (actOf ds tmps).eval c = .bool b.ev := by rw [opv_ev, hp]; rfl
        refine wp_cond_split hc (fun hb => ?_) fun hb => ?_
        · have e := litAt_same (ds := ds) hp hb
          rw [← e]
          exact (ih w0 ds fid x _ mem K Q (ite_true h hb) H (litAt_ok ht _ _) (fun ex t' m a f b c d => hk ex t' m a (((litAt_fr e).mono (by simp)).trans (f.mono hx)) b c d) w Hw).1
        · have e := litAt_same (ds := ds) hp hb
          rw [← e]
          exact (ih w0 ds fid y _ mem K Q (ite_false h hb) H (litAt_ok ht _ _) (fun ex t' m a f b c d => hk ex t' m a (((litAt_fr e).mono (by simp)).trans (f.mono hy)) b c d) w Hw).1
      · exact h.elim
    case block id body =>
      refine Wp.of (by simp) (wp_block ?_)
      simp only [symCode] at h
      refine (ih w0 ds fid body tmps mem _ _ h H ht ?_ w Hw).1
      intro ex tmps' mem' h1 hf h2 h3 h4 w' Hw'
      cases ex with
      | normal => exact hk .normal tmps' mem' h1 hf h2 h3 h4 w' Hw'
      | exit i =>
        simp only at h4
        show (if i = id then Q .normal _ _ else Q (.exit i) _ _)
        split at h4
        · rename_i hi; rw [if_pos hi]; exact hk .normal tmps' mem' h1 hf h2 h3 h4 w' Hw'
        · rename_i hi; rw [if_neg hi]; exact hk (.exit i) tmps' mem' h1 hf h2 h3 h4 w' Hw'
      | ret => exact hk .ret tmps' mem' h1 hf h2 h3 h4 w' Hw'
    case loop body =>
      simp only [symCode] at h
      have hl : LW P body Q (actOf ds tmps) w := by
        split at h
        · obtain ⟨t2, ft1, ft2, ft3, h⟩ := fitT_ok _ ht h
          obtain ⟨m2, fb1, fb2, fb3, fb4, h⟩ := fitB_ok _ H h
          rw [← ft1]
          rw [← fb1] at Hw
          exact symLoop_ok (fun t m K Q h1 h2 h3 h4 w h5 => (ih w0 ds fid body t m K Q h1 h2 h3 h4 w h5).1) h fb4 (by rw [fb2]; exact ft3) (fun ex t m a f b c d => hk ex t m (fb3.trans a) ((ft2.mono (by simp)).trans f) b c d) Hw
        · refine LW.of ?_
          refine (ih w0 ds fid body tmps mem _ _ h H ht ?_ w Hw).1
          intro ex tmps' mem' h1 hf h2 h3 h4 w' Hw'
          cases ex with
          | normal => exact (ih w0 ds fid (.loop body) tmps' mem' _ _ h4 h2 h3 (fun ex t m a f b c d => hk ex t m (h1.trans a) (Fr.trans hf f) b c d) w' Hw').2
          | exit id => exact hk (.exit id) tmps' mem' h1 hf h2 h3 h4 w' Hw'
          | ret => exact hk .ret tmps' mem' h1 hf h2 h3 h4 w' Hw'
      exact ⟨hl.wp, hl⟩
    case scope body =>
      refine Wp.of (by simp) (wp_scope_straight ?_)
      simp only [symCode] at h
      refine (ih w0 ds fid body tmps mem K _ h H ht ?_ w Hw).1
      intro ex tmps' mem' h1 hf h2 h3 h4 w' Hw'
      cases ex <;> exact hk _ tmps' mem' h1 hf h2 h3 h4 w' Hw'
    all_goals exact h.elim

/-! ### a contract, by its function's tree -/
def symTop (P : Program) (tab : Tab) (n : Nat) (f : FuncId) (ash : List ShA) (sh : ShV) : T :=
  shaAll ash fun xs => .given f xs (symFn P (symCode P tab n) f xs globS fun v _ => fitV sh v fun v => if sh.takes v then .done f xs v else .fail "the shape of the result")

theorem top_pure {tab : Tab} {E : Ctx} (hV : Valid P tab E) {n : Nat} {f : FuncId} {ash : List ShA} {sh : ShV} {t : T} (he : symTop P tab n f ash sh = t) (h : sat E t) (args : List Value) (ha : shaFits ash args) (hp : E.pre f (args.map vints)) :
    Pure P f args.toArray fun v => sh.fits v ∧ E.post f (args.map vints) (vres v) := by
  subst he
  intro w j
  obtain ⟨xs, rfl, hok, hs⟩ := shaAll_ok (bsOf globS) _ h ha
  have hints : xs.map A.ints = (xs.map A.ev).map vints := by rw [List.map_map]; rfl
  have hs' := hs (by rw [hints]; exact hp)
  have := symFn_ok (symCode_ok hV n w) f xs globS _ (fun v _ => sh.fits v ∧ E.post f ((xs.map A.ev).map vints) (vres v)) hs' globS_ok hok (fun v mem' _ _ hv hd => by
    obtain ⟨u, u1, u2, hd⟩ := fitV_ok hv hd
    rw [← u1]
    split at hd
    · rename_i htk
      exact ⟨takesV_fits htk u2, by rw [← hints]; exact hd⟩
    · exact hd.elim) w (Holds.startG w j)
  refine this.mono ?_
  rintro e w' ⟨v, m', h1, h2, h3⟩
  exact ⟨v, h1, h3, h2.sm⟩

theorem top_sat {tab : Tab} {E : Ctx} (hV : Valid P tab E) {n : Nat} {f : FuncId} {ash : List ShA} {sh : ShV} (h : sat E (symTop P tab n f ash sh)) (args : List Value) (ha : shaFits ash args) (hp : E.pre f (args.map vints)) :
    Pure P f args.toArray fun v => sh.fits v ∧ E.post f (args.map vints) (vres v) := top_pure hV rfl h args ha hp

def canCall (P : Program) (f : FuncId) : Bool :=
  match P.funcs[f]? with
  | some fn => !(fn.name == "runtime.NumGoroutine") && fn.body.isSome
  | none => false

/-- one contract more. -/
theorem Valid.add {tab : Tab} {E : Ctx} (hV : Valid P tab E) {f : FuncId} {ash : List ShA} {sh : ShV} (hc : canCall P f = true)
    (hp : ∀ args : List Value, shaFits ash args → E.pre f (args.map vints) → Pure P f args.toArray fun v => sh.fits v ∧ E.post f (args.map vints) (vres v)) :
    Valid P { tab with cons := (f, ash, sh) :: tab.cons } E := by
  refine ⟨fun g ash' sh' hg => ?_, hV.ext, hV.new⟩
  simp only [Tab.con, List.find?_cons] at hg
  by_cases e : f = g
  · subst e
    simp at hg
    obtain ⟨rfl, rfl⟩ := hg
    refine ⟨?_, hp⟩
    unfold canCall at hc
    split at hc
    · rename_i fn hfn
      simp only [Bool.and_eq_true, Bool.not_eq_true'] at hc
      obtain ⟨c, hb⟩ := Option.isSome_iff_exists.1 hc.2
      exact ⟨fn, c, hfn, hc.1, hb⟩
    · cases hc
  · rw [show (f == g) = false by simpa using e] at hg
    exact hV.con g ash' sh' hg

theorem Valid.nil {exts : List (FuncId × Bool)} {anns : List (FuncId × Nat × Ann)} {spls : List (FuncId × Nat × Nat)} {mrgs : List FuncId} {asts : List (FuncId × Nat × List (List (Nat × Bool) × Nat × Nat × Int))} {E : Ctx} (h : ∀ f kind, ((exts.find? (·.1 == f)).map (·.2)) = some kind → ExtOk P f kind) : Valid P { cons := [], exts := exts, anns := anns, spls := spls, mrgs := mrgs, asts := asts } E :=
  ⟨fun f ash sh h => (by simp [Tab.con] at h), h, fun f x h => (by simp [Tab.new] at h)⟩

/-- a function more that makes a slice. -/
theorem Valid.addNew {tab : Tab} {E : Ctx} (hV : Valid P tab E) {f : FuncId} {x : New} (h : NewOk P f x) : Valid P { tab with news := (f, x) :: tab.news } E := by
  refine ⟨hV.con, hV.ext, fun g y hg => ?_⟩
  simp only [Tab.new, List.find?_cons] at hg
  by_cases e : f = g
  · subst e
    simp at hg
    subst hg
    exact h
  · rw [show (f == g) = false by simpa using e] at hg
    exact hV.new g y hg

/-- the loops' words are another list at each function; what is known of the functions is the same. -/
theorem Valid.anns {tab : Tab} {E : Ctx} (hV : Valid P tab E) (a : List (FuncId × Nat × Ann)) : Valid P { tab with anns := a } E := ⟨hV.con, hV.ext, hV.new⟩

theorem Valid.ctx {tab : Tab} {E E' : Ctx} (hV : Valid P tab E) (h1 : E'.pre = E.pre) (h2 : E'.post = E.post) : Valid P tab E' := by
  refine ⟨?_, hV.ext, hV.new⟩
  rw [h1, h2]; exact hV.con

end Go.Proofs.YtogcbmadcgjljaaDoor.Sx
