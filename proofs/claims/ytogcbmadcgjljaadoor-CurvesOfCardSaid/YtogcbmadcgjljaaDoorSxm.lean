/-
  A frame of our own for walks, part m: code, functions, calls.
-/
import Derived.Test.YtogcbmadcgjljaaDoorSxl
namespace Go.Proofs.YtogcbmadcgjljaaDoor.Sx
open Go Go.RowKit

variable {P : Program} {ds : List Deferred}

inductive Ex where
  | normal
  | exit (id : Nat)
  | ret

def Ex.ex : Ex → Exit
  | .normal => .normal
  | .exit id => .exit id
  | .ret => .ret

def resS (P : Program) : List ResultVar → List V → List SB → Option (List A)
  | [], _, _ => some []
  | .tmp t :: r, tmps, mem =>
    match tmps.getD t (.tup []), resS P r tmps mem with
    | .a x, some xs => some (x :: xs)
    | _, _ => none
  | .cell a t :: r, tmps, mem =>
    match tmps.getD a (.tup []), resS P r tmps mem with
    | .a (.s (.ptr id _ off)), some xs => (loadS P mem t id off).map (· :: xs)
    | _, _ => none

def resV : List A → V
  | [x] => .a x
  | xs => .tup xs

theorem getD_ev (tmps : List V) (t : Nat) : (actOf ds tmps).tmps.getD t undef = (tmps.getD t (.tup [])).ev := opv_ev tmps (.tmp t)

theorem resS_ok {mem : List SB} (H : MemOk mem) {tmps : List V} (ht : ∀ v ∈ tmps, v.ok (bsOf mem)) : ∀ (l : List ResultVar) {xs : List A}, resS P l tmps mem = some xs →
    (∀ x ∈ xs, x.ok (bsOf mem)) ∧ qev P (l.mapM fun | .tmp t => pure ((actOf ds tmps).tmps.getD t undef) | .cell a t => do loadVar t (← asAddr ((actOf ds tmps).tmps.getD a undef))) (memOf mem) = some (xs.map A.ev)
  | [], xs, h => by cases h; exact ⟨fun x hx => (by cases hx), rfl⟩
  | .tmp t :: r, xs, h => by
    simp only [resS] at h
    split at h
    · rename_i x ys hx hr
      cases h
      obtain ⟨h1, h2⟩ := resS_ok H ht r hr
      have hxo : x.ok (bsOf mem) := by have := opv_ok ht (.tmp t); simp only [opv, hx] at this; exact this
      refine ⟨?_, ?_⟩
      · intro z hz
        rcases List.mem_cons.1 hz with rfl | hz
        · exact hxo
        · exact h1 z hz
      · rw [List.mapM_cons, qev_bind]
        simp only [qev_pure, Option.bind_some]
        rw [qev_bind, h2, getD_ev, hx]
        rfl
    · cases h
  | .cell a t :: r, xs, h => by
    simp only [resS] at h
    split at h
    · rename_i id b off ys hx hr
      cases hl : loadS P mem t id off with
      | none => rw [hl] at h; cases h
      | some y =>
        rw [hl] at h; cases h
        obtain ⟨h1, h2⟩ := resS_ok H ht r hr
        have hxo : (bsOf mem)[id]? = some b := by have := opv_ok ht (.tmp a); simp only [opv, hx] at this; exact this
        obtain ⟨h3, h4⟩ := loadS_ok H hxo hl
        refine ⟨?_, ?_⟩
        · intro z hz
          rcases List.mem_cons.1 hz with rfl | hz
          · exact h3
          · exact h1 z hz
        · rw [List.mapM_cons, qev_bind]
          have : qev P (do loadVar t (← asAddr ((actOf ds tmps).tmps.getD a undef))) (memOf mem) = some y.ev := by
            rw [getD_ev, hx, qev_bind]
            simp only [V.ev, A.ev, S.ev, asAddr, qev_pure, Option.bind_some]
            exact h4
          rw [this]
          simp only [Option.bind_some]
          rw [qev_bind, h2]
          rfl
    · cases h

theorem results_ok {mem : List SB} (H : MemOk mem) {tmps : List V} (ht : ∀ v ∈ tmps, v.ok (bsOf mem)) {fn : Func} {xs : List A} (h : resS P fn.results.toList tmps mem = some xs) :
    (resV xs).ok (bsOf mem) ∧ qev P (results fn (actOf ds tmps).tmps) (memOf mem) = some (resV xs).ev := by
  obtain ⟨h1, h2⟩ := resS_ok H ht _ h
  refine ⟨?_, ?_⟩
  · unfold resV
    split
    · exact h1 _ (by simp)
    · exact h1
  · unfold results
    rw [qev_bind, Array.mapM_eq_mapM_toList]
    rw [show ∀ (s : Sem (List Value)), qev P (List.toArray <$> s) (memOf mem) = (qev P s (memOf mem)).bind fun a => some a.toArray from fun s => qev_bind s _ _]
    have key : ∀ o : Option (List Value), o = some (xs.map A.ev) → ((o.bind fun a => some a.toArray).bind fun vs => qev P (pure (if h : vs.size = 1 then vs[0] else .tuple vs)) (memOf mem)) = some (resV xs).ev := by
      rintro o rfl
      simp only [Option.bind_some, qev_pure]
      clear h h1 h2
      cases xs with
      | nil => rfl
      | cons x r =>
        cases r with
        | nil => rfl
        | cons y r =>
          rw [dif_neg (by simp)]
          rfl
    exact key _ h2

def symBody (P : Program) (run : FuncId → Code → List V → List SB → (Ex → List V → List SB → T) → T) (f : FuncId) (fn : Func) (c : Code) (args : List A) (mem : List SB) (K : V → List SB → T) : T :=
  run f c (args.map .a ++ List.replicate (fn.ntmps - args.length) (.tup [])) mem fun ex tmps mem =>
    match ex with
    | .exit _ => .fail "exit"
    | _ => match resS P fn.results.toList tmps mem with
      | some xs => K (resV xs) mem
      | none => .fail "results"

/-- the call that was put off, then the results. -/
def symAfter (P : Program) (run : FuncId → Code → List V → List SB → (Ex → List V → List SB → T) → T) (g : FuncId) (xs : List A) (fn : Func) (tmps : List V) (mem : List SB) (K : V → List SB → T) : T :=
  if !callable P g then .fail "no such function" else
  match P.funcs[g]? with
  | some gn =>
    match gn.body with
    | some gc => symBody P run g gn gc xs mem fun _ mem => match resS P fn.results.toList tmps mem with
      | some rs => K (resV rs) mem
      | none => .fail "results"
    | none => .fail "no body"
  | none => .fail "no function"

def symDefer (P : Program) (run : FuncId → Code → List V → List SB → (Ex → List V → List SB → T) → T) (f : FuncId) (fn : Func) (a b : Code) (call : Call) (args : List A) (mem : List SB) (K : V → List SB → T) : T :=
  run f a (args.map .a ++ List.replicate (fn.ntmps - args.length) (.tup [])) mem fun ex tmps mem =>
    match ex with
    | .normal =>
      match call.callee, toAs (call.args.toList.map (opv tmps)) with
      | .value fo, some xs => match opv tmps fo with
        | .a (.s (.fn g [])) => run f b tmps mem fun ex tmps mem =>
          match ex with
          | .exit _ => .fail "exit"
          | _ => symAfter P run g xs fn tmps mem K
        | _ => .fail "defer"
      | _, _ => .fail "defer"
    | _ => .fail "defer"

def symFn (P : Program) (run : FuncId → Code → List V → List SB → (Ex → List V → List SB → T) → T) : Inl := fun f args mem K =>
  match P.funcs[f]? with
  | some fn =>
    match fn.body with
    | some (.seq a (.seq (.region id ops false) b)) =>
      if ops.size = 1 then
        match ops[0]? with
        | some o => match o.op, o.dst, o.guard with
          | .defer call, none, none => symDefer P run f fn a b call args mem K
          | _, _, _ => symBody P run f fn (.seq a (.seq (.region id ops false) b)) args mem K
        | none => .fail "defer"
      else symBody P run f fn (.seq a (.seq (.region id ops false) b)) args mem K
    | some c => symBody P run f fn c args mem K
    | none => .fail "no body"
  | none => .fail "no function"

/-- a slot whose truth value is known from here on. -/
def litAt (tmps : List V) (c : Operand) (b : Bool) : List V :=
  match c with
  | .tmp d => tmps.set d (.a (.s (.bool (.lit b))))
  | _ => tmps

theorem litAt_same {tmps : List V} {c : Operand} {b : B} (hp : opv tmps c = .a (.s (.bool b))) {bb : Bool} (hb : b.ev = bb) : actOf ds (litAt tmps c bb) = actOf ds tmps := by
  unfold litAt
  split
  · rename_i d
    cases htd : tmps[d]? with
    | none =>
      have : tmps.set d (.a (.s (.bool (.lit bb)))) = tmps := List.set_eq_of_length_le (by simpa using htd)
      rw [this]
    | some v =>
      refine actOf_same htd ?_
      simp only [opv, List.getD_eq_getElem?_getD, htd, Option.getD_some] at hp
      rw [hp]; simp [V.ev, A.ev, S.ev, B.ev, hb]
  · rfl

theorem litAt_ok {bs : List Nat} {tmps : List V} (ht : ∀ v ∈ tmps, v.ok bs) (c : Operand) (bb : Bool) : ∀ v ∈ litAt tmps c bb, v.ok bs := by
  unfold litAt
  split
  · exact set_ok ht trivial
  · exact ht

/-- cases by a slot of truth. -/
def splitT (s : Option Nat) (tmps : List V) (k : List V → T) : T :=
  match s with
  | none => k tmps
  | some d =>
    match opv tmps (.tmp d) with
    | .a (.s (.bool (.lit _))) => k tmps
    | .a (.s (.bool b)) => .ite b (k (litAt tmps (.tmp d) true)) (k (litAt tmps (.tmp d) false))
    | _ => k tmps

theorem splitT_ok {E : Ctx} {bs : List Nat} {tmps : List V} (ht : ∀ v ∈ tmps, v.ok bs) {s : Option Nat} {k : List V → T} (h : sat E (splitT s tmps k)) :
    ∃ t', actOf ds t' = actOf ds tmps ∧ (∀ v ∈ t', v.ok bs) ∧ sat E (k t') := by
  unfold splitT at h
  split at h
  · exact ⟨tmps, rfl, ht, h⟩
  · rename_i d
    split at h
    · exact ⟨tmps, rfl, ht, h⟩
    · rename_i b _ hp
      cases hb : b.ev with
      | true => exact ⟨_, litAt_same hp hb, litAt_ok ht _ _, ite_true h hb⟩
      | false => exact ⟨_, litAt_same hp hb, litAt_ok ht _ _, ite_false h hb⟩
    · exact ⟨tmps, rfl, ht, h⟩

/-- where truths stand in these slots, a block's cell is that number: to be shown; from here on it stands there. -/
def astM (tmps : List V) : List (List (Nat × Bool) × Nat × Nat × Int) → List SB → (List SB → T) → T
  | [], mem, k => k mem
  | (sl, id, c, n) :: r, mem, k =>
    if sl.all (fun s => match opv tmps (.tmp s.1) with | .a (.s (.bool (.lit b))) => b == s.2 | _ => false) then
      match mem[id]? with
      | some x => if x.lock then .fail "a block that is locked" else match x.cells[c]? with
        | some (.int kd y) => .must (.eq y (.lit n)) (astM tmps r (mem.set id { x with cells := x.cells.set c (.int kd (.lit n)) }) k)
        | _ => .fail "no number"
      | none => .fail "no block"
    else astM tmps r mem k

/-! ### a loop by its relation -/
def keyOf : Code → Option Nat
  | .region id _ _ => some id
  | .seq a b => match keyOf a with
    | some k => some k
    | none => keyOf b
  | .cond _ a b => match keyOf a with
    | some k => some k
    | none => keyOf b
  | .block _ b => keyOf b
  | .loop b => keyOf b
  | .scope b => keyOf b
  | _ => none

def dsts : Code → List Nat
  | .region _ ops _ => dstOps ops
  | .seq a b => dsts a ++ dsts b
  | .cond _ a b => dsts a ++ dsts b
  | .block _ b => dsts b
  | .loop b => dsts b
  | .scope b => dsts b
  | _ => []

def slotS (tmps : List V) (i : Nat) : Option S :=
  match tmps[i]? with
  | some (.a (.s x)) => some x
  | _ => none

def slotsS (tmps : List V) : List Nat → Option (List S)
  | [] => some []
  | i :: r => match slotS tmps i, slotsS tmps r with
    | some x, some xs => some (x :: xs)
    | _, _ => none

/-- what a loop's relation may speak of beside the loop's own: a slot's cells, or those of the block that it points at. -/
def fsOf (tmps : List V) (mem : List SB) : List Nat → Option (List S)
  | [] => some []
  | i :: r => match tmps[i]?, fsOf tmps mem r with
    | some (.a (.s (.ptr id _ _))), some xs => (mem[id]?).map fun x => x.cells ++ xs
    | some (.a (.s x)), some xs => some (x :: xs)
    | some (.a (.agg ys)), some xs => some (ys ++ xs)
    | _, _ => none

/-- the cells of the loop's blocks, one behind the other. -/
def blksS (mem : List SB) : List (Nat × List Sh) → Option (List S)
  | [] => some []
  | (id, sh) :: r => match mem[id]?, blksS mem r with
    | some x, some xs => if takesL sh x.cells && !x.lock then some (x.cells ++ xs) else none
    | _, _ => none

def setAll (tmps : List V) : List Nat → List V → List V
  | i :: is, v :: vs => setAll (tmps.set i v) is vs
  | _, _ => tmps

def setBlks (mem : List SB) : List (Nat × List Sh) → List S → List SB
  | [], _ => mem
  | (id, sh) :: r, ys => setBlks (match mem[id]? with | some x => mem.set id { x with cells := ys.take sh.length, lock := false } | none => mem) r (ys.drop sh.length)

def lockAll (mem : List SB) : List SB := mem.map fun x => { x with lock := true }

/-- the locks as they were. -/
def unlock (old : List SB) : List SB → List SB
  | [] => []
  | x :: xs => match old with
    | [] => { x with lock := false } :: unlock [] xs
    | o :: os => { x with lock := o.lock } :: unlock os xs

def headT (W : List Nat) (slots : List Nat) (tmps : List V) (ys : List S) (vs : List Value) : List V :=
  setAll (setAll tmps W (vs.map fun v => .a (.s (.raw v)))) slots (ys.map fun y => .a (.s y))

def headM (blks : List (Nat × List Sh)) (mem : List SB) (ys : List S) : List SB := setBlks (lockAll mem) blks ys

def fillV : Nat → List Value → List Value
  | 0, _ => []
  | n + 1, vs => vs.headD undef :: fillV n vs.tail

theorem fillV_eq : ∀ (n : Nat) (vs : List Value), vs.length = n → fillV n vs = vs
  | 0, [], _ => rfl
  | n + 1, v :: vs, h => by
    show v :: fillV n vs = v :: vs
    rw [fillV_eq n vs (by simpa using h)]

def fitT : List (Nat × Sh) → List V → (List V → T) → T
  | [], tmps, K => K tmps
  | (i, sh) :: r, tmps, K =>
    match tmps[i]? with
    | some (.a (.s x)) => fitS sh x fun y => fitT r (tmps.set i (.a (.s y))) K
    | _ => fitT r tmps K

theorem fitT_ok {E : Ctx} {bs : List Nat} : ∀ (l : List (Nat × Sh)) {tmps : List V}, (∀ v ∈ tmps, v.ok bs) → ∀ {K : List V → T}, sat E (fitT l tmps K) →
    ∃ tmps' : List V, actOf ds tmps' = actOf ds tmps ∧ Fr [] tmps tmps' ∧ (∀ v ∈ tmps', v.ok bs) ∧ sat E (K tmps')
  | [], tmps, ht, K, h => ⟨tmps, rfl, Fr.refl _ _, ht, h⟩
  | (i, sh) :: r, tmps, ht, K, h => by
    simp only [fitT] at h
    split at h
    · rename_i x hx
      obtain ⟨y, h1, h2, h3⟩ := fitS_ok (ht _ (List.mem_of_getElem? hx)) h
      have e : actOf ds (tmps.set i (.a (.s y))) = actOf ds tmps := actOf_same hx (by simp only [V.ev, A.ev, h1])
      obtain ⟨t', g1, g2, g3, g4⟩ := fitT_ok r (set_ok (v := .a (.s y)) ht h2) h3
      exact ⟨t', g1.trans e, (fr_same e).trans g2, g3, g4⟩
    · exact fitT_ok r ht h

def fitB : List (Nat × List Sh) → List SB → (List SB → T) → T
  | [], mem, K => K mem
  | (id, sh) :: r, mem, K =>
    match mem[id]? with
    | some x => if x.lock then fitB r mem K else fitL sh x.cells fun cs => fitB r (mem.set id { x with cells := cs }) K
    | none => fitB r mem K

def symLoop (an : Ann) (W : List Nat) (tmps : List V) (mem : List SB) (body : List V → List SB → (Ex → List V → List SB → T) → T) (K : Ex → List V → List SB → T) : T :=
  let slots := an.slots.map (·.1)
  let sh := an.slots.map (·.2)
  if slots.all (W.contains ·) && W.all (fun i => decide (i < tmps.length)) then
    match fsOf tmps mem an.fro, slotsS tmps slots, blksS mem an.blks with
    | some fs, some ws, some wc =>
      if takesL sh ws then
        .inv an.l fs (ws ++ wc) <| shAll sh fun ys => shAll (an.blks.flatMap (·.2)) fun yc => .hyp an.l fs (ys ++ yc) <| .hav W.length fun vs =>
          body (headT W slots tmps ys (fillV W.length vs)) (headM an.blks mem yc) fun ex tmps' mem' =>
            match ex with
            | .normal => fitT an.slots tmps' fun tmps' => fitB an.blks mem' fun mem' =>
              match slotsS tmps' slots, blksS mem' an.blks with
              | some ws', some wc' => if takesL sh ws' then .again an.l fs (ys ++ yc) (ws' ++ wc') else .fail "the slots of the loop"
              | _, _ => .fail "the slots of the loop"
            | ex => K ex tmps' (unlock mem mem')
      else .fail "the slots of the loop at its start"
    | _, _, _ => .fail "the slots of the loop at its start"
  else .fail "the words of the loop"

/-- the known block that a slot leads to. -/
def ptrId (tmps : List V) (t : Nat) : Option Nat :=
  match tmps[t]? with
  | some (.a (.s (.ptr id _ _))) => some id
  | some (.a (.s (.px id _ _ _ _ _))) => some id
  | _ => none

def disOf (tmps : List V) (r s : Nat) : Bool :=
  match ptrId tmps r, ptrId tmps s with
  | some i, some j => i != j
  | _, _ => false

theorem ptrId_ok {bs : List Nat} {tmps : List V} (ht : ∀ v ∈ tmps, v.ok bs) {t i b : Nat} (h : ptrId tmps t = some i) (hb : blockOf ((actOf ds tmps).eval (.tmp t)) = some b) : bs[i]? = some b := by
  rw [opv_ev] at hb
  simp only [opv, List.getD_eq_getElem?_getD] at hb
  unfold ptrId at h
  split at h
  · rename_i id b' off e
    cases h
    rw [e] at hb
    have := ht _ (List.mem_of_getElem? e)
    simp only [Option.getD_some, V.ev, A.ev, S.ev, blockOf, Option.some.injEq] at hb
    subst hb; exact this
  · rename_i id b' off i' l n e
    cases h
    rw [e] at hb
    have := ht _ (List.mem_of_getElem? e)
    simp only [Option.getD_some, V.ev, A.ev, S.ev, blockOf, Option.some.injEq] at hb
    subst hb; exact this.1
  · cases h

theorem disOf_ok {bs : List Nat} (hn : bs.Nodup) {tmps : List V} (ht : ∀ v ∈ tmps, v.ok bs) : Dis (disOf tmps) (actOf ds tmps) := by
  intro r s h b hr hs
  unfold disOf at h
  split at h
  · rename_i i j hi hj
    have e1 := ptrId_ok ht hi hr
    have e2 := ptrId_ok ht hj hs
    have := (List.getElem?_inj (List.getElem?_eq_some_iff.1 e1).1 hn).1 (e1.trans e2.symm)
    simp [this] at h
  · cases h

def symCode (P : Program) (tab : Tab) : Nat → FuncId → Code → List V → List SB → (Ex → List V → List SB → T) → T
  | 0, _, _, _, _, _ => .fail "fuel"
  | n + 1, fid, code, tmps, mem, K =>
    match code with
    | .skip => K .normal tmps mem
    | .label _ => K .normal tmps mem
    | .exit id => K (.exit id) tmps mem
    | .ret => K .ret tmps mem
    | .region id ops draw =>
      if draw && !orderOk P (disOf tmps) ops (Region.before ops) then .fail "order"
      else symOps P tab (symFn P (symCode P tab n)) (fun i => if draw then lvl ops (Region.before ops) i else .all) ops (List.range ops.size) tmps mem fun tmps mem => splitT (tab.spl fid id) tmps fun tmps => astM tmps (tab.ast fid id) mem fun mem => K .normal tmps mem
    | .seq a b => symCode P tab n fid a tmps mem fun ex tmps mem =>
      match ex with
      | .normal => symCode P tab n fid b tmps mem K
      | ex => K ex tmps mem
    | .cond c x y =>
      match opv tmps c with
      | .a (.s (.bool (.lit t))) => symCode P tab n fid (if t then x else y) tmps mem K
      | .a (.s (.bool b)) => .ite b (symCode P tab n fid x (litAt tmps c true) mem K) (symCode P tab n fid y (litAt tmps c false) mem K)
      | _ => .fail "cond"
    | .block id body => symCode P tab n fid body tmps mem fun ex tmps mem =>
      match ex with
      | .exit i => if i = id then K .normal tmps mem else K (.exit i) tmps mem
      | ex => K ex tmps mem
    | .loop body =>
      match (keyOf body).bind (tab.ann fid) with
      | some an => fitT an.slots tmps fun tmps => fitB an.blks mem fun mem => symLoop an (dsts body) tmps mem (symCode P tab n fid body) K
      | none => symCode P tab n fid body tmps mem fun ex tmps mem =>
        match ex with
        | .normal => symCode P tab n fid (.loop body) tmps mem K
        | ex => K ex tmps mem
    | .scope body => symCode P tab n fid body tmps mem K
    | _ => .fail "code"

/-- a loop's run from within. -/
def LW (P : Program) (c : Code) (Q : Exit → Act → World → Prop) (a : Act) (w : World) : Prop :=
  ∀ (b : Frame) (k : List Item) (cs : List Frame), ∃ e a' w', Q e a' w' ∧ Arrives P (lone (b.at a (.code c :: .inLoop c :: k)) cs w) b k cs e a' w'

theorem LW.wp {c : Code} {Q : Exit → Act → World → Prop} {a : Act} {w : World} (h : LW P c Q a w) : (Code.loop c).wp P Q a w := by
  intro b k cs
  obtain ⟨e, a', w', hq, harr⟩ := h b k cs
  exact ⟨e, a', w', hq, .of_steps (.one step_loop) harr⟩

theorem LW.of {c : Code} {Q : Exit → Act → World → Prop} {a : Act} {w : World} (h : c.wp P (Exit.then (LW P c Q) Q) a w) : LW P c Q a w := by
  intro b k cs
  obtain ⟨e, a₁, w₁, hq, harr⟩ := h b (.inLoop c :: k) cs
  cases e with
  | normal =>
    obtain ⟨e₂, a₂, w₂, hq₂, harr₂⟩ := hq b k cs
    exact ⟨e₂, a₂, w₂, hq₂, .of_steps (Steps.trans harr (.one step_inLoop)) harr₂⟩
  | exit id => exact ⟨_, a₁, w₁, hq, .pass (x := .inLoop c) rfl (fun _ _ => .inl (by simp)) harr⟩
  | goto l => exact ⟨_, a₁, w₁, hq, .pass (x := .inLoop c) rfl (fun _ _ => .inl (by simp)) harr⟩
  | ret => exact ⟨_, a₁, w₁, hq, .pass (x := .inLoop c) rfl (fun _ _ => .inl (by simp)) harr⟩
  | panic ch => exact ⟨_, a₁, w₁, hq, .pass (x := .inLoop c) rfl (fun _ _ => .inl (by simp)) harr⟩
  | outgrown => exact ⟨_, a₁, w₁, hq, .pass (x := .inLoop c) rfl (fun _ _ => .inl (by simp)) harr⟩

/-- what code comes to, and, of a loop, from within. -/
def Wp (P : Program) (c : Code) (Q : Exit → Act → World → Prop) (a : Act) (w : World) : Prop :=
  c.wp P Q a w ∧ match c with | .loop b => LW P b Q a w | _ => True

theorem Wp.of {c : Code} (hc : ∀ b, c ≠ .loop b) {Q : Exit → Act → World → Prop} {a : Act} {w : World} (h : c.wp P Q a w) : Wp P c Q a w := by
  refine ⟨h, ?_⟩
  cases c <;> first | trivial | exact absurd rfl (hc _)

end Go.Proofs.YtogcbmadcgjljaaDoor.Sx
