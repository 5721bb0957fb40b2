/-
  A frame of our own for walks, part l: code, functions, calls.
-/
import Derived.Test.YtogcbmadcgjljaaDoorSxk
import Derived.Stop.Asserts
namespace Go.Proofs.YtogcbmadcgjljaaDoor.Sx
open Go Go.RowKit

variable {P : Program} {ds : List Deferred}

def bindX (k : IntKind) (x : X) (K : S → T) : T := bindS (.int k x) K

/-- the least that an operator's second one may be. -/
def floorOf : BinOp → Option Int
  | .shl => some 0
  | .shr => some 0
  | .quo => some 1
  | .rem => some 1
  | _ => none

def tight (op : BinOp) (y : V) (K : V → T) : T :=
  match y, floorOf op with
  | .a (.s (.int k b)), some lo =>
    if lo ≤ b.iv.1 ∨ (b.iv.2 < 0 ∧ lo = 1) then K y
    else .must (mkLe (.lit lo) b) (.bind b lo b.iv.2 fun n => K (.a (.s (.int k (.v n lo b.iv.2)))))
  | y, _ => K y

theorem tight_ok {E : Ctx} {bs : List Nat} {op : BinOp} {y : V} (hy : y.ok bs) {K : V → T} (h : sat E (tight op y K)) : ∃ z : V, z.ev = y.ev ∧ z.ok bs ∧ sat E (K z) := by
  unfold tight at h
  split at h
  · rename_i k b lo _
    split at h
    · exact ⟨_, rfl, hy, h⟩
    · obtain ⟨h1, h2⟩ := h
      have hb := X.iv_ok b hy
      have h1' : lo ≤ b.ev := by
        have := (B.pr_ev _).1 h1
        rw [(mkLe_ok (a := .lit lo) trivial hy).2] at this
        exact of_decide_eq_true this
      exact ⟨.a (.s (.int k (.v b.ev lo b.iv.2))), rfl, ⟨h1', hb.2⟩, h2 b.ev rfl h1' hb.2⟩
  · exact ⟨_, rfl, hy, h⟩

/-! ### an operation whose operands are all known words -/
def ofV : Value → V
  | .tuple vs => .tup (vs.toList.map ofA)
  | v => .a (ofA v)

theorem ofV_ev (v : Value) : (ofV v).ev = v := by
  cases v with
  | tuple vs =>
    simp only [ofV, V.ev, List.map_map]
    rw [show A.ev ∘ ofA = id from funext ofA_ev]
    simp
  | _ => simp only [ofV, V.ev, ofA_ev]

theorem ofV_ok (bs : List Nat) (v : Value) : (ofV v).ok bs := by
  cases v with
  | tuple vs =>
    intro x hx
    obtain ⟨c, _, rfl⟩ := List.mem_map.1 hx
    exact ofA_ok bs c
  | _ => simp only [ofV, V.ok]; exact ofA_ok bs _

/-- may the model's own words be asked of this operation, without any memory? -/
def isQ (o : Oper) : Bool := match cls o.op with | .q => true | _ => false

def symGround (P : Program) (o : Oper) (tmps : List V) (mem : List SB) (K : List V → List SB → T) : T :=
  if isQ o then
    match nev P (execOp (fun x => (opv tmps x).ev) o) with
    | some (.value v) => K (setD tmps o.dst (ofV v)) mem
    | _ => .fail "op"
  else .fail "op"

/-- an assertion of a known interface value. -/
def symAssert (P : Program) (x : V) (t : TypeId) : Option Value :=
  match x with
  | .a (.s (.raw (.iface d v))) =>
    match P.underlying t, P.info? d, P.info? t with
    | some (.interface want), some i, some j =>
      match j.zero with
      | some z => if (lacking want i.methods).isEmpty then some (.tuple #[.iface d v, .bool true]) else some (.tuple #[z, .bool false])
      | none => none
    | _, _, _ => none
  | _ => none

theorem qev_info {t : TypeId} {i : TypeInfo} (h : P.info? t = some i) (m : Mem) : qev P (typeInfo t) m = some i := by
  unfold typeInfo
  rw [qev_bind]
  show qev P (match P.toTables.info? t with | some d => _ | none => _) m = some i
  rw [show P.toTables.info? t = some i from h]; rfl

theorem symAssert_ok {x : V} {t xT : TypeId} {r : Value} (h : symAssert P x t = some r) (m : Mem) : qev P (Instr.typeAssert x.ev xT t true) m = some r := by
  unfold symAssert at h
  split at h
  · rename_i d v
    split at h
    · rename_i want i j hu hi hj
      split at h
      · rename_i z hz
        unfold Instr.typeAssert
        simp only [V.ev, A.ev, S.ev, qev_bind, qev_underlying hu, Option.bind_some, qev_info hi]
        split at h
        · rename_i hl
          cases h
          rw [missingMethod_none (List.isEmpty_iff.1 hl)]
          rfl
        · rename_i hl
          cases h
          obtain ⟨mm, hm⟩ := missingMethod_some (want := want) (got := i.methods) (fun e => hl (List.isEmpty_iff.2 e))
          rw [hm]
          simp only [if_true, qev_bind, zeroValue, qev_info hj, Option.bind_some, hz]
          rfl
      · cases h
    · cases h
  · cases h

/-- a function without a text of its own. -/
def bodyless (P : Program) (tab : Tab) (v : V) : Bool :=
  match v with
  | .a (.s (.fn f [])) => (tab.ext f).isNone && (match P.funcs[f]? with | some fn => fn.body.isNone | none => false)
  | _ => false

def symStep (P : Program) (tab : Tab) (inl : Inl) (draw : Lv) (o : Oper) (tmps : List V) (mem : List SB) (K : List V → List SB → T) : T :=
  match o.op with
  | .assign x => bindV (opv tmps x) fun v => K (setD tmps o.dst v) mem
  | .pick c a b => match opv tmps c with
    | .a (.s (.bool (.lit t))) => K (setD tmps o.dst (if t then opv tmps a else opv tmps b)) mem
    | .a (.s (.bool c')) => .ite c' (K (setD tmps o.dst (opv tmps a)) mem) (K (setD tmps o.dst (opv tmps b)) mem)
    | _ => .fail "pick"
  | .indexAddr t x i => match opv tmps i with
    | .a (.s (.int _ (.lit j))) => match symIndexAddr P t (unraw mem (opv tmps x)) j with
      | some r => K (setD tmps o.dst (.a (.s r))) mem
      | none => .fail "indexAddr"
    | .a (.s (.int _ j)) => match symIndexX P t (unraw mem (opv tmps x)) j with
      | some r => mkMust (mkLe (.lit 0) j) (mkMust (mkLt j (.lit (lenX P t (unraw mem (opv tmps x))))) (K (setD tmps o.dst (.a (.s r))) mem))
      | none => .fail "indexAddr"
    | _ => .fail "indexAddr"
  | .index t x i => match opv tmps i with
    | .a (.s (.int _ (.lit j))) => match symIndex P t (opv tmps x) j with
      | some r => K (setD tmps o.dst (.a r)) mem
      | none => .fail "index"
    | .a (.s (.int _ j)) => match opv tmps x with
      | .a (.agg cs) => match partPx P t cs j with
        | some (r, len) => mkMust (mkLe (.lit 0) j) (mkMust (mkLt j (.lit len)) (bindA r fun r => K (setD tmps o.dst (.a r)) mem))
        | none => .fail "index"
      | .a (.s (.raw (.string s))) => match P.underlying t with
        | some .string => mkMust (mkLe (.lit 0) j) (mkMust (mkLt j (.lit s.size)) (bindX .u8 (.tbl (s.data.toList.map fun b => (b.toNat : Int)) j) fun r => K (setD tmps o.dst (.a (.s r))) mem))
        | _ => .fail "index"
      | _ => .fail "index"
    | _ => .fail "index"
  | .store t a x => match opv tmps a, opv tmps x with
    | .a (.s (.ptr id _ off)), .a x => if x.cells.all S.fl && x.fl then bindL x.cells fun cs => match storeS P mem t id off cs with
        | some mem' => K (setD tmps o.dst (.tup [])) mem'
        | none => .fail "store"
      else .fail "store"
    | .a (.s (.px id _ off i len n)), .a x => if x.fl then bindL x.cells fun ys => match intsOf ys with
        | some vs => match storePx P mem t id off i len n vs with
          | some mem' => K (setD tmps o.dst (.tup [])) mem'
          | none => .fail "store"
        | none => .fail "store"
      else .fail "store"
    | _, _ => .fail "store"
  | .call { callee := .value f, args, .. } => if bodyless P tab (opv tmps f) then symGround P o tmps mem K else symCall P tab inl draw (opv tmps f) (args.toList.map (opv tmps)) mem fun v mem => K (setD tmps o.dst v) mem
  | .call { callee := .invoke .., .. } => symGround P o tmps mem K
  | .call { callee := .builtin b, args, argTypes } => match symBuiltin P b argTypes (args.toList.map (opv tmps)) with
    | some r => K (setD tmps o.dst (.a (.s r))) mem
    | none => .fail "builtin"
  | .alloc _ | .box .. | .buildSlice .. => match symAl P o.op (opv tmps) with
    | some (cs, t, mk) => .newb fun b => K (setD tmps o.dst (.a (.s (mk.s mem.length b)))) (mem ++ [⟨b, cs, t, true, false⟩])
    | none => .fail "alloc"
  | .typeAssert x _ t true => match symAssert P (opv tmps x) t with
    | some v => K (setD tmps o.dst (ofV v)) mem
    | none => .fail "type assertion"
  | .binOp op t x y _ => tight op (opv tmps y) fun y => match symBin P op t (opv tmps x) y with
    | some r => K (setD tmps o.dst (.a (.s r))) mem
    | none => symGround P o tmps mem K
  | op => match symQ P mem op (opv tmps) with
    | some v => K (setD tmps o.dst v) mem
    | none => symGround P o tmps mem K

theorem fl_of_ev {xs ys : List S} (h : ys.map S.ev = xs.map S.ev) (hx : ∀ c ∈ xs, flat c.ev = true) : ∀ c ∈ ys, flat c.ev = true := by
  intro c hc
  have : c.ev ∈ ys.map S.ev := List.mem_map.2 ⟨c, hc, rfl⟩
  rw [h] at this
  obtain ⟨d, hd, he⟩ := List.mem_map.1 this
  rw [← he]; exact hx d hd

theorem symStep_ok {tab : Tab} {E : Ctx} (hV : Valid P tab E) {w0 : World} {inl : Inl} (hI : ∀ w0, InlOk P w0 E inl) {draw : Lv} {mem : List SB} (H : MemOk mem) {tmps : List V} (ht : ∀ v ∈ tmps, v.ok (bsOf mem))
    {o : Oper} {K : List V → List SB → T} (h : sat E (symStep P tab inl draw o tmps mem K)) {Kd : Act → Mem → Prop}
    (hk : ∀ tmps' mem', Ext mem mem' → Fr o.dst.toList tmps tmps' → MemOk mem' → (∀ v ∈ tmps', v.ok (bsOf mem')) → sat E (K tmps' mem') → Kd (actOf ds tmps') (memOf mem')) :
    opD P w0 (gam tab E) draw o Kd (actOf ds tmps) (memOf mem) := by
  have hr : (actOf ds tmps).eval = fun x => (opv tmps x).ev := funext (opv_ev tmps)
  have ho : ∀ x, (opv tmps x).ok (bsOf mem) := opv_ok ht
  -- an operation that only reads, by its value
  have quiet : ∀ (v : V), cls o.op = .q → v.ok (bsOf mem) → qev P (execOp (actOf ds tmps).eval o) (memOf mem) = some (.value v.ev) → sat E (K (setD tmps o.dst v) mem) →
      opD P w0 (gam tab E) draw o Kd (actOf ds tmps) (memOf mem) := by
    intro v hc hv hq hs
    unfold opD
    rw [hc]
    refine ⟨_, hq, ?_⟩
    show Kd ((actOf ds tmps).put o.dst v.ev) (memOf mem)
    rw [setD_act]
    exact hk _ _ (Ext.refl _) (setD_fr _ _ _) H (setD_ok ht hv) hs
  have ground : sat E (symGround P o tmps mem K) → opD P w0 (gam tab E) draw o Kd (actOf ds tmps) (memOf mem) := by
    intro h
    unfold symGround at h
    split at h
    · rename_i hc
      have hc' : cls o.op = .q := by
        unfold isQ at hc
        split at hc
        · assumption
        · cases hc
      split at h
      · rename_i v hn
        refine quiet (ofV v) hc' (ofV_ok _ v) ?_ h
        rw [hr, ofV_ev]
        exact nev_qev _ hn
      · exact h.elim
    · exact h.elim
  obtain ⟨dst, op, ty, pos, after, guard⟩ := o
  cases op
  case assign x =>
    simp only [symStep] at h
    obtain ⟨y, h1, h2, h3⟩ := bindV_ok (ho x) h
    refine quiet y rfl h2 ?_ h3
    rw [hr]; simp only [execOp, h1]; rfl
  case pick c a b =>
    simp only [symStep] at h
    split at h
    · rename_i t hp
      refine quiet _ rfl (by split <;> exact ho _) ?_ h
      rw [hr]
      simp only [execOp, hp, V.ev, A.ev, S.ev, B.ev]
      cases t <;> rfl
    · rename_i c' _ hp
      cases hcv : c'.ev with
      | true =>
        refine quiet _ rfl (ho a) ?_ (ite_true h hcv)
        rw [hr]
        simp only [execOp, hp, V.ev, A.ev, S.ev, hcv]; rfl
      | false =>
        refine quiet _ rfl (ho b) ?_ (ite_false h hcv)
        rw [hr]
        simp only [execOp, hp, V.ev, A.ev, S.ev, hcv]; rfl
    · exact h.elim
  case indexAddr t x i =>
    simp only [symStep] at h
    split at h
    · rename_i k j hp
      split at h
      · rename_i r hs
        obtain ⟨g1, g2⟩ := unraw_ok mem (ho x)
        obtain ⟨h1, h2⟩ := symIndexAddr_ok k g1 hs (memOf mem)
        rw [g2] at h2
        refine quiet (.a (.s r)) rfl h1 ?_ h
        rw [hr]
        simp only [execOp, hp]
        exact vq h2
      · exact h.elim
    · rename_i k j _ hp
      have hj : j.ok := by have := ho i; rw [hp] at this; exact this
      split at h
      · rename_i r hs
        obtain ⟨m1, h⟩ := mkMust_ok h
        obtain ⟨m2, h⟩ := mkMust_ok h
        rw [(mkLe_ok (a := .lit 0) trivial hj).2] at m1
        rw [(mkLt_ok (b := .lit _) hj trivial).2] at m2
        replace m1 : (0 : Int) ≤ j.ev := of_decide_eq_true m1
        replace m2 := of_decide_eq_true m2
        obtain ⟨g1, g2⟩ := unraw_ok mem (ho x)
        obtain ⟨h1, h2⟩ := symIndexX_ok k g1 hj m1 m2 hs (memOf mem)
        rw [g2] at h2
        refine quiet (.a (.s r)) rfl h1 ?_ h
        rw [hr]
        simp only [execOp, hp]
        exact vq h2
      · exact h.elim
    · exact h.elim
  case index t x i =>
    simp only [symStep] at h
    split at h
    · rename_i k j hp
      split at h
      · rename_i r hs
        obtain ⟨h1, h2⟩ := symIndex_ok k (ho x) hs (memOf mem)
        refine quiet (.a r) rfl h1 ?_ h
        rw [hr]
        simp only [execOp, hp]
        exact vq h2
      · exact h.elim
    · rename_i k j _ hp
      have hj : j.ok := by have := ho i; rw [hp] at this; exact this
      split at h
      · rename_i cs hx
        have hcs : ∀ c ∈ cs, c.ok (bsOf mem) := by have := ho x; rw [hx] at this; exact this
        split at h
        · rename_i r len hs
          obtain ⟨m1, h⟩ := mkMust_ok h
          obtain ⟨m2, h⟩ := mkMust_ok h
          rw [(mkLe_ok (a := .lit 0) trivial hj).2] at m1
          rw [(mkLt_ok (b := .lit _) hj trivial).2] at m2
          replace m1 : (0 : Int) ≤ j.ev := of_decide_eq_true m1
          replace m2 := of_decide_eq_true m2
          obtain ⟨h1, h2⟩ := partPx_ok k hcs hj hs m1 m2 (memOf mem)
          obtain ⟨y, y1, y2, _, y3⟩ := bindA_ok h1 h
          refine quiet (.a y) rfl y2 ?_ y3
          rw [hr]
          simp only [execOp, hp, hx]
          refine vq ?_
          show _ = some y.ev
          rw [y1]; exact h2
        · exact h.elim
      · rename_i s hx
        split at h
        · rename_i hu
          obtain ⟨m1, h⟩ := mkMust_ok h
          obtain ⟨m2, h⟩ := mkMust_ok h
          rw [(mkLe_ok (a := .lit 0) trivial hj).2] at m1
          rw [(mkLt_ok (b := .lit _) hj trivial).2] at m2
          replace m1 : (0 : Int) ≤ j.ev := of_decide_eq_true m1
          replace m2 : j.ev < (s.size : Int) := of_decide_eq_true m2
          obtain ⟨y, y1, y2, _, y3⟩ := bindS_ok (x := .int .u8 (.tbl (s.data.toList.map fun b => (b.toNat : Int)) j)) (bs := bsOf mem) hj h
          refine quiet (.a (.s y)) rfl y2 ?_ y3
          rw [hr]
          simp only [execOp, hp, hx]
          refine vq ?_
          show _ = some y.ev
          rw [y1]
          have hlt : j.ev.toNat < s.data.toList.length := by
            have : s.data.toList.length = s.size := by simp
            omega
          unfold Instr.index
          simp only [V.ev, A.ev, S.ev, asIntOf, qev_bind, qev_pure, Option.bind_some, qev_underlying hu, m1, if_true, X.ev]
          have e : s[j.ev.toNat]? = some s.data.toList[j.ev.toNat] := by
            rw [getElem?_pos s j.ev.toNat (by show j.ev.toNat < s.size; omega)]
            rfl
          rw [e]
          simp only [qev_pure, List.getD_eq_getElem?_getD, List.getElem?_map, List.getElem?_eq_getElem hlt, Option.map_some, Option.getD_some]
        · exact h.elim
      · exact h.elim
    · exact h.elim
  case store t a x =>
    simp only [symStep] at h
    split at h
    · rename_i id b off y hpa hpx
      split at h
      · rename_i hf
        simp only [Bool.and_eq_true, List.all_eq_true] at hf
        have hx := ho x
        rw [hpx] at hx
        obtain ⟨ys, h1, h2, _, h3⟩ := bindL_ok _ (A.cells_ok hx) h
        split at h3
        · rename_i mem' hs
          have hpt : (bsOf mem)[id]? = some b := by have := ho a; rw [hpa] at this; exact this
          have hev : (V.a y).ev.cells = (ys.map S.ev).toArray := by rw [h1]; exact A.ev_cells hf.2
          obtain ⟨e1, e2, e4, e3⟩ := storeS_ok H hpt h2 hs hev (fl_of_ev h1 fun c hc => S.fl_flat (hf.1 c hc))
          unfold opD
          refine ⟨memOf mem', ?_, ?_⟩
          · rw [hr]
            simp only [execOp, hpa, hpx]
            rw [wev_bind]
            rw [show (V.a (A.s (S.ptr id b off))).ev = .pointer (some ⟨b, off, none⟩) from rfl]
            simp only [Instr.storeAt, Instr.sureAddr]
            rw [wev_bind]
            simp only [show ∀ (x : Addr) (m : Mem), wev P (pure x : Sem Addr) m = some (x, m) from fun _ _ => rfl, Option.bind_some]
            rw [e3]
            rfl
          · show Kd ((actOf ds tmps).put dst (V.tup []).ev) _
            rw [setD_act]
            refine hk _ _ e4 (setD_fr _ _ _) e1 ?_ h3
            rw [e2]
            exact setD_ok ht (fun x hx => by cases hx)
        · exact h3.elim
      · exact h.elim
    · rename_i id b off i len n y hpa hpx
      have hpt : (bsOf mem)[id]? = some b ∧ i.ok ∧ 0 ≤ i.ev ∧ i.ev < len := by have := ho a; rw [hpa] at this; exact this
      obtain ⟨p1, p2, p3, p4⟩ := hpt
      split at h
      · rename_i hf
        have hx := ho x
        rw [hpx] at hx
        obtain ⟨ys, h1, h2, _, h3⟩ := bindL_ok _ (A.cells_ok hx) h
        split at h3
        · rename_i vs hvs
          obtain ⟨g1, g2⟩ := intsOf_ok ys h2 hvs
          split at h3
          · rename_i mem' hs
            have hev : (V.a y).ev.cells = ((vs.map intS).map S.ev).toArray := by
              rw [show (vs.map intS).map S.ev = vs.map intVal by rw [List.map_map]; rfl, ← g1, h1]
              exact A.ev_cells hf
            obtain ⟨e1, e2, e4, e3⟩ := storePx_ok H p1 p2 p3 p4 g2 hs hev
            unfold opD
            refine ⟨memOf mem', ?_, ?_⟩
            · rw [hr]
              simp only [execOp, hpa, hpx]
              rw [wev_bind]
              rw [show (V.a (A.s (S.px id b off i len n))).ev = .pointer (some ⟨b, off + i.ev.toNat * n, none⟩) from rfl]
              simp only [Instr.storeAt, Instr.sureAddr]
              rw [wev_bind]
              simp only [show ∀ (x : Addr) (m : Mem), wev P (pure x : Sem Addr) m = some (x, m) from fun _ _ => rfl, Option.bind_some]
              rw [e3]
              rfl
            · show Kd ((actOf ds tmps).put dst (V.tup []).ev) _
              rw [setD_act]
              refine hk _ _ e4 (setD_fr _ _ _) e1 ?_ h3
              rw [e2]
              exact setD_ok ht (fun x hx => by cases hx)
          · exact h3.elim
        · exact h3.elim
      · exact h.elim
    · exact h.elim
  case typeAssert x xT t c =>
    cases c with
    | true =>
      simp only [symStep] at h
      split at h
      · rename_i v hv
        refine quiet (ofV v) rfl (ofV_ok _ v) ?_ h
        rw [hr, ofV_ev]
        exact vq (symAssert_ok hv (memOf mem))
      · exact h.elim
    | false =>
      simp only [symStep] at h
      split at h
      · rename_i v hs
        obtain ⟨h1, h2, h3⟩ := symQ_ok (o := ⟨dst, _, ty, pos, after, guard⟩) H ht hs
        exact quiet v h1 h2 h3 h
      · exact ground h
  case binOp op t x y yt =>
    simp only [symStep] at h
    obtain ⟨z, z1, z2, h⟩ := tight_ok (ho y) h
    split at h
    · rename_i r hb
      obtain ⟨h1, h2⟩ := symBin_ok x y (ho x) z2 hb (memOf mem)
      refine quiet (.a (.s r)) rfl h1 ?_ h
      rw [z1] at h2
      rw [hr]
      exact vq h2
    · exact ground h
  case call c =>
    obtain ⟨callee, args, ts⟩ := c
    cases callee with
    | value f =>
      simp only [symStep] at h
      split at h
      · exact ground h
      refine symCall_ok hV hI H ht h ?_
      intro v mem' h1 h2 h3 h4
      rw [setD_act]
      exact hk _ _ h1 (setD_fr _ _ _) h2 (setD_ok (fun u hu => V.ok_mono h1.pre (ht u hu)) h3) h4
    | invoke r s => simp only [symStep] at h; exact ground h
    | builtin b =>
      simp only [symStep] at h
      split at h
      · rename_i r hs
        obtain ⟨h1, h2⟩ := symBuiltin_ok (bs := bsOf mem) (fun v hv => by
          obtain ⟨x, _, rfl⟩ := List.mem_map.1 hv; exact ho x) hs ty (args.map fun | .const _ => true | _ => false) (memOf mem)
        refine quiet (.a (.s r)) rfl h1 ?_ h
        rw [hr]
        simp only [execOp, resolve]
        rw [qev_bind]
        simp only [qev_pure, Option.bind_some, invoke]
        have e : args.map (fun x => (opv tmps x).ev) = ((args.toList.map (opv tmps)).map V.ev).toArray := by
          apply Array.ext'; simp
        rw [e]; exact h2
      · exact h.elim
  case alloc t =>
    simp only [symStep] at h
    split at h
    · rename_i cs t' mk hs
      obtain ⟨h1, h2, k, h3, h4⟩ := symAl_ok (o := { dst, op := .alloc t, type := ty, pos, after, guard }) ht hs
      unfold opD
      rw [h1]
      refine ⟨_, _, _, h3, fun b hb _ => ⟨_, h4 b, ?_⟩⟩
      have hnb := memOf_none hb
      show Kd ((actOf ds tmps).put dst (V.a (.s (mk.s mem.length b))).ev) _
      rw [setD_act]
      have e := memOf_snoc (mem := mem) (x := ⟨b, cs, t', true, false⟩) hnb
      rw [show (memOf mem).add b ⟨(cs.map S.ev).toArray, t', true⟩ = memOf (mem ++ [⟨b, cs, t', true, false⟩]) from e.symm]
      have hext : Ext mem (mem ++ [⟨b, cs, t', true, false⟩]) := Ext.snoc _ _
      have hpre := hext.pre
      refine hk _ _ hext (setD_fr _ _ _) ⟨?_, ?_⟩ ?_ (h b)
      · simp only [bsOf, List.map_append, List.map_cons, List.map_nil]
        refine List.nodup_append.2 ⟨H.nodup, by simp, ?_⟩
        intro x hx y hy
        simp at hy; subst hy
        rintro rfl; exact hnb hx
      · intro y hy c hc
        rcases List.mem_append.1 hy with hy | hy
        · exact S.ok_mono hpre (H.ok y hy c hc)
        · simp at hy; subst hy; exact S.ok_mono hpre (h2 c hc)
      · refine setD_ok (fun u hu => V.ok_mono hpre (ht u hu)) ?_
        have hb' : (bsOf (mem ++ [⟨b, cs, t', true, false⟩]))[mem.length]? = some b := by simp [bsOf]
        cases mk <;> exact hb'
    · exact h.elim
  case box t x =>
    simp only [symStep] at h
    split at h
    · rename_i cs t' mk hs
      obtain ⟨h1, h2, k, h3, h4⟩ := symAl_ok (o := { dst, op := .box t x, type := ty, pos, after, guard }) ht hs
      unfold opD
      rw [h1]
      refine ⟨_, _, _, h3, fun b hb _ => ⟨_, h4 b, ?_⟩⟩
      have hnb := memOf_none hb
      show Kd ((actOf ds tmps).put dst (V.a (.s (mk.s mem.length b))).ev) _
      rw [setD_act]
      have e := memOf_snoc (mem := mem) (x := ⟨b, cs, t', true, false⟩) hnb
      rw [show (memOf mem).add b ⟨(cs.map S.ev).toArray, t', true⟩ = memOf (mem ++ [⟨b, cs, t', true, false⟩]) from e.symm]
      have hext : Ext mem (mem ++ [⟨b, cs, t', true, false⟩]) := Ext.snoc _ _
      have hpre := hext.pre
      refine hk _ _ hext (setD_fr _ _ _) ⟨?_, ?_⟩ ?_ (h b)
      · simp only [bsOf, List.map_append, List.map_cons, List.map_nil]
        refine List.nodup_append.2 ⟨H.nodup, by simp, ?_⟩
        intro x hx y hy
        simp at hy; subst hy
        rintro rfl; exact hnb hx
      · intro y hy c hc
        rcases List.mem_append.1 hy with hy | hy
        · exact S.ok_mono hpre (H.ok y hy c hc)
        · simp at hy; subst hy; exact S.ok_mono hpre (h2 c hc)
      · refine setD_ok (fun u hu => V.ok_mono hpre (ht u hu)) ?_
        have hb' : (bsOf (mem ++ [⟨b, cs, t', true, false⟩]))[mem.length]? = some b := by simp [bsOf]
        cases mk <;> exact hb'
    · exact h.elim
  case buildSlice t len parts =>
    simp only [symStep] at h
    split at h
    · rename_i cs t' mk hs
      obtain ⟨h1, h2, k, h3, h4⟩ := symAl_ok (o := { dst, op := .buildSlice t len parts, type := ty, pos, after, guard }) ht hs
      unfold opD
      rw [h1]
      refine ⟨_, _, _, h3, fun b hb _ => ⟨_, h4 b, ?_⟩⟩
      have hnb := memOf_none hb
      show Kd ((actOf ds tmps).put dst (V.a (.s (mk.s mem.length b))).ev) _
      rw [setD_act]
      have e := memOf_snoc (mem := mem) (x := ⟨b, cs, t', true, false⟩) hnb
      rw [show (memOf mem).add b ⟨(cs.map S.ev).toArray, t', true⟩ = memOf (mem ++ [⟨b, cs, t', true, false⟩]) from e.symm]
      have hext : Ext mem (mem ++ [⟨b, cs, t', true, false⟩]) := Ext.snoc _ _
      have hpre := hext.pre
      refine hk _ _ hext (setD_fr _ _ _) ⟨?_, ?_⟩ ?_ (h b)
      · simp only [bsOf, List.map_append, List.map_cons, List.map_nil]
        refine List.nodup_append.2 ⟨H.nodup, by simp, ?_⟩
        intro x hx y hy
        simp at hy; subst hy
        rintro rfl; exact hnb hx
      · intro y hy c hc
        rcases List.mem_append.1 hy with hy | hy
        · exact S.ok_mono hpre (H.ok y hy c hc)
        · simp at hy; subst hy; exact S.ok_mono hpre (h2 c hc)
      · refine setD_ok (fun u hu => V.ok_mono hpre (ht u hu)) ?_
        have hb' : (bsOf (mem ++ [⟨b, cs, t', true, false⟩]))[mem.length]? = some b := by simp [bsOf]
        cases mk <;> exact hb'
    · exact h.elim
  all_goals
    simp only [symStep] at h
    split at h
    · rename_i v hs
      obtain ⟨h1, h2, h3⟩ := symQ_ok (o := ⟨dst, _, ty, pos, after, guard⟩) H ht hs
      exact quiet v h1 h2 h3 h
    · exact ground h

/-! ### a guard -/
def symOper (P : Program) (tab : Tab) (inl : Inl) (draw : Lv) (ops : Array Oper) (o : Oper) (tmps : List V) (mem : List SB) (K : List V → List SB → T) : T :=
  match o.guard with
  | none => symStep P tab inl draw o tmps mem K
  | some (j, want) =>
    match (ops[j]?).bind (·.dst) with
    | none => K (setD tmps o.dst (.tup [])) mem
    | some d =>
      match tmps[d]? with
      | some (.a (.s (.bool (.lit b)))) => if b == want then symStep P tab inl draw o tmps mem K else K (setD tmps o.dst (.tup [])) mem
      | some (.a (.s (.bool b))) =>
        .ite b (if want then symStep P tab inl draw o (tmps.set d (.a (.s (.bool (.lit true))))) mem K else K (setD (tmps.set d (.a (.s (.bool (.lit true))))) o.dst (.tup [])) mem)
          (if want then K (setD (tmps.set d (.a (.s (.bool (.lit false))))) o.dst (.tup [])) mem else symStep P tab inl draw o (tmps.set d (.a (.s (.bool (.lit false))))) mem K)
      | some (.tup _) => K (setD tmps o.dst (.tup [])) mem
      | _ => .fail "guard"

theorem actOf_same {tmps : List V} {d : Nat} {v v' : V} (h : tmps[d]? = some v) (he : v'.ev = v.ev) : actOf ds (tmps.set d v') = actOf ds tmps := by
  simp only [actOf]
  congr 2
  rw [List.map_set, he]
  apply List.ext_getElem?
  intro i
  rw [List.getElem?_set]
  split
  · rename_i hi; subst hi
    simp only [List.length_map]
    split
    · simp [h]
    · rename_i hl
      rw [List.getElem?_eq_none (by simpa using hl)] at h; cases h
  · rfl

theorem fr_same {tmps : List V} {d : Nat} {v : V} (h : actOf ds (tmps.set d v) = actOf ds tmps) : Fr [] tmps (tmps.set d v) := by
  refine ⟨by simp, fun i _ => ?_⟩
  have := congrArg (fun a : Act => a.tmps.toList[i]?) h
  simpa [actOf] using this

theorem set_ok {bs : List Nat} {tmps : List V} {d : Nat} {v : V} (h : ∀ v ∈ tmps, v.ok bs) (hv : v.ok bs) : ∀ u ∈ tmps.set d v, u.ok bs := by
  intro u hu
  rcases List.mem_or_eq_of_mem_set hu with h1 | h1
  · exact h u h1
  · subst h1; exact hv

theorem yielded_at {ops : Array Oper} {tmps : List V} {j d : Nat} (hd : (ops[j]?).bind (·.dst) = some d) {v : V} (hv : tmps[d]? = some v) :
    yielded ops (actOf ds tmps).tmps j = match v.ev with | .bool b => some b | _ => none := by
  unfold yielded
  rw [hd]
  simp only [Option.bind_some, actOf, List.getElem?_toArray, List.getElem?_map, hv, Option.map_some]
  cases v.ev <;> rfl

theorem symOper_ok {tab : Tab} {E : Ctx} (hV : Valid P tab E) {w0 : World} {inl : Inl} (hI : ∀ w0, InlOk P w0 E inl) {draw : Lv} {ops : Array Oper} {mem : List SB} (H : MemOk mem) {tmps : List V} (ht : ∀ v ∈ tmps, v.ok (bsOf mem))
    {o : Oper} {K : List V → List SB → T} (h : sat E (symOper P tab inl draw ops o tmps mem K)) {Kd : Act → Mem → Prop}
    (hk : ∀ tmps' mem', Ext mem mem' → Fr o.dst.toList tmps tmps' → MemOk mem' → (∀ v ∈ tmps', v.ok (bsOf mem')) → sat E (K tmps' mem') → Kd (actOf ds tmps') (memOf mem')) :
    stepD P w0 (gam tab E) draw ops o Kd (actOf ds tmps) (memOf mem) := by
  have und : ∀ (tmps1 : List V), Fr [] tmps tmps1 → (∀ v ∈ tmps1, v.ok (bsOf mem)) → sat E (K (setD tmps1 o.dst (.tup [])) mem) → Kd ((actOf ds tmps1).put o.dst undef) (memOf mem) := by
    intro tmps1 hf ht hs
    show Kd ((actOf ds tmps1).put o.dst (V.tup []).ev) (memOf mem)
    rw [setD_act]
    exact hk _ _ (Ext.refl _) ((hf.mono (by simp)).trans (setD_fr _ _ _)) H (setD_ok ht (fun x hx => by cases hx)) hs
  have hk' : ∀ (tmps1 : List V), Fr [] tmps tmps1 → ∀ tmps' mem', Ext mem mem' → Fr o.dst.toList tmps1 tmps' → MemOk mem' → (∀ v ∈ tmps', v.ok (bsOf mem')) → sat E (K tmps' mem') → Kd (actOf ds tmps') (memOf mem') :=
    fun tmps1 hf t m a b c d e => hk t m a ((hf.mono (by simp)).trans b) c d e
  unfold stepD
  unfold symOper at h
  cases hg : o.guard with
  | none =>
    have hw : Region.wanted o (yielded ops (actOf ds tmps).tmps) = true := by simp [Region.wanted, hg]
    rw [hg] at h; rw [if_pos hw]; exact symStep_ok hV hI H ht h hk
  | some jw =>
    obtain ⟨j, want⟩ := jw
    have hw : Region.wanted o (yielded ops (actOf ds tmps).tmps) = (yielded ops (actOf ds tmps).tmps j == some want) := by simp [Region.wanted, hg]
    rw [hg] at h
    rw [hw]
    simp only at h
    cases hd : (ops[j]?).bind (·.dst) with
    | none =>
      rw [hd] at h
      have : yielded ops (actOf ds tmps).tmps j = none := by unfold yielded; rw [hd]; rfl
      rw [this]
      exact und _ (Fr.refl _ _) ht h
    | some d =>
      rw [hd] at h
      simp only at h
      split at h
      · rename_i b hv
        have hy : yielded ops (actOf ds tmps).tmps j = some b := by rw [yielded_at hd hv]; rfl
        rw [hy]
        split at h
        · rename_i hb
          rw [if_pos (by simpa using hb)]
          exact symStep_ok hV hI H ht h hk
        · rename_i hb
          rw [if_neg (by simpa using hb)]
          exact und _ (Fr.refl _ _) ht h
      · rename_i b _ hv
        have hy : yielded ops (actOf ds tmps).tmps j = some b.ev := by rw [yielded_at hd hv]; rfl
        rw [hy]
        cases hb : b.ev with
        | true =>
          have e : actOf ds (tmps.set d (.a (.s (.bool (.lit true))))) = actOf ds tmps := actOf_same hv (by simp [V.ev, A.ev, S.ev, B.ev, hb])
          have ht' : ∀ v ∈ tmps.set d (.a (.s (.bool (.lit true)))), v.ok (bsOf mem) := set_ok ht trivial
          have hfr := fr_same e
          have h' := ite_true h hb
          cases want with
          | true => simp only [if_true, beq_self_eq_true] at h' ⊢; rw [← e]; exact symStep_ok hV hI H ht' h' (hk' _ hfr)
          | false => rw [if_neg (by simp)]; rw [← e]; exact und _ hfr ht' h'
        | false =>
          have e : actOf ds (tmps.set d (.a (.s (.bool (.lit false))))) = actOf ds tmps := actOf_same hv (by simp [V.ev, A.ev, S.ev, B.ev, hb])
          have ht' : ∀ v ∈ tmps.set d (.a (.s (.bool (.lit false)))), v.ok (bsOf mem) := set_ok ht trivial
          have hfr := fr_same e
          have h' := ite_false h hb
          cases want with
          | true => rw [if_neg (by simp)]; rw [← e]; exact und _ hfr ht' h'
          | false => rw [if_pos (by simp)]; rw [← e]; exact symStep_ok hV hI H ht' h' (hk' _ hfr)
      · rename_i xs hv
        have hy : yielded ops (actOf ds tmps).tmps j = none := by rw [yielded_at hd hv]; rfl
        rw [hy]
        exact und _ (Fr.refl _ _) ht h
      · exact h.elim

def symOps (P : Program) (tab : Tab) (inl : Inl) (draw : Nat → Lv) (ops : Array Oper) : List Nat → List V → List SB → (List V → List SB → T) → T
  | [], tmps, mem, K => K tmps mem
  | i :: r, tmps, mem, K =>
    match ops[i]? with
    | none => symOps P tab inl draw ops r tmps mem K
    | some o => symOper P tab inl (draw i) ops o tmps mem fun tmps mem => symOps P tab inl draw ops r tmps mem K

def dstOps (ops : Array Oper) : List Nat := ops.toList.filterMap (·.dst)
theorem mem_dstOps {ops : Array Oper} {i : Nat} {o : Oper} (h : ops[i]? = some o) {d : Nat} (hd : o.dst = some d) : d ∈ dstOps ops :=
  List.mem_filterMap.2 ⟨o, by have := Array.mem_of_getElem? h; simpa using this, hd⟩

theorem symOps_ok {tab : Tab} {E : Ctx} (hV : Valid P tab E) {w0 : World} {inl : Inl} (hI : ∀ w0, InlOk P w0 E inl) {draw : Nat → Lv} {ops : Array Oper} {K : List V → List SB → T} {Kd : Act → Mem → Prop} :
    ∀ (l : List Nat) {mem : List SB}, MemOk mem → ∀ {tmps : List V}, (∀ v ∈ tmps, v.ok (bsOf mem)) → sat E (symOps P tab inl draw ops l tmps mem K) →
      (∀ tmps' mem', Ext mem mem' → Fr (dstOps ops) tmps tmps' → MemOk mem' → (∀ v ∈ tmps', v.ok (bsOf mem')) → sat E (K tmps' mem') → Kd (actOf ds tmps') (memOf mem')) →
      opsD P w0 (gam tab E) draw ops Kd l (actOf ds tmps) (memOf mem)
  | [], mem, H, tmps, ht, h, hk => hk _ _ (Ext.refl _) (Fr.refl _ _) H ht h
  | i :: r, mem, H, tmps, ht, h, hk => by
    simp only [symOps] at h
    simp only [opsD]
    cases ho : ops[i]? with
    | none => simp only [ho] at h; exact symOps_ok hV hI r H ht h hk
    | some o =>
      simp only [ho] at h
      refine symOper_ok hV hI H ht h ?_
      intro tmps' mem' h1 hf h2 h3 h4
      have hf' : Fr (dstOps ops) tmps tmps' := hf.mono fun i hi => mem_dstOps ho (by simpa using hi)
      exact symOps_ok hV hI r h2 h3 h4 fun t m a f b c d => hk t m (h1.trans a) (hf'.trans f) b c d

end Go.Proofs.YtogcbmadcgjljaaDoor.Sx
