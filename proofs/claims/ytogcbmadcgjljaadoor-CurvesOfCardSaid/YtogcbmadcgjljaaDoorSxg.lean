/-
  A frame of our own for walks, part g: operators, comparisons, conversions, fields, parts: what they come to.
-/
import Derived.Test.YtogcbmadcgjljaaDoorSxf
namespace Go.Proofs.YtogcbmadcgjljaaDoor.Sx
open Go Go.RowKit

variable {P : Program}

/-! ### == on structs and arrays -/
def symAll {ι : Type} (e : ι → Option B) : List ι → Option B
  | [] => some (.lit true)
  | i :: r =>
    match e i, symAll e r with
    | some a, some b => some (mkAndB a b)
    | _, _ => none

def stepOf (b : Bool) : ForInStep (Option Bool × Unit) := if b then .yield (none, ()) else .done (some false, ())
def endOf (b : Bool) : Option Bool × Unit := if b then (none, ()) else (some false, ())

theorem qev_forIn {ι : Type} {e : ι → Option B} {body : ι → Option Bool × Unit → Sem (ForInStep (Option Bool × Unit))} {m : Mem} :
    ∀ (l : List ι), (∀ i ∈ l, ∀ b, e i = some b → b.ok ∧ qev P (body i (none, ())) m = some (stepOf b.ev)) → ∀ {b : B}, symAll e l = some b →
      b.ok ∧ qev P (forIn l (none, ()) body) m = some (endOf b.ev)
  | [], _, b, h => by cases h; exact ⟨trivial, rfl⟩
  | i :: r, hl, b, h => by
    simp only [symAll] at h
    cases ha : e i with
    | none => rw [ha] at h; cases h
    | some a =>
      cases hb : symAll e r with
      | none => rw [ha, hb] at h; cases h
      | some c =>
        rw [ha, hb] at h; cases h
        obtain ⟨h1, h2⟩ := hl i (by simp) a ha
        obtain ⟨h3, h4⟩ := qev_forIn r (fun j hj => hl j (by simp [hj])) hb
        obtain ⟨h5, h6⟩ := mkAndB_ok h1 h3
        refine ⟨h5, ?_⟩
        rw [List.forIn_cons, qev_bind, h2, h6]
        cases hae : a.ev with
        | false => simp [stepOf, endOf]
        | true => simpa [stepOf] using h4

def eqPart (P : Program) (eq : TypeId → A → A → Option B) (t : TypeId) (xs ys : List S) (off : Nat) : Option B :=
  match partS P t xs off, partS P t ys off with
  | some a, some b => eq t a b
  | _, _ => none

def symEq (P : Program) : Nat → TypeId → A → A → Option B
  | 0, _, _, _ => none
  | d + 1, t, x, y =>
    match P.underlying t, x, y with
    | some .bool, .s (.bool a), .s (.bool b) => some (mkBeq a b)
    | some (.int _), .s (.int k a), .s (.int k' b) => if k = k' then some (mkEq a b) else none
    | some (.struct fields), .agg xs, .agg ys =>
      if P.stoodInHeld t then none
      else symAll (fun f : Field => if f.name = "_" then some (.lit true) else eqPart P (symEq P d) f.type xs ys f.offset) fields.toList
    | some (.array len elem), .agg xs, .agg ys =>
      match sizeT P elem with
      | some n => symAll (fun i : Nat => eqPart P (symEq P d) elem xs ys (i * n)) (List.range' 0 len)
      | none => none
    | _, _, _ => none

theorem eqPart_ok {bs : List Nat} {d : Nat} (ih : ∀ t (x y : A) (b : B), x.ok bs → y.ok bs → symEq P d t x y = some b → ∀ m, b.ok ∧ qev P (Op.equalIn d t x.ev y.ev) m = some b.ev)
    {t : TypeId} {xs ys : List S} {off : Nat} (hx : ∀ c ∈ xs, c.ok bs) (hy : ∀ c ∈ ys, c.ok bs) {b : B} (h : eqPart P (symEq P d) t xs ys off = some b) (m : Mem) :
    b.ok ∧ ∃ u v, qev P (part t (xs.map S.ev).toArray off) m = some u ∧ qev P (part t (ys.map S.ev).toArray off) m = some v ∧ qev P (Op.equalIn d t u v) m = some b.ev := by
  unfold eqPart at h
  split at h
  · rename_i a c ha hc
    obtain ⟨h1, h2⟩ := partS_ok hx ha m
    obtain ⟨h3, h4⟩ := partS_ok hy hc m
    obtain ⟨h5, h6⟩ := ih _ _ _ _ h1 h3 h m
    exact ⟨h5, _, _, h2, h4, h6⟩
  · cases h

theorem symEq_ok {bs : List Nat} : ∀ (d : Nat) (t : TypeId) (x y : A) (b : B), x.ok bs → y.ok bs → symEq P d t x y = some b → ∀ m, b.ok ∧ qev P (Op.equalIn d t x.ev y.ev) m = some b.ev := by
  intro d
  induction d with
  | zero => intro t x y b _ _ h; cases h
  | succ d ih =>
    intro t x y b hx hy h m
    unfold symEq at h
    split at h
    · rename_i a c hu
      cases h
      obtain ⟨h1, h2⟩ := mkBeq_ok (a := a) (b := c) hx hy
      refine ⟨h1, ?_⟩
      simp only [Op.equalIn, A.ev, S.ev]
      rw [qev_bind, qev_underlying hu, h2]
      rfl
    · rename_i kk k a k' c hu
      split at h
      · rename_i hk; subst hk
        cases h
        obtain ⟨h1, h2⟩ := mkEq_ok (a := a) (b := c) hx hy
        refine ⟨h1, ?_⟩
        simp only [Op.equalIn, A.ev, S.ev]
        rw [qev_bind, qev_underlying hu, h2]
        simp
      · cases h
    · rename_i fields xs ys hu
      split at h
      · cases h
      · rename_i hs
        have hb := qev_forIn (P := P) (m := m) (body := fun f __s => if f.name ≠ "_" then do
                    let a ← part f.type (xs.map S.ev).toArray f.offset
                    let b ← part f.type (ys.map S.ev).toArray f.offset
                    let c ← Op.equalIn d f.type a b
                    if (!c) = true then pure (ForInStep.done (some false, ()))
                      else pure (ForInStep.yield (none, ()))
                  else pure (ForInStep.yield (none, ()))) fields.toList (by
          intro f _ b hf
          split at hf
          · rename_i hn
            cases hf
            exact ⟨trivial, by simp [hn, stepOf, B.ev]⟩
          · rename_i hn
            obtain ⟨h1, u, v, h2, h3, h4⟩ := eqPart_ok ih hx hy hf m
            refine ⟨h1, ?_⟩
            simp only [ne_eq, hn, not_false_eq_true, if_true, qev_bind, h2, h3, h4, Option.bind_some]
            cases b.ev <;> rfl) h
        refine ⟨hb.1, ?_⟩
        simp only [Op.equalIn, A.ev]
        rw [qev_bind, qev_underlying hu]
        simp only [Option.bind_some]
        rw [qev_bind]
        simp only [qev_program, Option.bind_some, hs]
        rw [← Array.forIn_toList]
        simp only [Bool.false_eq_true, if_false]
        rw [qev_bind, hb.2]
        cases b.ev <;> rfl
    · rename_i len elem xs ys hu
      split at h
      · rename_i n hn
        have hb := qev_forIn (P := P) (m := m) (body := fun i __s => do
                    let a ← part elem (xs.map S.ev).toArray (i * n)
                    let b ← part elem (ys.map S.ev).toArray (i * n)
                    let c ← Op.equalIn d elem a b
                    if (!c) = true then pure (ForInStep.done (some false, ()))
                      else pure (ForInStep.yield (none, ()))) (List.range' 0 len) (by
          intro f _ b hf
          obtain ⟨h1, u, v, h2, h3, h4⟩ := eqPart_ok ih hx hy hf m
          refine ⟨h1, ?_⟩
          simp only [qev_bind, h2, h3, h4, Option.bind_some]
          cases b.ev <;> rfl) h
        refine ⟨hb.1, ?_⟩
        simp only [Op.equalIn, A.ev]
        rw [qev_bind, qev_underlying hu]
        simp only [Option.bind_some]
        rw [qev_bind, sizeT_some hn]
        simp only [Option.bind_some]
        rw [Std.Legacy.Range.forIn_eq_forIn_range']
        simp only [Std.Legacy.Range.size, Nat.sub_zero, Nat.add_sub_cancel, Nat.div_one]
        rw [qev_bind, hb.2]
        cases b.ev <;> rfl
      · cases h
    · cases h

/-! ### operators -/
def symBin (P : Program) (op : BinOp) (t : TypeId) (x y : V) : Option S :=
  match x, y with
  | .a (.s (.int k a)), .a (.s (.int k' b)) =>
    match op with
    | .shl =>
      match b with
      | .lit n => if 0 ≤ n then some (.int k (mkWrap k (mkMul a (.lit (2 ^ (Min.min n.toNat k.bits)))))) else none
      | b => if 0 ≤ b.iv.1 then some (.int k (.shv .shl k a b)) else none
    | .shr =>
      match b with
      | .lit n => if 0 ≤ n then some (.int k (mkShr a (Min.min n.toNat k.bits))) else none
      | b => if 0 ≤ b.iv.1 then some (.int k (.shv .shr k a b)) else none
    | op =>
      if k = k' then
        match op with
        | .add => some (.int k (mkWrap k (mkAdd a b)))
        | .sub => some (.int k (mkWrap k (mkSub a b)))
        | .mul => some (.int k (mkWrap k (mkMul a b)))
        | .quo => if 0 < b.iv.1 || b.iv.2 < 0 then some (.int k (mkWrap k (mkQuo a b))) else none
        | .rem => if 0 < b.iv.1 || b.iv.2 < 0 then some (.int k (mkRem a b)) else none
        | .and => some (.int k (mkBits .and k a b))
        | .or => some (.int k (mkBits .or k a b))
        | .xor => some (.int k (mkBits .xor k a b))
        | .andNot => some (.int k (mkBits .andNot k a b))
        | .eql => some (.bool (mkEq a b))
        | .neq => some (.bool (mkNotB (mkEq a b)))
        | .lss => some (.bool (mkLt a b))
        | .leq => some (.bool (mkLe a b))
        | .gtr => some (.bool (mkLt b a))
        | .geq => some (.bool (mkLe b a))
        | _ => none
      else none
  | .a (.s (.bool a)), .a (.s (.bool b)) =>
    match op with
    | .eql => (symEq P Op.maxDepth t (.s (.bool a)) (.s (.bool b))).map .bool
    | .neq => (symEq P Op.maxDepth t (.s (.bool a)) (.s (.bool b))).map fun b => .bool (mkNotB b)
    | _ => none
  | .a (.agg a), .a (.agg b) =>
    if P.eqGuardType P.depth t then none else
    match op with
    | .eql => (symEq P Op.maxDepth t (.agg a) (.agg b)).map .bool
    | .neq => (symEq P Op.maxDepth t (.agg a) (.agg b)).map fun b => .bool (mkNotB b)
    | _ => none
  | _, _ => none

theorem guard_int (op : BinOp) (t : TypeId) (x y : Operand) (k k' : IntKind) (a b : Int) (m : Mem) : qev P (eqGuard op t x y (.int k a) (.int k' b)) m = some () := by
  cases op <;> rfl
theorem guard_bool (op : BinOp) (t : TypeId) (x y : Operand) (a b : Bool) (m : Mem) : qev P (eqGuard op t x y (.bool a) (.bool b)) m = some () := by
  cases op <;> rfl
theorem guard_agg (op : BinOp) (t : TypeId) (x y : Operand) (a b : Array Value) (m : Mem) (h : P.eqGuardType P.depth t = false) : qev P (eqGuard op t x y (.agg a) (.agg b)) m = some () := by
  cases op <;> first | rfl | simp [eqGuard, qev_bind, h]

theorem symBin_ok {bs : List Nat} {op : BinOp} {t : TypeId} {x y : V} (ox oy : Operand) (hx : x.ok bs) (hy : y.ok bs) {r : S} (h : symBin P op t x y = some r) (m : Mem) :
    r.ok bs ∧ qev P (do eqGuard op t ox oy x.ev y.ev; binOp op t x.ev y.ev) m = some r.ev := by
  unfold symBin at h
  split at h
  · rename_i k a k' b
    have ha : a.ok := hx
    have hb : b.ok := hy
    have hbi := X.iv_ok b hb
    have key : ∀ (v : Value), qev P (binOp op t (.int k a.ev) (.int k' b.ev)) m = some v → qev P (do eqGuard op t ox oy (V.a (A.s (S.int k a))).ev (V.a (A.s (S.int k' b))).ev; binOp op t (V.a (A.s (S.int k a))).ev (V.a (A.s (S.int k' b))).ev) m = some v := by
      intro v hv
      rw [qev_bind]
      simp only [V.ev, A.ev, S.ev, guard_int, Option.bind_some]
      exact hv
    split at h
    · split at h
      · rename_i n
        split at h
        · rename_i hn
          cases h
          obtain ⟨h1, h2⟩ := mkMul_ok (a := a) (b := .lit (2 ^ (Min.min n.toNat k.bits))) ha trivial
          obtain ⟨h3, h4⟩ := mkWrap_ok (k := k) h1
          refine ⟨h3, key _ ?_⟩
          have hn' : ¬ (X.lit n).ev < 0 := by simp only [X.ev]; omega
          simp only [binOp, Op.shift, if_neg hn', qev_pure, S.ev, h4, h2]; rfl
        · cases h
      · split at h
        · rename_i hn
          cases h
          refine ⟨⟨ha, hb⟩, key _ ?_⟩
          simp only [binOp, Op.shift, if_neg (show ¬ b.ev < 0 by omega), qev_pure, S.ev, X.ev, shI]
        · cases h
    · split at h
      · rename_i n
        split at h
        · rename_i hn
          cases h
          obtain ⟨h1, h2⟩ := mkShr_ok (a := a) (n := Min.min n.toNat k.bits) ha
          refine ⟨h1, key _ ?_⟩
          have hn' : ¬ (X.lit n).ev < 0 := by simp only [X.ev]; omega
          simp only [binOp, Op.shift, if_neg hn', qev_pure, S.ev, h2]; rfl
        · cases h
      · split at h
        · rename_i hn
          cases h
          refine ⟨⟨ha, hb⟩, key _ ?_⟩
          simp only [binOp, Op.shift, if_neg (show ¬ b.ev < 0 by omega), qev_pure, S.ev, X.ev, shI]
        · cases h
    · split at h
      · rename_i hk; subst hk
        split at h
        case h_1 =>
          cases h
          obtain ⟨h1, h2⟩ := mkAdd_ok ha hb; obtain ⟨h3, h4⟩ := mkWrap_ok (k := k) h1
          exact ⟨h3, key _ (by simp [binOp, Op.intArith, S.ev, h4, h2])⟩
        case h_2 =>
          cases h
          obtain ⟨h1, h2⟩ := mkSub_ok ha hb; obtain ⟨h3, h4⟩ := mkWrap_ok (k := k) h1
          exact ⟨h3, key _ (by simp [binOp, Op.intArith, S.ev, h4, h2])⟩
        case h_3 =>
          cases h
          obtain ⟨h1, h2⟩ := mkMul_ok ha hb; obtain ⟨h3, h4⟩ := mkWrap_ok (k := k) h1
          exact ⟨h3, key _ (by simp [binOp, Op.intArith, S.ev, h4, h2])⟩
        case h_4 =>
          split at h
          · rename_i hz
            cases h
            simp only [Bool.or_eq_true, decide_eq_true_eq] at hz
            obtain ⟨h1, h2⟩ := mkQuo_ok ha hb; obtain ⟨h3, h4⟩ := mkWrap_ok (k := k) h1
            exact ⟨h3, key _ (by simp [binOp, Op.intDiv, S.ev, h4, h2, show ¬ b.ev = 0 by omega])⟩
          · cases h
        case h_5 =>
          split at h
          · rename_i hz
            cases h
            simp only [Bool.or_eq_true, decide_eq_true_eq] at hz
            obtain ⟨h1, h2⟩ := mkRem_ok ha hb
            exact ⟨h1, key _ (by simp [binOp, Op.intDiv, S.ev, h2, show ¬ b.ev = 0 by omega])⟩
          · cases h
        case h_6 => cases h; obtain ⟨h1, h2⟩ := mkBits_ok (op := .and) (k := k) ha hb; exact ⟨h1, key _ (by simp [binOp, Op.intBits, S.ev, h2, bitsI])⟩
        case h_7 => cases h; obtain ⟨h1, h2⟩ := mkBits_ok (op := .or) (k := k) ha hb; exact ⟨h1, key _ (by simp [binOp, Op.intBits, S.ev, h2, bitsI])⟩
        case h_8 => cases h; obtain ⟨h1, h2⟩ := mkBits_ok (op := .xor) (k := k) ha hb; exact ⟨h1, key _ (by simp [binOp, Op.intBits, S.ev, h2, bitsI])⟩
        case h_9 => cases h; obtain ⟨h1, h2⟩ := mkBits_ok (op := .andNot) (k := k) ha hb; exact ⟨h1, key _ (by simp [binOp, Op.intBits, S.ev, h2, bitsI])⟩
        case h_10 => cases h; obtain ⟨h1, h2⟩ := mkEq_ok ha hb; exact ⟨h1, key _ (by simp [binOp, Op.intCmp, S.ev, h2])⟩
        case h_11 => cases h; obtain ⟨h1, h2⟩ := mkEq_ok ha hb; obtain ⟨h3, h4⟩ := mkNotB_ok h1; exact ⟨h3, key _ (by simp [binOp, Op.intCmp, S.ev, h4, h2, bne])⟩
        case h_12 => cases h; obtain ⟨h1, h2⟩ := mkLt_ok ha hb; exact ⟨h1, key _ (by simp [binOp, Op.intCmp, S.ev, h2])⟩
        case h_13 => cases h; obtain ⟨h1, h2⟩ := mkLe_ok ha hb; exact ⟨h1, key _ (by simp [binOp, Op.intCmp, S.ev, h2])⟩
        case h_14 => cases h; obtain ⟨h1, h2⟩ := mkLt_ok hb ha; exact ⟨h1, key _ (by simp [binOp, Op.intCmp, S.ev, h2])⟩
        case h_15 => cases h; obtain ⟨h1, h2⟩ := mkLe_ok hb ha; exact ⟨h1, key _ (by simp [binOp, Op.intCmp, S.ev, h2])⟩
        case h_16 => cases h
      · cases h
  · rename_i a b
    split at h
    · cases hs : symEq P Op.maxDepth t (.s (.bool a)) (.s (.bool b)) with
      | none => rw [hs] at h; cases h
      | some c =>
        rw [hs] at h; cases h
        obtain ⟨h1, h2⟩ := symEq_ok (bs := bs) _ _ (.s (.bool a)) (.s (.bool b)) _ hx hy hs m
        refine ⟨h1, ?_⟩
        rw [qev_bind]
        simp only [V.ev, A.ev, S.ev, guard_bool, Option.bind_some] at h2 ⊢
        simp only [binOp, qev_bind, Op.equal, h2]
        rfl
    · cases hs : symEq P Op.maxDepth t (.s (.bool a)) (.s (.bool b)) with
      | none => rw [hs] at h; cases h
      | some c =>
        rw [hs] at h; cases h
        obtain ⟨h1, h2⟩ := symEq_ok (bs := bs) _ _ (.s (.bool a)) (.s (.bool b)) _ hx hy hs m
        obtain ⟨h3, h4⟩ := mkNotB_ok h1
        refine ⟨h3, ?_⟩
        rw [qev_bind]
        simp only [V.ev, A.ev, S.ev, guard_bool, Option.bind_some] at h2 ⊢
        simp only [binOp, qev_bind, Op.equal, h2, h4]
        rfl
    · cases h
  · rename_i a b
    split at h
    · cases h
    · rename_i hg
      split at h
      · cases hs : symEq P Op.maxDepth t (.agg a) (.agg b) with
        | none => rw [hs] at h; cases h
        | some c =>
          rw [hs] at h; cases h
          obtain ⟨h1, h2⟩ := symEq_ok (bs := bs) _ _ (.agg a) (.agg b) _ hx hy hs m
          refine ⟨h1, ?_⟩
          rw [qev_bind]
          simp only [V.ev, A.ev, guard_agg _ _ _ _ _ _ _ (by simpa using hg), Option.bind_some] at h2 ⊢
          simp only [binOp, qev_bind, Op.equal, h2]
          rfl
      · cases hs : symEq P Op.maxDepth t (.agg a) (.agg b) with
        | none => rw [hs] at h; cases h
        | some c =>
          rw [hs] at h; cases h
          obtain ⟨h1, h2⟩ := symEq_ok (bs := bs) _ _ (.agg a) (.agg b) _ hx hy hs m
          obtain ⟨h3, h4⟩ := mkNotB_ok h1
          refine ⟨h3, ?_⟩
          rw [qev_bind]
          simp only [V.ev, A.ev, guard_agg _ _ _ _ _ _ _ (by simpa using hg), Option.bind_some] at h2 ⊢
          simp only [binOp, qev_bind, Op.equal, h2, h4, S.ev]
          rfl
      · cases h
  · cases h

end Go.Proofs.YtogcbmadcgjljaaDoor.Sx
