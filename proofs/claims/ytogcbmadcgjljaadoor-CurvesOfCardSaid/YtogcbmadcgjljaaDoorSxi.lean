/-
  A frame of our own for walks, part i: what a run comes to, as a tree of cases; one operation.
-/
import Derived.Test.YtogcbmadcgjljaaDoorSxh
namespace Go.Proofs.YtogcbmadcgjljaaDoor.Sx
open Go Go.RowKit

variable {P : Program}

/-! ### shapes of results that are not known -/
inductive Sh where
  | int (k : IntKind) (lo hi : Int)
  | bool
  | fn (f : FuncId)
inductive ShA where
  | s (x : Sh)
  | agg (xs : List Sh)
inductive ShV where
  | a (x : ShA)
  | tup (xs : List ShA)

inductive T where
  | given (f : FuncId) (args : List A) (t : T)
  | done (f : FuncId) (args : List A) (v : V)
  | ite (c : B) (t e : T)
  | bind (x : X) (lo hi : Int) (k : Int → T)
  | newb (k : Nat → T)
  | all (lo hi : Int) (k : Int → T)
  | allb (k : Bool → T)
  | hav (n : Nat) (k : List Value → T)
  | must (c : B) (t : T)
  | pre (f : FuncId) (args : List A) (t : T)
  | post (f : FuncId) (args : List A) (res : V) (t : T)
  | inv (l : Nat) (fs ws : List S) (t : T)
  | hyp (l : Nat) (fs ys : List S) (t : T)
  | again (l : Nat) (fs ys ws : List S)
  | is (c : B)
  | both (s t : T)
  | fail (why : String)

/-- a value's numbers. -/
def b2i (b : Bool) : Int := if b then 1 else 0
def vint : Value → Int
  | .int _ n => n
  | .bool b => b2i b
  | _ => 0
def vints : Value → List Int
  | .agg cs => cs.toList.map vint
  | v => [vint v]
def vres : Value → List (List Int)
  | .tuple vs => vs.toList.map vints
  | v => [vints v]

def S.i (x : S) : Int := vint x.ev
def A.ints (x : A) : List Int := vints x.ev
def V.res (x : V) : List (List Int) := vres x.ev

theorem i_int (k : IntKind) (x : X) : S.i (.int k x) = x.ev := rfl
theorem i_bool (b : B) : S.i (.bool b) = b2i b.ev := rfl
theorem ints_int (k : IntKind) (x : X) : A.ints (.s (.int k x)) = [x.ev] := rfl
theorem ints_bool (b : B) : A.ints (.s (.bool b)) = [b2i b.ev] := rfl
theorem ints_agg (xs : List S) : A.ints (.agg xs) = xs.map S.i := by
  simp only [A.ints, A.ev, vints, List.map_map]; rfl
theorem res_int (k : IntKind) (x : X) : V.res (.a (.s (.int k x))) = [[x.ev]] := rfl
theorem res_bool (b : B) : V.res (.a (.s (.bool b))) = [[b2i b.ev]] := rfl
theorem res_agg (xs : List S) : V.res (.a (.agg xs)) = [xs.map S.i] := by
  show [A.ints (.agg xs)] = _; rw [ints_agg]
theorem res_tup (xs : List A) : V.res (.tup xs) = xs.map A.ints := by
  simp only [V.res, V.ev, vres, List.map_map]; rfl

structure Ctx where
  pre : FuncId → List (List Int) → Prop
  post : FuncId → List (List Int) → List (List Int) → Prop
  inv : Nat → List Int → List Int → Prop
  mea : Nat → List Int → List Int → Nat

def sat (E : Ctx) : T → Prop
  | .given f args t => E.pre f (args.map A.ints) → sat E t
  | .done f args v => E.post f (args.map A.ints) v.res
  | .ite c t e => (c.pr → sat E t) ∧ (¬ c.pr → sat E e)
  | .bind x lo hi k => ∀ n, n = x.ev → lo ≤ n → n ≤ hi → sat E (k n)
  | .newb k => ∀ b, sat E (k b)
  | .all lo hi k => ∀ n, lo ≤ n → n ≤ hi → sat E (k n)
  | .allb k => ∀ b, sat E (k b)
  | .hav n k => ∀ vs : List Value, vs.length = n → sat E (k vs)
  | .must c t => c.pr ∧ sat E t
  | .pre f args t => E.pre f (args.map A.ints) ∧ sat E t
  | .post f args res t => E.post f (args.map A.ints) res.res → sat E t
  | .inv l fs ws t => E.inv l (fs.map S.i) (ws.map S.i) ∧ sat E t
  | .hyp l fs ys t => E.inv l (fs.map S.i) (ys.map S.i) → sat E t
  | .again l fs ys ws => E.inv l (fs.map S.i) (ws.map S.i) ∧ E.mea l (fs.map S.i) (ws.map S.i) < E.mea l (fs.map S.i) (ys.map S.i)
  | .is c => c.pr
  | .both s t => sat E s ∧ sat E t
  | .fail _ => False

def mkMust (c : B) (t : T) : T :=
  match c with
  | .lit true => t
  | c => .must c t

theorem mkMust_ok {E : Ctx} {c : B} {t : T} (h : sat E (mkMust c t)) : c.ev = true ∧ sat E t := by
  unfold mkMust at h
  split at h
  · exact ⟨rfl, h⟩
  · exact ⟨(B.pr_ev _).1 h.1, h.2⟩

theorem ite_true {E : Ctx} {c : B} {t e : T} (h : sat E (.ite c t e)) (hc : c.ev = true) : sat E t := h.1 ((B.pr_ev c).2 hc)
theorem ite_false {E : Ctx} {c : B} {t e : T} (h : sat E (.ite c t e)) (hc : c.ev = false) : sat E e := h.2 fun hp => by rw [(B.pr_ev c).1 hp] at hc; cases hc

/-! ### named numbers -/
def isLeaf : X → Bool
  | .lit _ => true
  | .v _ _ _ => true
  | _ => false

def bindS (x : S) (K : S → T) : T :=
  match x with
  | .int k x => if isLeaf x then K (.int k x) else .bind x x.iv.1 x.iv.2 fun n => K (.int k (.v n x.iv.1 x.iv.2))
  | x => K x

theorem bindS_ok {E : Ctx} {bs : List Nat} {x : S} (hx : x.ok bs) {K : S → T} (h : sat E (bindS x K)) : ∃ y : S, y.ev = x.ev ∧ y.ok bs ∧ y.fl = x.fl ∧ sat E (K y) := by
  unfold bindS at h
  split at h
  · rename_i k x
    split at h
    · exact ⟨_, rfl, hx, rfl, h⟩
    · have hi := X.iv_ok x hx
      exact ⟨.int k (.v x.ev x.iv.1 x.iv.2), rfl, hi, rfl, h _ rfl hi.1 hi.2⟩
  · exact ⟨x, rfl, hx, rfl, h⟩

def bindL : List S → (List S → T) → T
  | [], K => K []
  | x :: xs, K => bindS x fun y => bindL xs fun ys => K (y :: ys)

theorem bindL_ok {E : Ctx} {bs : List Nat} : ∀ (xs : List S), (∀ x ∈ xs, x.ok bs) → ∀ {K : List S → T}, sat E (bindL xs K) →
    ∃ ys : List S, ys.map S.ev = xs.map S.ev ∧ (∀ y ∈ ys, y.ok bs) ∧ ys.length = xs.length ∧ sat E (K ys)
  | [], _, K, h => ⟨[], rfl, (fun y hy => by cases hy), rfl, h⟩
  | x :: xs, hx, K, h => by
    obtain ⟨y, h1, h2, _, h3⟩ := bindS_ok (hx x (by simp)) h
    obtain ⟨ys, h4, h5, h6, h7⟩ := bindL_ok xs (fun x hx' => hx x (by simp [hx'])) h3
    refine ⟨y :: ys, by simp [h1, h4], ?_, by simp [h6], h7⟩
    intro z hz
    rcases List.mem_cons.1 hz with rfl | hz
    · exact h2
    · exact h5 z hz

def bindA (x : A) (K : A → T) : T :=
  match x with
  | .s x => bindS x fun y => K (.s y)
  | .agg xs => bindL xs fun ys => K (.agg ys)

theorem bindA_ok {E : Ctx} {bs : List Nat} {x : A} (hx : x.ok bs) {K : A → T} (h : sat E (bindA x K)) : ∃ y : A, y.ev = x.ev ∧ y.ok bs ∧ y.fl = x.fl ∧ sat E (K y) := by
  unfold bindA at h
  split at h
  · obtain ⟨y, h1, h2, h3, h4⟩ := bindS_ok hx h
    exact ⟨.s y, h1, h2, h3, h4⟩
  · obtain ⟨ys, h1, h2, _, h3⟩ := bindL_ok _ hx h
    exact ⟨.agg ys, by simp only [A.ev, h1], h2, rfl, h3⟩

def bindV (x : V) (K : V → T) : T :=
  match x with
  | .a x => bindA x fun y => K (.a y)
  | x => K x

theorem bindV_ok {E : Ctx} {bs : List Nat} {x : V} (hx : x.ok bs) {K : V → T} (h : sat E (bindV x K)) : ∃ y : V, y.ev = x.ev ∧ y.ok bs ∧ sat E (K y) := by
  unfold bindV at h
  split at h
  · obtain ⟨y, h1, h2, _, h3⟩ := bindA_ok hx h
    exact ⟨.a y, h1, h2, h3⟩
  · exact ⟨x, rfl, hx, h⟩

def bindAs : List A → (List A → T) → T
  | [], K => K []
  | x :: xs, K => bindA x fun y => bindAs xs fun ys => K (y :: ys)

theorem bindAs_ok {E : Ctx} {bs : List Nat} : ∀ (xs : List A), (∀ x ∈ xs, x.ok bs) → ∀ {K : List A → T}, sat E (bindAs xs K) →
    ∃ ys : List A, ys.map A.ev = xs.map A.ev ∧ (∀ y ∈ ys, y.ok bs) ∧ sat E (K ys)
  | [], _, K, h => ⟨[], rfl, (fun y hy => by cases hy), h⟩
  | x :: xs, hx, K, h => by
    obtain ⟨y, h1, h2, _, h3⟩ := bindA_ok (hx x (by simp)) h
    obtain ⟨ys, h4, h5, h7⟩ := bindAs_ok xs (fun x hx' => hx x (by simp [hx'])) h3
    refine ⟨y :: ys, by simp [h1, h4], ?_, h7⟩
    intro z hz
    rcases List.mem_cons.1 hz with rfl | hz
    · exact h2
    · exact h5 z hz

/-! ### results that are not known -/
def Sh.all (x : Sh) (K : S → T) : T :=
  match x with
  | .int k lo hi => if lo = hi then K (.int k (.lit lo)) else .all lo hi fun n => K (.int k (.v n lo hi))
  | .bool => .allb fun b => K (.bool (.v b))
  | .fn f => K (.fn f [])

def Sh.fits : Sh → Value → Prop
  | .int k lo hi, v => ∃ n, v = .int k n ∧ lo ≤ n ∧ n ≤ hi
  | .bool, v => ∃ b, v = .bool b
  | .fn f, v => v = .func (.func f) #[] #[]

theorem Sh.all_ok {E : Ctx} {x : Sh} {K : S → T} (h : sat E (x.all K)) {v : Value} (hv : x.fits v) (bs : List Nat) : ∃ y : S, y.ev = v ∧ y.ok bs ∧ sat E (K y) := by
  cases x with
  | int k lo hi =>
    obtain ⟨n, rfl, h1, h2⟩ := hv
    simp only [Sh.all] at h
    split at h
    · rename_i he
      have : n = lo := by omega
      subst this
      exact ⟨.int k (.lit n), rfl, trivial, h⟩
    · exact ⟨.int k (.v n lo hi), rfl, ⟨h1, h2⟩, h n h1 h2⟩
  | bool =>
    obtain ⟨b, rfl⟩ := hv
    exact ⟨.bool (.v b), rfl, trivial, h b⟩
  | fn f => exact ⟨.fn f [], hv.symm, (fun c hc => by cases hc), h⟩

def shAll : List Sh → (List S → T) → T
  | [], K => K []
  | x :: xs, K => x.all fun y => shAll xs fun ys => K (y :: ys)

def shFits : List Sh → List Value → Prop
  | [], vs => vs = []
  | x :: xs, vs => ∃ u us, vs = u :: us ∧ x.fits u ∧ shFits xs us

theorem shAll_ok {E : Ctx} (bs : List Nat) : ∀ (xs : List Sh) {K : List S → T}, sat E (shAll xs K) → ∀ {vs : List Value}, shFits xs vs → ∃ ys : List S, ys.map S.ev = vs ∧ (∀ y ∈ ys, y.ok bs) ∧ sat E (K ys)
  | [], K, h, vs, hv => ⟨[], hv.symm, fun y hy => (by cases hy), h⟩
  | x :: xs, K, h, vs, hv => by
    obtain ⟨u, us, rfl, h1, h2⟩ := hv
    obtain ⟨y, h3, h4, h5⟩ := Sh.all_ok h h1 bs
    obtain ⟨ys, h6, h7, h8⟩ := shAll_ok bs xs h5 h2
    refine ⟨y :: ys, by simp [h3, h6], ?_, h8⟩
    intro z hz
    rcases List.mem_cons.1 hz with rfl | hz
    · exact h4
    · exact h7 z hz

def ShA.all (x : ShA) (K : A → T) : T :=
  match x with
  | .s x => x.all fun y => K (.s y)
  | .agg xs => shAll xs fun ys => K (.agg ys)

def ShA.fits : ShA → Value → Prop
  | .s x, v => x.fits v
  | .agg xs, v => ∃ vs, v = .agg vs.toArray ∧ shFits xs vs

theorem ShA.all_ok {E : Ctx} {x : ShA} {K : A → T} (h : sat E (x.all K)) {v : Value} (hv : x.fits v) (bs : List Nat) : ∃ y : A, y.ev = v ∧ y.ok bs ∧ sat E (K y) := by
  cases x with
  | s x =>
    obtain ⟨y, h1, h2, h3⟩ := Sh.all_ok (x := x) (K := fun y => K (.s y)) h hv bs
    exact ⟨.s y, h1, h2, h3⟩
  | agg xs =>
    obtain ⟨vs, rfl, h1⟩ := hv
    obtain ⟨ys, h2, h3, h4⟩ := shAll_ok bs xs h h1
    exact ⟨.agg ys, by simp only [A.ev, h2], h3, h4⟩

def shaAll : List ShA → (List A → T) → T
  | [], K => K []
  | x :: xs, K => x.all fun y => shaAll xs fun ys => K (y :: ys)

def shaFits : List ShA → List Value → Prop
  | [], vs => vs = []
  | x :: xs, vs => ∃ u us, vs = u :: us ∧ x.fits u ∧ shaFits xs us

theorem shaAll_ok {E : Ctx} (bs : List Nat) : ∀ (xs : List ShA) {K : List A → T}, sat E (shaAll xs K) → ∀ {vs : List Value}, shaFits xs vs → ∃ ys : List A, ys.map A.ev = vs ∧ (∀ y ∈ ys, y.ok bs) ∧ sat E (K ys)
  | [], K, h, vs, hv => ⟨[], hv.symm, fun y hy => (by cases hy), h⟩
  | x :: xs, K, h, vs, hv => by
    obtain ⟨u, us, rfl, h1, h2⟩ := hv
    obtain ⟨y, h3, h4, h5⟩ := ShA.all_ok h h1 bs
    obtain ⟨ys, h6, h7, h8⟩ := shaAll_ok bs xs h5 h2
    refine ⟨y :: ys, by simp [h3, h6], ?_, h8⟩
    intro z hz
    rcases List.mem_cons.1 hz with rfl | hz
    · exact h4
    · exact h7 z hz

def ShV.all (x : ShV) (K : V → T) : T :=
  match x with
  | .a x => x.all fun y => K (.a y)
  | .tup xs => shaAll xs fun ys => K (.tup ys)

def ShV.fits : ShV → Value → Prop
  | .a x, v => x.fits v
  | .tup xs, v => ∃ vs, v = .tuple vs.toArray ∧ shaFits xs vs

theorem ShV.all_ok {E : Ctx} {x : ShV} {K : V → T} (h : sat E (x.all K)) {v : Value} (hv : x.fits v) (bs : List Nat) : ∃ y : V, y.ev = v ∧ y.ok bs ∧ sat E (K y) := by
  cases x with
  | a x =>
    obtain ⟨y, h1, h2, h3⟩ := ShA.all_ok (x := x) (K := fun y => K (.a y)) h hv bs
    exact ⟨.a y, h1, h2, h3⟩
  | tup xs =>
    obtain ⟨vs, rfl, h1⟩ := hv
    obtain ⟨ys, h2, h3, h4⟩ := shaAll_ok bs xs h h1
    exact ⟨.tup ys, by simp only [V.ev, h2], h3, h4⟩

/-! ### does a value take a shape? -/
def Sh.takes : Sh → S → Bool
  | .int k lo hi, .int k' x => k == k' && decide (lo ≤ x.iv.1) && decide (x.iv.2 ≤ hi)
  | .bool, .bool _ => true
  | .fn f, .fn g cs => f == g && cs.isEmpty
  | _, _ => false

def takesL : List Sh → List S → Bool
  | [], [] => true
  | h :: hs, x :: xs => h.takes x && takesL hs xs
  | _, _ => false

def ShA.takes : ShA → A → Bool
  | .s h, .s x => h.takes x
  | .agg hs, .agg xs => takesL hs xs
  | _, _ => false

def takesAs : List ShA → List A → Bool
  | [], [] => true
  | h :: hs, x :: xs => h.takes x && takesAs hs xs
  | _, _ => false

def ShV.takes : ShV → V → Bool
  | .a h, .a x => h.takes x
  | .tup hs, .tup xs => takesAs hs xs
  | _, _ => false

theorem takes_fits {sh : Sh} {x : S} (h : sh.takes x = true) {bs : List Nat} (hx : x.ok bs) : sh.fits x.ev := by
  cases sh with
  | int k lo hi =>
    cases x <;> simp only [Sh.takes, Bool.and_eq_true, beq_iff_eq, decide_eq_true_eq, Bool.false_eq_true] at h
    rename_i k' x
    obtain ⟨⟨rfl, h1⟩, h2⟩ := h
    have := X.iv_ok x hx
    exact ⟨x.ev, rfl, by omega, by omega⟩
  | bool =>
    cases x <;> simp only [Sh.takes, Bool.false_eq_true] at h
    exact ⟨_, rfl⟩
  | fn f =>
    cases x <;> simp only [Sh.takes, Bool.false_eq_true] at h
    rename_i g cs
    simp only [Bool.and_eq_true, beq_iff_eq, List.isEmpty_iff] at h
    obtain ⟨rfl, rfl⟩ := h
    rfl

theorem takesL_fits {bs : List Nat} : ∀ {sh : List Sh} {xs : List S}, takesL sh xs = true → (∀ x ∈ xs, x.ok bs) → shFits sh (xs.map S.ev)
  | [], [], _, _ => rfl
  | [], _ :: _, h, _ => by cases h
  | _ :: _, [], h, _ => by cases h
  | s :: sh, x :: xs, h, hx => by
    simp only [takesL, Bool.and_eq_true] at h
    exact ⟨_, _, rfl, takes_fits h.1 (hx x (by simp)), takesL_fits h.2 fun y hy => hx y (by simp [hy])⟩

theorem takesL_len : ∀ {sh : List Sh} {xs : List S}, takesL sh xs = true → xs.length = sh.length
  | [], [], _ => rfl
  | [], _ :: _, h => by cases h
  | _ :: _, [], h => by cases h
  | _ :: sh, _ :: xs, h => by
    simp only [takesL, Bool.and_eq_true] at h
    simp [takesL_len h.2]

theorem takesA_fits {bs : List Nat} {sh : ShA} {x : A} (h : sh.takes x = true) (hx : x.ok bs) : sh.fits x.ev := by
  cases sh with
  | s s => cases x with
    | s x => exact takes_fits h hx
    | agg xs => cases h
  | agg s => cases x with
    | s x => cases h
    | agg xs => exact ⟨_, rfl, takesL_fits h hx⟩

theorem takesAs_fits {bs : List Nat} : ∀ {sh : List ShA} {xs : List A}, takesAs sh xs = true → (∀ x ∈ xs, x.ok bs) → shaFits sh (xs.map A.ev)
  | [], [], _, _ => rfl
  | [], _ :: _, h, _ => by cases h
  | _ :: _, [], h, _ => by cases h
  | s :: sh, x :: xs, h, hx => by
    simp only [takesAs, Bool.and_eq_true] at h
    exact ⟨_, _, rfl, takesA_fits h.1 (hx x (by simp)), takesAs_fits h.2 fun y hy => hx y (by simp [hy])⟩

theorem takesV_fits {bs : List Nat} {sh : ShV} {x : V} (h : sh.takes x = true) (hx : x.ok bs) : sh.fits x.ev := by
  cases sh with
  | a s => cases x with
    | a x => exact takesA_fits h hx
    | tup xs => cases h
  | tup s => cases x with
    | a x => cases h
    | tup xs => exact ⟨_, rfl, takesAs_fits h hx⟩

/-! ### a value made to fit, where only its bounds are not plain -/
def fitS (sh : Sh) (x : S) (K : S → T) : T :=
  match sh, x with
  | .int k lo hi, .int k' x =>
    if k == k' && !(decide (lo ≤ x.iv.1) && decide (x.iv.2 ≤ hi)) then mkMust (mkLe (.lit lo) x) (mkMust (mkLe x (.lit hi)) (.bind x lo hi fun n => K (.int k' (.v n lo hi))))
    else K (.int k' x)
  | _, x => K x

theorem fitS_ok {E : Ctx} {bs : List Nat} {sh : Sh} {x : S} (hx : x.ok bs) {K : S → T} (h : sat E (fitS sh x K)) : ∃ y : S, y.ev = x.ev ∧ y.ok bs ∧ sat E (K y) := by
  unfold fitS at h
  split at h
  · rename_i k lo hi k' x
    split at h
    · obtain ⟨m1, h⟩ := mkMust_ok h
      obtain ⟨m2, h⟩ := mkMust_ok h
      rw [(mkLe_ok (a := .lit lo) trivial hx).2] at m1
      rw [(mkLe_ok (b := .lit hi) hx trivial).2] at m2
      replace m1 : lo ≤ x.ev := of_decide_eq_true m1
      replace m2 : x.ev ≤ hi := of_decide_eq_true m2
      exact ⟨.int k' (.v x.ev lo hi), rfl, ⟨m1, m2⟩, h x.ev rfl m1 m2⟩
    · exact ⟨_, rfl, hx, h⟩
  · exact ⟨_, rfl, hx, h⟩

def fitL : List Sh → List S → (List S → T) → T
  | h :: hs, x :: xs, K => fitS h x fun y => fitL hs xs fun ys => K (y :: ys)
  | _, xs, K => K xs

theorem fitL_ok {E : Ctx} {bs : List Nat} : ∀ (sh : List Sh) (xs : List S), (∀ x ∈ xs, x.ok bs) → ∀ {K : List S → T}, sat E (fitL sh xs K) → ∃ ys : List S, ys.map S.ev = xs.map S.ev ∧ (∀ y ∈ ys, y.ok bs) ∧ sat E (K ys)
  | [], xs, hx, K, h => ⟨xs, rfl, hx, by cases xs <;> exact h⟩
  | _ :: _, [], hx, K, h => ⟨[], rfl, hx, h⟩
  | s :: sh, x :: xs, hx, K, h => by
    obtain ⟨y, h1, h2, h3⟩ := fitS_ok (hx x (by simp)) h
    obtain ⟨ys, h4, h5, h7⟩ := fitL_ok sh xs (fun x hx' => hx x (by simp [hx'])) h3
    refine ⟨y :: ys, by simp [h1, h4], ?_, h7⟩
    intro z hz
    rcases List.mem_cons.1 hz with rfl | hz
    · exact h2
    · exact h5 z hz

def fitA (sh : ShA) (x : A) (K : A → T) : T :=
  match sh, x with
  | .s h, .s x => fitS h x fun y => K (.s y)
  | .agg hs, .agg xs => fitL hs xs fun ys => K (.agg ys)
  | _, x => K x

theorem fitA_ok {E : Ctx} {bs : List Nat} {sh : ShA} {x : A} (hx : x.ok bs) {K : A → T} (h : sat E (fitA sh x K)) : ∃ y : A, y.ev = x.ev ∧ y.ok bs ∧ sat E (K y) := by
  unfold fitA at h
  split at h
  · obtain ⟨y, h1, h2, h3⟩ := fitS_ok hx h
    exact ⟨.s y, h1, h2, h3⟩
  · obtain ⟨y, h1, h2, h3⟩ := fitL_ok _ _ hx h
    exact ⟨.agg y, by simp only [A.ev, h1], h2, h3⟩
  · exact ⟨_, rfl, hx, h⟩

def fitAs : List ShA → List A → (List A → T) → T
  | h :: hs, x :: xs, K => fitA h x fun y => fitAs hs xs fun ys => K (y :: ys)
  | _, xs, K => K xs

theorem fitAs_ok {E : Ctx} {bs : List Nat} : ∀ (sh : List ShA) (xs : List A), (∀ x ∈ xs, x.ok bs) → ∀ {K : List A → T}, sat E (fitAs sh xs K) → ∃ ys : List A, ys.map A.ev = xs.map A.ev ∧ (∀ y ∈ ys, y.ok bs) ∧ sat E (K ys)
  | [], xs, hx, K, h => ⟨xs, rfl, hx, by cases xs <;> exact h⟩
  | _ :: _, [], hx, K, h => ⟨[], rfl, hx, h⟩
  | s :: sh, x :: xs, hx, K, h => by
    obtain ⟨y, h1, h2, h3⟩ := fitA_ok (hx x (by simp)) h
    obtain ⟨ys, h4, h5, h7⟩ := fitAs_ok sh xs (fun x hx' => hx x (by simp [hx'])) h3
    refine ⟨y :: ys, by simp [h1, h4], ?_, h7⟩
    intro z hz
    rcases List.mem_cons.1 hz with rfl | hz
    · exact h2
    · exact h5 z hz

def fitV (sh : ShV) (x : V) (K : V → T) : T :=
  match sh, x with
  | .a h, .a x => fitA h x fun y => K (.a y)
  | .tup hs, .tup xs => fitAs hs xs fun ys => K (.tup ys)
  | _, x => K x

theorem fitV_ok {E : Ctx} {bs : List Nat} {sh : ShV} {x : V} (hx : x.ok bs) {K : V → T} (h : sat E (fitV sh x K)) : ∃ y : V, y.ev = x.ev ∧ y.ok bs ∧ sat E (K y) := by
  unfold fitV at h
  split at h
  · obtain ⟨y, h1, h2, h3⟩ := fitA_ok hx h
    exact ⟨.a y, h1, h2, h3⟩
  · obtain ⟨y, h1, h2, h3⟩ := fitAs_ok _ _ hx h
    exact ⟨.tup y, by simp only [V.ev, h1], h2, h3⟩
  · exact ⟨_, rfl, hx, h⟩

/-! ### what is known of the program's functions -/
/-- a loop's own words: what stands in these slots and blocks at each round's head is told by its relation. -/
structure Ann where
  l : Nat
  slots : List (Nat × Sh)
  blks : List (Nat × List Sh)
  fro : List Nat

/-- a function that, called with these numbers, makes a slice of so many, whose cells are these numbers. -/
structure New where
  args : List (IntKind × Int)
  cells : List (IntKind × Int)
  len : Nat

def litV (c : IntKind × Int) : Value := .int c.1 c.2
def litS (c : IntKind × Int) : S := .int c.1 (.lit c.2)

structure Tab where
  cons : List (FuncId × List ShA × ShV)
  exts : List (FuncId × Bool)
  anns : List (FuncId × Nat × Ann) := []
  spls : List (FuncId × Nat × Nat) := []
  mrgs : List FuncId := []
  asts : List (FuncId × Nat × List (List (Nat × Bool) × Nat × Nat × Int)) := []
  news : List (FuncId × New) := []

def Tab.new (t : Tab) (f : FuncId) : Option New := (t.news.find? (·.1 == f)).map (·.2)
def Tab.con (t : Tab) (f : FuncId) : Option (List ShA × ShV) := (t.cons.find? (·.1 == f)).map (·.2)
def Tab.ast (t : Tab) (f : FuncId) (r : Nat) : List (List (Nat × Bool) × Nat × Nat × Int) := ((t.asts.find? fun x => x.1 == f && x.2.1 == r).map (·.2.2)).getD []
def Tab.ext (t : Tab) (f : FuncId) : Option Bool := (t.exts.find? (·.1 == f)).map (·.2)

/-- a slot of truth by whose value cases are told apart when a region ends. -/
def Tab.spl (t : Tab) (f : FuncId) (r : Nat) : Option Nat := (t.spls.find? (fun x => x.1 == f && x.2.1 == r)).map (·.2.2)

def Tab.ann (t : Tab) (f : FuncId) (r : Nat) : Option Ann := (t.anns.find? (fun x => x.1 == f && x.2.1 == r)).map (·.2.2)

def addE : Array Value → Sem Value := fun args => do
  let (x, y, c) ← Extern.MathBitsCarry.three "Add64" args
  pure (Extern.MathBitsCarry.pair ((x + y + c) % Extern.MathBitsCarry.m64) ((x + y + c) / Extern.MathBitsCarry.m64))
def subE : Array Value → Sem Value := fun args => do
  let (x, y, b) ← Extern.MathBitsCarry.three "Sub64" args
  pure (Extern.MathBitsCarry.pair ((x + Extern.MathBitsCarry.m64 - y - b) % Extern.MathBitsCarry.m64) (if x < y + b then 1 else 0))

def ExtOk (P : Program) (f : FuncId) (kind : Bool) : Prop :=
  ∃ fn, P.funcs[f]? = some fn ∧ (fn.name == "runtime.NumGoroutine") = false ∧ fn.body.isNone = true ∧ (Extern.findNext fn).isNone = true ∧ Extern.find fn = some (if kind then addE else subE)

def NewOk (P : Program) (f : FuncId) (x : New) : Prop :=
  ∀ w, J w → Calls P f (x.args.map litV).toArray w fun e w' => ∃ b cap, e = .returned (.slice (some ⟨b, 0, none⟩) x.len cap) ∧ Sm w w' ∧ w.heap.size ≤ b ∧
    ∃ fr cs ty, w'.heap[b]? = some (.cells cs ty fr) ∧ ∀ (i : Nat) (v : Value), (x.cells.map litV)[i]? = some v → cs[i]? = some v

structure Valid (P : Program) (t : Tab) (E : Ctx) : Prop where
  con : ∀ f ash sh, t.con f = some (ash, sh) → (∃ fn c, P.funcs[f]? = some fn ∧ (fn.name == "runtime.NumGoroutine") = false ∧ fn.body = some c) ∧
    ∀ args : List Value, shaFits ash args → E.pre f (args.map vints) → Pure P f args.toArray fun v => sh.fits v ∧ E.post f (args.map vints) (vres v)
  ext : ∀ f kind, t.ext f = some kind → ExtOk P f kind
  new : ∀ f x, t.new f = some x → NewOk P f x

def gam (t : Tab) (E : Ctx) (f : FuncId) (args : Array Value) (v : Value) : Prop := ∃ ash sh, t.con f = some (ash, sh) ∧ sh.fits v ∧ E.post f (args.toList.map vints) (vres v)

theorem Pure.mono {f : FuncId} {args : Array Value} {R R' : Value → Prop} (h : Pure P f args R) (hr : ∀ v, R v → R' v) : Pure P f args R' :=
  fun w j => (h w j).mono fun _ _ ⟨v, h1, h2, h3⟩ => ⟨v, h1, hr v h2, h3⟩

theorem qev_callFunc {f : FuncId} {fn : Func} {c : Code} (hf : P.funcs[f]? = some fn) (hn : (fn.name == "runtime.NumGoroutine") = false) (hb : fn.body = some c) (args : Array Value) (m : Mem) :
    qev P (callFunc f args) m = some (.enter f args) := by
  unfold callFunc
  rw [qev_bind]
  simp only [qev_program, Option.bind_some, hf, hn, hb]
  rfl

theorem three_ev {what : String} {x y c : Int} (hc : 0 ≤ c) (hc' : c ≤ 1) (m : Mem) :
    qev P (Extern.MathBitsCarry.three what #[.int .u64 x, .int .u64 y, .int .u64 c]) m = some (x.toNat, y.toNat, c.toNat) := by
  have : c = 0 ∨ c = 1 := by omega
  rcases this with rfl | rfl <;> rfl

theorem ext_add {f : FuncId} (h : ExtOk P f true) {x y c : Int} (hx : 0 ≤ x) (hx' : x < 18446744073709551616) (hy : 0 ≤ y) (hy' : y < 18446744073709551616) (hc : 0 ≤ c) (hc' : c ≤ 1) (m : Mem) :
    qev P (callFunc f #[.int .u64 x, .int .u64 y, .int .u64 c]) m = some (.value (.tuple #[.int .u64 ((x + y + c) % 18446744073709551616), .int .u64 ((x + y + c) / 18446744073709551616)])) := by
  obtain ⟨fn, h1, h2, h3, h4, h5⟩ := h
  have h4' : Extern.findNext fn = none := by simpa using h4
  unfold callFunc
  rw [qev_bind]
  simp only [qev_program, Option.bind_some, h1, h2, h3, h4', h5, Bool.false_eq_true, if_false, if_true, addE]
  rw [qev_bind]
  simp only [mark, qev, Option.bind_some]
  rw [qev_bind, qev_bind, three_ev hc hc']
  have e1 : Int.ofNat ((x.toNat + y.toNat + c.toNat) % 2 ^ 64) = (x + y + c) % 18446744073709551616 := by
    simp only [Int.ofNat_eq_natCast]; omega
  have e2 : Int.ofNat ((x.toNat + y.toNat + c.toNat) / 2 ^ 64) = (x + y + c) / 18446744073709551616 := by
    simp only [Int.ofNat_eq_natCast]; omega
  simp only [Option.bind_some, qev_pure, Extern.MathBitsCarry.pair, Extern.MathBitsCarry.m64, e1, e2]

theorem ext_sub {f : FuncId} (h : ExtOk P f false) {x y c : Int} (hx : 0 ≤ x) (hx' : x < 18446744073709551616) (hy : 0 ≤ y) (hy' : y < 18446744073709551616) (hc : 0 ≤ c) (hc' : c ≤ 1) (m : Mem) :
    qev P (callFunc f #[.int .u64 x, .int .u64 y, .int .u64 c]) m = some (.value (.tuple #[.int .u64 ((x - y - c) % 18446744073709551616), .int .u64 (0 - (x - y - c) / 18446744073709551616)])) := by
  obtain ⟨fn, h1, h2, h3, h4, h5⟩ := h
  have h4' : Extern.findNext fn = none := by simpa using h4
  unfold callFunc
  rw [qev_bind]
  simp only [qev_program, Option.bind_some, h1, h2, h3, h4', h5, Bool.false_eq_true, if_false, if_true, subE]
  rw [qev_bind]
  simp only [mark, qev, Option.bind_some]
  rw [qev_bind, qev_bind, three_ev hc hc']
  have e1 : Int.ofNat ((x.toNat + 2 ^ 64 - y.toNat - c.toNat) % 2 ^ 64) = (x - y - c) % 18446744073709551616 := by
    simp only [Int.ofNat_eq_natCast]; omega
  have e2 : Int.ofNat (if x.toNat < y.toNat + c.toNat then 1 else 0) = 0 - (x - y - c) / 18446744073709551616 := by
    simp only [Int.ofNat_eq_natCast]; split <;> omega
  simp only [Option.bind_some, qev_pure, Extern.MathBitsCarry.pair, Extern.MathBitsCarry.m64, e1, e2]

end Go.Proofs.YtogcbmadcgjljaaDoor.Sx
