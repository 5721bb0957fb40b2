/-
  Machines: the plain machine, what keeps likeness, that Type tells what a run leaves.
-/
import Derived.Test.YtcjllibeaiofpaaGreatDoorSj
set_option linter.all false
namespace Go.Proofs.YtcjllibeaiofpaaGreatDoor.Mach
structure Cel where
 k : Int
 n : Int
 kn : Bool
structure Cod where
 op : Int
 n : Int
structure Num where
 un : Int -> Int -> Int
 bin : Int -> Int -> Int -> Int
abbrev R (α : Type) := Except Int α
theorem ok_bind {α β : Type} (a : α) (f : α -> R β) : Except.bind (Except.ok a : R α) f = f a := rfl
def clp (x : Int) : Int := max (-2147483648) (min 2147483647 x)
def whole (n : Int) : Cel := ⟨0, clp n, false⟩
def real (x : Int) : Cel := ⟨1, x, false⟩
def truth (b : Bool) : Cel := ⟨2, if b then 1 else 0, false⟩
def fixOf (c : Cel) : Int := if c.k = 0 then clp (c.n * 65536) else c.n
def must (b : Bool) (e : Int) : R Unit := if b then .ok () else .error e
def takes (n : Nat) (st : List Cel) : R (List Cel × List Cel) :=
 if n <= st.length then .ok (st.drop (st.length - n), st.take (st.length - n)) else .error 15
def const (c : Cod) : Cel := if c.op = 2 then truth (decide (c.n ≠ 0)) else ⟨c.op, c.n, decide (c.op = 0)⟩
def signF (op : Int) (a : Cel) : Cel :=
 let n := if op = 32 \/ a.n < 0 then -a.n else a.n
 if a.k = 0 then whole n else real (clp n)
def cutF (N : Num) (op : Int) (a : Cel) : Cel := if a.k = 0 then whole a.n else real (N.un op (fixOf a))
def cviF (a : Cel) : Cel := whole (if a.k = 1 then a.n.tdiv 65536 else a.n)
def sumF (N : Num) (op : Int) (a b : Cel) : Cel :=
 if a.k = 0 /\ b.k = 0 then whole (if op = 6 then a.n + b.n else if op = 40 then a.n - b.n else a.n * b.n) else real (N.bin op (fixOf a) (fixOf b))
def wrap32 (x : Int) : Int := (x + 2147483648) % 4294967296 - 2147483648
def shiftF (a b : Int) : Int := if b < 0 then wrap32 (a % 4294967296 / 2 ^ (-b).toNat) else wrap32 (a % 4294967296 * 2 ^ b.toNat)
def wholesF (op : Int) (a b : Cel) : Cel :=
 if op = 9 then whole (shiftF a.n b.n) else if b.n = 0 then whole 0 else if op = 23 then whole (a.n.tdiv b.n) else whole (a.n.tmod b.n)
def bitF (op a b : Int) : Int :=
 let x := BitVec.ofInt 32 a
 let y := BitVec.ofInt 32 b
 (if op = 7 then x &&& y else if op = 34 then x ||| y else x ^^^ y).toInt
def cmpF (a b : Cel) : Int := if a.k ≠ b.k then (if fixOf a < fixOf b then -1 else if fixOf b < fixOf a then 1 else 0) else (if a.n < b.n then -1 else if b.n < a.n then 1 else 0)
def holds (op n : Int) : Bool :=
 if op = 31 then decide (n ≠ 0) else if op = 28 then decide (n < 0) else if op = 25 then decide (n <= 0) else if op = 22 then decide (0 < n) else if op = 21 then decide (0 <= n) else decide (n = 0)
def count (c : Cel) : R Nat := if c.k = 0 /\ c.kn = true /\ 0 <= c.n then .ok c.n.toNat else .error 10
def opTab (op : Int) : Option (Nat × Nat) :=
 if op = 0 \/ op = 1 \/ op = 2 then some (0, 0) else if op = 3 then some (0, 1) else if op = 35 then some (1, 1) else if op = 4 then some (1, 2)
 else if op = 5 \/ op = 32 then some (1, 3) else if op = 10 \/ op = 20 \/ op = 37 \/ op = 41 then some (1, 4)
 else if op = 38 \/ op = 12 \/ op = 39 \/ op = 26 \/ op = 27 \/ op = 14 then some (1, 5) else if op = 13 then some (1, 6)
 else if op = 6 \/ op = 40 \/ op = 30 then some (2, 7) else if op = 15 \/ op = 19 \/ op = 8 then some (2, 8)
 else if op = 23 \/ op = 29 \/ op = 9 then some (2, 9) else if op = 7 \/ op = 34 \/ op = 42 then some (2, 10)
 else if op = 17 \/ op = 31 \/ op = 28 \/ op = 25 \/ op = 22 \/ op = 21 then some (2, 11) else if op = 33 then some (1, 12)
 else if op = 16 then some (1, 13) else if op = 18 then some (2, 14) else if op = 11 then some (1, 15) else if op = 24 then some (1, 16)
 else if op = 36 then some (2, 17) else none
def rolled (by' : Int) (x : List Cel) : List Cel :=
 if x.length = 0 then [] else x.drop (x.length - (by' % x.length).toNat) ++ x.take (x.length - (by' % x.length).toNat)
def does (N : Num) (cl : Nat) (c : Cod) (l st : List Cel) : R (List Cel) :=
 match cl, l with
 | 0, _ => .ok (st ++ [const c])
 | 1, _ => .ok st
 | 2, [a] => if a.k = 2 then .ok st else .error 10
 | 3, [a] => if a.k ≠ 2 then .ok (st ++ [signF c.op a]) else .error 10
 | 4, [a] => if a.k ≠ 2 then .ok (st ++ [cutF N c.op a]) else .error 10
 | 5, [a] => if a.k ≠ 2 then .ok (st ++ [real (N.un c.op (fixOf a))]) else .error 10
 | 6, [a] => if a.k ≠ 2 then .ok (st ++ [cviF a]) else .error 10
 | 7, [a, b] => if a.k ≠ 2 /\ b.k ≠ 2 then .ok (st ++ [sumF N c.op a b]) else .error 10
 | 8, [a, b] => if a.k ≠ 2 /\ b.k ≠ 2 then .ok (st ++ [real (N.bin c.op (fixOf a) (fixOf b))]) else .error 10
 | 9, [a, b] => if a.k = 0 /\ b.k = 0 then .ok (st ++ [wholesF c.op a b]) else .error 10
 | 10, [a, b] => if a.k = b.k /\ a.k ≠ 1 then .ok (st ++ [⟨a.k, bitF c.op a.n b.n, false⟩]) else .error 10
 | 11, [a, b] => if (a.k = 2 <-> b.k = 2) /\ (c.op = 17 \/ c.op = 31 \/ a.k ≠ 2) then .ok (st ++ [truth (holds c.op (cmpF a b))]) else .error 10
 | 12, [a] => if a.k ≠ 1 then .ok (st ++ [if a.k = 2 then truth (decide (a.n = 0)) else whole (-a.n - 1)]) else .error 10
 | 13, [a] => .ok (st ++ [a, a])
 | 14, [a, b] => .ok (st ++ [b, a])
 | 15, [a] => do
  let m <- count a
  let x <- takes m st
  .ok (x.2 ++ x.1 ++ x.1)
 | 16, [a] => do
  let m <- count a
  let x <- takes (m + 1) st
  .ok (x.2 ++ x.1 ++ x.1.take 1)
 | 17, [a, b] => do
  must (decide (b.k = 0) && b.kn) 10
  let m <- count a
  let x <- takes m st
  .ok (x.2 ++ rolled b.n x.1)
 | _, _ => .error 0
def aft (N : Num) (c : Cod) (l : List Cel) : R (List Cel) :=
 match opTab c.op with
 | none => .error 0
 | some (t, cl) => do
  let x <- takes t l
  let s <- does N cl c x.1 x.2
  if s.length <= 100 then .ok s else .error 15
def merge (w l : List Cel) : List Cel := List.zipWith (fun a b => ⟨b.k, b.n, b.kn && a.kn && decide (a.n = b.n)⟩) w l
def comes (w : Option (List Cel)) (l : List Cel) : R (Option (List Cel)) :=
 match w with
 | none => .ok (some l)
 | some v => if v.map (·.k) = l.map (·.k) then .ok (some (merge v l)) else .error 10
abbrev Ways := Nat -> Option (List Cel)
def Ways.set (W : Ways) (i : Nat) (v : Option (List Cel)) : Ways := fun j => if j = i then v else W j
def goes (c : Cod) : Bool := decide (c.op = 3 \/ c.op = 4)
def stepT (N : Num) (i : Nat) (x : Cod) (W : Ways) : R Ways :=
 match W i with
 | none => .ok W
 | some s => (aft N x s).bind fun l => (if goes x then (comes (W x.n.toNat) l).bind fun v => .ok (W.set x.n.toNat v) else .ok W).bind fun W1 => if x.op ≠ 3 then (comes (W1 (i + 1)) l).bind fun v => .ok (W1.set (i + 1) v) else .ok W1
def loopT (N : Num) : Nat -> List Cod -> Ways -> R Ways
 | _, [], W => .ok W
 | i, x :: c, W => do loopT N (i + 1) c (<- stepT N i x W)
def formedAt (len : Nat) (i : Nat) (x : Cod) : Bool := (opTab x.op).isSome && (!goes x || (decide ((i : Int) < x.n) && decide (x.n <= len)))
def formed (len : Nat) : Nat -> List Cod -> Bool
 | _, [] => true
 | i, x :: c => formedAt len i x && formed len (i + 1) c
def start (ins : Nat) : Ways := fun j => if j = 0 then some (List.replicate ins (real 0)) else none
def typeW (N : Num) (c : List Cod) (ins : Nat) : R (List Cel) :=
 if 100 < ins then .error 1 else if 1024 < c.length then .error 3 else if formed c.length 0 c = false then .error 4
 else do
  let W <- loopT N 0 c (start ins)
  .ok ((W c.length).getD [])
def runL (N : Num) (c : List Cod) : Nat -> Nat -> List Cel -> R (List Cel)
 | 0, _, l => .ok l
 | f + 1, i, l =>
  match c[i]? with
  | none => .ok l
  | some x => do
   let l' <- aft N x l
   runL N c f (if x.op = 3 \/ x.op = 4 /\ (l.getLast?.map (·.n)) = some 0 then x.n.toNat else i + 1) l'
def runF (N : Num) (c : List Cod) (ins : List Int) : R (List Cel) := do
 let _ <- typeW N c ins.length
 runL N c c.length 0 (ins.map real)
end Go.Proofs.YtcjllibeaiofpaaGreatDoor.Mach
namespace Go.Proofs.YtcjllibeaiofpaaGreatDoor.Mach
inductive LR (r : Cel -> Cel -> Prop) : List Cel -> List Cel -> Prop
 | nil : LR r [] []
 | cons {a b : Cel} {s t : List Cel} : r a b -> LR r s t -> LR r (a :: s) (b :: t)
section
variable {r : Cel -> Cel -> Prop} {s t s' t' : List Cel}
theorem LR.length (h : LR r s t) : s.length = t.length := by
 induction h with
 | nil => rfl
 | cons _ _ ih => simp [ih]
theorem LR.app (h : LR r s t) (k : LR r s' t') : LR r (s ++ s') (t ++ t') := by
 induction h with
 | nil => exact k
 | cons hab _ ih => exact .cons hab ih
theorem LR.take (h : LR r s t) (n : Nat) : LR r (s.take n) (t.take n) := by
 induction h generalizing n with
 | nil => simp; exact .nil
 | cons hab _ ih => cases n with
  | zero => exact .nil
  | succ n => exact .cons hab (ih n)
theorem LR.drop (h : LR r s t) (n : Nat) : LR r (s.drop n) (t.drop n) := by
 induction h generalizing n with
 | nil => simp; exact .nil
 | cons hab h ih => cases n with
  | zero => exact .cons hab h
  | succ n => exact ih n
theorem LR.refl (hr : ∀ a, r a a) : ∀ s, LR r s s
 | [] => .nil
 | a :: s => .cons (hr a) (LR.refl hr s)
theorem LR.one {a b : Cel} (h : r a b) : LR r [a] [b] := .cons h .nil
end
structure Rl (r : Cel -> Cel -> Prop) : Prop where
 k : ∀ a b, r a b -> a.k = b.k
 kn : ∀ a b, r a b -> a.kn = true -> b.kn = true /\ a.n = b.n
 un : ∀ a b : Cel, a.k = b.k -> a.kn = false -> b.kn = false -> r a b
 same : ∀ a, r a a
def Out (r : Cel -> Cel -> Prop) (E : Prop) (x y : R (List Cel)) : Prop :=
 (∀ s, x = .ok s -> ∃ t, y = .ok t /\ LR r s t) /\ (E -> ∀ e, x = .error e -> y = .error e)
section
variable {r : Cel -> Cel -> Prop} {E : Prop} {N : Num}
theorem out_ok {s t : List Cel} (h : LR r s t) : Out r E (.ok s) (.ok t) := ⟨fun s' e => by cases e; exact ⟨t, rfl, h⟩, fun _ e h => by cases h⟩
theorem out_err (e : Int) : Out r E (.error e) (.error e) := ⟨fun s h => (by cases h), fun _ _ h => h⟩
theorem out_if {p q : Prop} [Decidable p] [Decidable q] {s t : List Cel} {e : Int} (hpq : p <-> q) (h : LR r s t) : Out r E (if p then .ok s else .error e) (if q then .ok t else .error e) := by
 by_cases c : p
 ·rw [if_pos c, if_pos (hpq.1 c)]; exact out_ok h
 ·rw [if_neg c, if_neg (fun c' => c (hpq.2 c'))]; exact out_err e
theorem out_bad {x y : R (List Cel)} {e : Int} (hx : x = .error e) (h : E -> y = .error e) : Out r E x y := ⟨fun s h' => (by rw [hx] at h'; cases h'), fun hE e' h' => (by rw [hx] at h'; cases h'; exact h hE)⟩
theorem takes_rel {s t : List Cel} (h : LR r s t) (n : Nat) : (∃ x y, takes n s = .ok x /\ takes n t = .ok y /\ LR r x.1 y.1 /\ LR r x.2 y.2 /\ x.1.length = n) \/ (takes n s = .error 15 /\ takes n t = .error 15) := by
 unfold takes
 by_cases c : n <= s.length
 ·left
  have c' : n <= t.length := h.length ▸ c
  rw [if_pos c, if_pos c', h.length]
  exact ⟨_, _, rfl, rfl, h.drop _, h.take _, by simp [h.length]; omega⟩
 ·right
  have c' : ¬ n <= t.length := h.length ▸ c
  rw [if_neg c, if_neg c']
  exact ⟨rfl, rfl⟩
theorem count_rel (hr : Rl r) (hE : E -> ∀ a b, r a b -> a.kn = b.kn) {a b : Cel} (h : r a b) : (∃ m, count a = .ok m /\ count b = .ok m) \/ (count a = .error 10 /\ (E -> count b = .error 10)) := by
 unfold count
 have hk := hr.k _ _ h
 by_cases c : a.kn = true
 ·obtain ⟨h1, h2⟩ := hr.kn _ _ h c
  rw [hk, c, h1, h2]
  by_cases d : b.k = 0 /\ true = true /\ 0 <= b.n
  ·rw [if_pos d]; exact .inl ⟨_, rfl, rfl⟩
  ·rw [if_neg d]; exact .inr ⟨rfl, fun _ => rfl⟩
 ·right
  refine ⟨if_neg (fun h => c h.2.1), fun he => if_neg (fun h' => c ?_)⟩
  rw [hE he _ _ h]; exact h'.2.1
theorem rolled_rel {x y : List Cel} (h : LR r x y) (b : Int) : LR r (rolled b x) (rolled b y) := by
 unfold rolled
 rw [h.length]
 by_cases c : y.length = 0
 ·rw [if_pos c, if_pos c]; exact .nil
 ·rw [if_neg c, if_neg c]; exact (h.drop _).app (h.take _)
theorem does_rel (hr : Rl r) (hE : E -> ∀ a b, r a b -> a.kn = b.kn) (cl : Nat) (c : Cod) {l l' s t : List Cel} (hl : LR r l l') (hs : LR r s t) : Out r E (does N cl c l s) (does N cl c l' t) := by
 have real_r : ∀ x y : Int, r (real x) (real y) := fun x y => hr.un _ _ rfl rfl rfl
 have whole_r : ∀ x y : Int, r (whole x) (whole y) := fun x y => hr.un _ _ rfl rfl rfl
 have truth_r : ∀ x y : Bool, r (truth x) (truth y) := fun x y => hr.un _ _ rfl rfl rfl
 match cl with
 | 0 => cases hl <;> exact out_ok (hs.app (.one (hr.same _)))
 | 1 => cases hl <;> exact out_ok hs
 | 2 => match hl with
  | .nil => exact out_err _
  | .cons h .nil => exact out_if (by rw [hr.k _ _ h]) hs
  | .cons _ (.cons _ _) => exact out_err _
 | 3 => match hl with
  | .nil => exact out_err _
  | .cons h .nil =>
   refine out_if (by rw [hr.k _ _ h]) (hs.app (.one ?_))
   unfold signF
   rw [hr.k _ _ h]
   dsimp only
   split
   ·exact whole_r _ _
   ·exact real_r _ _
  | .cons _ (.cons _ _) => exact out_err _
 | 4 => match hl with
  | .nil => exact out_err _
  | .cons h .nil =>
   refine out_if (by rw [hr.k _ _ h]) (hs.app (.one ?_))
   unfold cutF
   rw [hr.k _ _ h]
   split
   ·exact whole_r _ _
   ·exact real_r _ _
  | .cons _ (.cons _ _) => exact out_err _
 | 5 => match hl with
  | .nil => exact out_err _
  | .cons h .nil => exact out_if (by rw [hr.k _ _ h]) (hs.app (.one (real_r _ _)))
  | .cons _ (.cons _ _) => exact out_err _
 | 6 => match hl with
  | .nil => exact out_err _
  | .cons h .nil => exact out_if (by rw [hr.k _ _ h]) (hs.app (.one (whole_r _ _)))
  | .cons _ (.cons _ _) => exact out_err _
 | 7 => match hl with
  | .nil => exact out_err _
  | .cons _ .nil => exact out_err _
  | .cons h (.cons h2 .nil) =>
   refine out_if (by rw [hr.k _ _ h, hr.k _ _ h2]) (hs.app (.one ?_))
   unfold sumF
   rw [hr.k _ _ h, hr.k _ _ h2]
   split
   ·exact whole_r _ _
   ·exact real_r _ _
  | .cons _ (.cons _ (.cons _ _)) => exact out_err _
 | 8 => match hl with
  | .nil => exact out_err _
  | .cons _ .nil => exact out_err _
  | .cons h (.cons h2 .nil) => exact out_if (by rw [hr.k _ _ h, hr.k _ _ h2]) (hs.app (.one (real_r _ _)))
  | .cons _ (.cons _ (.cons _ _)) => exact out_err _
 | 9 => match hl with
  | .nil => exact out_err _
  | .cons _ .nil => exact out_err _
  | .cons (a := a) (b := b) h (.cons (a := a2) (b := b2) h2 .nil) =>
   refine out_if (by rw [hr.k _ _ h, hr.k _ _ h2]) (hs.app (.one ?_))
   have hw : ∀ a b : Cel, ∃ x, wholesF c.op a b = whole x := by
    intro a b
    unfold wholesF
    split
    ·exact ⟨_, rfl⟩
    split
    ·exact ⟨_, rfl⟩
    split <;> exact ⟨_, rfl⟩
   obtain ⟨x, e⟩ := hw a a2
   obtain ⟨y, e'⟩ := hw b b2
   rw [e, e']
   exact whole_r _ _
  | .cons _ (.cons _ (.cons _ _)) => exact out_err _
 | 10 => match hl with
  | .nil => exact out_err _
  | .cons _ .nil => exact out_err _
  | .cons h (.cons h2 .nil) =>
   have hk := hr.k _ _ h
   exact out_if (by rw [hr.k _ _ h, hr.k _ _ h2]) (hs.app (.one (hr.un _ _ hk rfl rfl)))
  | .cons _ (.cons _ (.cons _ _)) => exact out_err _
 | 11 => match hl with
  | .nil => exact out_err _
  | .cons _ .nil => exact out_err _
  | .cons h (.cons h2 .nil) => exact out_if (by rw [hr.k _ _ h, hr.k _ _ h2]) (hs.app (.one (truth_r _ _)))
  | .cons _ (.cons _ (.cons _ _)) => exact out_err _
 | 12 => match hl with
  | .nil => exact out_err _
  | .cons h .nil =>
   refine out_if (by rw [hr.k _ _ h]) (hs.app (.one ?_))
   rw [hr.k _ _ h]
   split
   ·exact truth_r _ _
   ·exact whole_r _ _
  | .cons _ (.cons _ _) => exact out_err _
 | 13 => match hl with
  | .nil => exact out_err _
  | .cons h .nil => exact out_ok (hs.app (.cons h (.one h)))
  | .cons _ (.cons _ _) => exact out_err _
 | 14 => match hl with
  | .nil => exact out_err _
  | .cons _ .nil => exact out_err _
  | .cons h (.cons h2 .nil) => exact out_ok (hs.app (.cons h2 (.one h)))
  | .cons _ (.cons _ (.cons _ _)) => exact out_err _
 | 15 => match hl with
  | .nil => exact out_err _
  | .cons (a := a) (b := b) h .nil =>
   rcases count_rel hr hE h with ⟨m, e1, e2⟩ | ⟨e1, e2⟩
   ·simp only [does, e1, e2, bind, Except.bind]
    rcases takes_rel hs m with ⟨x, y, f1, f2, g1, g2, _⟩ | ⟨f1, f2⟩
    ·simp only [f1, f2]; exact out_ok ((g2.app g1).app g1)
    ·simp only [f1, f2]; exact out_err _
   ·exact out_bad (e := 10) (by simp only [does, e1]; rfl) (fun he => by simp only [does, e2 he]; rfl)
  | .cons _ (.cons _ _) => exact out_err _
 | 16 => match hl with
  | .nil => exact out_err _
  | .cons (a := a) (b := b) h .nil =>
   rcases count_rel hr hE h with ⟨m, e1, e2⟩ | ⟨e1, e2⟩
   ·simp only [does, e1, e2, bind, Except.bind]
    rcases takes_rel hs (m + 1) with ⟨x, y, f1, f2, g1, g2, _⟩ | ⟨f1, f2⟩
    ·simp only [f1, f2]; exact out_ok ((g2.app g1).app (g1.take 1))
    ·simp only [f1, f2]; exact out_err _
   ·exact out_bad (e := 10) (by simp only [does, e1]; rfl) (fun he => by simp only [does, e2 he]; rfl)
  | .cons _ (.cons _ _) => exact out_err _
 | 17 => match hl with
  | .nil => exact out_err _
  | .cons _ .nil => exact out_err _
  | .cons (a := a) (b := b) h (.cons (a := a2) (b := b2) h2 .nil) =>
   by_cases d : a2.k = 0 /\ a2.kn = true
   ·obtain ⟨k1, k2⟩ := hr.kn _ _ h2 d.2
    have d2 : (decide (a2.k = 0) && a2.kn) = true := by simp [d]
    have d3 : (decide (b2.k = 0) && b2.kn) = true := by rw [<- hr.k _ _ h2]; simp [d, k1]
    rcases count_rel hr hE h with ⟨m, e1, e2⟩ | ⟨e1, e2⟩
    ·simp only [does, must, d2, d3, if_true, e1, e2, bind, Except.bind]
     rcases takes_rel hs m with ⟨x, y, f1, f2, g1, g2, _⟩ | ⟨f1, f2⟩
     ·simp only [f1, f2, k2]; exact out_ok (g2.app (rolled_rel g1 _))
     ·simp only [f1, f2]; exact out_err _
    ·exact out_bad (e := 10) (by simp only [does, must, d2, if_true, e1]; rfl) (fun he => by simp only [does, must, d3, if_true, e2 he]; rfl)
   ·have d2 : (decide (a2.k = 0) && a2.kn) = false := by
     by_cases k0 : a2.k = 0
     ·have : a2.kn = false := by
       cases q : a2.kn
       ·rfl
       ·exact absurd ⟨k0, q⟩ d
      simp [this]
     ·simp [k0]
    refine out_bad (e := 10) (by simp only [does, must, d2]; rfl) (fun he => ?_)
    have d3 : (decide (b2.k = 0) && b2.kn) = false := by rw [<- hr.k _ _ h2, <- hE he _ _ h2]; exact d2
    simp only [does, must, d3]; rfl
  | .cons _ (.cons _ (.cons _ _)) => exact out_err _
 | n + 18 => exact out_err _
theorem aft_rel (hr : Rl r) (hE : E -> ∀ a b, r a b -> a.kn = b.kn) (c : Cod) {s t : List Cel} (hs : LR r s t) : Out r E (aft N c s) (aft N c t) := by
 unfold aft
 match opTab c.op with
 | none => exact out_err _
 | some (m, cl) =>
  rcases takes_rel hs m with ⟨x, y, f1, f2, g1, g2, _⟩ | ⟨f1, f2⟩
  ·simp only [f1, f2]
   have h := does_rel (N := N) hr hE cl c g1 g2
   show Out r E ((does N cl c x.1 x.2).bind _) ((does N cl c y.1 y.2).bind _)
   match hd : does N cl c x.1 x.2 with
   | .ok s' =>
    obtain ⟨t', e, hst⟩ := h.1 _ hd
    rw [e]
    exact out_if (by rw [hst.length]) hst
   | .error e => exact out_bad (e := e) rfl (fun he => by rw [h.2 he _ hd]; rfl)
  ·simp only [f1, f2]; exact out_err _
end
end Go.Proofs.YtcjllibeaiofpaaGreatDoor.Mach
namespace Go.Proofs.YtcjllibeaiofpaaGreatDoor.Mach
def Snd (a b : Cel) : Prop := a.k = b.k /\ (a.kn = true -> b.kn = true /\ a.n = b.n)
theorem snd_rl : Rl Snd := ⟨fun _ _ h => h.1, fun _ _ h k => h.2 k, fun _ _ h k _ => ⟨h, fun k' => by rw [k] at k'; cases k'⟩, fun _ => ⟨rfl, fun k => ⟨k, rfl⟩⟩⟩
def Alk (a b : Cel) : Prop := a.k = b.k /\ a.kn = b.kn /\ (a.kn = true -> a.n = b.n)
theorem alk_rl : Rl Alk := ⟨fun _ _ h => h.1, fun _ _ h k => ⟨h.2.1 ▸ k, h.2.2 k⟩, fun _ _ h k k' => ⟨h, k.trans k'.symm, fun q => by rw [k] at q; cases q⟩, fun _ => ⟨rfl, rfl, fun _ => rfl⟩⟩
theorem aft_snd {N : Num} (c : Cod) {s t s' : List Cel} (h : LR Snd s t) (e : aft N c s = .ok s') : ∃ t', aft N c t = .ok t' /\ LR Snd s' t' :=
 (aft_rel (E := False) snd_rl (fun h => h.elim) c h).1 _ e
theorem merge_l {v l x : List Cel} (h : LR Snd v x) (hk : v.map (·.k) = l.map (·.k)) : LR Snd (merge v l) x := by
 induction h generalizing l with
 | nil => cases l with
  | nil => exact .nil
  | cons a l => simp at hk
 | @cons a b s t hab _ ih => cases l with
  | nil => simp at hk
  | cons c l =>
   simp only [List.map_cons, List.cons.injEq] at hk
   refine .cons ⟨?_, fun h => ?_⟩ (ih hk.2)
   ·exact hk.1.symm.trans hab.1
   ·simp only [Bool.and_eq_true, decide_eq_true_eq] at h
    obtain ⟨h1, h2⟩ := hab.2 h.1.2
    exact ⟨h1, h.2.symm.trans h2⟩
theorem merge_r {v l x : List Cel} (h : LR Snd l x) (hk : v.map (·.k) = l.map (·.k)) : LR Snd (merge v l) x := by
 induction h generalizing v with
 | nil => cases v with
  | nil => exact .nil
  | cons a l => simp at hk
 | @cons a b s t hab _ ih => cases v with
  | nil => simp at hk
  | cons c l =>
   simp only [List.map_cons, List.cons.injEq] at hk
   refine .cons ⟨hab.1, fun h => ?_⟩ (ih hk.2)
   simp only [Bool.and_eq_true, decide_eq_true_eq] at h
   exact hab.2 h.1.1
def Cov (W : Ways) (j : Nat) (x : List Cel) : Prop := ∃ s, W j = some s /\ LR Snd s x
theorem comes_old {w w' : Option (List Cel)} {l x : List Cel} (h : comes w l = .ok w') (hx : ∃ s, w = some s /\ LR Snd s x) : ∃ s, w' = some s /\ LR Snd s x := by
 obtain ⟨s, rfl, hs⟩ := hx
 unfold comes at h
 by_cases c : s.map (·.k) = l.map (·.k)
 ·simp only [if_pos c] at h
  cases h
  exact ⟨_, rfl, merge_l hs c⟩
 ·simp only [if_neg c] at h; cases h
theorem comes_new {w w' : Option (List Cel)} {l x : List Cel} (h : comes w l = .ok w') (hx : LR Snd l x) : ∃ s, w' = some s /\ LR Snd s x := by
 cases w with
 | none => cases h; exact ⟨_, rfl, hx⟩
 | some s =>
  unfold comes at h
  by_cases c : s.map (·.k) = l.map (·.k)
  ·simp only [if_pos c] at h
   cases h
   exact ⟨_, rfl, merge_r hx c⟩
  ·simp only [if_neg c] at h; cases h
theorem set_old {W : Ways} {i : Nat} {l : List Cel} {v : Option (List Cel)} (h : comes (W i) l = .ok v) {j : Nat} {x : List Cel} (hx : Cov W j x) : Cov (W.set i v) j x := by
 unfold Cov Ways.set
 by_cases c : j = i
 ·subst c; rw [if_pos rfl]; exact comes_old h hx
 ·rw [if_neg c]; exact hx
theorem set_new {W : Ways} {i : Nat} {l : List Cel} {v : Option (List Cel)} (h : comes (W i) l = .ok v) {x : List Cel} (hx : LR Snd l x) : Cov (W.set i v) i x := by
 unfold Cov Ways.set
 rw [if_pos rfl]; exact comes_new h hx
theorem stepT_ok {N : Num} {i : Nat} {x : Cod} {W W' : Ways} {s : List Cel} (hs : W i = some s) (h : stepT N i x W = .ok W') :
  ∃ l W1, aft N x s = .ok l /\ (goes x = true -> ∃ v, comes (W x.n.toNat) l = .ok v /\ W1 = W.set x.n.toNat v) /\ (goes x = false -> W1 = W) /\ (x.op ≠ 3 -> ∃ v, comes (W1 (i + 1)) l = .ok v /\ W' = W1.set (i + 1) v) /\ (x.op = 3 -> W' = W1) := by
 unfold stepT at h
 simp only [hs] at h
 match ha : aft N x s with
 | .error e => rw [ha] at h; cases h
 | .ok l =>
  rw [ha] at h
  simp only [bind, Except.bind] at h
  by_cases g : goes x = true
  ·simp only [g, if_true] at h
   match hc : comes (W x.n.toNat) l with
   | .error e => rw [hc] at h; cases h
   | .ok v =>
    rw [hc] at h
    simp only at h
    refine ⟨l, W.set x.n.toNat v, rfl, fun _ => ⟨v, hc, rfl⟩, fun g' => absurd g (by simp [g']), fun o => ?_, fun o => ?_⟩
    ·simp only [if_pos o] at h
     match hd : comes ((W.set x.n.toNat v) (i + 1)) l with
     | .error e => rw [hd] at h; cases h
     | .ok u => rw [hd] at h; cases h; exact ⟨u, rfl, rfl⟩
    ·simp only [o, ne_eq, not_true_eq_false, if_false] at h; cases h; rfl
  ·have g' : goes x = false := by simpa using g
   simp only [g', Bool.false_eq_true, if_false] at h
   refine ⟨l, W, rfl, fun q => absurd q g, fun _ => rfl, fun o => ?_, fun o => ?_⟩
   ·simp only [if_pos o] at h
    match hd : comes (W (i + 1)) l with
    | .error e => rw [hd] at h; cases h
    | .ok u => rw [hd] at h; cases h; exact ⟨u, rfl, rfl⟩
   ·simp only [o, ne_eq, not_true_eq_false, if_false] at h; cases h; rfl
theorem step_old {N : Num} {i : Nat} {x : Cod} {W W' : Ways} (h : stepT N i x W = .ok W') {j : Nat} {y : List Cel} (hy : Cov W j y) : Cov W' j y := by
 match hs : W i with
 | none =>
  unfold stepT at h
  simp only [hs] at h
  cases h; exact hy
 | some s =>
  obtain ⟨l, W1, ha, h1, h2, h3, h4⟩ := stepT_ok hs h
  have c1 : Cov W1 j y := by
   cases g : goes x with
   | true => obtain ⟨v, hv, rfl⟩ := h1 g; exact set_old hv hy
   | false => rw [h2 g]; exact hy
  by_cases o : x.op = 3
  ·rw [h4 o]; exact c1
  ·obtain ⟨v, hv, rfl⟩ := h3 o; exact set_old hv c1
def nextI (i : Nat) (x : Cod) (l : List Cel) : Nat := if x.op = 3 \/ x.op = 4 /\ (l.getLast?.map (·.n)) = some 0 then x.n.toNat else i + 1
theorem step_new {N : Num} {i : Nat} {x : Cod} {W W' : Ways} (h : stepT N i x W = .ok W') {y : List Cel} (hy : Cov W i y) : ∃ y', aft N x y = .ok y' /\ Cov W' (nextI i x y) y' := by
 obtain ⟨s, hs, hr⟩ := hy
 obtain ⟨l, W1, ha, h1, h2, h3, h4⟩ := stepT_ok hs h
 obtain ⟨y', hy', hl⟩ := aft_snd x hr ha
 refine ⟨y', hy', ?_⟩
 unfold nextI
 by_cases o : x.op = 3
 ·rw [if_pos (Or.inl o), h4 o]
  obtain ⟨v, hv, rfl⟩ := h1 (by simp [goes, o])
  exact set_new hv hl
 ·obtain ⟨v, hv, rfl⟩ := h3 o
  by_cases c : x.op = 4 /\ (y.getLast?.map (·.n)) = some 0
  ·rw [if_pos (Or.inr c)]
   obtain ⟨u, hu, rfl⟩ := h1 (by simp [goes, c.1])
   exact set_old hv (set_new hu hl)
  ·rw [if_neg (by intro q; rcases q with q | q; exact o q; exact c q)]
   exact set_new hv hl
theorem formed_at {len i : Nat} {x : Cod} {c : List Cod} (h : formed len i (x :: c) = true) : formedAt len i x = true /\ formed len (i + 1) c = true := by simpa [formed] using h
theorem next_in {len i : Nat} {x : Cod} (h : formedAt len i x = true) (hi : i < len) (l : List Cel) : i < nextI i x l /\ nextI i x l <= len := by
 unfold nextI
 split
 ·rename_i q
  have g : goes x = true := by rcases q with q | q <;> simp [goes, q]
  simp only [formedAt, g, Bool.not_true, Bool.false_or, Bool.and_eq_true, decide_eq_true_eq] at h
  omega
 ·omega
theorem run_cov {N : Num} {c : List Cod} : ∀ (d : List Cod) (i : Nat), c.drop i = d -> i <= c.length -> formed c.length i d = true -> ∀ W We, loopT N i d W = .ok We -> ∀ j l, i <= j -> j <= c.length -> Cov W j l -> ∀ f, c.length - j <= f -> ∃ l', runL N c f j l = .ok l' /\ Cov We c.length l'
 | [], i, hd, hi, _, W, We, h, j, l, hij, hj, hc, f, hf => by
  have : c.length <= i := List.drop_eq_nil_iff.1 hd
  obtain rfl : j = c.length := by omega
  cases h
  refine ⟨l, ?_, hc⟩
  cases f with
  | zero => rfl
  | succ f => simp [runL]
 | x :: d, i, hd, hi, hfm, W, We, h, j, l, hij, hj, hc, f, hf => by
  have hlt : i < c.length := by
   by_cases q : i < c.length
   ·exact q
   ·rw [List.drop_eq_nil_iff.2 (by omega)] at hd; cases hd
  have hx : c[i]? = some x := by
   have := List.getElem?_drop (xs := c) (i := i) (j := 0)
   rw [hd] at this
   simpa using this.symm
  have hd' : c.drop (i + 1) = d := by rw [<- List.drop_drop, hd]; rfl
  obtain ⟨fa, ff⟩ := formed_at hfm
  simp only [loopT, bind, Except.bind] at h
  match hs : stepT N i x W with
  | .error e => rw [hs] at h; cases h
  | .ok W1 =>
   rw [hs] at h
   by_cases q : j = i
   ·subst q
    obtain ⟨y', ha, hcv⟩ := step_new hs hc
    obtain ⟨n1, n2⟩ := next_in fa hlt l
    match f, hf with
    | 0, hf => omega
    | f + 1, hf =>
     obtain ⟨l', hr, hc'⟩ := run_cov d (j + 1) hd' (by omega) ff W1 We h _ _ n1 n2 hcv f (by omega)
     refine ⟨l', ?_, hc'⟩
     simp only [runL, hx, ha, bind, Except.bind]
     exact hr
   ·exact run_cov d (i + 1) hd' (by omega) ff W1 We h j l (by omega) hj (step_old hs hc) f hf
theorem LR.kinds {s t : List Cel} (h : LR Snd s t) : s.map (·.k) = t.map (·.k) := by
 induction h with
 | nil => rfl
 | cons h _ ih => simp [ih, h.1]
theorem start_snd (ins : List Int) : LR Snd (List.replicate ins.length (real 0)) (ins.map real) := by
 induction ins with
 | nil => exact .nil
 | cons a l ih => exact .cons ⟨rfl, fun h => by cases h⟩ ih
theorem sound {N : Num} {c : List Cod} {ins : List Int} {s : List Cel} (h : typeW N c ins.length = .ok s) : ∃ l, runF N c ins = .ok l /\ LR Snd s l := by
 have h0 := h
 unfold typeW at h
 split at h
 ·cases h
 split at h
 ·cases h
 split at h
 ·cases h
 rename_i _ _ hf
 have hf' : formed c.length 0 c = true := by simpa using hf
 match hl : loopT N 0 c (start ins.length) with
 | .error e => rw [hl] at h; cases h
 | .ok We =>
  rw [hl] at h
  obtain ⟨l, hr, s', hs, hls⟩ := run_cov c 0 rfl (Nat.zero_le _) hf' _ _ hl 0 (ins.map real) (Nat.le_refl _) (Nat.zero_le _) ⟨_, rfl, start_snd ins⟩ c.length (by omega)
  have : s = s' := by
   have : Except.ok ((We c.length).getD []) = Except.ok (ε := Int) s := h
   rw [hs] at this
   exact (Except.ok.inj this).symm
  refine ⟨l, ?_, this ▸ hls⟩
  unfold runF
  rw [h0]
  exact hr
end Go.Proofs.YtcjllibeaiofpaaGreatDoor.Mach
namespace Go.Proofs.YtcjllibeaiofpaaGreatDoor.Mach
section
variable {N : Num} {B : List Cel}
theorem takes_frame {n : Nat} {s : List Cel} {x : List Cel × List Cel} (h : takes n s = .ok x) : takes n (B ++ s) = .ok (x.1, B ++ x.2) := by
 unfold takes at h ⊢
 by_cases c : n <= s.length
 ·rw [if_pos c] at h
  cases h
  rw [if_pos (by simp; omega)]
  have e : (B ++ s).length - n = B.length + (s.length - n) := by simp; omega
  rw [e, List.drop_append, List.take_append]
  have e2 : B.length + (s.length - n) - B.length = s.length - n := by omega
  rw [e2, List.drop_eq_nil_iff.2 (by omega : B.length <= B.length + (s.length - n)), List.take_of_length_le (by omega : B.length <= B.length + (s.length - n))]
  rfl
 ·rw [if_neg c] at h; cases h
theorem ok_if {p : Prop} [Decidable p] {a s' : List Cel} {e : Int} (h : (if p then Except.ok a else Except.error e : R (List Cel)) = .ok s') : p /\ a = s' := by
 by_cases c : p
 ·rw [if_pos c] at h; exact ⟨c, Except.ok.inj h⟩
 ·rw [if_neg c] at h; cases h
theorem if_frame {p : Prop} [Decidable p] {a b s' : List Cel} {e : Int} (h : (if p then Except.ok a else Except.error e : R (List Cel)) = .ok s') (hb : b = B ++ a) : (if p then Except.ok b else Except.error e : R (List Cel)) = .ok (B ++ s') := by
 obtain ⟨c, rfl⟩ := ok_if h
 rw [if_pos c, hb]
theorem does_frame {cl : Nat} {c : Cod} {l s s' : List Cel} (h : does N cl c l s = .ok s') : does N cl c l (B ++ s) = .ok (B ++ s') := by
 have app : ∀ x : List Cel, B ++ s ++ x = B ++ (s ++ x) := fun x => List.append_assoc ..
 match cl, l, h with
 | 0, l, h => cases l <;> (simp only [does] at h ⊢; cases h; rw [app])
 | 1, l, h => cases l <;> (simp only [does] at h ⊢; cases h; rfl)
 | 2, [a], h => simp only [does] at h ⊢; exact if_frame h rfl
 | 3, [a], h => simp only [does] at h ⊢; exact if_frame h (app _)
 | 4, [a], h => simp only [does] at h ⊢; exact if_frame h (app _)
 | 5, [a], h => simp only [does] at h ⊢; exact if_frame h (app _)
 | 6, [a], h => simp only [does] at h ⊢; exact if_frame h (app _)
 | 7, [a, b], h => simp only [does] at h ⊢; exact if_frame h (app _)
 | 8, [a, b], h => simp only [does] at h ⊢; exact if_frame h (app _)
 | 9, [a, b], h => simp only [does] at h ⊢; exact if_frame h (app _)
 | 10, [a, b], h => simp only [does] at h ⊢; exact if_frame h (app _)
 | 11, [a, b], h => simp only [does] at h ⊢; exact if_frame h (app _)
 | 12, [a], h => simp only [does] at h ⊢; exact if_frame h (app _)
 | 13, [a], h => simp only [does] at h ⊢; cases h; rw [app]
 | 14, [a, b], h => simp only [does] at h ⊢; cases h; rw [app]
 | 15, [a], h =>
  simp only [does, bind, Except.bind] at h ⊢
  match hc : count a with
  | .error e => rw [hc] at h; cases h
  | .ok m =>
   rw [hc] at h
   simp only at h ⊢
   match ht : takes m s with
   | .error e => rw [ht] at h; cases h
   | .ok x => rw [ht] at h; cases h; rw [takes_frame ht]; simp
 | 16, [a], h =>
  simp only [does, bind, Except.bind] at h ⊢
  match hc : count a with
  | .error e => rw [hc] at h; cases h
  | .ok m =>
   rw [hc] at h
   simp only at h ⊢
   match ht : takes (m + 1) s with
   | .error e => rw [ht] at h; cases h
   | .ok x => rw [ht] at h; cases h; rw [takes_frame ht]; simp
 | 17, [a, b], h =>
  simp only [does, bind, Except.bind] at h ⊢
  match hm : must (decide (b.k = 0) && b.kn) 10 with
  | .error e => rw [hm] at h; cases h
  | .ok _ =>
   rw [hm] at h
   simp only at h ⊢
   match hc : count a with
   | .error e => rw [hc] at h; cases h
   | .ok m =>
    rw [hc] at h
    simp only at h ⊢
    match ht : takes m s with
    | .error e => rw [ht] at h; cases h
    | .ok x => rw [ht] at h; cases h; rw [takes_frame ht]; simp
theorem aft_ok {c : Cod} {s s' : List Cel} (h : aft N c s = .ok s') : ∃ m cl x, opTab c.op = some (m, cl) /\ takes m s = .ok x /\ does N cl c x.1 x.2 = .ok s' /\ s'.length <= 100 := by
 unfold aft at h
 match ho : opTab c.op with
 | none => rw [ho] at h; cases h
 | some (m, cl) =>
  rw [ho] at h
  simp only [bind, Except.bind] at h
  match ht : takes m s with
  | .error e => rw [ht] at h; cases h
  | .ok x =>
   rw [ht] at h
   simp only at h
   match hd : does N cl c x.1 x.2 with
   | .error e => rw [hd] at h; cases h
   | .ok t =>
    rw [hd] at h
    obtain ⟨h1, rfl⟩ := ok_if h
    exact ⟨m, cl, x, rfl, ht, hd, h1⟩
theorem aft_frame {c : Cod} {s s' : List Cel} (h : aft N c s = .ok s') : aft N c (B ++ s) = if (B ++ s').length <= 100 then .ok (B ++ s') else .error 15 := by
 obtain ⟨m, cl, x, ho, ht, hd, _⟩ := aft_ok h
 unfold aft
 simp only [ho, takes_frame ht, does_frame hd, bind, Except.bind]
theorem merge_self (b v l : List Cel) : merge (b ++ v) (b ++ l) = b ++ merge v l := by
 induction b with
 | nil => rfl
 | cons a b ih =>
  have : merge (a :: b ++ v) (a :: b ++ l) = ⟨a.k, a.n, a.kn && a.kn && decide (a.n = a.n)⟩ :: merge (b ++ v) (b ++ l) := rfl
  rw [this, ih]
  simp
theorem comes_frame {w w' : Option (List Cel)} {l : List Cel} (h : comes w l = .ok w') : comes (w.map (B ++ ·)) (B ++ l) = .ok (w'.map (B ++ ·)) := by
 cases w with
 | none => cases h; rfl
 | some v =>
  unfold comes at h ⊢
  by_cases c : v.map (·.k) = l.map (·.k)
  ·simp only [if_pos c] at h
   cases h
   simp only [Option.map_some, List.map_append, c, if_true, merge_self]
  ·simp only [if_neg c] at h; cases h
def Fr (B : List Cel) (W V : Ways) : Prop := ∀ j, V j = (W j).map (B ++ ·)
theorem Fr.set {W V : Ways} (h : Fr B W V) (i : Nat) (v : Option (List Cel)) : Fr B (W.set i v) (V.set i (v.map (B ++ ·))) := by
 intro j
 unfold Ways.set
 by_cases c : j = i
 ·rw [if_pos c, if_pos c]
 ·rw [if_neg c, if_neg c]; exact h j
theorem step_frame {i : Nat} {x : Cod} {W W' V : Ways} (hf : Fr B W V) (h : stepT N i x W = .ok W') : (∃ V', stepT N i x V = .ok V' /\ Fr B W' V') \/ stepT N i x V = .error 15 := by
 match hs : W i with
 | none =>
  unfold stepT at h ⊢
  simp only [hs] at h
  cases h
  have : V i = none := by rw [hf i, hs]; rfl
  simp only [this]
  exact .inl ⟨_, rfl, hf⟩
 | some s =>
  obtain ⟨l, W1, ha, h1, h2, h3, h4⟩ := stepT_ok hs h
  have hv : V i = some (B ++ s) := by rw [hf i, hs]; rfl
  by_cases c : (B ++ l).length <= 100
  case neg =>
   right
   unfold stepT
   simp only [hv, aft_frame ha, if_neg c, bind, Except.bind]
  left
  unfold stepT
  simp only [hv, aft_frame ha, if_pos c, bind, Except.bind]
  cases g : goes x with
  | true =>
   obtain ⟨v, hv1, rfl⟩ := h1 g
   have k1 := comes_frame (B := B) hv1
   rw [<- hf x.n.toNat] at k1
   simp only [if_true, k1]
   have f1 := hf.set x.n.toNat v
   by_cases o : x.op = 3
   ·simp only [o, ne_eq, not_true_eq_false, if_false]
    rw [h4 o]; exact ⟨_, rfl, f1⟩
   ·obtain ⟨u, hu, rfl⟩ := h3 o
    have k2 := comes_frame (B := B) hu
    rw [<- f1 (i + 1)] at k2
    simp only [if_pos o, k2]
    exact ⟨_, rfl, f1.set _ _⟩
  | false =>
   obtain rfl := h2 g
   simp only [Bool.false_eq_true, if_false]
   by_cases o : x.op = 3
   ·simp only [o, ne_eq, not_true_eq_false, if_false]
    rw [h4 o]; exact ⟨_, rfl, hf⟩
   ·obtain ⟨u, hu, rfl⟩ := h3 o
    have k2 := comes_frame (B := B) hu
    rw [<- hf (i + 1)] at k2
    simp only [if_pos o, k2]
    exact ⟨_, rfl, hf.set _ _⟩
theorem loop_frame : ∀ (d : List Cod) (i : Nat) (W W' V : Ways), Fr B W V -> loopT N i d W = .ok W' -> (∃ V', loopT N i d V = .ok V' /\ Fr B W' V') \/ loopT N i d V = .error 15
 | [], i, W, W', V, hf, h => by cases h; exact .inl ⟨_, rfl, hf⟩
 | x :: d, i, W, W', V, hf, h => by
  simp only [loopT, bind, Except.bind] at h ⊢
  match hs : stepT N i x W with
  | .error e => rw [hs] at h; cases h
  | .ok W1 =>
   rw [hs] at h
   rcases step_frame hf hs with ⟨V1, e, f1⟩ | e
   ·rw [e]; exact loop_frame d (i + 1) W1 W' V1 f1 h
   ·rw [e]; exact .inr rfl
theorem type_ok {c : List Cod} {n : Nat} {s : List Cel} (h : typeW N c n = .ok s) : n <= 100 /\ c.length <= 1024 /\ formed c.length 0 c = true /\ ∃ We, loopT N 0 c (start n) = .ok We /\ We c.length = some s := by
 have h0 := h
 unfold typeW at h
 split at h
 ·cases h
 split at h
 ·cases h
 split at h
 ·cases h
 rename_i _ _ hf
 have hf' : formed c.length 0 c = true := by simpa using hf
 refine ⟨by omega, by omega, hf', ?_⟩
 match hl : loopT N 0 c (start n) with
 | .error e => rw [hl] at h; cases h
 | .ok We =>
  rw [hl] at h
  have h1 : Except.ok ((We c.length).getD []) = Except.ok (ε := Int) s := h
  obtain ⟨l, hr, s', hs, hls⟩ := run_cov c 0 rfl (Nat.zero_le _) hf' _ _ hl 0 (List.replicate n (real 0)) (Nat.le_refl _) (Nat.zero_le _) ⟨_, rfl, LR.refl snd_rl.same _⟩ c.length (by omega)
  refine ⟨We, rfl, ?_⟩
  rw [hs] at h1 ⊢
  exact congrArg some (Except.ok.inj h1)
theorem type_of {c : List Cod} {n : Nat} (h1 : n <= 100) (h2 : c.length <= 1024) (h3 : formed c.length 0 c = true) : typeW N c n = (loopT N 0 c (start n)).bind fun W => .ok ((W c.length).getD []) := by
 unfold typeW
 rw [if_neg (by omega), if_neg (by omega), if_neg (by rw [h3]; simp)]
 rfl
theorem type_frame {c : List Cod} {m n : Nat} {s : List Cel} (h : typeW N c n = .ok s) (hmn : m + n <= 100) : typeW N c (m + n) = .ok (List.replicate m (real 0) ++ s) \/ typeW N c (m + n) = .error 15 := by
 obtain ⟨h1, h2, h3, We, h4, h5⟩ := type_ok h
 rw [type_of hmn h2 h3]
 have hf : Fr (List.replicate m (real 0)) (start n) (start (m + n)) := by
  intro j
  unfold start
  by_cases c : j = 0
  ·rw [if_pos c, if_pos c]; simp
  ·rw [if_neg c, if_neg c]; rfl
 rcases loop_frame c 0 _ _ _ hf h4 with ⟨V', e, f⟩ | e
 ·left
  rw [e]
  show Except.ok _ = _
  rw [f, h5]; rfl
 ·right; rw [e]; rfl
theorem last_app {l : List Cel} (h : l ≠ []) : (B ++ l).getLast? = l.getLast? := by
 cases l with
 | nil => exact absurd rfl h
 | cons a l => rw [List.getLast?_append, List.getLast?_cons]; rfl
theorem run_frame {c : List Cod} : ∀ (f i : Nat) (l l1 l2 : List Cel), runL N c f i l = .ok l1 -> runL N c f i (B ++ l) = .ok l2 -> l2 = B ++ l1
 | 0, i, l, l1, l2, h1, h2 => by cases h1; cases h2; rfl
 | f + 1, i, l, l1, l2, h1, h2 => by
  simp only [runL] at h1 h2
  match hx : c[i]? with
  | none => simp only [hx] at h1 h2; cases h1; cases h2; rfl
  | some x =>
   simp only [hx, bind, Except.bind] at h1 h2
   match ha : aft N x l with
   | .error e => rw [ha] at h1; cases h1
   | .ok l' =>
    simp only [ha] at h1
    rw [aft_frame ha] at h2
    by_cases q : (B ++ l').length <= 100
    case neg => rw [if_neg q] at h2; cases h2
    rw [if_pos q] at h2
    simp only at h2
    have hj : ∀ y : Int, (x.op = 3 \/ x.op = 4 /\ ((B ++ l).getLast?.map (·.n)) = some 0) <-> (x.op = 3 \/ x.op = 4 /\ (l.getLast?.map (·.n)) = some 0) := by
     intro _
     by_cases o : x.op = 4
     ·have : l ≠ [] := by
       rintro rfl
       obtain ⟨m, cl, z, ho, ht, _⟩ := aft_ok ha
       have : opTab x.op = some (1, 2) := by rw [o]; rfl
       rw [this] at ho
       cases ho
       cases ht
      rw [last_app this]
     ·simp [o]
    simp only [hj 0] at h2
    exact run_frame f _ _ _ _ h1 h2
theorem run_ok {c : List Cod} {ins : List Int} {l : List Cel} (h : runF N c ins = .ok l) : ∃ s, typeW N c ins.length = .ok s /\ LR Snd s l /\ runL N c c.length 0 (ins.map real) = .ok l := by
 match ht : typeW N c ins.length with
 | .error e => unfold runF at h; rw [ht] at h; cases h
 | .ok s =>
  obtain ⟨l', h1, h2⟩ := sound ht
  obtain rfl : l = l' := Except.ok.inj (h.symm.trans h1)
  refine ⟨s, rfl, h2, ?_⟩
  unfold runF at h
  rw [ht] at h
  exact h
theorem run_err {c : List Cod} {ins : List Int} {e : Int} : runF N c ins = .error e <-> typeW N c ins.length = .error e := by
 constructor
 ·intro h
  match ht : typeW N c ins.length with
  | .error e' => unfold runF at h; rw [ht] at h; exact h
  | .ok s =>
   obtain ⟨l', h1, _⟩ := sound ht
   rw [h] at h1; cases h1
 ·intro h
  unfold runF
  rw [h]; rfl
theorem below_law (c : List Cod) (ins below : List Int) (hl : below.length + ins.length <= 100) {v : List Cel} (h : runF N c ins = .ok v) : runF N c (below ++ ins) = .ok (below.map real ++ v) \/ runF N c (below ++ ins) = .error 15 := by
 obtain ⟨s, h1, h2, h3⟩ := run_ok h
 rcases type_frame h1 hl with e | e
 ·left
  rw [<- List.length_append] at e
  obtain ⟨l', k1, k2⟩ := sound e
  obtain ⟨s', j1, j2, j3⟩ := run_ok k1
  rw [List.map_append] at j3
  rw [k1, run_frame _ _ _ _ _ h3 j3]
 ·right
  rw [<- List.length_append] at e
  exact run_err.2 e
end
end Go.Proofs.YtcjllibeaiofpaaGreatDoor.Mach
namespace Go.Proofs.YtcjllibeaiofpaaGreatDoor.Mach
def J32 (x : Int) : Prop := -2147483648 <= x /\ x <= 2147483647
structure Gd (a : Cel) : Prop where
 kn : a.kn = true -> a.k = 0
 b : a.k = 2 -> a.n = 0 \/ a.n = 1
 r : J32 a.n
 k : a.k = 0 \/ a.k = 1 \/ a.k = 2
structure NumOk (N : Num) : Prop where
 un : ∀ op x, J32 x -> J32 (N.un op x)
 bin : ∀ op x y, J32 x -> J32 y -> J32 (N.bin op x y)
def All (s : List Cel) : Prop := ∀ a ∈ s, Gd a
theorem clp_j (x : Int) : J32 (clp x) := by unfold J32 clp; omega
theorem gd_whole (x : Int) : Gd (whole x) := ⟨fun h => (by cases h), fun h => (by cases h), clp_j x, .inl rfl⟩
theorem gd_real {x : Int} (h : J32 x) : Gd (real x) := ⟨fun h => (by cases h), fun h => (by cases h), h, .inr (.inl rfl)⟩
theorem gd_truth (b : Bool) : Gd (truth b) := ⟨fun h => (by cases h), fun _ => (by cases b <;> simp [truth]), by cases b <;> (unfold J32; simp [truth]), .inr (.inr rfl)⟩
theorem gd_const {c : Cod} (ho : c.op = 0 \/ c.op = 1 \/ c.op = 2) (hn : J32 c.n) : Gd (const c) := by
 unfold const
 by_cases h : c.op = 2
 ·rw [if_pos h]; exact gd_truth _
 ·rw [if_neg h]
  exact ⟨fun q => by simpa using q, fun q => absurd q h, hn, by rcases ho with o | o | o; exact .inl o; exact .inr (.inl o); exact absurd o h⟩
theorem j_fix {a : Cel} (h : Gd a) : J32 (fixOf a) := by
 unfold fixOf
 split
 ·exact clp_j _
 ·exact h.r
theorem bv_j (x : BitVec 32) : J32 x.toInt := by
 have h1 := BitVec.toInt_lt (x := x)
 have h2 := BitVec.le_toInt (x := x)
 unfold J32
 simp at h1 h2
 omega
theorem bit_j (op a b : Int) : J32 (bitF op a b) := by unfold bitF; exact bv_j _
theorem bit_b {op a b : Int} (ha : a = 0 \/ a = 1) (hb : b = 0 \/ b = 1) : bitF op a b = 0 \/ bitF op a b = 1 := by
 unfold bitF
 rcases ha with rfl | rfl <;> rcases hb with rfl | rfl <;> (dsimp only; split <;> (try split) <;> decide)
theorem All.app {s t : List Cel} (h : All s) (k : All t) : All (s ++ t) := fun a ha => (List.mem_append.1 ha).elim (h a) (k a)
theorem All.one {a : Cel} (h : Gd a) : All [a] := by
 intro b hb
 have : b = a := by simpa using hb
 exact this ▸ h
theorem All.two {a b : Cel} (h : Gd a) (k : Gd b) : All [a, b] := by
 intro x hx
 rcases List.mem_cons.1 hx with e | hx
 ·exact e ▸ h
 ·have : x = b := by simpa using hx
  exact this ▸ k
theorem All.take {s : List Cel} (h : All s) (n : Nat) : All (s.take n) := fun a ha => h a (List.mem_of_mem_take ha)
theorem All.drop {s : List Cel} (h : All s) (n : Nat) : All (s.drop n) := fun a ha => h a (List.mem_of_mem_drop ha)
theorem takes_all {n : Nat} {s : List Cel} {x : List Cel × List Cel} (h : takes n s = .ok x) (hs : All s) : All x.1 /\ All x.2 /\ x.1.length = n := by
 unfold takes at h
 by_cases c : n <= s.length
 ·rw [if_pos c] at h; cases h; exact ⟨hs.drop _, hs.take _, by simp; omega⟩
 ·rw [if_neg c] at h; cases h
theorem all_rolled {x : List Cel} (h : All x) (b : Int) : All (rolled b x) := by
 unfold rolled
 split
 ·intro a ha; cases ha
 ·exact (h.drop _).app (h.take _)
theorem does_all {N : Num} (hN : NumOk N) {cl : Nat} {c : Cod} {l s s' : List Cel} (h : does N cl c l s = .ok s') (hl : All l) (hs : All s) (hc : J32 c.n) (ho : cl = 0 -> c.op = 0 \/ c.op = 1 \/ c.op = 2) : All s' := by
 have g1 : ∀ {a : Cel} {l : List Cel}, All (a :: l) -> Gd a := fun h => h _ (List.mem_cons_self ..)
 have g2 : ∀ {a b : Cel} {l : List Cel}, All (a :: b :: l) -> Gd b := fun h => h _ (List.mem_cons_of_mem _ (List.mem_cons_self ..))
 match cl, l, h with
 | 0, l, h => cases l <;> (simp only [does] at h; cases h; exact hs.app (.one (gd_const (ho rfl) hc)))
 | 1, l, h => cases l <;> (simp only [does] at h; cases h; exact hs)
 | 2, [a], h => simp only [does] at h; obtain ⟨_, rfl⟩ := ok_if h; exact hs
 | 3, [a], h =>
  simp only [does] at h; obtain ⟨_, rfl⟩ := ok_if h
  refine hs.app (.one ?_)
  unfold signF; dsimp only
  split
  ·exact gd_whole _
  ·exact gd_real (clp_j _)
 | 4, [a], h =>
  simp only [does] at h; obtain ⟨_, rfl⟩ := ok_if h
  refine hs.app (.one ?_)
  unfold cutF
  split
  ·exact gd_whole _
  ·exact gd_real (hN.un _ _ (j_fix (g1 hl)))
 | 5, [a], h => simp only [does] at h; obtain ⟨_, rfl⟩ := ok_if h; exact hs.app (.one (gd_real (hN.un _ _ (j_fix (g1 hl)))))
 | 6, [a], h => simp only [does] at h; obtain ⟨_, rfl⟩ := ok_if h; exact hs.app (.one (gd_whole _))
 | 7, [a, b], h =>
  simp only [does] at h; obtain ⟨_, rfl⟩ := ok_if h
  refine hs.app (.one ?_)
  unfold sumF
  split
  ·exact gd_whole _
  ·exact gd_real (hN.bin _ _ _ (j_fix (g1 hl)) (j_fix (g2 hl)))
 | 8, [a, b], h => simp only [does] at h; obtain ⟨_, rfl⟩ := ok_if h; exact hs.app (.one (gd_real (hN.bin _ _ _ (j_fix (g1 hl)) (j_fix (g2 hl)))))
 | 9, [a, b], h =>
  simp only [does] at h; obtain ⟨_, rfl⟩ := ok_if h
  refine hs.app (.one ?_)
  unfold wholesF
  split
  ·exact gd_whole _
  split
  ·exact gd_whole _
  split <;> exact gd_whole _
 | 10, [a, b], h =>
  simp only [does] at h; obtain ⟨hk, rfl⟩ := ok_if h
  refine hs.app (.one ⟨fun q => (by cases q), fun q => ?_, bit_j _ _ _, (g1 hl).k⟩)
  exact bit_b ((g1 hl).b q) ((g2 hl).b (hk.1 ▸ q))
 | 11, [a, b], h => simp only [does] at h; obtain ⟨_, rfl⟩ := ok_if h; exact hs.app (.one (gd_truth _))
 | 12, [a], h =>
  simp only [does] at h; obtain ⟨_, rfl⟩ := ok_if h
  refine hs.app (.one ?_)
  split
  ·exact gd_truth _
  ·exact gd_whole _
 | 13, [a], h => simp only [does] at h; cases h; exact hs.app (.two (g1 hl) (g1 hl))
 | 14, [a, b], h => simp only [does] at h; cases h; exact hs.app (.two (g2 hl) (g1 hl))
 | 15, [a], h =>
  simp only [does, bind, Except.bind] at h
  match hc : count a with
  | .error e => rw [hc] at h; cases h
  | .ok m =>
   rw [hc] at h
   simp only at h
   match ht : takes m s with
   | .error e => rw [ht] at h; cases h
   | .ok x => rw [ht] at h; cases h; obtain ⟨q1, q2, _⟩ := takes_all ht hs; exact (q2.app q1).app q1
 | 16, [a], h =>
  simp only [does, bind, Except.bind] at h
  match hc : count a with
  | .error e => rw [hc] at h; cases h
  | .ok m =>
   rw [hc] at h
   simp only at h
   match ht : takes (m + 1) s with
   | .error e => rw [ht] at h; cases h
   | .ok x => rw [ht] at h; cases h; obtain ⟨q1, q2, _⟩ := takes_all ht hs; exact (q2.app q1).app (q1.take 1)
 | 17, [a, b], h =>
  simp only [does, bind, Except.bind] at h
  match hm : must (decide (b.k = 0) && b.kn) 10 with
  | .error e => rw [hm] at h; cases h
  | .ok _ =>
   rw [hm] at h
   simp only at h
   match hc : count a with
   | .error e => rw [hc] at h; cases h
   | .ok m =>
    rw [hc] at h
    simp only at h
    match ht : takes m s with
    | .error e => rw [ht] at h; cases h
    | .ok x => rw [ht] at h; cases h; obtain ⟨q1, q2, _⟩ := takes_all ht hs; exact q2.app (all_rolled q1 _)
theorem peel {p : Prop} [Decidable p] {α : Type} {a b : α} {x : Option α} (h : (if p then some a else x) = some b) (hab : a ≠ b) : x = some b := by
 by_cases c : p
 ·rw [if_pos c] at h; exact absurd (Option.some.inj h) hab
 ·rwa [if_neg c] at h
theorem tab0 {op : Int} {m : Nat} (h : opTab op = some (m, 0)) : op = 0 \/ op = 1 \/ op = 2 := by
 unfold opTab at h
 by_cases c : op = 0 \/ op = 1 \/ op = 2
 ·exact c
 ·rw [if_neg c] at h
  repeat (replace h := peel h (by simp))
  cases h
theorem aft_all {N : Num} (hN : NumOk N) {c : Cod} {s s' : List Cel} (h : aft N c s = .ok s') (hs : All s) (hc : J32 c.n) : All s' := by
 obtain ⟨m, cl, x, ho, ht, hd, _⟩ := aft_ok h
 obtain ⟨q1, q2, _⟩ := takes_all ht hs
 exact does_all hN hd q1 q2 hc (fun e => by subst e; exact tab0 ho)
theorem run_all {N : Num} (hN : NumOk N) {c : List Cod} (hc : ∀ x ∈ c, J32 x.n) : ∀ (f i : Nat) (l l' : List Cel), runL N c f i l = .ok l' -> All l -> All l'
 | 0, _, _, _, h, hl => by cases h; exact hl
 | f + 1, i, l, l', h, hl => by
  simp only [runL] at h
  match hx : c[i]? with
  | none => simp only [hx] at h; cases h; exact hl
  | some x =>
   simp only [hx, bind, Except.bind] at h
   match ha : aft N x l with
   | .error e => rw [ha] at h; cases h
   | .ok l1 =>
    simp only [ha] at h
    exact run_all hN hc f _ _ _ h (aft_all hN ha hl (hc x (List.mem_of_getElem? hx)))
theorem run_len {N : Num} {c : List Cod} : ∀ (f i : Nat) (l l' : List Cel), runL N c f i l = .ok l' -> l.length <= 100 -> l'.length <= 100
 | 0, _, _, _, h, hl => by cases h; exact hl
 | f + 1, i, l, l', h, hl => by
  simp only [runL] at h
  match hx : c[i]? with
  | none => simp only [hx] at h; cases h; exact hl
  | some x =>
   simp only [hx, bind, Except.bind] at h
   match ha : aft N x l with
   | .error e => rw [ha] at h; cases h
   | .ok l1 =>
    simp only [ha] at h
    obtain ⟨_, _, _, _, _, _, q⟩ := aft_ok ha
    exact run_len f _ _ _ h q
theorem runF_all {N : Num} (hN : NumOk N) {c : List Cod} (hc : ∀ x ∈ c, J32 x.n) {ins : List Int} (hi : ∀ x ∈ ins, J32 x) {l : List Cel} (h : runF N c ins = .ok l) : All l /\ l.length <= 100 := by
 obtain ⟨s, h1, _, h3⟩ := run_ok h
 refine ⟨run_all hN hc _ _ _ _ h3 (fun a ha => ?_), run_len _ _ _ _ h3 (by simpa using (type_ok h1).1)⟩
 obtain ⟨x, hx, rfl⟩ := List.mem_map.1 ha
 exact gd_real (hi x hx)
theorem kinds_law {N : Num} (c : List Cod) (ins : List Int) : (∀ s, typeW N c ins.length = .ok s -> ∃ v, runF N c ins = .ok v /\ s.map (·.k) = v.map (·.k)) /\ ∀ e, typeW N c ins.length = .error e -> runF N c ins = .error e := by
 refine ⟨fun s h => ?_, fun e h => run_err.2 h⟩
 obtain ⟨l, h1, h2⟩ := sound h
 exact ⟨l, h1, h2.kinds⟩
end Go.Proofs.YtcjllibeaiofpaaGreatDoor.Mach
