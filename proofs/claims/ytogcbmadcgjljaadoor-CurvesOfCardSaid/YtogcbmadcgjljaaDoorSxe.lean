/-
  A frame of our own for walks, part e: numbers as trees over leaves with bounds; truth values; values.
-/
import Derived.Test.YtogcbmadcgjljaaDoorSxd
namespace Go.Proofs.YtogcbmadcgjljaaDoor.Sx
open Go Go.RowKit

/-! ### numbers -/
inductive X where
  | lit (n : Int)
  | v (n lo hi : Int)
  | add (a b : X)
  | sub (a b : X)
  | mul (a b : X)
  | quo (a b : X)
  | rem (a b : X)
  | div (a : X) (d : Int)
  | mod (a : X) (d : Int)
  | wrap (k : IntKind) (a : X)
  | bits (op : BinOp) (k : IntKind) (a b : X)
  | shv (op : BinOp) (k : IntKind) (a b : X)
  | max (a b : X)
  | min (a b : X)
  | ite (i : X) (j : Int) (a b : X)
  | tbl (l : List Int) (i : X)

def bitsI (op : BinOp) (k : IntKind) (x y : Int) : Int :=
  let a := BitVec.ofInt k.bits x
  let b := BitVec.ofInt k.bits y
  match op with
  | .and => k.wrap ((a &&& b).toNat : Nat)
  | .or => k.wrap ((a ||| b).toNat : Nat)
  | .xor => k.wrap ((a ^^^ b).toNat : Nat)
  | .andNot => k.wrap ((a &&& ~~~b).toNat : Nat)
  | _ => 0

def shI (op : BinOp) (k : IntKind) (x y : Int) : Int :=
  match op with
  | .shl => k.wrap (x * 2 ^ (Min.min y.toNat k.bits))
  | .shr => x.fdiv (2 ^ (Min.min y.toNat k.bits))
  | _ => 0

def X.ev : X → Int
  | .lit n => n
  | .v n _ _ => n
  | .add a b => a.ev + b.ev
  | .sub a b => a.ev - b.ev
  | .mul a b => a.ev * b.ev
  | .quo a b => a.ev.tdiv b.ev
  | .rem a b => a.ev.tmod b.ev
  | .div a d => a.ev / d
  | .mod a d => a.ev % d
  | .wrap k a => k.wrap a.ev
  | .bits op k a b => bitsI op k a.ev b.ev
  | .shv op k a b => shI op k a.ev b.ev
  | .max a b => Max.max a.ev b.ev
  | .min a b => Min.min a.ev b.ev
  | .ite i j a b => if i.ev = j then a.ev else b.ev
  | .tbl l i => l.getD i.ev.toNat 0

def X.ok : X → Prop
  | .lit _ => True
  | .v n lo hi => lo ≤ n ∧ n ≤ hi
  | .add a b => a.ok ∧ b.ok
  | .sub a b => a.ok ∧ b.ok
  | .mul a b => a.ok ∧ b.ok
  | .quo a b => a.ok ∧ b.ok
  | .rem a b => a.ok ∧ b.ok
  | .div a d => a.ok ∧ 0 < d
  | .mod a d => a.ok ∧ 0 < d
  | .wrap _ a => a.ok
  | .bits _ _ a b => a.ok ∧ b.ok
  | .shv _ _ a b => a.ok ∧ b.ok
  | .max a b => a.ok ∧ b.ok
  | .min a b => a.ok ∧ b.ok
  | .ite i _ a b => i.ok ∧ a.ok ∧ b.ok
  | .tbl _ i => i.ok

def mn (a b : Int) : Int := if a ≤ b then a else b
def mx (a b : Int) : Int := if a ≤ b then b else a
def ab (a : Int) : Int := if a < 0 then -a else a

def lows : List Int → Int
  | [] => 0
  | x :: r => mn x (lows r)
def tops : List Int → Int
  | [] => 0
  | x :: r => mx x (tops r)

theorem mn_le (a b : Int) : mn a b ≤ a ∧ mn a b ≤ b := by unfold mn; split <;> omega
theorem mx_le (a b : Int) : a ≤ mx a b ∧ b ≤ mx a b := by unfold mx; split <;> omega

theorem lows_tops : ∀ (l : List Int) (q : Nat), lows l ≤ l.getD q 0 ∧ l.getD q 0 ≤ tops l ∧ lows l ≤ 0 ∧ 0 ≤ tops l
  | [], q => by simp [lows, tops]
  | x :: r, q => by
    have h0 := lows_tops r 0
    have h1 := mn_le x (lows r)
    have h2 := mx_le x (tops r)
    simp only [lows, tops]
    cases q with
    | zero =>
      simp only [List.getD_cons_zero]
      omega
    | succ q =>
      have h := lows_tops r q
      simp only [List.getD_cons_succ]
      omega

def X.iv : X → Int × Int
  | .lit n => (n, n)
  | .v _ lo hi => (lo, hi)
  | .add a b => (a.iv.1 + b.iv.1, a.iv.2 + b.iv.2)
  | .sub a b => (a.iv.1 - b.iv.2, a.iv.2 - b.iv.1)
  | .mul a b =>
    let p := a.iv.1 * b.iv.1; let q := a.iv.1 * b.iv.2; let r := a.iv.2 * b.iv.1; let s := a.iv.2 * b.iv.2
    (mn (mn p q) (mn r s), mx (mx p q) (mx r s))
  | .quo a _ => (-(mx (ab a.iv.1) (ab a.iv.2)), mx (ab a.iv.1) (ab a.iv.2))
  | .rem a _ => (mn a.iv.1 0, mx a.iv.2 0)
  | .div a d => (a.iv.1 / d, a.iv.2 / d)
  | .mod a d => (0, if 0 ≤ a.iv.1 then mn (d - 1) a.iv.2 else d - 1)
  | .wrap k _ => (k.min, k.max)
  | .bits _ k _ _ => (mn k.min 0, mx k.max 0)
  | .shv _ k a _ => (mn k.min (mn a.iv.1 0), mx k.max (mx a.iv.2 0))
  | .max a b => (mx a.iv.1 b.iv.1, mx a.iv.2 b.iv.2)
  | .min a b => (mn a.iv.1 b.iv.1, mn a.iv.2 b.iv.2)
  | .ite _ _ a b => (mn a.iv.1 b.iv.1, mx a.iv.2 b.iv.2)
  | .tbl l _ => (lows l, tops l)

theorem wrap_id {k : IntKind} {n : Int} (h1 : k.min ≤ n) (h2 : n ≤ k.max) : k.wrap n = n := by
  cases k <;> simp [IntKind.wrap, IntKind.min, IntKind.max, IntKind.bits, IntKind.signed] at * <;> omega

theorem wrap_in (k : IntKind) (n : Int) : k.min ≤ k.wrap n ∧ k.wrap n ≤ k.max := by
  cases k <;> simp [IntKind.wrap, IntKind.min, IntKind.max, IntKind.bits, IntKind.signed] <;> omega

theorem mul_in {a b l1 h1 l2 h2 : Int} (ha : l1 ≤ a ∧ a ≤ h1) (hb : l2 ≤ b ∧ b ≤ h2) :
    mn (mn (l1 * l2) (l1 * h2)) (mn (h1 * l2) (h1 * h2)) ≤ a * b ∧ a * b ≤ mx (mx (l1 * l2) (l1 * h2)) (mx (h1 * l2) (h1 * h2)) := by
  obtain ⟨a1, a2⟩ := ha
  obtain ⟨b1, b2⟩ := hb
  -- a b lies between l1 b and h1 b; each of these between its own ends
  have key : ∀ x : Int, mn (x * l2) (x * h2) ≤ x * b ∧ x * b ≤ mx (x * l2) (x * h2) := by
    intro x
    rcases Int.le_total 0 x with hx | hx
    · have e1 : x * l2 ≤ x * b := Int.mul_le_mul_of_nonneg_left b1 hx
      have e2 : x * b ≤ x * h2 := Int.mul_le_mul_of_nonneg_left b2 hx
      unfold mn mx; split <;> omega
    · have e1 : x * b ≤ x * l2 := Int.mul_le_mul_of_nonpos_left hx b1
      have e2 : x * h2 ≤ x * b := Int.mul_le_mul_of_nonpos_left hx b2
      unfold mn mx; split <;> omega
  have k1 := key l1
  have k2 := key h1
  rcases Int.le_total 0 b with hb | hb
  · have e1 : l1 * b ≤ a * b := Int.mul_le_mul_of_nonneg_right a1 hb
    have e2 : a * b ≤ h1 * b := Int.mul_le_mul_of_nonneg_right a2 hb
    generalize l1 * l2 = p at *; generalize l1 * h2 = q at *; generalize h1 * l2 = r at *; generalize h1 * h2 = s at *
    generalize a * b = y at *; generalize l1 * b = y1 at *; generalize h1 * b = y2 at *
    unfold mn mx at *; (repeat' split at *) <;> omega
  · have e1 : a * b ≤ l1 * b := Int.mul_le_mul_of_nonpos_right a1 hb
    have e2 : h1 * b ≤ a * b := Int.mul_le_mul_of_nonpos_right a2 hb
    generalize l1 * l2 = p at *; generalize l1 * h2 = q at *; generalize h1 * l2 = r at *; generalize h1 * h2 = s at *
    generalize a * b = y at *; generalize l1 * b = y1 at *; generalize h1 * b = y2 at *
    unfold mn mx at *; (repeat' split at *) <;> omega

theorem ab_le {a l h : Int} (h1 : l ≤ a) (h2 : a ≤ h) : ab a ≤ mx (ab l) (ab h) := by
  unfold mx ab; repeat' split <;> omega

theorem natAbs_ab (a : Int) : (a.natAbs : Int) = ab a := by unfold ab; omega

theorem tdiv_in {a b l h : Int} (h1 : l ≤ a) (h2 : a ≤ h) : -(mx (ab l) (ab h)) ≤ a.tdiv b ∧ a.tdiv b ≤ mx (ab l) (ab h) := by
  have e := ab_le h1 h2
  rw [← natAbs_ab] at e
  have : (a.tdiv b).natAbs ≤ a.natAbs := by rw [Int.natAbs_tdiv]; exact Nat.div_le_self _ _
  omega

theorem bitsI_in (op : BinOp) (k : IntKind) (x y : Int) : mn k.min 0 ≤ bitsI op k x y ∧ bitsI op k x y ≤ mx k.max 0 := by
  have h := wrap_in k
  unfold bitsI
  have key : ∀ z : Int, (z = 0 ∨ ∃ n, z = k.wrap n) → mn k.min 0 ≤ z ∧ z ≤ mx k.max 0 := by
    rintro z (rfl | ⟨n, rfl⟩)
    · unfold mn mx; constructor <;> split <;> omega
    · have := h n; unfold mn mx; constructor <;> split <;> omega
  apply key
  cases op <;> first | exact Or.inr ⟨_, rfl⟩ | exact Or.inl rfl


theorem shI_in (op : BinOp) (k : IntKind) {x l h : Int} (y : Int) (h1 : l ≤ x) (h2 : x ≤ h) : mn k.min (mn l 0) ≤ shI op k x y ∧ shI op k x y ≤ mx k.max (mx h 0) := by
  have hw := wrap_in k
  have key : ∀ z : Int, (z = 0 ∨ (∃ n, z = k.wrap n) ∨ (mn l 0 ≤ z ∧ z ≤ mx h 0)) → mn k.min (mn l 0) ≤ z ∧ z ≤ mx k.max (mx h 0) := by
    rintro z (rfl | ⟨n, rfl⟩ | h3)
    · unfold mn mx; constructor <;> (repeat' split) <;> omega
    · have := hw n; unfold mn mx; constructor <;> (repeat' split) <;> omega
    · unfold mn mx at *; constructor <;> (repeat' split at *) <;> omega
  apply key
  cases op <;> first | exact Or.inl rfl | exact Or.inr (Or.inl ⟨_, rfl⟩) | skip
  refine Or.inr (Or.inr ?_)
  simp only [shI]
  have hp : (0 : Int) < 2 ^ (Min.min y.toNat k.bits) := Int.pow_pos (by decide)
  generalize (2 : Int) ^ (Min.min y.toNat k.bits) = p at *
  rw [Int.fdiv_eq_ediv_of_nonneg _ (Int.le_of_lt hp)]
  have e1 := Int.mul_ediv_add_emod x p
  have e2 := Int.emod_nonneg x (Int.ne_of_gt hp)
  have e3 := Int.emod_lt_of_pos x hp
  rcases Int.le_total 0 x with hx | hx
  · have a1 : 0 ≤ x / p := Int.ediv_nonneg hx (Int.le_of_lt hp)
    have a2 : x / p ≤ x := Int.ediv_le_self _ hx
    unfold mn mx; constructor <;> split <;> omega
  · have a1 : x / p ≤ 0 := by
      have : x / p < 1 := Int.ediv_lt_of_lt_mul hp (by omega)
      omega
    have a2 : x ≤ x / p := (Int.le_ediv_iff_mul_le hp).2 (by
      have := Int.mul_le_mul_of_nonpos_left hx (show (1 : Int) ≤ p by omega)
      omega)
    unfold mn mx; constructor <;> split <;> omega

theorem tmod_in {a b l h : Int} (h1 : l ≤ a) (h2 : a ≤ h) : mn l 0 ≤ a.tmod b ∧ a.tmod b ≤ mx h 0 := by
  have e : (a.tmod b).natAbs ≤ a.natAbs := by rw [Int.natAbs_tmod]; exact Nat.mod_le _ _
  rcases Int.le_total 0 a with ha | ha
  · have := Int.tmod_nonneg b ha
    unfold mn mx; constructor <;> split <;> omega
  · have h3 := Int.tmod_nonneg b (show 0 ≤ -a by omega)
    rw [Int.neg_tmod] at h3
    unfold mn mx; constructor <;> split <;> omega

theorem X.iv_ok : ∀ (x : X), x.ok → x.iv.1 ≤ x.ev ∧ x.ev ≤ x.iv.2
  | .lit n, _ => ⟨Int.le_refl _, Int.le_refl _⟩
  | .v n lo hi, h => h
  | .add a b, h => by
    have h1 := X.iv_ok a h.1; have h2 := X.iv_ok b h.2
    simp only [X.iv, X.ev]; omega
  | .sub a b, h => by
    have h1 := X.iv_ok a h.1; have h2 := X.iv_ok b h.2
    simp only [X.iv, X.ev]; omega
  | .mul a b, h => mul_in (X.iv_ok a h.1) (X.iv_ok b h.2)
  | .quo a b, h => by
    have h1 := X.iv_ok a h.1
    exact tdiv_in h1.1 h1.2
  | .rem a b, h => by
    have h1 := X.iv_ok a h.1
    exact tmod_in h1.1 h1.2
  | .div a d, h => by
    have h1 := X.iv_ok a h.1
    exact ⟨Int.ediv_le_ediv h.2 h1.1, Int.ediv_le_ediv h.2 h1.2⟩
  | .mod a d, h => by
    have h1 := X.iv_ok a h.1
    have e2 := Int.emod_nonneg a.ev (Int.ne_of_gt h.2)
    have e3 := Int.emod_lt_of_pos a.ev h.2
    simp only [X.iv, X.ev]
    refine ⟨e2, ?_⟩
    split
    · have : a.ev % d ≤ a.ev := by
        have e1 := Int.mul_ediv_add_emod a.ev d
        have e4 : 0 ≤ d * (a.ev / d) := Int.mul_nonneg (Int.le_of_lt h.2) (Int.ediv_nonneg (by omega) (Int.le_of_lt h.2))
        omega
      unfold mn; split <;> omega
    · omega
  | .wrap k a, _ => wrap_in k _
  | .bits op k a b, _ => bitsI_in op k _ _
  | .shv op k a b, h => by
    have h1 := X.iv_ok a h.1
    exact shI_in op k _ h1.1 h1.2
  | .max a b, h => by
    have h1 := X.iv_ok a h.1; have h2 := X.iv_ok b h.2
    simp only [X.iv, X.ev]; unfold mx; constructor <;> split <;> omega
  | .min a b, h => by
    have h1 := X.iv_ok a h.1; have h2 := X.iv_ok b h.2
    simp only [X.iv, X.ev]; unfold mn; constructor <;> split <;> omega
  | .ite i j a b, h => by
    have h1 := X.iv_ok a h.2.1; have h2 := X.iv_ok b h.2.2
    simp only [X.iv, X.ev]; unfold mn mx; constructor <;> (repeat' split) <;> omega
  | .tbl l i, _ => ⟨(lows_tops l _).1, (lows_tops l _).2.1⟩

/-! ### made short -/
def fits (k : IntKind) (p : Int × Int) : Bool := decide (k.min ≤ p.1) && decide (p.2 ≤ k.max)

def mkWrap (k : IntKind) (x : X) : X :=
  match x with
  | .lit n => .lit (k.wrap n)
  | x => if fits k x.iv then x else .wrap k x

theorem mkWrap_ok {k : IntKind} {x : X} (h : x.ok) : (mkWrap k x).ok ∧ (mkWrap k x).ev = k.wrap x.ev := by
  unfold mkWrap
  split
  · exact ⟨trivial, rfl⟩
  · split
    · rename_i hf
      simp only [fits, Bool.and_eq_true, decide_eq_true_eq] at hf
      have := X.iv_ok x h
      exact ⟨h, (wrap_id (by omega) (by omega)).symm⟩
    · exact ⟨h, rfl⟩

def mkAdd (a b : X) : X :=
  match a, b with
  | .lit m, .lit n => .lit (m + n)
  | a, .lit 0 => a
  | .lit 0, b => b
  | a, b => .add a b

theorem mkAdd_ok {a b : X} (ha : a.ok) (hb : b.ok) : (mkAdd a b).ok ∧ (mkAdd a b).ev = a.ev + b.ev := by
  unfold mkAdd
  split
  · exact ⟨trivial, rfl⟩
  · exact ⟨ha, by simp [X.ev]⟩
  · exact ⟨hb, by simp [X.ev]⟩
  · exact ⟨⟨ha, hb⟩, rfl⟩

def mkSub (a b : X) : X :=
  match a, b with
  | .lit m, .lit n => .lit (m - n)
  | a, .lit 0 => a
  | a, b => .sub a b

theorem mkSub_ok {a b : X} (ha : a.ok) (hb : b.ok) : (mkSub a b).ok ∧ (mkSub a b).ev = a.ev - b.ev := by
  unfold mkSub
  split
  · exact ⟨trivial, rfl⟩
  · exact ⟨ha, by simp [X.ev]⟩
  · exact ⟨⟨ha, hb⟩, rfl⟩

def mkMul (a b : X) : X :=
  match a, b with
  | .lit m, .lit n => .lit (m * n)
  | a, .lit n => if n = 0 then .lit 0 else if n = 1 then a else .mul a (.lit n)
  | .lit m, b => if m = 0 then .lit 0 else if m = 1 then b else .mul (.lit m) b
  | a, b => .mul a b

theorem mkMul_ok {a b : X} (ha : a.ok) (hb : b.ok) : (mkMul a b).ok ∧ (mkMul a b).ev = a.ev * b.ev := by
  unfold mkMul
  split
  · exact ⟨trivial, rfl⟩
  · split
    · rename_i h; subst h; exact ⟨trivial, by simp [X.ev]⟩
    · split
      · rename_i h; subst h; exact ⟨ha, by simp [X.ev]⟩
      · exact ⟨⟨ha, hb⟩, rfl⟩
  · split
    · rename_i h; subst h; exact ⟨trivial, by simp [X.ev]⟩
    · split
      · rename_i h; subst h; exact ⟨hb, by simp [X.ev]⟩
      · exact ⟨⟨ha, hb⟩, rfl⟩
  · exact ⟨⟨ha, hb⟩, rfl⟩

/-- the quotient cut towards 0. -/
def mkQuo (a b : X) : X :=
  match a, b with
  | .lit m, .lit n => .lit (m.tdiv n)
  | a, .lit n => if 0 < n && decide (0 ≤ a.iv.1) then .div a n else .quo a (.lit n)
  | a, b => .quo a b

theorem mkQuo_ok {a b : X} (ha : a.ok) (hb : b.ok) : (mkQuo a b).ok ∧ (mkQuo a b).ev = a.ev.tdiv b.ev := by
  unfold mkQuo
  split
  · exact ⟨trivial, rfl⟩
  · split
    · rename_i h
      simp only [Bool.and_eq_true, decide_eq_true_eq] at h
      have := X.iv_ok a ha
      exact ⟨⟨ha, h.1⟩, (Int.tdiv_eq_ediv_of_nonneg (by omega)).symm⟩
    · exact ⟨⟨ha, hb⟩, rfl⟩
  · exact ⟨⟨ha, hb⟩, rfl⟩

def mkRem (a b : X) : X :=
  match a, b with
  | .lit m, .lit n => .lit (m.tmod n)
  | a, .lit n => if 0 < n && decide (0 ≤ a.iv.1) then (if a.iv.2 < n then a else .mod a n) else .rem a (.lit n)
  | a, b => .rem a b

theorem mkRem_ok {a b : X} (ha : a.ok) (hb : b.ok) : (mkRem a b).ok ∧ (mkRem a b).ev = a.ev.tmod b.ev := by
  unfold mkRem
  split
  · exact ⟨trivial, rfl⟩
  · split
    · rename_i h
      simp only [Bool.and_eq_true, decide_eq_true_eq] at h
      have := X.iv_ok a ha
      split
      · rename_i h2
        refine ⟨ha, ?_⟩
        simp only [X.ev]
        rw [Int.tmod_eq_emod_of_nonneg (by omega), Int.emod_eq_of_lt (by omega) (by omega)]
      · exact ⟨⟨ha, h.1⟩, (Int.tmod_eq_emod_of_nonneg (by omega)).symm⟩
    · exact ⟨⟨ha, hb⟩, rfl⟩
  · exact ⟨⟨ha, hb⟩, rfl⟩

/-- shifted down by so many bits. -/
def mkShr (a : X) (n : Nat) : X :=
  match a with
  | .lit m => .lit (m / 2 ^ n)
  | a => if n = 0 then a else .div a (2 ^ n)

theorem two_pow_pos' (n : Nat) : (0 : Int) < 2 ^ n := Int.pow_pos (by decide)

theorem mkShr_ok {a : X} {n : Nat} (ha : a.ok) : (mkShr a n).ok ∧ (mkShr a n).ev = a.ev.fdiv (2 ^ n) := by
  have hp := two_pow_pos' n
  unfold mkShr
  rw [Int.fdiv_eq_ediv_of_nonneg _ (Int.le_of_lt hp)]
  split
  · exact ⟨trivial, rfl⟩
  · split
    · rename_i h; subst h; exact ⟨ha, by simp⟩
    · exact ⟨⟨ha, hp⟩, rfl⟩

/-- a mask of the lowest bits. -/
def isMask (m : Int) : Bool := decide (0 ≤ m) && (m + 1 == 2 ^ (m + 1).toNat.log2)

def mkBits (op : BinOp) (k : IntKind) (a b : X) : X :=
  match op, a, b with
  | op, .lit m, .lit n => .lit (bitsI op k m n)
  | .and, a, .lit n => if isMask n && decide (0 ≤ a.iv.1) && fits k a.iv && decide (n ≤ k.max) then mkRem a (.lit (n + 1)) else .bits .and k a (.lit n)
  | .and, .lit n, b => if isMask n && decide (0 ≤ b.iv.1) && fits k b.iv && decide (n ≤ k.max) then mkRem b (.lit (n + 1)) else .bits .and k (.lit n) b
  | op, a, b => .bits op k a b

theorem and_mask {k : IntKind} {x n : Int} (h0 : 0 ≤ x) (h1 : x ≤ k.max) (hm : isMask n = true) (hn : n ≤ k.max) : bitsI .and k x n = x.tmod (n + 1) := by
  simp only [isMask, Bool.and_eq_true, decide_eq_true_eq, beq_iff_eq] at hm
  obtain ⟨hn0, hp⟩ := hm
  generalize hj : (n + 1).toNat.log2 = j at hp
  obtain ⟨x, rfl⟩ := Int.eq_ofNat_of_zero_le h0
  have hn' : n = ((2 ^ j - 1 : Nat) : Int) := by
    have : (2 : Int) ^ j = ((2 ^ j : Nat) : Int) := by simp
    have hpos : 0 < 2 ^ j := Nat.two_pow_pos j
    omega
  subst hn'
  have hpos : 0 < 2 ^ j := Nat.two_pow_pos j
  have e1 : (((2 ^ j - 1 : Nat) : Int) + 1) = ((2 ^ j : Nat) : Int) := by omega
  rw [Int.tmod_eq_emod_of_nonneg (by omega), e1]
  have hxm : x < 2 ^ k.bits := by
    cases k <;> simp [IntKind.max, IntKind.bits, IntKind.signed] at * <;> omega
  have hnm : 2 ^ j - 1 < 2 ^ k.bits := by
    cases k <;> simp [IntKind.max, IntKind.bits, IntKind.signed] at * <;> omega
  simp only [bitsI]
  have e2 : (BitVec.ofInt k.bits (x : Int) &&& BitVec.ofInt k.bits ((2 ^ j - 1 : Nat) : Int)).toNat = x % 2 ^ j := by
    simp only [BitVec.toNat_and, BitVec.ofInt_natCast, BitVec.toNat_ofNat, Nat.mod_eq_of_lt hxm, Nat.mod_eq_of_lt hnm]
    rw [Nat.and_two_pow_sub_one_eq_mod]
  rw [e2]
  have hle : x % 2 ^ j ≤ x := Nat.mod_le _ _
  have hk : k.min ≤ 0 := by cases k <;> simp [IntKind.min, IntKind.bits, IntKind.signed]
  rw [wrap_id (by omega) (by omega)]
  simp

theorem bitsI_and_comm (k : IntKind) (x y : Int) : bitsI .and k x y = bitsI .and k y x := by
  simp only [bitsI, BitVec.and_comm]

theorem mkBits_ok {op : BinOp} {k : IntKind} {a b : X} (ha : a.ok) (hb : b.ok) : (mkBits op k a b).ok ∧ (mkBits op k a b).ev = bitsI op k a.ev b.ev := by
  unfold mkBits
  split
  · exact ⟨trivial, rfl⟩
  · split
    · rename_i h
      simp only [Bool.and_eq_true, decide_eq_true_eq, fits] at h
      have := X.iv_ok a ha
      refine ⟨(mkRem_ok (b := .lit _) ha trivial).1, (mkRem_ok (b := .lit _) ha trivial).2.trans ?_⟩
      exact (and_mask (by omega) (by omega) h.1.1.1 h.2).symm
    · exact ⟨⟨ha, hb⟩, rfl⟩
  · split
    · rename_i h
      simp only [Bool.and_eq_true, decide_eq_true_eq, fits] at h
      have := X.iv_ok b hb
      refine ⟨(mkRem_ok (b := .lit _) hb trivial).1, (mkRem_ok (b := .lit _) hb trivial).2.trans ?_⟩
      rw [bitsI_and_comm]
      exact (and_mask (by omega) (by omega) h.1.1.1 h.2).symm
    · exact ⟨⟨ha, hb⟩, rfl⟩
  · exact ⟨⟨ha, hb⟩, rfl⟩

/-- all bits turned. -/
def mkNot (k : IntKind) (a : X) : X :=
  if fits k a.iv then (if k.signed then mkSub (.lit (-1)) a else mkSub (.lit k.max) a) else .bits .xor k (.lit (if k.signed then -1 else k.max)) a

theorem xor_ones {k : IntKind} {x : Int} (h1 : k.min ≤ x) (h2 : x ≤ k.max) : bitsI .xor k (if k.signed then -1 else k.max) x = if k.signed then -1 - x else k.max - x := by
  have key : ∀ (n : Nat) (c : Int), BitVec.ofInt n c = BitVec.allOnes n → (BitVec.ofInt n c ^^^ BitVec.ofInt n x).toNat = 2 ^ n - 1 - (x % (2 ^ n : Int)).toNat := by
    intro n c hc
    rw [hc, BitVec.allOnes_xor, BitVec.toNat_not]
    simp [BitVec.toNat_ofInt]
  simp only [bitsI]
  cases k <;> simp only [IntKind.signed, if_true, Bool.false_eq_true, if_false] <;>
    rw [key _ _ (by simp only [IntKind.bits, IntKind.max, IntKind.signed]; decide)] <;>
    simp [IntKind.wrap, IntKind.min, IntKind.max, IntKind.bits, IntKind.signed] at * <;> omega

theorem mkNot_ok {k : IntKind} {a : X} (ha : a.ok) : (mkNot k a).ok ∧ (mkNot k a).ev = bitsI .xor k (if k.signed then -1 else k.max) a.ev := by
  unfold mkNot
  split
  · rename_i h
    simp only [Bool.and_eq_true, decide_eq_true_eq, fits] at h
    have := X.iv_ok a ha
    rw [xor_ones (by omega) (by omega)]
    split
    · exact mkSub_ok (a := .lit (-1)) trivial ha
    · exact mkSub_ok (a := .lit k.max) trivial ha
  · exact ⟨⟨trivial, ha⟩, rfl⟩

/-! ### truth values -/
inductive B where
  | lit (b : Bool)
  | v (b : Bool)
  | lt (a b : X)
  | le (a b : X)
  | eq (a b : X)
  | not (b : B)
  | and (a b : B)
  | beq (a b : B)

def B.ev : B → Bool
  | .lit b => b
  | .v b => b
  | .lt a b => decide (a.ev < b.ev)
  | .le a b => decide (a.ev ≤ b.ev)
  | .eq a b => a.ev == b.ev
  | .not b => !b.ev
  | .and a b => a.ev && b.ev
  | .beq a b => a.ev == b.ev

def B.ok : B → Prop
  | .lit _ => True
  | .v _ => True
  | .lt a b => a.ok ∧ b.ok
  | .le a b => a.ok ∧ b.ok
  | .eq a b => a.ok ∧ b.ok
  | .not b => b.ok
  | .and a b => a.ok ∧ b.ok
  | .beq a b => a.ok ∧ b.ok

/-- the same, as a sentence. -/
def B.pr : B → Prop
  | .lit b => b = true
  | .v b => b = true
  | .lt a b => a.ev < b.ev
  | .le a b => a.ev ≤ b.ev
  | .eq a b => a.ev = b.ev
  | .not b => ¬ b.pr
  | .and a b => a.pr ∧ b.pr
  | .beq a b => (a.pr ↔ b.pr)

theorem B.pr_ev : ∀ (b : B), b.pr ↔ b.ev = true
  | .lit _ => Iff.rfl
  | .v _ => Iff.rfl
  | .lt a b => by simp [B.pr, B.ev]
  | .le a b => by simp [B.pr, B.ev]
  | .eq a b => by simp [B.pr, B.ev]
  | .not b => by simp [B.pr, B.ev, B.pr_ev b]
  | .and a b => by simp [B.pr, B.ev, B.pr_ev a, B.pr_ev b]
  | .beq a b => by
    simp only [B.pr, B.ev, B.pr_ev a, B.pr_ev b]
    cases a.ev <;> cases b.ev <;> simp

def mkLt (a b : X) : B := if a.iv.2 < b.iv.1 then .lit true else if b.iv.2 ≤ a.iv.1 then .lit false else .lt a b
def mkLe (a b : X) : B := if a.iv.2 ≤ b.iv.1 then .lit true else if b.iv.2 < a.iv.1 then .lit false else .le a b
def mkEq (a b : X) : B :=
  if a.iv.2 < b.iv.1 || b.iv.2 < a.iv.1 then .lit false
  else match a, b with
    | .lit m, .lit n => .lit (m == n)
    | a, b => .eq a b
def mkNotB : B → B
  | .lit b => .lit (!b)
  | .not b => b
  | b => .not b
def mkAndB : B → B → B
  | .lit true, b => b
  | .lit false, _ => .lit false
  | b, .lit true => b
  | a, b => .and a b
def mkBeq : B → B → B
  | .lit a, .lit b => .lit (a == b)
  | .lit true, b => b
  | b, .lit true => b
  | .lit false, b => mkNotB b
  | b, .lit false => mkNotB b
  | a, b => .beq a b

theorem mkLt_ok {a b : X} (ha : a.ok) (hb : b.ok) : (mkLt a b).ok ∧ (mkLt a b).ev = decide (a.ev < b.ev) := by
  have h1 := X.iv_ok a ha; have h2 := X.iv_ok b hb
  unfold mkLt
  split
  · exact ⟨trivial, (decide_eq_true (by omega)).symm⟩
  · split
    · exact ⟨trivial, (decide_eq_false (by omega)).symm⟩
    · exact ⟨⟨ha, hb⟩, rfl⟩

theorem mkLe_ok {a b : X} (ha : a.ok) (hb : b.ok) : (mkLe a b).ok ∧ (mkLe a b).ev = decide (a.ev ≤ b.ev) := by
  have h1 := X.iv_ok a ha; have h2 := X.iv_ok b hb
  unfold mkLe
  split
  · exact ⟨trivial, (decide_eq_true (by omega)).symm⟩
  · split
    · exact ⟨trivial, (decide_eq_false (by omega)).symm⟩
    · exact ⟨⟨ha, hb⟩, rfl⟩

theorem mkEq_ok {a b : X} (ha : a.ok) (hb : b.ok) : (mkEq a b).ok ∧ (mkEq a b).ev = (a.ev == b.ev) := by
  have h1 := X.iv_ok a ha; have h2 := X.iv_ok b hb
  unfold mkEq
  split
  · rename_i h
    simp only [Bool.or_eq_true, decide_eq_true_eq] at h
    refine ⟨trivial, ?_⟩
    symm
    simp only [B.ev, beq_eq_false_iff_ne]
    omega
  · split
    · exact ⟨trivial, rfl⟩
    · exact ⟨⟨ha, hb⟩, rfl⟩

theorem mkNotB_ok {b : B} (h : b.ok) : (mkNotB b).ok ∧ (mkNotB b).ev = !b.ev := by
  unfold mkNotB; split <;> simp_all [B.ok, B.ev]

theorem mkAndB_ok {a b : B} (ha : a.ok) (hb : b.ok) : (mkAndB a b).ok ∧ (mkAndB a b).ev = (a.ev && b.ev) := by
  unfold mkAndB; split <;> simp_all [B.ok, B.ev]

theorem mkBeq_ok {a b : B} (ha : a.ok) (hb : b.ok) : (mkBeq a b).ok ∧ (mkBeq a b).ev = (a.ev == b.ev) := by
  unfold mkBeq
  split
  · exact ⟨trivial, rfl⟩
  · exact ⟨hb, by simp [B.ev]⟩
  · exact ⟨ha, by simp [B.ev]⟩
  · have := mkNotB_ok hb; exact ⟨this.1, by rw [this.2]; simp [B.ev]⟩
  · have := mkNotB_ok ha; exact ⟨this.1, by rw [this.2]; simp [B.ev]⟩
  · exact ⟨⟨ha, hb⟩, rfl⟩


/-! ### one of several, by an index -/
def mkIte (i : X) (j : Int) (a b : X) : X :=
  match mkEq i (.lit j) with
  | .lit true => a
  | .lit false => b
  | _ => .ite i j a b

theorem mkIte_ok {i a b : X} (j : Int) (hi : i.ok) (ha : a.ok) (hb : b.ok) : (mkIte i j a b).ok ∧ (mkIte i j a b).ev = if i.ev = j then a.ev else b.ev := by
  obtain ⟨_, h⟩ := mkEq_ok (a := i) (b := .lit j) hi trivial
  unfold mkIte
  split
  · rename_i e
    rw [e] at h
    have : i.ev = j := by simpa [B.ev, X.ev] using h.symm
    exact ⟨ha, by rw [if_pos this]⟩
  · rename_i e
    rw [e] at h
    have : ¬ i.ev = j := by simpa [B.ev, X.ev] using h.symm
    exact ⟨hb, by rw [if_neg this]⟩
  · exact ⟨⟨hi, ha, hb⟩, rfl⟩

def selX (i : X) : Nat → List X → X
  | _, [] => .lit 0
  | _, [x] => x
  | k, x :: y :: r => mkIte i k x (selX i (k + 1) (y :: r))

theorem selX_ok {i : X} (hi : i.ok) : ∀ (xs : List X) (k q : Nat), (∀ x ∈ xs, x.ok) → q < xs.length → i.ev = ((k + q : Nat) : Int) → (selX i k xs).ok ∧ ∀ x, xs[q]? = some x → (selX i k xs).ev = x.ev
  | [], k, q, _, h, _ => by simp at h
  | [x], k, q, hx, h, _ => by
    have : q = 0 := by simpa using h
    subst this
    exact ⟨hx x (by simp), fun y hy => by simp at hy; subst hy; rfl⟩
  | x :: y :: r, k, q, hx, h, he => by
    have hok : (selX i (k + 1) (y :: r)).ok := by
      cases q with
      | zero =>
        exact selX_okay hi (y :: r) (k + 1) (by simp) fun z hz => hx z (by simp [hz])
      | succ q => exact (selX_ok hi (y :: r) (k + 1) q (fun z hz => hx z (by simp [hz])) (by simpa using h) (by rw [he]; congr 1; omega)).1
    obtain ⟨h1, h2⟩ := mkIte_ok (k : Int) hi (hx x (by simp)) hok
    refine ⟨h1, fun z hz => ?_⟩
    simp only [selX, h2]
    cases q with
    | zero =>
      rw [if_pos (by rw [he]; simp)]
      simp at hz; subst hz; rfl
    | succ q =>
      rw [if_neg (by rw [he]; omega)]
      exact (selX_ok hi (y :: r) (k + 1) q (fun z hz => hx z (by simp [hz])) (by simpa using h) (by rw [he]; congr 1; omega)).2 z (by simpa using hz)
where
  selX_okay {i : X} (hi : i.ok) : ∀ (xs : List X) (k : Nat), xs ≠ [] → (∀ x ∈ xs, x.ok) → (selX i k xs).ok
  | [], _, h, _ => absurd rfl h
  | [x], _, _, hx => hx x (by simp)
  | x :: y :: r, k, _, hx => (mkIte_ok (k : Int) hi (hx x (by simp)) (selX_okay hi (y :: r) (k + 1) (by simp) fun z hz => hx z (by simp [hz]))).1

/-! ### one of several, by a table where all are known -/
def litsX : List X → Option (List Int)
  | [] => some []
  | .lit n :: r => (litsX r).map (n :: ·)
  | _ :: _ => none

theorem litsX_ok : ∀ (xs : List X) {l : List Int}, litsX xs = some l → l.length = xs.length ∧ ∀ q x, xs[q]? = some x → l.getD q 0 = x.ev
  | [], l, h => by cases h; exact ⟨rfl, fun q x hx => by simp at hx⟩
  | .lit n :: r, l, h => by
    simp only [litsX, Option.map_eq_some_iff] at h
    obtain ⟨m, hm, rfl⟩ := h
    obtain ⟨h1, h2⟩ := litsX_ok r hm
    refine ⟨by simp [h1], fun q x hx => ?_⟩
    cases q with
    | zero => simp at hx; subst hx; rfl
    | succ q => simpa using h2 q x (by simpa using hx)
  | .v .. :: _, l, h => by cases h
  | .add .. :: _, l, h => by cases h
  | .sub .. :: _, l, h => by cases h
  | .mul .. :: _, l, h => by cases h
  | .quo .. :: _, l, h => by cases h
  | .rem .. :: _, l, h => by cases h
  | .div .. :: _, l, h => by cases h
  | .mod .. :: _, l, h => by cases h
  | .wrap .. :: _, l, h => by cases h
  | .bits .. :: _, l, h => by cases h
  | .shv .. :: _, l, h => by cases h
  | .max .. :: _, l, h => by cases h
  | .min .. :: _, l, h => by cases h
  | .ite .. :: _, l, h => by cases h
  | .tbl .. :: _, l, h => by cases h

def selB (i : X) (xs : List X) : X :=
  match litsX xs with
  | some l => if 4 < l.length then .tbl l i else selX i 0 xs
  | none => selX i 0 xs

theorem selB_ok {i : X} (hi : i.ok) (xs : List X) (q : Nat) (hx : ∀ x ∈ xs, x.ok) (hq : q < xs.length) (he : i.ev = (q : Int)) : (selB i xs).ok ∧ ∀ x, xs[q]? = some x → (selB i xs).ev = x.ev := by
  unfold selB
  split
  · rename_i l hl
    split
    · refine ⟨hi, fun x h => ?_⟩
      have := (litsX_ok xs hl).2 q x h
      simp only [X.ev, he, Int.toNat_natCast]
      exact this
    · exact selX_ok hi xs 0 q hx hq (by rw [he]; simp)
  · exact selX_ok hi xs 0 q hx hq (by rw [he]; simp)

end Go.Proofs.YtogcbmadcgjljaaDoor.Sx
