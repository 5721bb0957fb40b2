/-
  Contracts of functions, by their words. Printed by a program of our own.
-/
import Derived.Test.YtndfeckmfhiniaaGreatDoorSxo
import Derived.KernelRfl
set_option maxRecDepth 1000000
set_option linter.all false
namespace Go.Proofs.YtndfeckmfhiniaaGreatDoor.Sx
open Go Go.RowKit

def u64 : Sh := .int .u64 0 18446744073709551615
def u32 : Sh := .int .u32 0 4294967295
def u8 : Sh := .int .u8 0 255
def i64 : Sh := .int .i64 (-9223372036854775808) 9223372036854775807
def i32 : Sh := .int .i32 (-2147483648) 2147483647
def ir (lo hi : Int) : Sh := .int .i64 lo hi
def len8tab : List Int := (List.range 256).map fun i => if i = 0 then 0 else (Nat.log2 i : Int) + 1
def dg12 : List Sh := List.replicate 12 (ir 0 65535)
def numS : ShA := .agg (.bool :: dg12)
/-- a number of digits to the base 65536, the lowest first. -/
def vd : List Int → Int
  | [] => 0
  | d :: r => d + 65536 * vd r
def sv : List Int → Int
  | m :: ds => if m = 1 then - vd ds else vd ds
  | [] => 0
/-- no digit but the i-th is below 0. -/
def nnb : Int → List Int → Prop
  | _, [] => True
  | i, d :: r => (i ≠ 0 → 0 ≤ d) ∧ nnb (i - 1) r
def top12 : Int := 6277101735386680763835789423207666416102355444464034512896
def top8 : Int := 340282366920938463463374607431768211456
def dA (fs : List Int) : List Int := (fs.drop 1).take 12
def dB (fs : List Int) : List Int := fs.drop 14
def w128 (h l : Int) : Int := h * 18446744073709551616 + l

def half128 : Int := 170141183460469231731687303715884105728
/-- is a number a wide? -/
def inW (v : Int) : Prop := -half128 ≤ v ∧ v < half128
/-- a number told as a wide, or refused as too great. -/
def tellW (v h l e : Int) : Prop := (inW v → e = 0 ∧ w128 h l = v) ∧ (¬ inW v → e = 11 ∧ h = 0 ∧ l = 0)
def wv (a b c : Int) : Int := a + b * 18446744073709551616 + c * 340282366920938463463374607431768211456
/-- q is nearest to a by d. -/
def isNear (a d q : Int) : Prop := 2 * d * q ≤ 2 * a + d ∧ 2 * a + d < 2 * d * (q + 1)
/-- a digit of a quotient is guessed from above. -/
def dvInv (u m n v q s : Int) : Prop := q * m + s = u ∧ s < 4294967296 ∧ u * 4294967296 + v < (q + 1) * (m * 4294967296 + n)
def isFloor (a d q r : Int) : Prop := a = q * d + r ∧ 0 ≤ r ∧ r < d
def isI64 (v : Int) : Prop := -9223372036854775808 ≤ v ∧ v ≤ 9223372036854775807
def isInt (v n t : Int) : Prop := (isI64 v → t = 1 ∧ n = v) ∧ (¬ isI64 v → t = 0 ∧ n = 0)
def nearest (a b q : Int) : Prop := (0 < b → isNear a b q) ∧ (b < 0 → isNear (-a) (-b) q)
def divInv (a d : Int) (i q r : Int) : Prop := q * d + r = a / 2 ^ (i + 1).toNat ∧ 0 ≤ r ∧ r < d ∧ 0 ≤ q

/-- the greatest number of so many bits; 0: there are no such. -/
def gr (b : Int) : Int := if 1 ≤ b ∧ b ≤ 32 then 2 ^ b.toNat - 1 else 0
def clamp32 (x : Int) : Int := max (-2147483648) (min 2147483647 x)
def big : Int := 392318858461667547739736838950479151006397215279002157056
/-- where a number is led. -/
def ledTo (raw bits lo hi h l d e : Int) : Prop := (gr bits ≠ 0 ∧ raw ≤ gr bits → e = 0 ∧ d = gr bits ∧ w128 h l = lo * gr bits + raw * (hi - lo)) ∧ (¬ (gr bits ≠ 0 ∧ raw ≤ gr bits) → e = 1 ∧ h = 0 ∧ l = 0 ∧ d = 0)
def rawOf (v bits lo hi n e : Int) : Prop := (gr bits = 0 → n = 0 ∧ e = 1) ∧ (gr bits ≠ 0 ∧ lo = hi → n = 0 ∧ e = 12) ∧ (gr bits ≠ 0 ∧ lo ≠ hi → e = 0 ∧ ∃ x, nearest ((v - lo) * gr bits) (hi - lo) x ∧ n = max 0 (min (gr bits) x))
def nearTo (h l d v : Int) : Prop := (d < 1 → v = 0) ∧ (1 ≤ d → ∃ x, isNear (w128 h l) d x ∧ v = clamp32 x)

def sml (w : Int) : Prop := -73786976294838206464 ≤ w ∧ w ≤ 73786976294838206464
/-- may a point be? -/
def may20 (X xd Y yd : Int) : Prop := xd = yd ∧ 1 ≤ xd ∧ xd ≤ 4294967295 ∧ sml X ∧ sml Y
def linN (a c e X Y D : Int) : Int := X * a + Y * c + D * 65536 * e
def inFar (parts v : Int) : Prop := -(1048576 * parts) ≤ v ∧ v ≤ 1048576 * parts
def lineTo (k parts a c e X Y D v t : Int) : Prop := ∃ p, isNear (linN a c e X Y D) (D * k) p ∧ (inFar parts p → t = 1 ∧ v = p) ∧ (¬ inFar parts p → t = 0)
/-- where a matrix brings a point. -/
def placed (k parts a b c d e f X xd Y yd px py er : Int) : Prop := (¬ may20 X xd Y yd → er = 1 ∧ px = 0 ∧ py = 0) ∧ (may20 X xd Y yd → ∃ p q, isNear (linN a c e X Y xd) (xd * k) p ∧ isNear (linN b d f X Y xd) (xd * k) q ∧ (inFar parts p ∧ inFar parts q → er = 0 ∧ px = p ∧ py = q) ∧ (¬ (inFar parts p ∧ inFar parts q) → er = 8 ∧ px = 0 ∧ py = 0))
def i16 : Sh := .int .i16 (-32768) 32767
/-- a place that is not too far. -/
def fs : Sh := .int .i64 (-68719476736) 68719476736

def u16 : Sh := .int .u16 0 65535
def i8 : Sh := .int .i8 (-128) 127
/-- layouts: numbers of bits that may be. -/
def inCo (n : Int) : Prop := n = 1 ∨ n = 2 ∨ n = 4 ∨ n = 8 ∨ n = 12 ∨ n = 16 ∨ n = 24 ∨ n = 32
def inCm (n : Int) : Prop := n = 1 ∨ n = 2 ∨ n = 4 ∨ n = 8 ∨ n = 12 ∨ n = 16
def inFl (n : Int) : Prop := n = 2 ∨ n = 4 ∨ n = 8
def lay8 (t co cm fl cs row : Int) : Prop := (t = 4 ∨ t = 5 ∨ t = 6 ∨ t = 7) ∧ inCo co ∧ inCm cm ∧ 1 ≤ cs ∧ cs ≤ 4 ∧ (t = 5 → 2 ≤ row) ∧ (t ≠ 5 → inFl fl)
/-- the nearest number to a by d. -/
def nearF (a d : Int) : Int := (2 * a + d) / (2 * d)
def ledB (co raw : Int) : Bool := decide (gr co ≠ 0) && decide (raw ≤ gr co)
def ptF (a c e xl xh yl yh g rx ry : Int) : Int := nearF (linN a c e (xl * g + rx * (xh - xl)) (yl * g + ry * (yh - yl)) g) (g * 65536)
def farB (v : Int) : Bool := decide (-68719476736 ≤ v) && decide (v ≤ 68719476736)
def nth (l : List Int) (i : Nat) : Int := l.getD i 0
/-- one point of a patch: where it is brought; what is wrong. -/
def ptX (l m : List Int) (rx ry : Int) : Int := ptF (nth m 0) (nth m 2) (nth m 4) (nth l 6) (nth l 7) (nth l 8) (nth l 9) (gr (nth l 1)) rx ry
def ptY (l m : List Int) (rx ry : Int) : Int := ptF (nth m 1) (nth m 3) (nth m 5) (nth l 6) (nth l 7) (nth l 8) (nth l 9) (gr (nth l 1)) rx ry
def ptE (l m : List Int) (rx ry : Int) : Int := if ledB (nth l 1) rx && ledB (nth l 1) ry then (if farB (ptX l m rx ry) && farB (ptY l m rx ry) then 0 else 8) else 1
def inCoB (n : Int) : Bool := [1, 2, 4, 8, 12, 16, 24, 32].contains n
def inCmB (n : Int) : Bool := [1, 2, 4, 8, 12, 16].contains n
def inFlB (n : Int) : Bool := [2, 4, 8].contains n
def layB (l : List Int) : Bool := (nth l 0 == 6 || nth l 0 == 7) && inCoB (nth l 1) && inCmB (nth l 2) && decide (1 ≤ nth l 4) && decide (nth l 4 ≤ 4) && inFlB (nth l 3)
def Es (l p m : List Int) (i : Nat) : Int := ptE l m (nth p (2 * i)) (nth p (2 * i + 1))
def firstE : List Int → Int
  | [] => 0
  | e :: r => if e = 0 then firstE r else e
def many (l : List Int) : Nat := if nth l 0 = 7 then 16 else 12
def netE (l p m : List Int) : Int := if layB l then firstE ((List.range (many l)).map (Es l p m)) else 4
/-- which point comes to a place. -/
def inv16 : List Nat := [0, 1, 2, 3, 11, 12, 13, 4, 10, 15, 14, 5, 9, 8, 7, 6]
def pX (l p m : List Int) (k : Nat) : Int := ptX l m (nth p (2 * k)) (nth p (2 * k + 1))
def pY (l p m : List Int) (k : Nat) : Int := ptY l m (nth p (2 * k)) (nth p (2 * k + 1))
/-- an inner place, by the corners and sides next to it. -/
def mixF (a b c d e f g h : Int) : Int := nearF (-4 * a + 6 * (b + c) - 2 * (d + e) + 3 * (f + g) - h) 9
/-- the corner next to an inner place, the two beside it, the two other corners of these sides, the two on the far sides, the far corner: by points. -/
def inn (k : Nat) : List Nat :=
  if k = 12 then [0, 1, 11, 3, 9, 8, 4, 6] else if k = 13 then [3, 2, 4, 0, 6, 7, 11, 9] else if k = 15 then [9, 8, 10, 6, 0, 1, 5, 3] else [6, 7, 5, 9, 3, 2, 10, 0]
def at8 (f : Nat → Int) (l : List Nat) : Int := mixF (f (l.getD 0 0)) (f (l.getD 1 0)) (f (l.getD 2 0)) (f (l.getD 3 0)) (f (l.getD 4 0)) (f (l.getD 5 0)) (f (l.getD 6 0)) (f (l.getD 7 0))
def plX (l p m : List Int) (k : Nat) : Int := if k < many l then pX l p m k else at8 (pX l p m) (inn k)
def plY (l p m : List Int) (k : Nat) : Int := if k < many l then pY l p m k else at8 (pY l p m) (inn k)
def zero32 : List Int := List.replicate 32 0
def netN (l p m : List Int) : List Int := if netE l p m = 0 then inv16.flatMap fun k => [plX l p m k, plY l p m k] else zero32
/-- a side of a net. -/
def sideF (n : List Int) (s : Int) : List Int :=
  if s = 0 then [nth n 0, nth n 1, nth n 8, nth n 9, nth n 16, nth n 17, nth n 24, nth n 25]
  else if s = 1 then [nth n 24, nth n 25, nth n 26, nth n 27, nth n 28, nth n 29, nth n 30, nth n 31]
  else if s = 2 then [nth n 30, nth n 31, nth n 22, nth n 23, nth n 14, nth n 15, nth n 6, nth n 7]
  else if s = 3 then [nth n 6, nth n 7, nth n 4, nth n 5, nth n 2, nth n 3, nth n 0, nth n 1]
  else List.replicate 8 0
/-- the other way round: which point comes to a place. -/
def turnI (t : Int) : List Nat := [0, 11, 10, 9, 8, 7, 6, 5, 4, 3, 2, 1, 12] ++ (if t = 7 then [15, 14, 13] else [13, 14, 15])
def turnF (l p : List Int) : List Int := ((turnI (nth l 0)).flatMap fun k => [nth p (2 * k), nth p (2 * k + 1)]) ++ p.drop 32
/-- in how many of the first places two nets are unlike. -/
def unl (a b : List Int) : Nat → Int
  | 0 => 0
  | i + 1 => unl a b i + (if nth a (2 * i) = nth b (2 * i) ∧ nth a (2 * i + 1) = nth b (2 * i + 1) then 0 else 1)
def sideE (s : Int) : Int := if 0 ≤ s ∧ s ≤ 3 then 0 else 1

def lay18 : List Sh := List.replicate 6 i64 ++ List.replicate 12 i32
def pat48 : List Sh := List.replicate 32 u32 ++ List.replicate 16 u16
def net32 : List Sh := List.replicate 32 i64
def fix6 : List Sh := List.replicate 6 i32

def Pre_len64 : List (List Int) → Prop
  | [[n]] => True
  | _ => False
def Post_len64 : List (List Int) → List (List Int) → Prop
  | [[n]], [[k]] => (0 ≤ k ∧ n < 2 ^ k.toNat ∧ (0 < n → 2 ^ k.toNat ≤ 2 * n) ∧ (n = 0 → k = 0))
  | _, _ => False
def Pre_mul64 : List (List Int) → Prop
  | [[a], [b]] => True
  | _ => False
def Post_mul64 : List (List Int) → List (List Int) → Prop
  | [[a], [b]], [[h], [l]] => h * 18446744073709551616 + l = a * b
  | _, _ => False
def Pre_compare : List (List Int) → Prop
  | [a, b] => True
  | _ => False
def Post_compare : List (List Int) → List (List Int) → Prop
  | [a, b], [[c]] => ((vd a < vd b → c = -1) ∧ (vd a = vd b → c = 0) ∧ (vd b < vd a → c = 1))
  | _, _ => False
def Pre_plus : List (List Int) → Prop
  | [a, b] => True
  | _ => False
def Post_plus : List (List Int) → List (List Int) → Prop
  | [a, b], [r] => vd r = (vd a + vd b) % top12
  | _, _ => False
def Pre_less : List (List Int) → Prop
  | [a, b] => vd b ≤ vd a
  | _ => False
def Post_less : List (List Int) → List (List Int) → Prop
  | [a, b], [r] => vd r = vd a - vd b
  | _, _ => False
def Inv_less : List Int → List Int → Prop
  | fs, i :: c => vd c + vd ((fs.drop 12).take i.toNat) = vd (fs.take 12) ∧ nnb i c
  | _, _ => False
def Mea_less : List Int → List Int → Nat
  | fs, i :: c => (12 - i).toNat
  | _, _ => 0
def Pre_product : List (List Int) → Prop
  | [m :: a, n :: b] => True
  | _ => False
def Post_product : List (List Int) → List (List Int) → Prop
  | [m :: a, n :: b], [p :: r] => ((p = 1 ↔ m ≠ n) ∧ vd r = (vd a * vd b) % top12)
  | _, _ => False
def Inv_prodo : List Int → List Int → Prop
  | fs, i :: o => top12 ∣ vd o - vd ((dA fs).take i.toNat) * vd (dB fs)
  | _, _ => False
def Mea_prodo : List Int → List Int → Nat
  | fs, i :: o => (12 - i).toNat
  | _, _ => 0
def Inv_prodi : List Int → List Int → Prop
  | i :: fs, q :: k :: o => (i + k ≤ 12 ∧ top12 ∣ vd o + q * 65536 ^ (i.toNat + k.toNat) - (vd ((dA fs).take i.toNat) * vd (dB fs) + (dA fs).getD i.toNat 0 * vd ((dB fs).take k.toNat) * 65536 ^ i.toNat))
  | _, _ => False
def Mea_prodi : List Int → List Int → Nat
  | i :: fs, q :: k :: o => (12 - k).toNat
  | _, _ => 0
def Pre_read : List (List Int) → Prop
  | [[h, l]] => True
  | _ => False
def Post_read : List (List Int) → List (List Int) → Prop
  | [[h, l]], [r] => (vd (r.drop 1) ≤ 170141183460469231731687303715884105728 ∧ sv r = w128 h l ∧ (r.getD 0 0 = 1 ↔ h < 0))
  | _, _ => False
def Pre_minus : List (List Int) → Prop
  | [m :: a] => True
  | _ => False
def Post_minus : List (List Int) → List (List Int) → Prop
  | [m :: a], [p :: r] => ((p = 1 ↔ m ≠ 1) ∧ r = a)
  | _, _ => False
def Pre_sum : List (List Int) → Prop
  | [a, b] => vd (a.drop 1) + vd (b.drop 1) < top12
  | _ => False
def Post_sum : List (List Int) → List (List Int) → Prop
  | [a, b], [r] => (sv r = sv a + sv b ∧ vd (r.drop 1) ≤ vd (a.drop 1) + vd (b.drop 1))
  | _, _ => False
def Pre_cmpi64 : List (List Int) → Prop
  | [[a], [b]] => True
  | _ => False
def Post_cmpi64 : List (List Int) → List (List Int) → Prop
  | [[a], [b]], [[c]] => ((a < b → c = -1) ∧ (a = b → c = 0) ∧ (b < a → c = 1))
  | _, _ => False
def Pre_cmpu64 : List (List Int) → Prop
  | [[a], [b]] => True
  | _ => False
def Post_cmpu64 : List (List Int) → List (List Int) → Prop
  | [[a], [b]], [[c]] => ((a < b → c = -1) ∧ (a = b → c = 0) ∧ (b < a → c = 1))
  | _, _ => False
def Pre_wcmp : List (List Int) → Prop
  | [[ah, al], [bh, bl]] => True
  | _ => False
def Post_wcmp : List (List Int) → List (List Int) → Prop
  | [[ah, al], [bh, bl]], [[c]] => ((w128 ah al < w128 bh bl → c = -1) ∧ (w128 ah al = w128 bh bl → c = 0) ∧ (w128 bh bl < w128 ah al → c = 1))
  | _, _ => False
def Pre_wof : List (List Int) → Prop
  | [[n]] => True
  | _ => False
def Post_wof : List (List Int) → List (List Int) → Prop
  | [[n]], [[h, l]] => w128 h l = n
  | _, _ => False
def Pre_lz64 : List (List Int) → Prop
  | [[n]] => True
  | _ => False
def Post_lz64 : List (List Int) → List (List Int) → Prop
  | [[n]], [[k]] => (0 ≤ k ∧ n < 2 ^ (64 - k).toNat ∧ (0 < n → 2 ^ (64 - k).toNat ≤ 2 * n) ∧ (n = 0 → k = 64))
  | _, _ => False
def Pre_div64 : List (List Int) → Prop
  | [[h], [l], [y]] => h < y
  | _ => False
def Post_div64 : List (List Int) → List (List Int) → Prop
  | [[h], [l], [y]], [[q], [r]] => isFloor (w128 h l) y q r
  | _, _ => False
def Inv_dv1 : List Int → List Int → Prop
  | [u, m, n, v], [q, s] => dvInv u m n v q s
  | _, _ => False
def Mea_dv1 : List Int → List Int → Nat
  | [u, m, n, v], [q, s] => q.toNat
  | _, _ => 0
def Inv_dv2 : List Int → List Int → Prop
  | [u, m, n, v], [q, s] => dvInv u m n v q s
  | _, _ => False
def Mea_dv2 : List Int → List Int → Nat
  | [u, m, n, v], [q, s] => q.toNat
  | _, _ => 0
def Pre_turned : List (List Int) → Prop
  | [[a, b, c]] => True
  | _ => False
def Post_turned : List (List Int) → List (List Int) → Prop
  | [[a, b, c]], [[x, y, z]] => (z = 0 ∧ w128 y x = (top8 - w128 b a) % top8)
  | _, _ => False
def Pre_part : List (List Int) → Prop
  | [[h, l]] => True
  | _ => False
def Post_part : List (List Int) → List (List Int) → Prop
  | [[h, l]], [[t, x, y, z]] => (z = 0 ∧ (h < 0 → t = 1 ∧ w128 y x = - w128 h l) ∧ (0 ≤ h → t = 0 ∧ w128 y x = w128 h l))
  | _, _ => False
def Pre_whole : List (List Int) → Prop
  | [[t, x, y, z]] => True
  | _ => False
def Post_whole : List (List Int) → List (List Int) → Prop
  | [[t, x, y, z]], [[h, l], [e]] => tellW (if t = 1 then - wv x y z else wv x y z) h l e
  | _, _ => False
def Pre_wtimes : List (List Int) → Prop
  | [[a, b, c], [n]] => True
  | _ => False
def Post_wtimes : List (List Int) → List (List Int) → Prop
  | [[a, b, c], [n]], [[x, y, z]] => wv x y z = (wv a b c * n) % top12
  | _, _ => False
def Pre_size : List (List Int) → Prop
  | [[n]] => True
  | _ => False
def Post_size : List (List Int) → List (List Int) → Prop
  | [[n]], [[m]] => ((n < 0 → m = -n) ∧ (0 ≤ n → m = n))
  | _, _ => False
def Pre_wadd : List (List Int) → Prop
  | [[a, b], [c, d]] => True
  | _ => False
def Post_wadd : List (List Int) → List (List Int) → Prop
  | [[a, b], [c, d]], [[h, l], [e]] => tellW (w128 a b + w128 c d) h l e
  | _, _ => False
def Pre_wsub : List (List Int) → Prop
  | [[a, b], [c, d]] => True
  | _ => False
def Post_wsub : List (List Int) → List (List Int) → Prop
  | [[a, b], [c, d]], [[h, l], [e]] => tellW (w128 a b - w128 c d) h l e
  | _, _ => False
def Pre_wtms : List (List Int) → Prop
  | [[a, b], [n]] => True
  | _ => False
def Post_wtms : List (List Int) → List (List Int) → Prop
  | [[a, b], [n]], [[h, l], [e]] => tellW (w128 a b * n) h l e
  | _, _ => False
def Pre_wmul : List (List Int) → Prop
  | [[a], [b]] => True
  | _ => False
def Post_wmul : List (List Int) → List (List Int) → Prop
  | [[a], [b]], [[h, l]] => w128 h l = a * b
  | _, _ => False
def Pre_wdivided : List (List Int) → Prop
  | [[a, b, c], [n]] => 0 < n
  | _ => False
def Post_wdivided : List (List Int) → List (List Int) → Prop
  | [[a, b, c], [n]], [[x, y, z], [r]] => (z = 0 ∧ isFloor (w128 b a) n (w128 y x) r)
  | _, _ => False
def Pre_wfloor : List (List Int) → Prop
  | [[a, b], [d]] => True
  | _ => False
def Post_wfloor : List (List Int) → List (List Int) → Prop
  | [[a, b], [d]], [[h, l], [r], [e]] => ((d < 1 → h = 0 ∧ l = 0 ∧ r = 0 ∧ e = 1) ∧ (1 ≤ d → e = 0 ∧ isFloor (w128 a b) d (w128 h l) r))
  | _, _ => False
def Pre_wnear : List (List Int) → Prop
  | [[a, b], [d]] => True
  | _ => False
def Post_wnear : List (List Int) → List (List Int) → Prop
  | [[a, b], [d]], [[h, l], [e]] => ((d < 1 → h = 0 ∧ l = 0 ∧ e = 1) ∧ (1 ≤ d → e = 0 ∧ isNear (w128 a b) d (w128 h l)))
  | _, _ => False
def Pre_wint : List (List Int) → Prop
  | [[a, b]] => True
  | _ => False
def Post_wint : List (List Int) → List (List Int) → Prop
  | [[a, b]], [[n], [t]] => isInt (w128 a b) n t
  | _, _ => False
def Pre_zero : List (List Int) → Prop
  | [m :: a] => True
  | _ => False
def Post_zero : List (List Int) → List (List Int) → Prop
  | [m :: a], [[t]] => (t = b2i (decide (vd a = 0)))
  | _, _ => False
def Pre_rof : List (List Int) → Prop
  | [[n]] => True
  | _ => False
def Post_rof : List (List Int) → List (List Int) → Prop
  | [[n]], [[h, l]] => w128 h l = n
  | _, _ => False
def Pre_small : List (List Int) → Prop
  | [[n]] => True
  | _ => False
def Post_small : List (List Int) → List (List Int) → Prop
  | [[n]], [r] => (vd (r.drop 1) ≤ 9223372036854775808 ∧ sv r = n ∧ (r.getD 0 0 = 1 ↔ n < 0))
  | _, _ => False
def Pre_tell : List (List Int) → Prop
  | [a] => True
  | _ => False
def Post_tell : List (List Int) → List (List Int) → Prop
  | [a], [[h, l], [e]] => tellW (sv a) h l e
  | _, _ => False
def Pre_divided : List (List Int) → Prop
  | [a, b] => (0 < vd b ∧ 2 * vd b ≤ top12)
  | _ => False
def Post_divided : List (List Int) → List (List Int) → Prop
  | [a, b], [q, r] => isFloor (vd a) (vd b) (vd q) (vd r)
  | _, _ => False
def Inv_divided : List Int → List Int → Prop
  | fs, i :: o => divInv (vd (fs.take 12)) (vd (fs.drop 12)) i (vd (o.take 12)) (vd (o.drop 12))
  | _, _ => False
def Mea_divided : List Int → List Int → Nat
  | fs, i :: o => (i + 1).toNat
  | _, _ => 0
def Pre_nearest : List (List Int) → Prop
  | [a, b] => (0 < vd (b.drop 1) ∧ 2 * vd (a.drop 1) + vd (b.drop 1) < top12 ∧ 4 * vd (b.drop 1) ≤ top12)
  | _ => False
def Post_nearest : List (List Int) → List (List Int) → Prop
  | [a, b], [r] => (nearest (sv a) (sv b) (sv r) ∧ vd (r.drop 1) ≤ 2 * vd (a.drop 1) + 2)
  | _, _ => False
def Pre_rcmp : List (List Int) → Prop
  | [[ah, al], [bh, bl]] => True
  | _ => False
def Post_rcmp : List (List Int) → List (List Int) → Prop
  | [[ah, al], [bh, bl]], [[c]] => ((w128 ah al < w128 bh bl → c = -1) ∧ (w128 ah al = w128 bh bl → c = 0) ∧ (w128 bh bl < w128 ah al → c = 1))
  | _, _ => False
def Pre_rint : List (List Int) → Prop
  | [[a, b]] => True
  | _ => False
def Post_rint : List (List Int) → List (List Int) → Prop
  | [[a, b]], [[n], [t]] => isInt (w128 a b) n t
  | _, _ => False
def Pre_radd : List (List Int) → Prop
  | [[a, b], [c, d]] => True
  | _ => False
def Post_radd : List (List Int) → List (List Int) → Prop
  | [[a, b], [c, d]], [[h, l], [e]] => tellW (w128 a b + w128 c d) h l e
  | _, _ => False
def Pre_rtms : List (List Int) → Prop
  | [[a, b], [n]] => True
  | _ => False
def Post_rtms : List (List Int) → List (List Int) → Prop
  | [[a, b], [n]], [[h, l], [e]] => tellW (w128 a b * n) h l e
  | _, _ => False
def Pre_rmul : List (List Int) → Prop
  | [[a], [b]] => True
  | _ => False
def Post_rmul : List (List Int) → List (List Int) → Prop
  | [[a], [b]], [[h, l]] => w128 h l = a * b
  | _, _ => False
def Pre_rnear : List (List Int) → Prop
  | [[a, b], [d]] => True
  | _ => False
def Post_rnear : List (List Int) → List (List Int) → Prop
  | [[a, b], [d]], [[h, l], [e]] => ((d < 1 → h = 0 ∧ l = 0 ∧ e = 1) ∧ (1 ≤ d → e = 0 ∧ isNear (w128 a b) d (w128 h l)))
  | _, _ => False
def Pre_greatest : List (List Int) → Prop
  | [[b]] => True
  | _ => False
def Post_greatest : List (List Int) → List (List Int) → Prop
  | [[b]], [[g]] => g = gr b
  | _, _ => False
def Pre_width : List (List Int) → Prop
  | [[lo, hi]] => True
  | _ => False
def Post_width : List (List Int) → List (List Int) → Prop
  | [[lo, hi]], [[w]] => w = hi - lo
  | _, _ => False
def Pre_led : List (List Int) → Prop
  | [[raw], [bits], [lo, hi]] => True
  | _ => False
def Post_led : List (List Int) → List (List Int) → Prop
  | [[raw], [bits], [lo, hi]], [[h, l, d, e]] => ledTo raw bits lo hi h l d e
  | _, _ => False
def Pre_value : List (List Int) → Prop
  | [[raw], [bits], [lo, hi]] => True
  | _ => False
def Post_value : List (List Int) → List (List Int) → Prop
  | [[raw], [bits], [lo, hi]], [[h, l, d], [e]] => ledTo raw bits lo hi h l d e
  | _, _ => False
def Pre_rgreatest : List (List Int) → Prop
  | [[b]] => True
  | _ => False
def Post_rgreatest : List (List Int) → List (List Int) → Prop
  | [[b]], [[g]] => g = gr b
  | _, _ => False
def Inv_rgr : List Int → List Int → Prop
  | [b], [g, i] => (1 ≤ b ∧ b ≤ 32 ∧ i ≤ b ∧ g = 2 ^ i.toNat - 1)
  | _, _ => False
def Mea_rgr : List Int → List Int → Nat
  | [b], [g, i] => (b - i).toNat
  | _, _ => 0
def Pre_rtimes7 : List (List Int) → Prop
  | [[a], [b]] => True
  | _ => False
def Post_rtimes7 : List (List Int) → List (List Int) → Prop
  | [[a], [b]], [r] => (vd (r.drop 1) ≤ 85070591730234615865843651857942052864 ∧ sv r = a * b)
  | _, _ => False
def Pre_rvalue : List (List Int) → Prop
  | [[raw], [bits], [lo, hi]] => True
  | _ => False
def Post_rvalue : List (List Int) → List (List Int) → Prop
  | [[raw], [bits], [lo, hi]], [[h, l, d], [e]] => ledTo raw bits lo hi h l d e
  | _, _ => False
def Pre_psmall : List (List Int) → Prop
  | [[h, l]] => True
  | _ => False
def Post_psmall : List (List Int) → List (List Int) → Prop
  | [[h, l]], [[t]] => ((sml (w128 h l) → t = 1) ∧ (¬ sml (w128 h l) → t = 0))
  | _, _ => False
def Pre_pplace : List (List Int) → Prop
  | [[m0, m1, m2, m3, m4, m5], [xh, xl, xd], [yh, yl, yd]] => True
  | _ => False
def Post_pplace : List (List Int) → List (List Int) → Prop
  | [[m0, m1, m2, m3, m4, m5], [xh, xl, xd], [yh, yl, yd]], [[px, py], [er]] => placed 65536 65536 m0 m1 m2 m3 m4 m5 (w128 xh xl) xd (w128 yh yl) yd px py er
  | _, _ => False
def Pre_rmay : List (List Int) → Prop
  | [[h, l, d]] => True
  | _ => False
def Post_rmay : List (List Int) → List (List Int) → Prop
  | [[h, l, d]], [[t]] => ((1 ≤ d ∧ d ≤ 4294967295 ∧ sml (w128 h l) → t = 1) ∧ (¬ (1 ≤ d ∧ d ≤ 4294967295 ∧ sml (w128 h l)) → t = 0))
  | _, _ => False
def Pre_rline : List (List Int) → Prop
  | [[a], [c], [e], [xh, xl, xd], [yh, yl, yd], [parts]] => (may20 (w128 xh xl) xd (w128 yh yl) yd ∧ (parts = 256 ∨ parts = 65536))
  | _ => False
def Post_rline : List (List Int) → List (List Int) → Prop
  | [[a], [c], [e], [xh, xl, xd], [yh, yl, yd], [parts]], [[v], [t]] => lineTo (4294967296 / parts) parts a c e (w128 xh xl) (w128 yh yl) xd v t
  | _, _ => False
def Pre_rplace : List (List Int) → Prop
  | [[m0, m1, m2, m3, m4, m5], [xh, xl, xd], [yh, yl, yd]] => True
  | _ => False
def Post_rplace : List (List Int) → List (List Int) → Prop
  | [[m0, m1, m2, m3, m4, m5], [xh, xl, xd], [yh, yl, yd]], [[px, py], [er]] => placed 65536 65536 m0 m1 m2 m3 m4 m5 (w128 xh xl) xd (w128 yh yl) yd px py er
  | _, _ => False
def Pre_lcheck : List (List Int) → Prop
  | [[l0, l1, l2, l3, l4, l5, l6, l7, l8, l9, l10, l11, l12, l13, l14, l15, l16, l17]] => True
  | _ => False
def Post_lcheck : List (List Int) → List (List Int) → Prop
  | [[l0, l1, l2, l3, l4, l5, l6, l7, l8, l9, l10, l11, l12, l13, l14, l15, l16, l17]], [[e]] => ((lay8 l0 l1 l2 l3 l4 l5 → e = 0) ∧ (¬ lay8 l0 l1 l2 l3 l4 l5 → e = 4))
  | _, _ => False
def Pre_rlcheck : List (List Int) → Prop
  | [[l0, l1, l2, l3, l4, l5, l6, l7, l8, l9, l10, l11, l12, l13, l14, l15, l16, l17]] => True
  | _ => False
def Post_rlcheck : List (List Int) → List (List Int) → Prop
  | [[l0, l1, l2, l3, l4, l5, l6, l7, l8, l9, l10, l11, l12, l13, l14, l15, l16, l17]], [[e]] => ((lay8 l0 l1 l2 l3 l4 l5 → e = 0) ∧ (¬ lay8 l0 l1 l2 l3 l4 l5 → e = 4))
  | _, _ => False
def Pre_norder : List (List Int) → Prop
  | [] => True
  | _ => False
def Post_norder : List (List Int) → List (List Int) → Prop
  | [], [r] => True
  | _, _ => False
def Pre_nninth : List (List Int) → Prop
  | [[n]] => True
  | _ => False
def Post_nninth : List (List Int) → List (List Int) → Prop
  | [[n]], [[v]] => v = nearF n 9
  | _, _ => False
def Pre_rninth : List (List Int) → Prop
  | [[n]] => True
  | _ => False
def Post_rninth : List (List Int) → List (List Int) → Prop
  | [[n]], [[v]] => v = nearF n 9
  | _, _ => False
def Pre_nof : List (List Int) → Prop
  | [l, p, m] => True
  | _ => False
def Post_nof : List (List Int) → List (List Int) → Prop
  | [l, p, m], [n, [e]] => (n = netN l p m ∧ e = netE l p m)
  | _, _ => False
def Pre_rnof : List (List Int) → Prop
  | [l, p, m] => True
  | _ => False
def Post_rnof : List (List Int) → List (List Int) → Prop
  | [l, p, m], [n, [e]] => (n = netN l p m ∧ e = netE l p m)
  | _, _ => False
def Pre_nborder : List (List Int) → Prop
  | [n, [s]] => True
  | _ => False
def Post_nborder : List (List Int) → List (List Int) → Prop
  | [n, [s]], [r, [e]] => (r = sideF n s ∧ e = sideE s)
  | _, _ => False
def Pre_lives : List (List Int) → Prop
  | [] => True
  | _ => False
def Post_lives : List (List Int) → List (List Int) → Prop
  | [], [[t]] => t = 1
  | _, _ => False
def Pre_lof : List (List Int) → Prop
  | [z] => True
  | _ => False
def Post_lof : List (List Int) → List (List Int) → Prop
  | [z], [[t]] => t = 1
  | _, _ => False
def E : Ctx where
  pre f a := if Nat.beq f 90 = true then Pre_len64 a else if Nat.beq f 81 = true then Pre_mul64 a else if Nat.beq f 49 = true then Pre_compare a else if Nat.beq f 48 = true then Pre_plus a else if Nat.beq f 50 = true then Pre_less a else if Nat.beq f 51 = true then Pre_product a else if Nat.beq f 65 = true then Pre_read a else if Nat.beq f 78 = true then Pre_minus a else if Nat.beq f 31 = true then Pre_sum a else if Nat.beq f 84 = true then Pre_cmpi64 a else if Nat.beq f 85 = true then Pre_cmpu64 a else if Nat.beq f 76 = true then Pre_wcmp a else if Nat.beq f 44 = true then Pre_wof a else if Nat.beq f 89 = true then Pre_lz64 a else if Nat.beq f 86 = true then Pre_div64 a else if Nat.beq f 80 = true then Pre_turned a else if Nat.beq f 71 = true then Pre_part a else if Nat.beq f 74 = true then Pre_whole a else if Nat.beq f 72 = true then Pre_wtimes a else if Nat.beq f 73 = true then Pre_size a else if Nat.beq f 39 = true then Pre_wadd a else if Nat.beq f 75 = true then Pre_wsub a else if Nat.beq f 60 = true then Pre_wtms a else if Nat.beq f 40 = true then Pre_wmul a else if Nat.beq f 77 = true then Pre_wdivided a else if Nat.beq f 64 = true then Pre_wfloor a else if Nat.beq f 46 = true then Pre_wnear a else if Nat.beq f 47 = true then Pre_wint a else if Nat.beq f 53 = true then Pre_zero a else if Nat.beq f 57 = true then Pre_rof a else if Nat.beq f 52 = true then Pre_small a else if Nat.beq f 33 = true then Pre_tell a else if Nat.beq f 79 = true then Pre_divided a else if Nat.beq f 70 = true then Pre_nearest a else if Nat.beq f 67 = true then Pre_rcmp a else if Nat.beq f 58 = true then Pre_rint a else if Nat.beq f 69 = true then Pre_radd a else if Nat.beq f 68 = true then Pre_rtms a else if Nat.beq f 66 = true then Pre_rmul a else if Nat.beq f 56 = true then Pre_rnear a else if Nat.beq f 37 = true then Pre_greatest a else if Nat.beq f 41 = true then Pre_width a else if Nat.beq f 20 = true then Pre_led a else if Nat.beq f 9 = true then Pre_value a else if Nat.beq f 30 = true then Pre_rgreatest a else if Nat.beq f 32 = true then Pre_rtimes7 a else if Nat.beq f 14 = true then Pre_rvalue a else if Nat.beq f 63 = true then Pre_psmall a else if Nat.beq f 10 = true then Pre_pplace a else if Nat.beq f 54 = true then Pre_rmay a else if Nat.beq f 55 = true then Pre_rline a else if Nat.beq f 15 = true then Pre_rplace a else if Nat.beq f 7 = true then Pre_lcheck a else if Nat.beq f 12 = true then Pre_rlcheck a else if Nat.beq f 8 = true then Pre_norder a else if Nat.beq f 26 = true then Pre_nninth a else if Nat.beq f 35 = true then Pre_rninth a else if Nat.beq f 4 = true then Pre_nof a else if Nat.beq f 5 = true then Pre_rnof a else if Nat.beq f 18 = true then Pre_nborder a else if Nat.beq f 6 = true then Pre_lives a else if Nat.beq f 3 = true then Pre_lof a else False
  post f a r := if Nat.beq f 90 = true then Post_len64 a r else if Nat.beq f 81 = true then Post_mul64 a r else if Nat.beq f 49 = true then Post_compare a r else if Nat.beq f 48 = true then Post_plus a r else if Nat.beq f 50 = true then Post_less a r else if Nat.beq f 51 = true then Post_product a r else if Nat.beq f 65 = true then Post_read a r else if Nat.beq f 78 = true then Post_minus a r else if Nat.beq f 31 = true then Post_sum a r else if Nat.beq f 84 = true then Post_cmpi64 a r else if Nat.beq f 85 = true then Post_cmpu64 a r else if Nat.beq f 76 = true then Post_wcmp a r else if Nat.beq f 44 = true then Post_wof a r else if Nat.beq f 89 = true then Post_lz64 a r else if Nat.beq f 86 = true then Post_div64 a r else if Nat.beq f 80 = true then Post_turned a r else if Nat.beq f 71 = true then Post_part a r else if Nat.beq f 74 = true then Post_whole a r else if Nat.beq f 72 = true then Post_wtimes a r else if Nat.beq f 73 = true then Post_size a r else if Nat.beq f 39 = true then Post_wadd a r else if Nat.beq f 75 = true then Post_wsub a r else if Nat.beq f 60 = true then Post_wtms a r else if Nat.beq f 40 = true then Post_wmul a r else if Nat.beq f 77 = true then Post_wdivided a r else if Nat.beq f 64 = true then Post_wfloor a r else if Nat.beq f 46 = true then Post_wnear a r else if Nat.beq f 47 = true then Post_wint a r else if Nat.beq f 53 = true then Post_zero a r else if Nat.beq f 57 = true then Post_rof a r else if Nat.beq f 52 = true then Post_small a r else if Nat.beq f 33 = true then Post_tell a r else if Nat.beq f 79 = true then Post_divided a r else if Nat.beq f 70 = true then Post_nearest a r else if Nat.beq f 67 = true then Post_rcmp a r else if Nat.beq f 58 = true then Post_rint a r else if Nat.beq f 69 = true then Post_radd a r else if Nat.beq f 68 = true then Post_rtms a r else if Nat.beq f 66 = true then Post_rmul a r else if Nat.beq f 56 = true then Post_rnear a r else if Nat.beq f 37 = true then Post_greatest a r else if Nat.beq f 41 = true then Post_width a r else if Nat.beq f 20 = true then Post_led a r else if Nat.beq f 9 = true then Post_value a r else if Nat.beq f 30 = true then Post_rgreatest a r else if Nat.beq f 32 = true then Post_rtimes7 a r else if Nat.beq f 14 = true then Post_rvalue a r else if Nat.beq f 63 = true then Post_psmall a r else if Nat.beq f 10 = true then Post_pplace a r else if Nat.beq f 54 = true then Post_rmay a r else if Nat.beq f 55 = true then Post_rline a r else if Nat.beq f 15 = true then Post_rplace a r else if Nat.beq f 7 = true then Post_lcheck a r else if Nat.beq f 12 = true then Post_rlcheck a r else if Nat.beq f 8 = true then Post_norder a r else if Nat.beq f 26 = true then Post_nninth a r else if Nat.beq f 35 = true then Post_rninth a r else if Nat.beq f 4 = true then Post_nof a r else if Nat.beq f 5 = true then Post_rnof a r else if Nat.beq f 18 = true then Post_nborder a r else if Nat.beq f 6 = true then Post_lives a r else if Nat.beq f 3 = true then Post_lof a r else False
  inv l a r := if Nat.beq l 0 = true then Inv_less a r else if Nat.beq l 1 = true then Inv_prodo a r else if Nat.beq l 2 = true then Inv_prodi a r else if Nat.beq l 3 = true then Inv_dv1 a r else if Nat.beq l 4 = true then Inv_dv2 a r else if Nat.beq l 5 = true then Inv_divided a r else if Nat.beq l 6 = true then Inv_rgr a r else False
  mea l a r := if Nat.beq l 0 = true then Mea_less a r else if Nat.beq l 1 = true then Mea_prodo a r else if Nat.beq l 2 = true then Mea_prodi a r else if Nat.beq l 3 = true then Mea_dv1 a r else if Nat.beq l 4 = true then Mea_dv2 a r else if Nat.beq l 5 = true then Mea_divided a r else if Nat.beq l 6 = true then Mea_rgr a r else 0
def anns0 : List (FuncId × Nat × Ann) := [(50, 2, { l := 0, slots := [(5, ir 0 12)], blks := [(1, List.replicate 12 (ir (-1) 65535))], fro := [0, 1] }), (51, 3, { l := 1, slots := [(6, ir 0 12)], blks := [(4, dg12)], fro := [0, 1] }), (51, 7, { l := 2, slots := [(7, ir 0 65535), (8, ir 0 12)], blks := [(4, dg12)], fro := [6, 0, 1] }), (86, 17, { l := 3, slots := [(15, u64), (16, u64)], blks := [], fro := [11, 9, 10, 13] }), (86, 24, { l := 4, slots := [(18, u64), (16, u64)], blks := [], fro := [17, 9, 10, 14] }), (79, 3, { l := 5, slots := [(8, ir (-1) 191)], blks := [(5, dg12), (6, dg12)], fro := [2, 3] }), (30, 5, { l := 6, slots := [(3, ir 0 4294967295), (4, ir 0 32)], blks := [], fro := [0] })]
def tab0 : Tab := { cons := [], exts := [(59, true), (82, false)], anns := anns0, mrgs := [29], asts := [(5, 6, [([(25, false)], 1, 0, 6), ([(25, true)], 1, 0, 7)])] }
def ash_len64 : List ShA := [.s u64]
def sh_len64 : ShV := .a (.s (ir 0 64))
def tab1 : Tab := { tab0 with cons := (90, ash_len64, sh_len64) :: tab0.cons }
def ash_mul64 : List ShA := [.s u64, .s u64]
def sh_mul64 : ShV := .tup [.s u64, .s u64]
def tab2 : Tab := { tab1 with cons := (81, ash_mul64, sh_mul64) :: tab1.cons }
def ash_compare : List ShA := [.agg dg12, .agg dg12]
def sh_compare : ShV := .a (.s (ir (-1) 1))
def tab3 : Tab := { tab2 with cons := (49, ash_compare, sh_compare) :: tab2.cons }
def ash_plus : List ShA := [.agg dg12, .agg dg12]
def sh_plus : ShV := .a (.agg dg12)
def tab4 : Tab := { tab3 with cons := (48, ash_plus, sh_plus) :: tab3.cons }
def ash_less : List ShA := [.agg dg12, .agg dg12]
def sh_less : ShV := .a (.agg dg12)
def tab5 : Tab := { tab4 with cons := (50, ash_less, sh_less) :: tab4.cons }
def ash_product : List ShA := [numS, numS]
def sh_product : ShV := .a numS
def tab6 : Tab := { tab5 with cons := (51, ash_product, sh_product) :: tab5.cons }
def ash_read : List ShA := [.agg [i64, u64]]
def sh_read : ShV := .a numS
def tab7 : Tab := { tab6 with cons := (65, ash_read, sh_read) :: tab6.cons }
def ash_minus : List ShA := [numS]
def sh_minus : ShV := .a numS
def tab8 : Tab := { tab7 with cons := (78, ash_minus, sh_minus) :: tab7.cons }
def ash_sum : List ShA := [numS, numS]
def sh_sum : ShV := .a numS
def tab9 : Tab := { tab8 with cons := (31, ash_sum, sh_sum) :: tab8.cons }
def ash_cmpi64 : List ShA := [.s i64, .s i64]
def sh_cmpi64 : ShV := .a (.s (ir (-1) 1))
def tab10 : Tab := { tab9 with cons := (84, ash_cmpi64, sh_cmpi64) :: tab9.cons }
def ash_cmpu64 : List ShA := [.s u64, .s u64]
def sh_cmpu64 : ShV := .a (.s (ir (-1) 1))
def tab11 : Tab := { tab10 with cons := (85, ash_cmpu64, sh_cmpu64) :: tab10.cons }
def ash_wcmp : List ShA := [.agg [i64, u64], .agg [i64, u64]]
def sh_wcmp : ShV := .a (.s (ir (-1) 1))
def tab12 : Tab := { tab11 with cons := (76, ash_wcmp, sh_wcmp) :: tab11.cons }
def ash_wof : List ShA := [.s i64]
def sh_wof : ShV := .a (.agg [i64, u64])
def tab13 : Tab := { tab12 with cons := (44, ash_wof, sh_wof) :: tab12.cons }
def ash_lz64 : List ShA := [.s u64]
def sh_lz64 : ShV := .a (.s (ir 0 64))
def tab14 : Tab := { tab13 with cons := (89, ash_lz64, sh_lz64) :: tab13.cons }
def ash_div64 : List ShA := [.s u64, .s u64, .s u64]
def sh_div64 : ShV := .tup [.s u64, .s u64]
def tab15 : Tab := { tab14 with cons := (86, ash_div64, sh_div64) :: tab14.cons }
def ash_turned : List ShA := [.agg [u64, u64, u64]]
def sh_turned : ShV := .a (.agg [u64, u64, u64])
def tab16 : Tab := { tab15 with cons := (80, ash_turned, sh_turned) :: tab15.cons }
def ash_part : List ShA := [.agg [i64, u64]]
def sh_part : ShV := .a (.agg [.bool, u64, u64, u64])
def tab17 : Tab := { tab16 with cons := (71, ash_part, sh_part) :: tab16.cons }
def ash_whole : List ShA := [.agg [.bool, u64, u64, u64]]
def sh_whole : ShV := .tup [.agg [i64, u64], .s (ir 0 11)]
def tab18 : Tab := { tab17 with cons := (74, ash_whole, sh_whole) :: tab17.cons }
def ash_wtimes : List ShA := [.agg [u64, u64, u64], .s u64]
def sh_wtimes : ShV := .a (.agg [u64, u64, u64])
def tab19 : Tab := { tab18 with cons := (72, ash_wtimes, sh_wtimes) :: tab18.cons }
def ash_size : List ShA := [.s i64]
def sh_size : ShV := .a (.s u64)
def tab20 : Tab := { tab19 with cons := (73, ash_size, sh_size) :: tab19.cons }
def ash_wadd : List ShA := [.agg [i64, u64], .agg [i64, u64]]
def sh_wadd : ShV := .tup [.agg [i64, u64], .s (ir 0 11)]
def tab21 : Tab := { tab20 with cons := (39, ash_wadd, sh_wadd) :: tab20.cons }
def ash_wsub : List ShA := [.agg [i64, u64], .agg [i64, u64]]
def sh_wsub : ShV := .tup [.agg [i64, u64], .s (ir 0 11)]
def tab22 : Tab := { tab21 with cons := (75, ash_wsub, sh_wsub) :: tab21.cons }
def ash_wtms : List ShA := [.agg [i64, u64], .s i64]
def sh_wtms : ShV := .tup [.agg [i64, u64], .s (ir 0 11)]
def tab23 : Tab := { tab22 with cons := (60, ash_wtms, sh_wtms) :: tab22.cons }
def ash_wmul : List ShA := [.s i64, .s i64]
def sh_wmul : ShV := .a (.agg [i64, u64])
def tab24 : Tab := { tab23 with cons := (40, ash_wmul, sh_wmul) :: tab23.cons }
def ash_wdivided : List ShA := [.agg [u64, u64, u64], .s u64]
def sh_wdivided : ShV := .tup [.agg [u64, u64, u64], .s u64]
def tab25 : Tab := { tab24 with cons := (77, ash_wdivided, sh_wdivided) :: tab24.cons }
def ash_wfloor : List ShA := [.agg [i64, u64], .s i64]
def sh_wfloor : ShV := .tup [.agg [i64, u64], .s i64, .s (ir 0 11)]
def tab26 : Tab := { tab25 with cons := (64, ash_wfloor, sh_wfloor) :: tab25.cons }
def ash_wnear : List ShA := [.agg [i64, u64], .s i64]
def sh_wnear : ShV := .tup [.agg [i64, u64], .s (ir 0 11)]
def tab27 : Tab := { tab26 with cons := (46, ash_wnear, sh_wnear) :: tab26.cons }
def ash_wint : List ShA := [.agg [i64, u64]]
def sh_wint : ShV := .tup [.s i64, .s .bool]
def tab28 : Tab := { tab27 with cons := (47, ash_wint, sh_wint) :: tab27.cons }
def ash_zero : List ShA := [numS]
def sh_zero : ShV := .a (.s .bool)
def tab29 : Tab := { tab28 with cons := (53, ash_zero, sh_zero) :: tab28.cons }
def ash_rof : List ShA := [.s i64]
def sh_rof : ShV := .a (.agg [i64, u64])
def tab30 : Tab := { tab29 with cons := (57, ash_rof, sh_rof) :: tab29.cons }
def ash_small : List ShA := [.s i64]
def sh_small : ShV := .a numS
def tab31 : Tab := { tab30 with cons := (52, ash_small, sh_small) :: tab30.cons }
def ash_tell : List ShA := [numS]
def sh_tell : ShV := .tup [.agg [i64, u64], .s (ir 0 11)]
def tab32 : Tab := { tab31 with cons := (33, ash_tell, sh_tell) :: tab31.cons }
def ash_divided : List ShA := [.agg dg12, .agg dg12]
def sh_divided : ShV := .tup [.agg dg12, .agg dg12]
def tab33 : Tab := { tab32 with cons := (79, ash_divided, sh_divided) :: tab32.cons }
def ash_nearest : List ShA := [numS, numS]
def sh_nearest : ShV := .a numS
def tab34 : Tab := { tab33 with cons := (70, ash_nearest, sh_nearest) :: tab33.cons }
def ash_rcmp : List ShA := [.agg [i64, u64], .agg [i64, u64]]
def sh_rcmp : ShV := .a (.s (ir (-1) 1))
def tab35 : Tab := { tab34 with cons := (67, ash_rcmp, sh_rcmp) :: tab34.cons }
def ash_rint : List ShA := [.agg [i64, u64]]
def sh_rint : ShV := .tup [.s i64, .s .bool]
def tab36 : Tab := { tab35 with cons := (58, ash_rint, sh_rint) :: tab35.cons }
def ash_radd : List ShA := [.agg [i64, u64], .agg [i64, u64]]
def sh_radd : ShV := .tup [.agg [i64, u64], .s (ir 0 11)]
def tab37 : Tab := { tab36 with cons := (69, ash_radd, sh_radd) :: tab36.cons }
def ash_rtms : List ShA := [.agg [i64, u64], .s i64]
def sh_rtms : ShV := .tup [.agg [i64, u64], .s (ir 0 11)]
def tab38 : Tab := { tab37 with cons := (68, ash_rtms, sh_rtms) :: tab37.cons }
def ash_rmul : List ShA := [.s i64, .s i64]
def sh_rmul : ShV := .a (.agg [i64, u64])
def tab39 : Tab := { tab38 with cons := (66, ash_rmul, sh_rmul) :: tab38.cons }
def ash_rnear : List ShA := [.agg [i64, u64], .s i64]
def sh_rnear : ShV := .tup [.agg [i64, u64], .s (ir 0 11)]
def tab40 : Tab := { tab39 with cons := (56, ash_rnear, sh_rnear) :: tab39.cons }
def ash_greatest : List ShA := [.s i64]
def sh_greatest : ShV := .a (.s (ir 0 4294967295))
def tab41 : Tab := { tab40 with cons := (37, ash_greatest, sh_greatest) :: tab40.cons }
def ash_width : List ShA := [.agg [i32, i32]]
def sh_width : ShV := .a (.s (ir (-4294967295) 4294967295))
def tab42 : Tab := { tab41 with cons := (41, ash_width, sh_width) :: tab41.cons }
def ash_led : List ShA := [.s u32, .s i64, .agg [i32, i32]]
def sh_led : ShV := .a (.agg [i64, u64, i64, ir 0 15])
def tab43 : Tab := { tab42 with cons := (20, ash_led, sh_led) :: tab42.cons }
def ash_value : List ShA := [.s u32, .s i64, .agg [i32, i32]]
def sh_value : ShV := .tup [.agg [i64, u64, i64], .s (ir 0 15)]
def tab44 : Tab := { tab43 with cons := (9, ash_value, sh_value) :: tab43.cons }
def ash_rgreatest : List ShA := [.s i64]
def sh_rgreatest : ShV := .a (.s (ir 0 4294967295))
def tab45 : Tab := { tab44 with cons := (30, ash_rgreatest, sh_rgreatest) :: tab44.cons }
def ash_rtimes7 : List ShA := [.s i64, .s i64]
def sh_rtimes7 : ShV := .a numS
def tab46 : Tab := { tab45 with cons := (32, ash_rtimes7, sh_rtimes7) :: tab45.cons }
def ash_rvalue : List ShA := [.s u32, .s i64, .agg [i32, i32]]
def sh_rvalue : ShV := .tup [.agg [i64, u64, i64], .s (ir 0 15)]
def tab47 : Tab := { tab46 with cons := (14, ash_rvalue, sh_rvalue) :: tab46.cons }
def ash_psmall : List ShA := [.agg [i64, u64]]
def sh_psmall : ShV := .a (.s .bool)
def tab48 : Tab := { tab47 with cons := (63, ash_psmall, sh_psmall) :: tab47.cons }
def ash_pplace : List ShA := [.agg [i32, i32, i32, i32, i32, i32], .agg [i64, u64, i64], .agg [i64, u64, i64]]
def sh_pplace : ShV := .tup [.agg [fs, fs], .s (ir 0 15)]
def tab49 : Tab := { tab48 with cons := (10, ash_pplace, sh_pplace) :: tab48.cons }
def ash_rmay : List ShA := [.agg [i64, u64, i64]]
def sh_rmay : ShV := .a (.s .bool)
def tab50 : Tab := { tab49 with cons := (54, ash_rmay, sh_rmay) :: tab49.cons }
def ash_rline : List ShA := [.s i32, .s i32, .s i32, .agg [i64, u64, i64], .agg [i64, u64, i64], .s (ir 256 65536)]
def sh_rline : ShV := .tup [.s i64, .s .bool]
def tab51 : Tab := { tab50 with cons := (55, ash_rline, sh_rline) :: tab50.cons }
def ash_rplace : List ShA := [.agg [i32, i32, i32, i32, i32, i32], .agg [i64, u64, i64], .agg [i64, u64, i64]]
def sh_rplace : ShV := .tup [.agg [fs, fs], .s (ir 0 15)]
def tab52 : Tab := { tab51 with cons := (15, ash_rplace, sh_rplace) :: tab51.cons }
def ash_lcheck : List ShA := [.agg lay18]
def sh_lcheck : ShV := .a (.s (ir 0 4))
def tab53 : Tab := { tab52 with cons := (7, ash_lcheck, sh_lcheck) :: tab52.cons }
def ash_rlcheck : List ShA := [.agg lay18]
def sh_rlcheck : ShV := .a (.s (ir 0 4))
def tab54 : Tab := { tab53 with cons := (12, ash_rlcheck, sh_rlcheck) :: tab53.cons }
def ash_norder : List ShA := []
def sh_norder : ShV := .a (.agg [ir 0 0, ir 1 1, ir 2 2, ir 3 3, ir 7 7, ir 11 11, ir 15 15, ir 14 14, ir 13 13, ir 12 12, ir 8 8, ir 4 4, ir 5 5, ir 6 6, ir 10 10, ir 9 9])
def tab55 : Tab := { tab54 with cons := (8, ash_norder, sh_norder) :: tab54.cons }
def ash_nninth : List ShA := [.s i64]
def sh_nninth : ShV := .a (.s i64)
def tab56 : Tab := { tab55 with cons := (26, ash_nninth, sh_nninth) :: tab55.cons }
def ash_rninth : List ShA := [.s i64]
def sh_rninth : ShV := .a (.s i64)
def tab57 : Tab := { tab56 with cons := (35, ash_rninth, sh_rninth) :: tab56.cons }
def ash_nof : List ShA := [.agg lay18, .agg pat48, .agg fix6]
def sh_nof : ShV := .tup [.agg net32, .s (ir 0 15)]
def tab58 : Tab := { tab57 with cons := (4, ash_nof, sh_nof) :: tab57.cons }
def ash_rnof : List ShA := [.agg lay18, .agg pat48, .agg fix6]
def sh_rnof : ShV := .tup [.agg net32, .s (ir 0 15)]
def tab59 : Tab := { tab58 with cons := (5, ash_rnof, sh_rnof) :: tab58.cons }
def ash_nborder : List ShA := [.agg net32, .s i64]
def sh_nborder : ShV := .tup [.agg (List.replicate 8 i64), .s (ir 0 15)]
def tab60 : Tab := { tab59 with cons := (18, ash_nborder, sh_nborder) :: tab59.cons }
def ash_lives : List ShA := []
def sh_lives : ShV := .a (.s .bool)
def tab61 : Tab := { tab60 with cons := (6, ash_lives, sh_lives) :: tab60.cons }
def ash_lof : List ShA := [.agg (lay18 ++ pat48 ++ fix6)]
def sh_lof : ShV := .a (.s .bool)

end Go.Proofs.YtndfeckmfhiniaaGreatDoor.Sx
