/-
  Contracts of functions, by their words. Printed by a program of our own.
-/
import Derived.Test.YtndfeckmfhiniaaDoorSxo
import Derived.KernelRfl
set_option maxRecDepth 1000000
set_option linter.all false
namespace Go.Proofs.YtndfeckmfhiniaaDoor.Sx
open Go Go.RowKit

def u64 : Sh := .int .u64 0 18446744073709551615
def u32 : Sh := .int .u32 0 4294967295
def u8 : Sh := .int .u8 0 255
def i64 : Sh := .int .i64 (-9223372036854775808) 9223372036854775807
def i32 : Sh := .int .i32 (-2147483648) 2147483647
def ir (lo hi : Int) : Sh := .int .i64 lo hi
def len8tab : List Int := (List.range 256).map fun i => if i = 0 then 0 else (Nat.log2 i : Int) + 1
def dg12 : List Sh := List.replicate 12 (ir 0 65535)
def numS : ShA := .agg (.bool :: dg12)
/-- a number of digits to the base 65536, the lowest first. -/
def vd : List Int → Int
  | [] => 0
  | d :: r => d + 65536 * vd r
def sv : List Int → Int
  | m :: ds => if m = 1 then - vd ds else vd ds
  | [] => 0
/-- no digit but the i-th is below 0. -/
def nnb : Int → List Int → Prop
  | _, [] => True
  | i, d :: r => (i ≠ 0 → 0 ≤ d) ∧ nnb (i - 1) r
def top12 : Int := 6277101735386680763835789423207666416102355444464034512896
def top8 : Int := 340282366920938463463374607431768211456
def dA (fs : List Int) : List Int := (fs.drop 1).take 12
def dB (fs : List Int) : List Int := fs.drop 14
def w128 (h l : Int) : Int := h * 18446744073709551616 + l

def half128 : Int := 170141183460469231731687303715884105728
/-- is a number a wide? -/
def inW (v : Int) : Prop := -half128 ≤ v ∧ v < half128
/-- a number told as a wide, or refused as too great. -/
def tellW (v h l e : Int) : Prop := (inW v → e = 0 ∧ w128 h l = v) ∧ (¬ inW v → e = 11 ∧ h = 0 ∧ l = 0)
def wv (a b c : Int) : Int := a + b * 18446744073709551616 + c * 340282366920938463463374607431768211456
/-- q is nearest to a by d. -/
def isNear (a d q : Int) : Prop := 2 * d * q ≤ 2 * a + d ∧ 2 * a + d < 2 * d * (q + 1)
/-- a digit of a quotient is guessed from above. -/
def dvInv (u m n v q s : Int) : Prop := q * m + s = u ∧ s < 4294967296 ∧ u * 4294967296 + v < (q + 1) * (m * 4294967296 + n)
def isFloor (a d q r : Int) : Prop := a = q * d + r ∧ 0 ≤ r ∧ r < d
def isI64 (v : Int) : Prop := -9223372036854775808 ≤ v ∧ v ≤ 9223372036854775807
def isInt (v n t : Int) : Prop := (isI64 v → t = 1 ∧ n = v) ∧ (¬ isI64 v → t = 0 ∧ n = 0)
def nearest (a b q : Int) : Prop := (0 < b → isNear a b q) ∧ (b < 0 → isNear (-a) (-b) q)
def divInv (a d : Int) (i q r : Int) : Prop := q * d + r = a / 2 ^ (i + 1).toNat ∧ 0 ≤ r ∧ r < d ∧ 0 ≤ q

/-- the greatest number of so many bits; 0: there are no such. -/
def gr (b : Int) : Int := if 1 ≤ b ∧ b ≤ 32 then 2 ^ b.toNat - 1 else 0
def clamp32 (x : Int) : Int := max (-2147483648) (min 2147483647 x)
def big : Int := 392318858461667547739736838950479151006397215279002157056
/-- where a number is led. -/
def ledTo (raw bits lo hi h l d e : Int) : Prop := (gr bits ≠ 0 ∧ raw ≤ gr bits → e = 0 ∧ d = gr bits ∧ w128 h l = lo * gr bits + raw * (hi - lo)) ∧ (¬ (gr bits ≠ 0 ∧ raw ≤ gr bits) → e = 1 ∧ h = 0 ∧ l = 0 ∧ d = 0)
def rawOf (v bits lo hi n e : Int) : Prop := (gr bits = 0 → n = 0 ∧ e = 1) ∧ (gr bits ≠ 0 ∧ lo = hi → n = 0 ∧ e = 12) ∧ (gr bits ≠ 0 ∧ lo ≠ hi → e = 0 ∧ ∃ x, nearest ((v - lo) * gr bits) (hi - lo) x ∧ n = max 0 (min (gr bits) x))
def nearTo (h l d v : Int) : Prop := (d < 1 → v = 0) ∧ (1 ≤ d → ∃ x, isNear (w128 h l) d x ∧ v = clamp32 x)

def sml (w : Int) : Prop := -73786976294838206464 ≤ w ∧ w ≤ 73786976294838206464
/-- may a point be? -/
def may20 (X xd Y yd : Int) : Prop := xd = yd ∧ 1 ≤ xd ∧ xd ≤ 4294967295 ∧ sml X ∧ sml Y
def linN (a c e X Y D : Int) : Int := X * a + Y * c + D * 65536 * e
def inFar (parts v : Int) : Prop := -(1048576 * parts) ≤ v ∧ v ≤ 1048576 * parts
def lineTo (k parts a c e X Y D v t : Int) : Prop := ∃ p, isNear (linN a c e X Y D) (D * k) p ∧ (inFar parts p → t = 1 ∧ v = p) ∧ (¬ inFar parts p → t = 0)
/-- where a matrix brings a point. -/
def placed (k parts a b c d e f X xd Y yd px py er : Int) : Prop := (¬ may20 X xd Y yd → er = 1 ∧ px = 0 ∧ py = 0) ∧ (may20 X xd Y yd → ∃ p q, isNear (linN a c e X Y xd) (xd * k) p ∧ isNear (linN b d f X Y xd) (xd * k) q ∧ (inFar parts p ∧ inFar parts q → er = 0 ∧ px = p ∧ py = q) ∧ (¬ (inFar parts p ∧ inFar parts q) → er = 8 ∧ px = 0 ∧ py = 0))
def i16 : Sh := .int .i16 (-32768) 32767
/-- a place that is not too far. -/
def fs : Sh := .int .i64 (-68719476736) 68719476736

def u16 : Sh := .int .u16 0 65535
def i8 : Sh := .int .i8 (-128) 127
/-- layouts: numbers of bits that may be. -/
def inCo (n : Int) : Prop := n = 1 ∨ n = 2 ∨ n = 4 ∨ n = 8 ∨ n = 12 ∨ n = 16 ∨ n = 24 ∨ n = 32
def inCm (n : Int) : Prop := n = 1 ∨ n = 2 ∨ n = 4 ∨ n = 8 ∨ n = 12 ∨ n = 16
def inFl (n : Int) : Prop := n = 2 ∨ n = 4 ∨ n = 8
def lay8 (t co cm fl cs row : Int) : Prop := (t = 4 ∨ t = 5 ∨ t = 6 ∨ t = 7) ∧ inCo co ∧ inCm cm ∧ 1 ≤ cs ∧ cs ≤ 4 ∧ (t = 5 → 2 ≤ row) ∧ (t ≠ 5 → inFl fl)
/-- the nearest number to a by d. -/
def nearF (a d : Int) : Int := (2 * a + d) / (2 * d)
def ledB (co raw : Int) : Bool := decide (gr co ≠ 0) && decide (raw ≤ gr co)
def ptF (a c e xl xh yl yh g rx ry : Int) : Int := nearF (linN a c e (xl * g + rx * (xh - xl)) (yl * g + ry * (yh - yl)) g) (g * 65536)
def farB (v : Int) : Bool := decide (-68719476736 ≤ v) && decide (v ≤ 68719476736)
def nth (l : List Int) (i : Nat) : Int := l.getD i 0
/-- one point of a patch: where it is brought; what is wrong. -/
def ptX (l m : List Int) (rx ry : Int) : Int := ptF (nth m 0) (nth m 2) (nth m 4) (nth l 6) (nth l 7) (nth l 8) (nth l 9) (gr (nth l 1)) rx ry
def ptY (l m : List Int) (rx ry : Int) : Int := ptF (nth m 1) (nth m 3) (nth m 5) (nth l 6) (nth l 7) (nth l 8) (nth l 9) (gr (nth l 1)) rx ry
def ptE (l m : List Int) (rx ry : Int) : Int := if ledB (nth l 1) rx && ledB (nth l 1) ry then (if farB (ptX l m rx ry) && farB (ptY l m rx ry) then 0 else 8) else 1
def inCoB (n : Int) : Bool := [1, 2, 4, 8, 12, 16, 24, 32].contains n
def inCmB (n : Int) : Bool := [1, 2, 4, 8, 12, 16].contains n
def inFlB (n : Int) : Bool := [2, 4, 8].contains n
def layB (l : List Int) : Bool := (nth l 0 == 6 || nth l 0 == 7) && inCoB (nth l 1) && inCmB (nth l 2) && decide (1 ≤ nth l 4) && decide (nth l 4 ≤ 4) && inFlB (nth l 3)
def Es (l p m : List Int) (i : Nat) : Int := ptE l m (nth p (2 * i)) (nth p (2 * i + 1))
def firstE : List Int → Int
  | [] => 0
  | e :: r => if e = 0 then firstE r else e
def many (l : List Int) : Nat := if nth l 0 = 7 then 16 else 12
def netE (l p m : List Int) : Int := if layB l then firstE ((List.range (many l)).map (Es l p m)) else 4
/-- which point comes to a place. -/
def inv16 : List Nat := [0, 1, 2, 3, 11, 12, 13, 4, 10, 15, 14, 5, 9, 8, 7, 6]
def pX (l p m : List Int) (k : Nat) : Int := ptX l m (nth p (2 * k)) (nth p (2 * k + 1))
def pY (l p m : List Int) (k : Nat) : Int := ptY l m (nth p (2 * k)) (nth p (2 * k + 1))
/-- an inner place, by the corners and sides next to it. -/
def mixF (a b c d e f g h : Int) : Int := nearF (-4 * a + 6 * (b + c) - 2 * (d + e) + 3 * (f + g) - h) 9
/-- the corner next to an inner place, the two beside it, the two other corners of these sides, the two on the far sides, the far corner: by points. -/
def inn (k : Nat) : List Nat :=
  if k = 12 then [0, 1, 11, 3, 9, 8, 4, 6] else if k = 13 then [3, 2, 4, 0, 6, 7, 11, 9] else if k = 15 then [9, 8, 10, 6, 0, 1, 5, 3] else [6, 7, 5, 9, 3, 2, 10, 0]
def at8 (f : Nat → Int) (l : List Nat) : Int := mixF (f (l.getD 0 0)) (f (l.getD 1 0)) (f (l.getD 2 0)) (f (l.getD 3 0)) (f (l.getD 4 0)) (f (l.getD 5 0)) (f (l.getD 6 0)) (f (l.getD 7 0))
def plX (l p m : List Int) (k : Nat) : Int := if k < many l then pX l p m k else at8 (pX l p m) (inn k)
def plY (l p m : List Int) (k : Nat) : Int := if k < many l then pY l p m k else at8 (pY l p m) (inn k)
def zero32 : List Int := List.replicate 32 0
def netN (l p m : List Int) : List Int := if netE l p m = 0 then inv16.flatMap fun k => [plX l p m k, plY l p m k] else zero32
/-- a side of a net. -/
def sideF (n : List Int) (s : Int) : List Int :=
  if s = 0 then [nth n 0, nth n 1, nth n 8, nth n 9, nth n 16, nth n 17, nth n 24, nth n 25]
  else if s = 1 then [nth n 24, nth n 25, nth n 26, nth n 27, nth n 28, nth n 29, nth n 30, nth n 31]
  else if s = 2 then [nth n 30, nth n 31, nth n 22, nth n 23, nth n 14, nth n 15, nth n 6, nth n 7]
  else if s = 3 then [nth n 6, nth n 7, nth n 4, nth n 5, nth n 2, nth n 3, nth n 0, nth n 1]
  else List.replicate 8 0
/-- the other way round: which point comes to a place. -/
def turnI (t : Int) : List Nat := [0, 11, 10, 9, 8, 7, 6, 5, 4, 3, 2, 1, 12] ++ (if t = 7 then [15, 14, 13] else [13, 14, 15])
def turnF (l p : List Int) : List Int := ((turnI (nth l 0)).flatMap fun k => [nth p (2 * k), nth p (2 * k + 1)]) ++ p.drop 32
/-- in how many of the first places two nets are unlike. -/
def unl (a b : List Int) : Nat → Int
  | 0 => 0
  | i + 1 => unl a b i + (if nth a (2 * i) = nth b (2 * i) ∧ nth a (2 * i + 1) = nth b (2 * i + 1) then 0 else 1)
def sideE (s : Int) : Int := if 0 ≤ s ∧ s ≤ 3 then 0 else 1

def lay18 : List Sh := List.replicate 6 i64 ++ List.replicate 12 i32
def pat48 : List Sh := List.replicate 32 u32 ++ List.replicate 16 u16
def net32 : List Sh := List.replicate 32 i64
def fix6 : List Sh := List.replicate 6 i32

def Pre_len64 : List (List Int) → Prop
  | [[n]] => True
  | _ => False
def Post_len64 : List (List Int) → List (List Int) → Prop
  | [[n]], [[k]] => (0 ≤ k ∧ n < 2 ^ k.toNat ∧ (0 < n → 2 ^ k.toNat ≤ 2 * n) ∧ (n = 0 → k = 0))
  | _, _ => False
def Pre_mul64 : List (List Int) → Prop
  | [[a], [b]] => True
  | _ => False
def Post_mul64 : List (List Int) → List (List Int) → Prop
  | [[a], [b]], [[h], [l]] => h * 18446744073709551616 + l = a * b
  | _, _ => False
def Pre_cmpi64 : List (List Int) → Prop
  | [[a], [b]] => True
  | _ => False
def Post_cmpi64 : List (List Int) → List (List Int) → Prop
  | [[a], [b]], [[c]] => ((a < b → c = -1) ∧ (a = b → c = 0) ∧ (b < a → c = 1))
  | _, _ => False
def Pre_cmpu64 : List (List Int) → Prop
  | [[a], [b]] => True
  | _ => False
def Post_cmpu64 : List (List Int) → List (List Int) → Prop
  | [[a], [b]], [[c]] => ((a < b → c = -1) ∧ (a = b → c = 0) ∧ (b < a → c = 1))
  | _, _ => False
def Pre_wcmp : List (List Int) → Prop
  | [[ah, al], [bh, bl]] => True
  | _ => False
def Post_wcmp : List (List Int) → List (List Int) → Prop
  | [[ah, al], [bh, bl]], [[c]] => ((w128 ah al < w128 bh bl → c = -1) ∧ (w128 ah al = w128 bh bl → c = 0) ∧ (w128 bh bl < w128 ah al → c = 1))
  | _, _ => False
def Pre_wof : List (List Int) → Prop
  | [[n]] => True
  | _ => False
def Post_wof : List (List Int) → List (List Int) → Prop
  | [[n]], [[h, l]] => w128 h l = n
  | _, _ => False
def Pre_lz64 : List (List Int) → Prop
  | [[n]] => True
  | _ => False
def Post_lz64 : List (List Int) → List (List Int) → Prop
  | [[n]], [[k]] => (0 ≤ k ∧ n < 2 ^ (64 - k).toNat ∧ (0 < n → 2 ^ (64 - k).toNat ≤ 2 * n) ∧ (n = 0 → k = 64))
  | _, _ => False
def Pre_div64 : List (List Int) → Prop
  | [[h], [l], [y]] => h < y
  | _ => False
def Post_div64 : List (List Int) → List (List Int) → Prop
  | [[h], [l], [y]], [[q], [r]] => isFloor (w128 h l) y q r
  | _, _ => False
def Inv_dv1 : List Int → List Int → Prop
  | [u, m, n, v], [q, s] => dvInv u m n v q s
  | _, _ => False
def Mea_dv1 : List Int → List Int → Nat
  | [u, m, n, v], [q, s] => q.toNat
  | _, _ => 0
def Inv_dv2 : List Int → List Int → Prop
  | [u, m, n, v], [q, s] => dvInv u m n v q s
  | _, _ => False
def Mea_dv2 : List Int → List Int → Nat
  | [u, m, n, v], [q, s] => q.toNat
  | _, _ => 0
def Pre_turned : List (List Int) → Prop
  | [[a, b, c]] => True
  | _ => False
def Post_turned : List (List Int) → List (List Int) → Prop
  | [[a, b, c]], [[x, y, z]] => (z = 0 ∧ w128 y x = (top8 - w128 b a) % top8)
  | _, _ => False
def Pre_part : List (List Int) → Prop
  | [[h, l]] => True
  | _ => False
def Post_part : List (List Int) → List (List Int) → Prop
  | [[h, l]], [[t, x, y, z]] => (z = 0 ∧ (h < 0 → t = 1 ∧ w128 y x = - w128 h l) ∧ (0 ≤ h → t = 0 ∧ w128 y x = w128 h l))
  | _, _ => False
def Pre_whole : List (List Int) → Prop
  | [[t, x, y, z]] => True
  | _ => False
def Post_whole : List (List Int) → List (List Int) → Prop
  | [[t, x, y, z]], [[h, l], [e]] => tellW (if t = 1 then - wv x y z else wv x y z) h l e
  | _, _ => False
def Pre_wtimes : List (List Int) → Prop
  | [[a, b, c], [n]] => True
  | _ => False
def Post_wtimes : List (List Int) → List (List Int) → Prop
  | [[a, b, c], [n]], [[x, y, z]] => wv x y z = (wv a b c * n) % top12
  | _, _ => False
def Pre_size : List (List Int) → Prop
  | [[n]] => True
  | _ => False
def Post_size : List (List Int) → List (List Int) → Prop
  | [[n]], [[m]] => ((n < 0 → m = -n) ∧ (0 ≤ n → m = n))
  | _, _ => False
def Pre_wadd : List (List Int) → Prop
  | [[a, b], [c, d]] => True
  | _ => False
def Post_wadd : List (List Int) → List (List Int) → Prop
  | [[a, b], [c, d]], [[h, l], [e]] => tellW (w128 a b + w128 c d) h l e
  | _, _ => False
def Pre_wsub : List (List Int) → Prop
  | [[a, b], [c, d]] => True
  | _ => False
def Post_wsub : List (List Int) → List (List Int) → Prop
  | [[a, b], [c, d]], [[h, l], [e]] => tellW (w128 a b - w128 c d) h l e
  | _, _ => False
def Pre_wtms : List (List Int) → Prop
  | [[a, b], [n]] => True
  | _ => False
def Post_wtms : List (List Int) → List (List Int) → Prop
  | [[a, b], [n]], [[h, l], [e]] => tellW (w128 a b * n) h l e
  | _, _ => False
def Pre_wmul : List (List Int) → Prop
  | [[a], [b]] => True
  | _ => False
def Post_wmul : List (List Int) → List (List Int) → Prop
  | [[a], [b]], [[h, l]] => w128 h l = a * b
  | _, _ => False
def Pre_wdivided : List (List Int) → Prop
  | [[a, b, c], [n]] => 0 < n
  | _ => False
def Post_wdivided : List (List Int) → List (List Int) → Prop
  | [[a, b, c], [n]], [[x, y, z], [r]] => (z = 0 ∧ isFloor (w128 b a) n (w128 y x) r)
  | _, _ => False
def Pre_wfloor : List (List Int) → Prop
  | [[a, b], [d]] => True
  | _ => False
def Post_wfloor : List (List Int) → List (List Int) → Prop
  | [[a, b], [d]], [[h, l], [r], [e]] => ((d < 1 → h = 0 ∧ l = 0 ∧ r = 0 ∧ e = 1) ∧ (1 ≤ d → e = 0 ∧ isFloor (w128 a b) d (w128 h l) r))
  | _, _ => False
def Pre_wnear : List (List Int) → Prop
  | [[a, b], [d]] => True
  | _ => False
def Post_wnear : List (List Int) → List (List Int) → Prop
  | [[a, b], [d]], [[h, l], [e]] => ((d < 1 → h = 0 ∧ l = 0 ∧ e = 1) ∧ (1 ≤ d → e = 0 ∧ isNear (w128 a b) d (w128 h l)))
  | _, _ => False
def Pre_wint : List (List Int) → Prop
  | [[a, b]] => True
  | _ => False
def Post_wint : List (List Int) → List (List Int) → Prop
  | [[a, b]], [[n], [t]] => isInt (w128 a b) n t
  | _, _ => False
def Pre_greatest : List (List Int) → Prop
  | [[b]] => True
  | _ => False
def Post_greatest : List (List Int) → List (List Int) → Prop
  | [[b]], [[g]] => g = gr b
  | _, _ => False
def Pre_width : List (List Int) → Prop
  | [[lo, hi]] => True
  | _ => False
def Post_width : List (List Int) → List (List Int) → Prop
  | [[lo, hi]], [[w]] => w = hi - lo
  | _, _ => False
def Pre_led : List (List Int) → Prop
  | [[raw], [bits], [lo, hi]] => True
  | _ => False
def Post_led : List (List Int) → List (List Int) → Prop
  | [[raw], [bits], [lo, hi]], [[h, l, d, e]] => ledTo raw bits lo hi h l d e
  | _, _ => False
def Pre_value : List (List Int) → Prop
  | [[raw], [bits], [lo, hi]] => True
  | _ => False
def Post_value : List (List Int) → List (List Int) → Prop
  | [[raw], [bits], [lo, hi]], [[h, l, d], [e]] => ledTo raw bits lo hi h l d e
  | _, _ => False
def Pre_psmall : List (List Int) → Prop
  | [[h, l]] => True
  | _ => False
def Post_psmall : List (List Int) → List (List Int) → Prop
  | [[h, l]], [[t]] => ((sml (w128 h l) → t = 1) ∧ (¬ sml (w128 h l) → t = 0))
  | _, _ => False
def Pre_pplace : List (List Int) → Prop
  | [[m0, m1, m2, m3, m4, m5], [xh, xl, xd], [yh, yl, yd]] => True
  | _ => False
def Post_pplace : List (List Int) → List (List Int) → Prop
  | [[m0, m1, m2, m3, m4, m5], [xh, xl, xd], [yh, yl, yd]], [[px, py], [er]] => placed 65536 65536 m0 m1 m2 m3 m4 m5 (w128 xh xl) xd (w128 yh yl) yd px py er
  | _, _ => False
def Pre_lcheck : List (List Int) → Prop
  | [[l0, l1, l2, l3, l4, l5, l6, l7, l8, l9, l10, l11, l12, l13, l14, l15, l16, l17]] => True
  | _ => False
def Post_lcheck : List (List Int) → List (List Int) → Prop
  | [[l0, l1, l2, l3, l4, l5, l6, l7, l8, l9, l10, l11, l12, l13, l14, l15, l16, l17]], [[e]] => ((lay8 l0 l1 l2 l3 l4 l5 → e = 0) ∧ (¬ lay8 l0 l1 l2 l3 l4 l5 → e = 4))
  | _, _ => False
def Pre_norder : List (List Int) → Prop
  | [] => True
  | _ => False
def Post_norder : List (List Int) → List (List Int) → Prop
  | [], [r] => True
  | _, _ => False
def Pre_nninth : List (List Int) → Prop
  | [[n]] => True
  | _ => False
def Post_nninth : List (List Int) → List (List Int) → Prop
  | [[n]], [[v]] => v = nearF n 9
  | _, _ => False
def Pre_nof : List (List Int) → Prop
  | [l, p, m] => True
  | _ => False
def Post_nof : List (List Int) → List (List Int) → Prop
  | [l, p, m], [n, [e]] => (n = netN l p m ∧ e = netE l p m)
  | _, _ => False
def Pre_nborder : List (List Int) → Prop
  | [n, [s]] => True
  | _ => False
def Post_nborder : List (List Int) → List (List Int) → Prop
  | [n, [s]], [r, [e]] => (r = sideF n s ∧ e = sideE s)
  | _, _ => False
def Pre_rnborder : List (List Int) → Prop
  | [n, [s]] => True
  | _ => False
def Post_rnborder : List (List Int) → List (List Int) → Prop
  | [n, [s]], [r, [e]] => (r = sideF n s ∧ e = sideE s)
  | _, _ => False
def Pre_qturned : List (List Int) → Prop
  | [l, p] => True
  | _ => False
def Post_qturned : List (List Int) → List (List Int) → Prop
  | [l, p], [q] => q = turnF l p
  | _, _ => False
def Pre_lives : List (List Int) → Prop
  | [] => True
  | _ => False
def Post_lives : List (List Int) → List (List Int) → Prop
  | [], [[t]] => t = 1
  | _, _ => False
def Pre_lborder : List (List Int) → Prop
  | [n, [s]] => True
  | _ => False
def Post_lborder : List (List Int) → List (List Int) → Prop
  | [n, [s]], [[t]] => t = 1
  | _, _ => False
def Pre_lround : List (List Int) → Prop
  | [n] => True
  | _ => False
def Post_lround : List (List Int) → List (List Int) → Prop
  | [n], [[t]] => t = 1
  | _, _ => False
def Pre_lturned : List (List Int) → Prop
  | [z] => True
  | _ => False
def Post_lturned : List (List Int) → List (List Int) → Prop
  | [z], [[t]] => t = 1
  | _, _ => False
def Pre_lflat : List (List Int) → Prop
  | [m, a] => True
  | _ => False
def Post_lflat : List (List Int) → List (List Int) → Prop
  | [m, a], [[t]] => t = 1
  | _, _ => False
def Pre_lseven : List (List Int) → Prop
  | [z, [k], s] => True
  | _ => False
def Post_lseven : List (List Int) → List (List Int) → Prop
  | [z, [k], s], [[t]] => t = 1
  | _, _ => False
def Inv_sev : List Int → List Int → Prop
  | fs, [u, i] => u = unl (fs.take 32) (fs.drop 32) i.toNat
  | _, _ => False
def Mea_sev : List Int → List Int → Nat
  | fs, [u, i] => (16 - i).toNat
  | _, _ => 0
def E : Ctx where
  pre f a := if Nat.beq f 64 = true then Pre_len64 a else if Nat.beq f 55 = true then Pre_mul64 a else if Nat.beq f 58 = true then Pre_cmpi64 a else if Nat.beq f 59 = true then Pre_cmpu64 a else if Nat.beq f 52 = true then Pre_wcmp a else if Nat.beq f 37 = true then Pre_wof a else if Nat.beq f 63 = true then Pre_lz64 a else if Nat.beq f 60 = true then Pre_div64 a else if Nat.beq f 54 = true then Pre_turned a else if Nat.beq f 47 = true then Pre_part a else if Nat.beq f 50 = true then Pre_whole a else if Nat.beq f 48 = true then Pre_wtimes a else if Nat.beq f 49 = true then Pre_size a else if Nat.beq f 32 = true then Pre_wadd a else if Nat.beq f 51 = true then Pre_wsub a else if Nat.beq f 42 = true then Pre_wtms a else if Nat.beq f 33 = true then Pre_wmul a else if Nat.beq f 53 = true then Pre_wdivided a else if Nat.beq f 46 = true then Pre_wfloor a else if Nat.beq f 39 = true then Pre_wnear a else if Nat.beq f 40 = true then Pre_wint a else if Nat.beq f 30 = true then Pre_greatest a else if Nat.beq f 34 = true then Pre_width a else if Nat.beq f 20 = true then Pre_led a else if Nat.beq f 16 = true then Pre_value a else if Nat.beq f 45 = true then Pre_psmall a else if Nat.beq f 17 = true then Pre_pplace a else if Nat.beq f 14 = true then Pre_lcheck a else if Nat.beq f 15 = true then Pre_norder a else if Nat.beq f 26 = true then Pre_nninth a else if Nat.beq f 11 = true then Pre_nof a else if Nat.beq f 8 = true then Pre_nborder a else if Nat.beq f 9 = true then Pre_rnborder a else if Nat.beq f 12 = true then Pre_qturned a else if Nat.beq f 10 = true then Pre_lives a else if Nat.beq f 3 = true then Pre_lborder a else if Nat.beq f 4 = true then Pre_lround a else if Nat.beq f 5 = true then Pre_lturned a else if Nat.beq f 6 = true then Pre_lflat a else if Nat.beq f 7 = true then Pre_lseven a else False
  post f a r := if Nat.beq f 64 = true then Post_len64 a r else if Nat.beq f 55 = true then Post_mul64 a r else if Nat.beq f 58 = true then Post_cmpi64 a r else if Nat.beq f 59 = true then Post_cmpu64 a r else if Nat.beq f 52 = true then Post_wcmp a r else if Nat.beq f 37 = true then Post_wof a r else if Nat.beq f 63 = true then Post_lz64 a r else if Nat.beq f 60 = true then Post_div64 a r else if Nat.beq f 54 = true then Post_turned a r else if Nat.beq f 47 = true then Post_part a r else if Nat.beq f 50 = true then Post_whole a r else if Nat.beq f 48 = true then Post_wtimes a r else if Nat.beq f 49 = true then Post_size a r else if Nat.beq f 32 = true then Post_wadd a r else if Nat.beq f 51 = true then Post_wsub a r else if Nat.beq f 42 = true then Post_wtms a r else if Nat.beq f 33 = true then Post_wmul a r else if Nat.beq f 53 = true then Post_wdivided a r else if Nat.beq f 46 = true then Post_wfloor a r else if Nat.beq f 39 = true then Post_wnear a r else if Nat.beq f 40 = true then Post_wint a r else if Nat.beq f 30 = true then Post_greatest a r else if Nat.beq f 34 = true then Post_width a r else if Nat.beq f 20 = true then Post_led a r else if Nat.beq f 16 = true then Post_value a r else if Nat.beq f 45 = true then Post_psmall a r else if Nat.beq f 17 = true then Post_pplace a r else if Nat.beq f 14 = true then Post_lcheck a r else if Nat.beq f 15 = true then Post_norder a r else if Nat.beq f 26 = true then Post_nninth a r else if Nat.beq f 11 = true then Post_nof a r else if Nat.beq f 8 = true then Post_nborder a r else if Nat.beq f 9 = true then Post_rnborder a r else if Nat.beq f 12 = true then Post_qturned a r else if Nat.beq f 10 = true then Post_lives a r else if Nat.beq f 3 = true then Post_lborder a r else if Nat.beq f 4 = true then Post_lround a r else if Nat.beq f 5 = true then Post_lturned a r else if Nat.beq f 6 = true then Post_lflat a r else if Nat.beq f 7 = true then Post_lseven a r else False
  inv l a r := if Nat.beq l 0 = true then Inv_dv1 a r else if Nat.beq l 1 = true then Inv_dv2 a r else if Nat.beq l 2 = true then Inv_sev a r else False
  mea l a r := if Nat.beq l 0 = true then Mea_dv1 a r else if Nat.beq l 1 = true then Mea_dv2 a r else if Nat.beq l 2 = true then Mea_sev a r else 0
def anns0 : List (FuncId × Nat × Ann) := [(60, 17, { l := 0, slots := [(15, u64), (16, u64)], blks := [], fro := [11, 9, 10, 13] }), (60, 24, { l := 1, slots := [(18, u64), (16, u64)], blks := [], fro := [17, 9, 10, 14] }), (7, 12, { l := 2, slots := [(13, ir 0 16), (14, ir 0 16)], blks := [], fro := [7, 11] })]
def tab0 : Tab := { cons := [], exts := [(41, true), (56, false)], anns := anns0 }
def ash_len64 : List ShA := [.s u64]
def sh_len64 : ShV := .a (.s (ir 0 64))
def tab1 : Tab := { tab0 with cons := (64, ash_len64, sh_len64) :: tab0.cons }
def ash_mul64 : List ShA := [.s u64, .s u64]
def sh_mul64 : ShV := .tup [.s u64, .s u64]
def tab2 : Tab := { tab1 with cons := (55, ash_mul64, sh_mul64) :: tab1.cons }
def ash_cmpi64 : List ShA := [.s i64, .s i64]
def sh_cmpi64 : ShV := .a (.s (ir (-1) 1))
def tab3 : Tab := { tab2 with cons := (58, ash_cmpi64, sh_cmpi64) :: tab2.cons }
def ash_cmpu64 : List ShA := [.s u64, .s u64]
def sh_cmpu64 : ShV := .a (.s (ir (-1) 1))
def tab4 : Tab := { tab3 with cons := (59, ash_cmpu64, sh_cmpu64) :: tab3.cons }
def ash_wcmp : List ShA := [.agg [i64, u64], .agg [i64, u64]]
def sh_wcmp : ShV := .a (.s (ir (-1) 1))
def tab5 : Tab := { tab4 with cons := (52, ash_wcmp, sh_wcmp) :: tab4.cons }
def ash_wof : List ShA := [.s i64]
def sh_wof : ShV := .a (.agg [i64, u64])
def tab6 : Tab := { tab5 with cons := (37, ash_wof, sh_wof) :: tab5.cons }
def ash_lz64 : List ShA := [.s u64]
def sh_lz64 : ShV := .a (.s (ir 0 64))
def tab7 : Tab := { tab6 with cons := (63, ash_lz64, sh_lz64) :: tab6.cons }
def ash_div64 : List ShA := [.s u64, .s u64, .s u64]
def sh_div64 : ShV := .tup [.s u64, .s u64]
def tab8 : Tab := { tab7 with cons := (60, ash_div64, sh_div64) :: tab7.cons }
def ash_turned : List ShA := [.agg [u64, u64, u64]]
def sh_turned : ShV := .a (.agg [u64, u64, u64])
def tab9 : Tab := { tab8 with cons := (54, ash_turned, sh_turned) :: tab8.cons }
def ash_part : List ShA := [.agg [i64, u64]]
def sh_part : ShV := .a (.agg [.bool, u64, u64, u64])
def tab10 : Tab := { tab9 with cons := (47, ash_part, sh_part) :: tab9.cons }
def ash_whole : List ShA := [.agg [.bool, u64, u64, u64]]
def sh_whole : ShV := .tup [.agg [i64, u64], .s (ir 0 11)]
def tab11 : Tab := { tab10 with cons := (50, ash_whole, sh_whole) :: tab10.cons }
def ash_wtimes : List ShA := [.agg [u64, u64, u64], .s u64]
def sh_wtimes : ShV := .a (.agg [u64, u64, u64])
def tab12 : Tab := { tab11 with cons := (48, ash_wtimes, sh_wtimes) :: tab11.cons }
def ash_size : List ShA := [.s i64]
def sh_size : ShV := .a (.s u64)
def tab13 : Tab := { tab12 with cons := (49, ash_size, sh_size) :: tab12.cons }
def ash_wadd : List ShA := [.agg [i64, u64], .agg [i64, u64]]
def sh_wadd : ShV := .tup [.agg [i64, u64], .s (ir 0 11)]
def tab14 : Tab := { tab13 with cons := (32, ash_wadd, sh_wadd) :: tab13.cons }
def ash_wsub : List ShA := [.agg [i64, u64], .agg [i64, u64]]
def sh_wsub : ShV := .tup [.agg [i64, u64], .s (ir 0 11)]
def tab15 : Tab := { tab14 with cons := (51, ash_wsub, sh_wsub) :: tab14.cons }
def ash_wtms : List ShA := [.agg [i64, u64], .s i64]
def sh_wtms : ShV := .tup [.agg [i64, u64], .s (ir 0 11)]
def tab16 : Tab := { tab15 with cons := (42, ash_wtms, sh_wtms) :: tab15.cons }
def ash_wmul : List ShA := [.s i64, .s i64]
def sh_wmul : ShV := .a (.agg [i64, u64])
def tab17 : Tab := { tab16 with cons := (33, ash_wmul, sh_wmul) :: tab16.cons }
def ash_wdivided : List ShA := [.agg [u64, u64, u64], .s u64]
def sh_wdivided : ShV := .tup [.agg [u64, u64, u64], .s u64]
def tab18 : Tab := { tab17 with cons := (53, ash_wdivided, sh_wdivided) :: tab17.cons }
def ash_wfloor : List ShA := [.agg [i64, u64], .s i64]
def sh_wfloor : ShV := .tup [.agg [i64, u64], .s i64, .s (ir 0 11)]
def tab19 : Tab := { tab18 with cons := (46, ash_wfloor, sh_wfloor) :: tab18.cons }
def ash_wnear : List ShA := [.agg [i64, u64], .s i64]
def sh_wnear : ShV := .tup [.agg [i64, u64], .s (ir 0 11)]
def tab20 : Tab := { tab19 with cons := (39, ash_wnear, sh_wnear) :: tab19.cons }
def ash_wint : List ShA := [.agg [i64, u64]]
def sh_wint : ShV := .tup [.s i64, .s .bool]
def tab21 : Tab := { tab20 with cons := (40, ash_wint, sh_wint) :: tab20.cons }
def ash_greatest : List ShA := [.s i64]
def sh_greatest : ShV := .a (.s (ir 0 4294967295))
def tab22 : Tab := { tab21 with cons := (30, ash_greatest, sh_greatest) :: tab21.cons }
def ash_width : List ShA := [.agg [i32, i32]]
def sh_width : ShV := .a (.s (ir (-4294967295) 4294967295))
def tab23 : Tab := { tab22 with cons := (34, ash_width, sh_width) :: tab22.cons }
def ash_led : List ShA := [.s u32, .s i64, .agg [i32, i32]]
def sh_led : ShV := .a (.agg [i64, u64, i64, ir 0 15])
def tab24 : Tab := { tab23 with cons := (20, ash_led, sh_led) :: tab23.cons }
def ash_value : List ShA := [.s u32, .s i64, .agg [i32, i32]]
def sh_value : ShV := .tup [.agg [i64, u64, i64], .s (ir 0 15)]
def tab25 : Tab := { tab24 with cons := (16, ash_value, sh_value) :: tab24.cons }
def ash_psmall : List ShA := [.agg [i64, u64]]
def sh_psmall : ShV := .a (.s .bool)
def tab26 : Tab := { tab25 with cons := (45, ash_psmall, sh_psmall) :: tab25.cons }
def ash_pplace : List ShA := [.agg [i32, i32, i32, i32, i32, i32], .agg [i64, u64, i64], .agg [i64, u64, i64]]
def sh_pplace : ShV := .tup [.agg [fs, fs], .s (ir 0 15)]
def tab27 : Tab := { tab26 with cons := (17, ash_pplace, sh_pplace) :: tab26.cons }
def ash_lcheck : List ShA := [.agg lay18]
def sh_lcheck : ShV := .a (.s (ir 0 4))
def tab28 : Tab := { tab27 with cons := (14, ash_lcheck, sh_lcheck) :: tab27.cons }
def ash_norder : List ShA := []
def sh_norder : ShV := .a (.agg [ir 0 0, ir 1 1, ir 2 2, ir 3 3, ir 7 7, ir 11 11, ir 15 15, ir 14 14, ir 13 13, ir 12 12, ir 8 8, ir 4 4, ir 5 5, ir 6 6, ir 10 10, ir 9 9])
def tab29 : Tab := { tab28 with cons := (15, ash_norder, sh_norder) :: tab28.cons }
def ash_nninth : List ShA := [.s i64]
def sh_nninth : ShV := .a (.s i64)
def tab30 : Tab := { tab29 with cons := (26, ash_nninth, sh_nninth) :: tab29.cons }
def ash_nof : List ShA := [.agg lay18, .agg pat48, .agg fix6]
def sh_nof : ShV := .tup [.agg net32, .s (ir 0 15)]
def tab31 : Tab := { tab30 with cons := (11, ash_nof, sh_nof) :: tab30.cons }
def ash_nborder : List ShA := [.agg net32, .s i64]
def sh_nborder : ShV := .tup [.agg (List.replicate 8 i64), .s (ir 0 15)]
def tab32 : Tab := { tab31 with cons := (8, ash_nborder, sh_nborder) :: tab31.cons }
def ash_rnborder : List ShA := [.agg net32, .s i64]
def sh_rnborder : ShV := .tup [.agg (List.replicate 8 i64), .s (ir 0 15)]
def tab33 : Tab := { tab32 with cons := (9, ash_rnborder, sh_rnborder) :: tab32.cons }
def ash_qturned : List ShA := [.agg lay18, .agg pat48]
def sh_qturned : ShV := .a (.agg pat48)
def tab34 : Tab := { tab33 with cons := (12, ash_qturned, sh_qturned) :: tab33.cons }
def ash_lives : List ShA := []
def sh_lives : ShV := .a (.s .bool)
def tab35 : Tab := { tab34 with cons := (10, ash_lives, sh_lives) :: tab34.cons }
def ash_lborder : List ShA := [.agg net32, .s i64]
def sh_lborder : ShV := .a (.s .bool)
def ash_lround : List ShA := [.agg net32]
def sh_lround : ShV := .a (.s .bool)
def ash_lturned : List ShA := [.agg (lay18 ++ pat48 ++ fix6)]
def sh_lturned : ShV := .a (.s .bool)
def ash_lflat : List ShA := [.agg (List.replicate 6 i8), .agg (List.replicate 2 u8)]
def sh_lflat : ShV := .a (.s .bool)
def ash_lseven : List ShA := [.agg (lay18 ++ pat48 ++ fix6), .s u8, .agg [u32, u32]]
def sh_lseven : ShV := .a (.s .bool)

end Go.Proofs.YtndfeckmfhiniaaDoor.Sx
