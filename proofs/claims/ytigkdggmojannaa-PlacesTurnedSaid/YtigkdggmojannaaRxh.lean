/-
  Contracts of functions, by their words. Printed by a program of our own.
-/
import Derived.Test.YtigkdggmojannaaSxo
import Derived.KernelRfl
set_option maxRecDepth 1000000
set_option linter.all false
namespace Go.Proofs.Ytigkdggmojannaa.Sx
open Go Go.RowKit

def u64 : Sh := .int .u64 0 18446744073709551615
def u32 : Sh := .int .u32 0 4294967295
def u8 : Sh := .int .u8 0 255
def i64 : Sh := .int .i64 (-9223372036854775808) 9223372036854775807
def i32 : Sh := .int .i32 (-2147483648) 2147483647
def ir (lo hi : Int) : Sh := .int .i64 lo hi
def len8tab : List Int := (List.range 256).map fun i => if i = 0 then 0 else (Nat.log2 i : Int) + 1
def dg12 : List Sh := List.replicate 12 (ir 0 65535)
def numS : ShA := .agg (.bool :: dg12)
/-- a number of digits to the base 65536, the lowest first. -/
def vd : List Int → Int
  | [] => 0
  | d :: r => d + 65536 * vd r
def sv : List Int → Int
  | m :: ds => if m = 1 then - vd ds else vd ds
  | [] => 0
/-- no digit but the i-th is below 0. -/
def nnb : Int → List Int → Prop
  | _, [] => True
  | i, d :: r => (i ≠ 0 → 0 ≤ d) ∧ nnb (i - 1) r
def top12 : Int := 6277101735386680763835789423207666416102355444464034512896
def top8 : Int := 340282366920938463463374607431768211456
def dA (fs : List Int) : List Int := (fs.drop 1).take 12
def dB (fs : List Int) : List Int := fs.drop 14
def w128 (h l : Int) : Int := h * 18446744073709551616 + l

def half128 : Int := 170141183460469231731687303715884105728
/-- is a number a wide? -/
def inW (v : Int) : Prop := -half128 ≤ v ∧ v < half128
/-- a number told as a wide, or refused as too great. -/
def tellW (v h l e : Int) : Prop := (inW v → e = 0 ∧ w128 h l = v) ∧ (¬ inW v → e = 11 ∧ h = 0 ∧ l = 0)
def wv (a b c : Int) : Int := a + b * 18446744073709551616 + c * 340282366920938463463374607431768211456
/-- q is nearest to a by d. -/
def isNear (a d q : Int) : Prop := 2 * d * q ≤ 2 * a + d ∧ 2 * a + d < 2 * d * (q + 1)
/-- a digit of a quotient is guessed from above. -/
def dvInv (u m n v q s : Int) : Prop := q * m + s = u ∧ s < 4294967296 ∧ u * 4294967296 + v < (q + 1) * (m * 4294967296 + n)
def isFloor (a d q r : Int) : Prop := a = q * d + r ∧ 0 ≤ r ∧ r < d
def isI64 (v : Int) : Prop := -9223372036854775808 ≤ v ∧ v ≤ 9223372036854775807
def isInt (v n t : Int) : Prop := (isI64 v → t = 1 ∧ n = v) ∧ (¬ isI64 v → t = 0 ∧ n = 0)
def nearest (a b q : Int) : Prop := (0 < b → isNear a b q) ∧ (b < 0 → isNear (-a) (-b) q)
def divInv (a d : Int) (i q r : Int) : Prop := q * d + r = a / 2 ^ (i + 1).toNat ∧ 0 ≤ r ∧ r < d ∧ 0 ≤ q

def sml (w : Int) : Prop := -73786976294838206464 ≤ w ∧ w ≤ 73786976294838206464
/-- may a point be? -/
def may20 (X xd Y yd : Int) : Prop := xd = yd ∧ 1 ≤ xd ∧ xd ≤ 4294967295 ∧ sml X ∧ sml Y
def linN (a c e X Y D : Int) : Int := X * a + Y * c + D * 65536 * e
def inFar (parts v : Int) : Prop := -(1048576 * parts) ≤ v ∧ v ≤ 1048576 * parts
def lineTo (k parts a c e X Y D v t : Int) : Prop := ∃ p, isNear (linN a c e X Y D) (D * k) p ∧ (inFar parts p → t = 1 ∧ v = p) ∧ (¬ inFar parts p → t = 0)
/-- where a matrix brings a point. -/
def placed (k parts a b c d e f X xd Y yd px py er : Int) : Prop := (¬ may20 X xd Y yd → er = 1 ∧ px = 0 ∧ py = 0) ∧ (may20 X xd Y yd → ∃ p q, isNear (linN a c e X Y xd) (xd * k) p ∧ isNear (linN b d f X Y xd) (xd * k) q ∧ (inFar parts p ∧ inFar parts q → er = 0 ∧ px = p ∧ py = q) ∧ (¬ (inFar parts p ∧ inFar parts q) → er = 8 ∧ px = 0 ∧ py = 0))
def i16 : Sh := .int .i16 (-32768) 32767

def Pre_len64 : List (List Int) → Prop
  | [[n]] => True
  | _ => False
def Post_len64 : List (List Int) → List (List Int) → Prop
  | [[n]], [[k]] => (0 ≤ k ∧ n < 2 ^ k.toNat ∧ (0 < n → 2 ^ k.toNat ≤ 2 * n) ∧ (n = 0 → k = 0))
  | _, _ => False
def Pre_mul64 : List (List Int) → Prop
  | [[a], [b]] => True
  | _ => False
def Post_mul64 : List (List Int) → List (List Int) → Prop
  | [[a], [b]], [[h], [l]] => h * 18446744073709551616 + l = a * b
  | _, _ => False
def Pre_compare : List (List Int) → Prop
  | [a, b] => True
  | _ => False
def Post_compare : List (List Int) → List (List Int) → Prop
  | [a, b], [[c]] => ((vd a < vd b → c = -1) ∧ (vd a = vd b → c = 0) ∧ (vd b < vd a → c = 1))
  | _, _ => False
def Pre_plus : List (List Int) → Prop
  | [a, b] => True
  | _ => False
def Post_plus : List (List Int) → List (List Int) → Prop
  | [a, b], [r] => vd r = (vd a + vd b) % top12
  | _, _ => False
def Pre_less : List (List Int) → Prop
  | [a, b] => vd b ≤ vd a
  | _ => False
def Post_less : List (List Int) → List (List Int) → Prop
  | [a, b], [r] => vd r = vd a - vd b
  | _, _ => False
def Inv_less : List Int → List Int → Prop
  | fs, i :: c => vd c + vd ((fs.drop 12).take i.toNat) = vd (fs.take 12) ∧ nnb i c
  | _, _ => False
def Mea_less : List Int → List Int → Nat
  | fs, i :: c => (12 - i).toNat
  | _, _ => 0
def Pre_product : List (List Int) → Prop
  | [m :: a, n :: b] => True
  | _ => False
def Post_product : List (List Int) → List (List Int) → Prop
  | [m :: a, n :: b], [p :: r] => ((p = 1 ↔ m ≠ n) ∧ vd r = (vd a * vd b) % top12)
  | _, _ => False
def Inv_prodo : List Int → List Int → Prop
  | fs, i :: o => top12 ∣ vd o - vd ((dA fs).take i.toNat) * vd (dB fs)
  | _, _ => False
def Mea_prodo : List Int → List Int → Nat
  | fs, i :: o => (12 - i).toNat
  | _, _ => 0
def Inv_prodi : List Int → List Int → Prop
  | i :: fs, q :: k :: o => (i + k ≤ 12 ∧ top12 ∣ vd o + q * 65536 ^ (i.toNat + k.toNat) - (vd ((dA fs).take i.toNat) * vd (dB fs) + (dA fs).getD i.toNat 0 * vd ((dB fs).take k.toNat) * 65536 ^ i.toNat))
  | _, _ => False
def Mea_prodi : List Int → List Int → Nat
  | i :: fs, q :: k :: o => (12 - k).toNat
  | _, _ => 0
def Pre_read : List (List Int) → Prop
  | [[h, l]] => True
  | _ => False
def Post_read : List (List Int) → List (List Int) → Prop
  | [[h, l]], [r] => (vd (r.drop 1) ≤ 170141183460469231731687303715884105728 ∧ sv r = w128 h l ∧ (r.getD 0 0 = 1 ↔ h < 0))
  | _, _ => False
def Pre_minus : List (List Int) → Prop
  | [m :: a] => True
  | _ => False
def Post_minus : List (List Int) → List (List Int) → Prop
  | [m :: a], [p :: r] => ((p = 1 ↔ m ≠ 1) ∧ r = a)
  | _, _ => False
def Pre_sum : List (List Int) → Prop
  | [a, b] => vd (a.drop 1) + vd (b.drop 1) < top12
  | _ => False
def Post_sum : List (List Int) → List (List Int) → Prop
  | [a, b], [r] => (sv r = sv a + sv b ∧ vd (r.drop 1) ≤ vd (a.drop 1) + vd (b.drop 1))
  | _, _ => False
def Pre_cmpi64 : List (List Int) → Prop
  | [[a], [b]] => True
  | _ => False
def Post_cmpi64 : List (List Int) → List (List Int) → Prop
  | [[a], [b]], [[c]] => ((a < b → c = -1) ∧ (a = b → c = 0) ∧ (b < a → c = 1))
  | _, _ => False
def Pre_cmpu64 : List (List Int) → Prop
  | [[a], [b]] => True
  | _ => False
def Post_cmpu64 : List (List Int) → List (List Int) → Prop
  | [[a], [b]], [[c]] => ((a < b → c = -1) ∧ (a = b → c = 0) ∧ (b < a → c = 1))
  | _, _ => False
def Pre_wcmp : List (List Int) → Prop
  | [[ah, al], [bh, bl]] => True
  | _ => False
def Post_wcmp : List (List Int) → List (List Int) → Prop
  | [[ah, al], [bh, bl]], [[c]] => ((w128 ah al < w128 bh bl → c = -1) ∧ (w128 ah al = w128 bh bl → c = 0) ∧ (w128 bh bl < w128 ah al → c = 1))
  | _, _ => False
def Pre_wof : List (List Int) → Prop
  | [[n]] => True
  | _ => False
def Post_wof : List (List Int) → List (List Int) → Prop
  | [[n]], [[h, l]] => w128 h l = n
  | _, _ => False
def Pre_lz64 : List (List Int) → Prop
  | [[n]] => True
  | _ => False
def Post_lz64 : List (List Int) → List (List Int) → Prop
  | [[n]], [[k]] => (0 ≤ k ∧ n < 2 ^ (64 - k).toNat ∧ (0 < n → 2 ^ (64 - k).toNat ≤ 2 * n) ∧ (n = 0 → k = 64))
  | _, _ => False
def Pre_div64 : List (List Int) → Prop
  | [[h], [l], [y]] => h < y
  | _ => False
def Post_div64 : List (List Int) → List (List Int) → Prop
  | [[h], [l], [y]], [[q], [r]] => isFloor (w128 h l) y q r
  | _, _ => False
def Inv_dv1 : List Int → List Int → Prop
  | [u, m, n, v], [q, s] => dvInv u m n v q s
  | _, _ => False
def Mea_dv1 : List Int → List Int → Nat
  | [u, m, n, v], [q, s] => q.toNat
  | _, _ => 0
def Inv_dv2 : List Int → List Int → Prop
  | [u, m, n, v], [q, s] => dvInv u m n v q s
  | _, _ => False
def Mea_dv2 : List Int → List Int → Nat
  | [u, m, n, v], [q, s] => q.toNat
  | _, _ => 0
def Pre_turned : List (List Int) → Prop
  | [[a, b, c]] => True
  | _ => False
def Post_turned : List (List Int) → List (List Int) → Prop
  | [[a, b, c]], [[x, y, z]] => (z = 0 ∧ w128 y x = (top8 - w128 b a) % top8)
  | _, _ => False
def Pre_part : List (List Int) → Prop
  | [[h, l]] => True
  | _ => False
def Post_part : List (List Int) → List (List Int) → Prop
  | [[h, l]], [[t, x, y, z]] => (z = 0 ∧ (h < 0 → t = 1 ∧ w128 y x = - w128 h l) ∧ (0 ≤ h → t = 0 ∧ w128 y x = w128 h l))
  | _, _ => False
def Pre_whole : List (List Int) → Prop
  | [[t, x, y, z]] => True
  | _ => False
def Post_whole : List (List Int) → List (List Int) → Prop
  | [[t, x, y, z]], [[h, l], [e]] => tellW (if t = 1 then - wv x y z else wv x y z) h l e
  | _, _ => False
def Pre_wtimes : List (List Int) → Prop
  | [[a, b, c], [n]] => True
  | _ => False
def Post_wtimes : List (List Int) → List (List Int) → Prop
  | [[a, b, c], [n]], [[x, y, z]] => wv x y z = (wv a b c * n) % top12
  | _, _ => False
def Pre_size : List (List Int) → Prop
  | [[n]] => True
  | _ => False
def Post_size : List (List Int) → List (List Int) → Prop
  | [[n]], [[m]] => ((n < 0 → m = -n) ∧ (0 ≤ n → m = n))
  | _, _ => False
def Pre_wadd : List (List Int) → Prop
  | [[a, b], [c, d]] => True
  | _ => False
def Post_wadd : List (List Int) → List (List Int) → Prop
  | [[a, b], [c, d]], [[h, l], [e]] => tellW (w128 a b + w128 c d) h l e
  | _, _ => False
def Pre_wsub : List (List Int) → Prop
  | [[a, b], [c, d]] => True
  | _ => False
def Post_wsub : List (List Int) → List (List Int) → Prop
  | [[a, b], [c, d]], [[h, l], [e]] => tellW (w128 a b - w128 c d) h l e
  | _, _ => False
def Pre_wtms : List (List Int) → Prop
  | [[a, b], [n]] => True
  | _ => False
def Post_wtms : List (List Int) → List (List Int) → Prop
  | [[a, b], [n]], [[h, l], [e]] => tellW (w128 a b * n) h l e
  | _, _ => False
def Pre_wdivided : List (List Int) → Prop
  | [[a, b, c], [n]] => 0 < n
  | _ => False
def Post_wdivided : List (List Int) → List (List Int) → Prop
  | [[a, b, c], [n]], [[x, y, z], [r]] => (z = 0 ∧ isFloor (w128 b a) n (w128 y x) r)
  | _, _ => False
def Pre_wfloor : List (List Int) → Prop
  | [[a, b], [d]] => True
  | _ => False
def Post_wfloor : List (List Int) → List (List Int) → Prop
  | [[a, b], [d]], [[h, l], [r], [e]] => ((d < 1 → h = 0 ∧ l = 0 ∧ r = 0 ∧ e = 1) ∧ (1 ≤ d → e = 0 ∧ isFloor (w128 a b) d (w128 h l) r))
  | _, _ => False
def Pre_wnear : List (List Int) → Prop
  | [[a, b], [d]] => True
  | _ => False
def Post_wnear : List (List Int) → List (List Int) → Prop
  | [[a, b], [d]], [[h, l], [e]] => ((d < 1 → h = 0 ∧ l = 0 ∧ e = 1) ∧ (1 ≤ d → e = 0 ∧ isNear (w128 a b) d (w128 h l)))
  | _, _ => False
def Pre_wint : List (List Int) → Prop
  | [[a, b]] => True
  | _ => False
def Post_wint : List (List Int) → List (List Int) → Prop
  | [[a, b]], [[n], [t]] => isInt (w128 a b) n t
  | _, _ => False
def Pre_zero : List (List Int) → Prop
  | [m :: a] => True
  | _ => False
def Post_zero : List (List Int) → List (List Int) → Prop
  | [m :: a], [[t]] => (t = b2i (decide (vd a = 0)))
  | _, _ => False
def Pre_rof : List (List Int) → Prop
  | [[n]] => True
  | _ => False
def Post_rof : List (List Int) → List (List Int) → Prop
  | [[n]], [[h, l]] => w128 h l = n
  | _, _ => False
def Pre_small : List (List Int) → Prop
  | [[n]] => True
  | _ => False
def Post_small : List (List Int) → List (List Int) → Prop
  | [[n]], [r] => (vd (r.drop 1) ≤ 9223372036854775808 ∧ sv r = n ∧ (r.getD 0 0 = 1 ↔ n < 0))
  | _, _ => False
def Pre_tell : List (List Int) → Prop
  | [a] => True
  | _ => False
def Post_tell : List (List Int) → List (List Int) → Prop
  | [a], [[h, l], [e]] => tellW (sv a) h l e
  | _, _ => False
def Pre_divided : List (List Int) → Prop
  | [a, b] => (0 < vd b ∧ 2 * vd b ≤ top12)
  | _ => False
def Post_divided : List (List Int) → List (List Int) → Prop
  | [a, b], [q, r] => isFloor (vd a) (vd b) (vd q) (vd r)
  | _, _ => False
def Inv_divided : List Int → List Int → Prop
  | fs, i :: o => divInv (vd (fs.take 12)) (vd (fs.drop 12)) i (vd (o.take 12)) (vd (o.drop 12))
  | _, _ => False
def Mea_divided : List Int → List Int → Nat
  | fs, i :: o => (i + 1).toNat
  | _, _ => 0
def Pre_nearest : List (List Int) → Prop
  | [a, b] => (0 < vd (b.drop 1) ∧ 2 * vd (a.drop 1) + vd (b.drop 1) < top12 ∧ 4 * vd (b.drop 1) ≤ top12)
  | _ => False
def Post_nearest : List (List Int) → List (List Int) → Prop
  | [a, b], [r] => (nearest (sv a) (sv b) (sv r) ∧ vd (r.drop 1) ≤ 2 * vd (a.drop 1) + 2)
  | _, _ => False
def Pre_rcmp : List (List Int) → Prop
  | [[ah, al], [bh, bl]] => True
  | _ => False
def Post_rcmp : List (List Int) → List (List Int) → Prop
  | [[ah, al], [bh, bl]], [[c]] => ((w128 ah al < w128 bh bl → c = -1) ∧ (w128 ah al = w128 bh bl → c = 0) ∧ (w128 bh bl < w128 ah al → c = 1))
  | _, _ => False
def Pre_rint : List (List Int) → Prop
  | [[a, b]] => True
  | _ => False
def Post_rint : List (List Int) → List (List Int) → Prop
  | [[a, b]], [[n], [t]] => isInt (w128 a b) n t
  | _, _ => False
def Pre_radd : List (List Int) → Prop
  | [[a, b], [c, d]] => True
  | _ => False
def Post_radd : List (List Int) → List (List Int) → Prop
  | [[a, b], [c, d]], [[h, l], [e]] => tellW (w128 a b + w128 c d) h l e
  | _, _ => False
def Pre_rtms : List (List Int) → Prop
  | [[a, b], [n]] => True
  | _ => False
def Post_rtms : List (List Int) → List (List Int) → Prop
  | [[a, b], [n]], [[h, l], [e]] => tellW (w128 a b * n) h l e
  | _, _ => False
def Pre_rmul : List (List Int) → Prop
  | [[a], [b]] => True
  | _ => False
def Post_rmul : List (List Int) → List (List Int) → Prop
  | [[a], [b]], [[h, l]] => w128 h l = a * b
  | _, _ => False
def Pre_rnear : List (List Int) → Prop
  | [[a, b], [d]] => True
  | _ => False
def Post_rnear : List (List Int) → List (List Int) → Prop
  | [[a, b], [d]], [[h, l], [e]] => ((d < 1 → h = 0 ∧ l = 0 ∧ e = 1) ∧ (1 ≤ d → e = 0 ∧ isNear (w128 a b) d (w128 h l)))
  | _, _ => False
def Pre_psmall : List (List Int) → Prop
  | [[h, l]] => True
  | _ => False
def Post_psmall : List (List Int) → List (List Int) → Prop
  | [[h, l]], [[t]] => ((sml (w128 h l) → t = 1) ∧ (¬ sml (w128 h l) → t = 0))
  | _, _ => False
def Pre_psnap : List (List Int) → Prop
  | [[m0, m1, m2, m3, m4, m5], [xh, xl, xd], [yh, yl, yd]] => True
  | _ => False
def Post_psnap : List (List Int) → List (List Int) → Prop
  | [[m0, m1, m2, m3, m4, m5], [xh, xl, xd], [yh, yl, yd]], [[px, py], [er]] => placed 16777216 256 m0 m1 m2 m3 m4 m5 (w128 xh xl) xd (w128 yh yl) yd px py er
  | _, _ => False
def Pre_pplace : List (List Int) → Prop
  | [[m0, m1, m2, m3, m4, m5], [xh, xl, xd], [yh, yl, yd]] => True
  | _ => False
def Post_pplace : List (List Int) → List (List Int) → Prop
  | [[m0, m1, m2, m3, m4, m5], [xh, xl, xd], [yh, yl, yd]], [[px, py], [er]] => placed 65536 65536 m0 m1 m2 m3 m4 m5 (w128 xh xl) xd (w128 yh yl) yd px py er
  | _, _ => False
def Pre_rmay : List (List Int) → Prop
  | [[h, l, d]] => True
  | _ => False
def Post_rmay : List (List Int) → List (List Int) → Prop
  | [[h, l, d]], [[t]] => ((1 ≤ d ∧ d ≤ 4294967295 ∧ sml (w128 h l) → t = 1) ∧ (¬ (1 ≤ d ∧ d ≤ 4294967295 ∧ sml (w128 h l)) → t = 0))
  | _, _ => False
def Pre_rline : List (List Int) → Prop
  | [[a], [c], [e], [xh, xl, xd], [yh, yl, yd], [parts]] => (may20 (w128 xh xl) xd (w128 yh yl) yd ∧ (parts = 256 ∨ parts = 65536))
  | _ => False
def Post_rline : List (List Int) → List (List Int) → Prop
  | [[a], [c], [e], [xh, xl, xd], [yh, yl, yd], [parts]], [[v], [t]] => lineTo (4294967296 / parts) parts a c e (w128 xh xl) (w128 yh yl) xd v t
  | _, _ => False
def Pre_rsnap : List (List Int) → Prop
  | [[m0, m1, m2, m3, m4, m5], [xh, xl, xd], [yh, yl, yd]] => True
  | _ => False
def Post_rsnap : List (List Int) → List (List Int) → Prop
  | [[m0, m1, m2, m3, m4, m5], [xh, xl, xd], [yh, yl, yd]], [[px, py], [er]] => placed 16777216 256 m0 m1 m2 m3 m4 m5 (w128 xh xl) xd (w128 yh yl) yd px py er
  | _, _ => False
def Pre_rplace : List (List Int) → Prop
  | [[m0, m1, m2, m3, m4, m5], [xh, xl, xd], [yh, yl, yd]] => True
  | _ => False
def Post_rplace : List (List Int) → List (List Int) → Prop
  | [[m0, m1, m2, m3, m4, m5], [xh, xl, xd], [yh, yl, yd]], [[px, py], [er]] => placed 65536 65536 m0 m1 m2 m3 m4 m5 (w128 xh xl) xd (w128 yh yl) yd px py er
  | _, _ => False
def Pre_lwholeN : List (List Int) → Prop
  | [[n]] => True
  | _ => False
def Post_lwholeN : List (List Int) → List (List Int) → Prop
  | [[n]], [[h, l, d]] => (w128 h l = n ∧ d = 1)
  | _, _ => False
def Pre_lives : List (List Int) → Prop
  | [] => True
  | _ => False
def Post_lives : List (List Int) → List (List Int) → Prop
  | [], [[t]] => t = 1
  | _, _ => False
def Pre_lof : List (List Int) → Prop
  | [[m0, m1, m2, m3, m4, m5, xh, xl, xd, yh, yl, yd]] => True
  | _ => False
def Post_lof : List (List Int) → List (List Int) → Prop
  | [[m0, m1, m2, m3, m4, m5, xh, xl, xd, yh, yl, yd]], [[t]] => t = 1
  | _, _ => False
def Pre_lmoved : List (List Int) → Prop
  | [[m0, m1, m2, m3, m4, m5, xh, xl, xd, yh, yl, yd], [x], [y]] => True
  | _ => False
def Post_lmoved : List (List Int) → List (List Int) → Prop
  | [[m0, m1, m2, m3, m4, m5, xh, xl, xd, yh, yl, yd], [x], [y]], [[t]] => t = 1
  | _, _ => False
def Pre_lnear : List (List Int) → Prop
  | [[m0, m1, m2, m3, m4, m5, xh, xl, xd, yh, yl, yd]] => True
  | _ => False
def Post_lnear : List (List Int) → List (List Int) → Prop
  | [[m0, m1, m2, m3, m4, m5, xh, xl, xd, yh, yl, yd]], [[t]] => t = 1
  | _, _ => False
def Pre_lturned : List (List Int) → Prop
  | [[m0, m1, m2, m3, m4, m5, xh, xl, xd, yh, yl, yd]] => True
  | _ => False
def Post_lturned : List (List Int) → List (List Int) → Prop
  | [[m0, m1, m2, m3, m4, m5, xh, xl, xd, yh, yl, yd]], [[t]] => t = 1
  | _, _ => False
def Pre_lwhole : List (List Int) → Prop
  | [[x], [y]] => True
  | _ => False
def Post_lwhole : List (List Int) → List (List Int) → Prop
  | [[x], [y]], [[t]] => t = 1
  | _, _ => False
def E : Ctx where
  pre f a := if Nat.beq f 68 = true then Pre_len64 a else if Nat.beq f 59 = true then Pre_mul64 a else if Nat.beq f 62 = true then Pre_compare a else if Nat.beq f 61 = true then Pre_plus a else if Nat.beq f 63 = true then Pre_less a else if Nat.beq f 51 = true then Pre_product a else if Nat.beq f 47 = true then Pre_read a else if Nat.beq f 48 = true then Pre_minus a else if Nat.beq f 46 = true then Pre_sum a else if Nat.beq f 56 = true then Pre_cmpi64 a else if Nat.beq f 57 = true then Pre_cmpu64 a else if Nat.beq f 38 = true then Pre_wcmp a else if Nat.beq f 17 = true then Pre_wof a else if Nat.beq f 67 = true then Pre_lz64 a else if Nat.beq f 60 = true then Pre_div64 a else if Nat.beq f 58 = true then Pre_turned a else if Nat.beq f 39 = true then Pre_part a else if Nat.beq f 42 = true then Pre_whole a else if Nat.beq f 40 = true then Pre_wtimes a else if Nat.beq f 41 = true then Pre_size a else if Nat.beq f 29 = true then Pre_wadd a else if Nat.beq f 37 = true then Pre_wsub a else if Nat.beq f 28 = true then Pre_wtms a else if Nat.beq f 44 = true then Pre_wdivided a else if Nat.beq f 30 = true then Pre_wfloor a else if Nat.beq f 21 = true then Pre_wnear a else if Nat.beq f 22 = true then Pre_wint a else if Nat.beq f 49 = true then Pre_zero a else if Nat.beq f 45 = true then Pre_rof a else if Nat.beq f 52 = true then Pre_small a else if Nat.beq f 50 = true then Pre_tell a else if Nat.beq f 64 = true then Pre_divided a else if Nat.beq f 53 = true then Pre_nearest a else if Nat.beq f 32 = true then Pre_rcmp a else if Nat.beq f 36 = true then Pre_rint a else if Nat.beq f 34 = true then Pre_radd a else if Nat.beq f 33 = true then Pre_rtms a else if Nat.beq f 31 = true then Pre_rmul a else if Nat.beq f 35 = true then Pre_rnear a else if Nat.beq f 27 = true then Pre_psmall a else if Nat.beq f 8 = true then Pre_psnap a else if Nat.beq f 10 = true then Pre_pplace a else if Nat.beq f 23 = true then Pre_rmay a else if Nat.beq f 24 = true then Pre_rline a else if Nat.beq f 9 = true then Pre_rsnap a else if Nat.beq f 11 = true then Pre_rplace a else if Nat.beq f 13 = true then Pre_lwholeN a else if Nat.beq f 12 = true then Pre_lives a else if Nat.beq f 3 = true then Pre_lof a else if Nat.beq f 4 = true then Pre_lmoved a else if Nat.beq f 5 = true then Pre_lnear a else if Nat.beq f 6 = true then Pre_lturned a else if Nat.beq f 7 = true then Pre_lwhole a else False
  post f a r := if Nat.beq f 68 = true then Post_len64 a r else if Nat.beq f 59 = true then Post_mul64 a r else if Nat.beq f 62 = true then Post_compare a r else if Nat.beq f 61 = true then Post_plus a r else if Nat.beq f 63 = true then Post_less a r else if Nat.beq f 51 = true then Post_product a r else if Nat.beq f 47 = true then Post_read a r else if Nat.beq f 48 = true then Post_minus a r else if Nat.beq f 46 = true then Post_sum a r else if Nat.beq f 56 = true then Post_cmpi64 a r else if Nat.beq f 57 = true then Post_cmpu64 a r else if Nat.beq f 38 = true then Post_wcmp a r else if Nat.beq f 17 = true then Post_wof a r else if Nat.beq f 67 = true then Post_lz64 a r else if Nat.beq f 60 = true then Post_div64 a r else if Nat.beq f 58 = true then Post_turned a r else if Nat.beq f 39 = true then Post_part a r else if Nat.beq f 42 = true then Post_whole a r else if Nat.beq f 40 = true then Post_wtimes a r else if Nat.beq f 41 = true then Post_size a r else if Nat.beq f 29 = true then Post_wadd a r else if Nat.beq f 37 = true then Post_wsub a r else if Nat.beq f 28 = true then Post_wtms a r else if Nat.beq f 44 = true then Post_wdivided a r else if Nat.beq f 30 = true then Post_wfloor a r else if Nat.beq f 21 = true then Post_wnear a r else if Nat.beq f 22 = true then Post_wint a r else if Nat.beq f 49 = true then Post_zero a r else if Nat.beq f 45 = true then Post_rof a r else if Nat.beq f 52 = true then Post_small a r else if Nat.beq f 50 = true then Post_tell a r else if Nat.beq f 64 = true then Post_divided a r else if Nat.beq f 53 = true then Post_nearest a r else if Nat.beq f 32 = true then Post_rcmp a r else if Nat.beq f 36 = true then Post_rint a r else if Nat.beq f 34 = true then Post_radd a r else if Nat.beq f 33 = true then Post_rtms a r else if Nat.beq f 31 = true then Post_rmul a r else if Nat.beq f 35 = true then Post_rnear a r else if Nat.beq f 27 = true then Post_psmall a r else if Nat.beq f 8 = true then Post_psnap a r else if Nat.beq f 10 = true then Post_pplace a r else if Nat.beq f 23 = true then Post_rmay a r else if Nat.beq f 24 = true then Post_rline a r else if Nat.beq f 9 = true then Post_rsnap a r else if Nat.beq f 11 = true then Post_rplace a r else if Nat.beq f 13 = true then Post_lwholeN a r else if Nat.beq f 12 = true then Post_lives a r else if Nat.beq f 3 = true then Post_lof a r else if Nat.beq f 4 = true then Post_lmoved a r else if Nat.beq f 5 = true then Post_lnear a r else if Nat.beq f 6 = true then Post_lturned a r else if Nat.beq f 7 = true then Post_lwhole a r else False
  inv l a r := if Nat.beq l 0 = true then Inv_less a r else if Nat.beq l 1 = true then Inv_prodo a r else if Nat.beq l 2 = true then Inv_prodi a r else if Nat.beq l 3 = true then Inv_dv1 a r else if Nat.beq l 4 = true then Inv_dv2 a r else if Nat.beq l 5 = true then Inv_divided a r else False
  mea l a r := if Nat.beq l 0 = true then Mea_less a r else if Nat.beq l 1 = true then Mea_prodo a r else if Nat.beq l 2 = true then Mea_prodi a r else if Nat.beq l 3 = true then Mea_dv1 a r else if Nat.beq l 4 = true then Mea_dv2 a r else if Nat.beq l 5 = true then Mea_divided a r else 0
def anns0 : List (FuncId × Nat × Ann) := [(63, 2, { l := 0, slots := [(5, ir 0 12)], blks := [(0, List.replicate 12 (ir (-1) 65535))], fro := [0, 1] }), (51, 3, { l := 1, slots := [(6, ir 0 12)], blks := [(3, dg12)], fro := [0, 1] }), (51, 7, { l := 2, slots := [(7, ir 0 65535), (8, ir 0 12)], blks := [(3, dg12)], fro := [6, 0, 1] }), (60, 17, { l := 3, slots := [(15, u64), (16, u64)], blks := [], fro := [11, 9, 10, 13] }), (60, 24, { l := 4, slots := [(18, u64), (16, u64)], blks := [], fro := [17, 9, 10, 14] }), (64, 3, { l := 5, slots := [(8, ir (-1) 191)], blks := [(4, dg12), (5, dg12)], fro := [2, 3] })]
def tab0 : Tab := { cons := [], exts := [(43, true), (54, false)], anns := anns0 }
def ash_len64 : List ShA := [.s u64]
def sh_len64 : ShV := .a (.s (ir 0 64))
def tab1 : Tab := { tab0 with cons := (68, ash_len64, sh_len64) :: tab0.cons }
def ash_mul64 : List ShA := [.s u64, .s u64]
def sh_mul64 : ShV := .tup [.s u64, .s u64]
def tab2 : Tab := { tab1 with cons := (59, ash_mul64, sh_mul64) :: tab1.cons }
def ash_compare : List ShA := [.agg dg12, .agg dg12]
def sh_compare : ShV := .a (.s (ir (-1) 1))
def tab3 : Tab := { tab2 with cons := (62, ash_compare, sh_compare) :: tab2.cons }
def ash_plus : List ShA := [.agg dg12, .agg dg12]
def sh_plus : ShV := .a (.agg dg12)
def tab4 : Tab := { tab3 with cons := (61, ash_plus, sh_plus) :: tab3.cons }
def ash_less : List ShA := [.agg dg12, .agg dg12]
def sh_less : ShV := .a (.agg dg12)
def tab5 : Tab := { tab4 with cons := (63, ash_less, sh_less) :: tab4.cons }
def ash_product : List ShA := [numS, numS]
def sh_product : ShV := .a numS
def tab6 : Tab := { tab5 with cons := (51, ash_product, sh_product) :: tab5.cons }
def ash_read : List ShA := [.agg [i64, u64]]
def sh_read : ShV := .a numS
def tab7 : Tab := { tab6 with cons := (47, ash_read, sh_read) :: tab6.cons }
def ash_minus : List ShA := [numS]
def sh_minus : ShV := .a numS
def tab8 : Tab := { tab7 with cons := (48, ash_minus, sh_minus) :: tab7.cons }
def ash_sum : List ShA := [numS, numS]
def sh_sum : ShV := .a numS
def tab9 : Tab := { tab8 with cons := (46, ash_sum, sh_sum) :: tab8.cons }
def ash_cmpi64 : List ShA := [.s i64, .s i64]
def sh_cmpi64 : ShV := .a (.s (ir (-1) 1))
def tab10 : Tab := { tab9 with cons := (56, ash_cmpi64, sh_cmpi64) :: tab9.cons }
def ash_cmpu64 : List ShA := [.s u64, .s u64]
def sh_cmpu64 : ShV := .a (.s (ir (-1) 1))
def tab11 : Tab := { tab10 with cons := (57, ash_cmpu64, sh_cmpu64) :: tab10.cons }
def ash_wcmp : List ShA := [.agg [i64, u64], .agg [i64, u64]]
def sh_wcmp : ShV := .a (.s (ir (-1) 1))
def tab12 : Tab := { tab11 with cons := (38, ash_wcmp, sh_wcmp) :: tab11.cons }
def ash_wof : List ShA := [.s i64]
def sh_wof : ShV := .a (.agg [i64, u64])
def tab13 : Tab := { tab12 with cons := (17, ash_wof, sh_wof) :: tab12.cons }
def ash_lz64 : List ShA := [.s u64]
def sh_lz64 : ShV := .a (.s (ir 0 64))
def tab14 : Tab := { tab13 with cons := (67, ash_lz64, sh_lz64) :: tab13.cons }
def ash_div64 : List ShA := [.s u64, .s u64, .s u64]
def sh_div64 : ShV := .tup [.s u64, .s u64]
def tab15 : Tab := { tab14 with cons := (60, ash_div64, sh_div64) :: tab14.cons }
def ash_turned : List ShA := [.agg [u64, u64, u64]]
def sh_turned : ShV := .a (.agg [u64, u64, u64])
def tab16 : Tab := { tab15 with cons := (58, ash_turned, sh_turned) :: tab15.cons }
def ash_part : List ShA := [.agg [i64, u64]]
def sh_part : ShV := .a (.agg [.bool, u64, u64, u64])
def tab17 : Tab := { tab16 with cons := (39, ash_part, sh_part) :: tab16.cons }
def ash_whole : List ShA := [.agg [.bool, u64, u64, u64]]
def sh_whole : ShV := .tup [.agg [i64, u64], .s (ir 0 11)]
def tab18 : Tab := { tab17 with cons := (42, ash_whole, sh_whole) :: tab17.cons }
def ash_wtimes : List ShA := [.agg [u64, u64, u64], .s u64]
def sh_wtimes : ShV := .a (.agg [u64, u64, u64])
def tab19 : Tab := { tab18 with cons := (40, ash_wtimes, sh_wtimes) :: tab18.cons }
def ash_size : List ShA := [.s i64]
def sh_size : ShV := .a (.s u64)
def tab20 : Tab := { tab19 with cons := (41, ash_size, sh_size) :: tab19.cons }
def ash_wadd : List ShA := [.agg [i64, u64], .agg [i64, u64]]
def sh_wadd : ShV := .tup [.agg [i64, u64], .s (ir 0 11)]
def tab21 : Tab := { tab20 with cons := (29, ash_wadd, sh_wadd) :: tab20.cons }
def ash_wsub : List ShA := [.agg [i64, u64], .agg [i64, u64]]
def sh_wsub : ShV := .tup [.agg [i64, u64], .s (ir 0 11)]
def tab22 : Tab := { tab21 with cons := (37, ash_wsub, sh_wsub) :: tab21.cons }
def ash_wtms : List ShA := [.agg [i64, u64], .s i64]
def sh_wtms : ShV := .tup [.agg [i64, u64], .s (ir 0 11)]
def tab23 : Tab := { tab22 with cons := (28, ash_wtms, sh_wtms) :: tab22.cons }
def ash_wdivided : List ShA := [.agg [u64, u64, u64], .s u64]
def sh_wdivided : ShV := .tup [.agg [u64, u64, u64], .s u64]
def tab24 : Tab := { tab23 with cons := (44, ash_wdivided, sh_wdivided) :: tab23.cons }
def ash_wfloor : List ShA := [.agg [i64, u64], .s i64]
def sh_wfloor : ShV := .tup [.agg [i64, u64], .s i64, .s (ir 0 11)]
def tab25 : Tab := { tab24 with cons := (30, ash_wfloor, sh_wfloor) :: tab24.cons }
def ash_wnear : List ShA := [.agg [i64, u64], .s i64]
def sh_wnear : ShV := .tup [.agg [i64, u64], .s (ir 0 11)]
def tab26 : Tab := { tab25 with cons := (21, ash_wnear, sh_wnear) :: tab25.cons }
def ash_wint : List ShA := [.agg [i64, u64]]
def sh_wint : ShV := .tup [.s i64, .s .bool]
def tab27 : Tab := { tab26 with cons := (22, ash_wint, sh_wint) :: tab26.cons }
def ash_zero : List ShA := [numS]
def sh_zero : ShV := .a (.s .bool)
def tab28 : Tab := { tab27 with cons := (49, ash_zero, sh_zero) :: tab27.cons }
def ash_rof : List ShA := [.s i64]
def sh_rof : ShV := .a (.agg [i64, u64])
def tab29 : Tab := { tab28 with cons := (45, ash_rof, sh_rof) :: tab28.cons }
def ash_small : List ShA := [.s i64]
def sh_small : ShV := .a numS
def tab30 : Tab := { tab29 with cons := (52, ash_small, sh_small) :: tab29.cons }
def ash_tell : List ShA := [numS]
def sh_tell : ShV := .tup [.agg [i64, u64], .s (ir 0 11)]
def tab31 : Tab := { tab30 with cons := (50, ash_tell, sh_tell) :: tab30.cons }
def ash_divided : List ShA := [.agg dg12, .agg dg12]
def sh_divided : ShV := .tup [.agg dg12, .agg dg12]
def tab32 : Tab := { tab31 with cons := (64, ash_divided, sh_divided) :: tab31.cons }
def ash_nearest : List ShA := [numS, numS]
def sh_nearest : ShV := .a numS
def tab33 : Tab := { tab32 with cons := (53, ash_nearest, sh_nearest) :: tab32.cons }
def ash_rcmp : List ShA := [.agg [i64, u64], .agg [i64, u64]]
def sh_rcmp : ShV := .a (.s (ir (-1) 1))
def tab34 : Tab := { tab33 with cons := (32, ash_rcmp, sh_rcmp) :: tab33.cons }
def ash_rint : List ShA := [.agg [i64, u64]]
def sh_rint : ShV := .tup [.s i64, .s .bool]
def tab35 : Tab := { tab34 with cons := (36, ash_rint, sh_rint) :: tab34.cons }
def ash_radd : List ShA := [.agg [i64, u64], .agg [i64, u64]]
def sh_radd : ShV := .tup [.agg [i64, u64], .s (ir 0 11)]
def tab36 : Tab := { tab35 with cons := (34, ash_radd, sh_radd) :: tab35.cons }
def ash_rtms : List ShA := [.agg [i64, u64], .s i64]
def sh_rtms : ShV := .tup [.agg [i64, u64], .s (ir 0 11)]
def tab37 : Tab := { tab36 with cons := (33, ash_rtms, sh_rtms) :: tab36.cons }
def ash_rmul : List ShA := [.s i64, .s i64]
def sh_rmul : ShV := .a (.agg [i64, u64])
def tab38 : Tab := { tab37 with cons := (31, ash_rmul, sh_rmul) :: tab37.cons }
def ash_rnear : List ShA := [.agg [i64, u64], .s i64]
def sh_rnear : ShV := .tup [.agg [i64, u64], .s (ir 0 11)]
def tab39 : Tab := { tab38 with cons := (35, ash_rnear, sh_rnear) :: tab38.cons }
def ash_psmall : List ShA := [.agg [i64, u64]]
def sh_psmall : ShV := .a (.s .bool)
def tab40 : Tab := { tab39 with cons := (27, ash_psmall, sh_psmall) :: tab39.cons }
def ash_psnap : List ShA := [.agg [i32, i32, i32, i32, i32, i32], .agg [i64, u64, i64], .agg [i64, u64, i64]]
def sh_psnap : ShV := .tup [.agg [i64, i64], .s (ir 0 15)]
def tab41 : Tab := { tab40 with cons := (8, ash_psnap, sh_psnap) :: tab40.cons }
def ash_pplace : List ShA := [.agg [i32, i32, i32, i32, i32, i32], .agg [i64, u64, i64], .agg [i64, u64, i64]]
def sh_pplace : ShV := .tup [.agg [i64, i64], .s (ir 0 15)]
def tab42 : Tab := { tab41 with cons := (10, ash_pplace, sh_pplace) :: tab41.cons }
def ash_rmay : List ShA := [.agg [i64, u64, i64]]
def sh_rmay : ShV := .a (.s .bool)
def tab43 : Tab := { tab42 with cons := (23, ash_rmay, sh_rmay) :: tab42.cons }
def ash_rline : List ShA := [.s i32, .s i32, .s i32, .agg [i64, u64, i64], .agg [i64, u64, i64], .s (ir 256 65536)]
def sh_rline : ShV := .tup [.s i64, .s .bool]
def tab44 : Tab := { tab43 with cons := (24, ash_rline, sh_rline) :: tab43.cons }
def ash_rsnap : List ShA := [.agg [i32, i32, i32, i32, i32, i32], .agg [i64, u64, i64], .agg [i64, u64, i64]]
def sh_rsnap : ShV := .tup [.agg [i64, i64], .s (ir 0 15)]
def tab45 : Tab := { tab44 with cons := (9, ash_rsnap, sh_rsnap) :: tab44.cons }
def ash_rplace : List ShA := [.agg [i32, i32, i32, i32, i32, i32], .agg [i64, u64, i64], .agg [i64, u64, i64]]
def sh_rplace : ShV := .tup [.agg [i64, i64], .s (ir 0 15)]
def tab46 : Tab := { tab45 with cons := (11, ash_rplace, sh_rplace) :: tab45.cons }
def ash_lwholeN : List ShA := [.s i64]
def sh_lwholeN : ShV := .a (.agg [i64, u64, i64])
def tab47 : Tab := { tab46 with cons := (13, ash_lwholeN, sh_lwholeN) :: tab46.cons }
def ash_lives : List ShA := []
def sh_lives : ShV := .a (.s .bool)
def tab48 : Tab := { tab47 with cons := (12, ash_lives, sh_lives) :: tab47.cons }
def ash_lof : List ShA := [.agg [i32, i32, i32, i32, i32, i32, i64, u64, i64, i64, u64, i64]]
def sh_lof : ShV := .a (.s .bool)
def ash_lmoved : List ShA := [.agg [i32, i32, i32, i32, i32, i32, i64, u64, i64, i64, u64, i64], .s i16, .s i16]
def sh_lmoved : ShV := .a (.s .bool)
def ash_lnear : List ShA := [.agg [i32, i32, i32, i32, i32, i32, i64, u64, i64, i64, u64, i64]]
def sh_lnear : ShV := .a (.s .bool)
def ash_lturned : List ShA := [.agg [i32, i32, i32, i32, i32, i32, i64, u64, i64, i64, u64, i64]]
def sh_lturned : ShV := .a (.s .bool)
def ash_lwhole : List ShA := [.s i32, .s i32]
def sh_lwhole : ShV := .a (.s .bool)

end Go.Proofs.Ytigkdggmojannaa.Sx
