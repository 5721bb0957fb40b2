/-
  Contracts of functions, by their words. Printed by a program of our own.
-/
import Derived.Test.YtogcbmadcgjljaaDoorSxr
import Derived.KernelRfl
set_option maxRecDepth 1000000
set_option linter.all false
namespace Go.Proofs.YtogcbmadcgjljaaDoor.Sx
open Go Go.RowKit

def u64 : Sh := .int .u64 0 18446744073709551615
def u32 : Sh := .int .u32 0 4294967295
def u8 : Sh := .int .u8 0 255
def i64 : Sh := .int .i64 (-9223372036854775808) 9223372036854775807
def i32 : Sh := .int .i32 (-2147483648) 2147483647
def ir (lo hi : Int) : Sh := .int .i64 lo hi
def len8tab : List Int := (List.range 256).map fun i => if i = 0 then 0 else (Nat.log2 i : Int) + 1
def dg12 : List Sh := List.replicate 12 (ir 0 65535)
def numS : ShA := .agg (.bool :: dg12)
/-- a number of digits to the base 65536, the lowest first. -/
def vd : List Int → Int
  | [] => 0
  | d :: r => d + 65536 * vd r
def sv : List Int → Int
  | m :: ds => if m = 1 then - vd ds else vd ds
  | [] => 0
/-- no digit but the i-th is below 0. -/
def nnb : Int → List Int → Prop
  | _, [] => True
  | i, d :: r => (i ≠ 0 → 0 ≤ d) ∧ nnb (i - 1) r
def top12 : Int := 6277101735386680763835789423207666416102355444464034512896
def top8 : Int := 340282366920938463463374607431768211456
def dA (fs : List Int) : List Int := (fs.drop 1).take 12
def dB (fs : List Int) : List Int := fs.drop 14
def w128 (h l : Int) : Int := h * 18446744073709551616 + l

def half128 : Int := 170141183460469231731687303715884105728
/-- is a number a wide? -/
def inW (v : Int) : Prop := -half128 ≤ v ∧ v < half128
/-- a number told as a wide, or refused as too great. -/
def tellW (v h l e : Int) : Prop := (inW v → e = 0 ∧ w128 h l = v) ∧ (¬ inW v → e = 11 ∧ h = 0 ∧ l = 0)
def wv (a b c : Int) : Int := a + b * 18446744073709551616 + c * 340282366920938463463374607431768211456
/-- q is nearest to a by d. -/
def isNear (a d q : Int) : Prop := 2 * d * q ≤ 2 * a + d ∧ 2 * a + d < 2 * d * (q + 1)
/-- a digit of a quotient is guessed from above. -/
def dvInv (u m n v q s : Int) : Prop := q * m + s = u ∧ s < 4294967296 ∧ u * 4294967296 + v < (q + 1) * (m * 4294967296 + n)
def isFloor (a d q r : Int) : Prop := a = q * d + r ∧ 0 ≤ r ∧ r < d
def isI64 (v : Int) : Prop := -9223372036854775808 ≤ v ∧ v ≤ 9223372036854775807
def isInt (v n t : Int) : Prop := (isI64 v → t = 1 ∧ n = v) ∧ (¬ isI64 v → t = 0 ∧ n = 0)
def nearest (a b q : Int) : Prop := (0 < b → isNear a b q) ∧ (b < 0 → isNear (-a) (-b) q)
def divInv (a d : Int) (i q r : Int) : Prop := q * d + r = a / 2 ^ (i + 1).toNat ∧ 0 ≤ r ∧ r < d ∧ 0 ≤ q

/-- the bits from the (most - i)th on are not yet told. -/
def rootInv (most : Nat) (n x i : Int) : Prop := i ≤ most ∧ (∃ c : Int, x = c * 2 ^ (most - i.toNat)) ∧ x + 2 ^ (most - i.toNat) ≤ 2 ^ most ∧ x * x ≤ n ∧ n < (x + 2 ^ (most - i.toNat)) * (x + 2 ^ (most - i.toNat))
def isRoot (n x : Int) : Prop := x * x ≤ n ∧ n < (x + 1) * (x + 1)

def tT : List Int := [9223372036854775808, 6521908912666391106, 5484249825272419511, 5029079263719320435, 4815862801830788490, 4712668792719003883, 4661903986662671289, 4636727017470743989, 4624189567668517719, 4617933561212708775, 4614808732577250067, 4613247111281068007, 4612466498810092973, 4612076242109103706, 4611881126141011235, 4611783571252412753, 4611734794581956352, 4611710406440186475, 4611698212417665818, 4611692115418496523, 4611689066921934629, 4611687542674409370, 4611686780550835663, 4611686399489096040, 4611686208958238036, 4611686113692811986, 4611686066060099699, 4611686042243743740, 4611686030335565806, 4611686024381476851, 4611686021404432376, 4611686019915910139, 4611686019171649021]

def tP : List Int := [0, 6521908912666391106, 5484249825272419511, 5029079263719320435, 4815862801830788490, 4712668792719003883, 4661903986662671289, 4636727017470743989, 4624189567668517719, 4617933561212708775, 4614808732577250067, 4613247111281068007, 4612466498810092973, 4612076242109103706, 4611881126141011235, 4611783571252412753, 4611734794581956352, 4611710406440186475, 4611698212417665818, 4611692115418496523, 4611689066921934629, 4611687542674409370, 4611686780550835663, 4611686399489096040, 4611686208958238036, 4611686113692811986, 4611686066060099699, 4611686042243743740, 4611686030335565806, 4611686024381476851, 4611686021404432376, 4611686019915910139, 4611686019171649021]

def tt (i : Nat) : Int := tT.getD i 0
/-- 2 to the power of so many bits behind the point. -/
def qn : Nat → Int → Int
  | 0, _ => 4611686018427387904
  | n + 1, k => if k % 2 = 1 then qn n (k / 2) * tt (n + 1) / 4611686018427387904 else qn n (k / 2)
def powF (e : Int) : Int :=
  if 15 ≤ e / 4294967296 then 2147483648 else if e / 4294967296 < -17 then 0 else min ((qn 32 (e % 4294967296) / 2 ^ (45 - e / 4294967296).toNat + 1) / 2) 2147483648
/-- squared, and halved where it is 2 or more: the number, and the bits. -/
def ll (y0 : Int) : Nat → Int × Int
  | 0 => (y0, 0)
  | n + 1 =>
    if 9223372036854775808 ≤ (ll y0 n).1 * (ll y0 n).1 / 4611686018427387904 then ((ll y0 n).1 * (ll y0 n).1 / 4611686018427387904 / 2, 2 * (ll y0 n).2 + 1)
    else ((ll y0 n).1 * (ll y0 n).1 / 4611686018427387904, 2 * (ll y0 n).2)
def y0F (x : Int) : Int := x * 2 ^ (62 - Nat.log2 x.toNat)
def longF (x : Int) : Int := ((Nat.log2 x.toNat : Int) - 16) * 1099511627776 + (ll (y0F x) 40).2
def near24 (n : Int) : Int := (n / 8388608 + 1) / 2
def roundE (a n : Int) : Int := (2 * (longF a * n) + 16777216) / 33554432
def expoF (a n : Int) : Int := max (-1099511627776) (min 1099511627776 (roundE a n))


def tabP : List Sh := [.int .u64 0 0, .int .u64 6521908912666391106 6521908912666391106, .int .u64 5484249825272419511 5484249825272419511, .int .u64 5029079263719320435 5029079263719320435, .int .u64 4815862801830788490 4815862801830788490, .int .u64 4712668792719003883 4712668792719003883, .int .u64 4661903986662671289 4661903986662671289, .int .u64 4636727017470743989 4636727017470743989, .int .u64 4624189567668517719 4624189567668517719, .int .u64 4617933561212708775 4617933561212708775, .int .u64 4614808732577250067 4614808732577250067, .int .u64 4613247111281068007 4613247111281068007, .int .u64 4612466498810092973 4612466498810092973, .int .u64 4612076242109103706 4612076242109103706, .int .u64 4611881126141011235 4611881126141011235, .int .u64 4611783571252412753 4611783571252412753, .int .u64 4611734794581956352 4611734794581956352, .int .u64 4611710406440186475 4611710406440186475, .int .u64 4611698212417665818 4611698212417665818, .int .u64 4611692115418496523 4611692115418496523, .int .u64 4611689066921934629 4611689066921934629, .int .u64 4611687542674409370 4611687542674409370, .int .u64 4611686780550835663 4611686780550835663, .int .u64 4611686399489096040 4611686399489096040, .int .u64 4611686208958238036 4611686208958238036, .int .u64 4611686113692811986 4611686113692811986, .int .u64 4611686066060099699 4611686066060099699, .int .u64 4611686042243743740 4611686042243743740, .int .u64 4611686030335565806 4611686030335565806, .int .u64 4611686024381476851 4611686024381476851, .int .u64 4611686021404432376 4611686021404432376, .int .u64 4611686019915910139 4611686019915910139, .int .u64 4611686019171649021 4611686019171649021]
def s32 (lo hi : Int) : Sh := .int .i32 lo hi
def i8 : Sh := .int .i8 (-128) 127
def sz : Sh := .int .u64 1 2147483648
/-- a power's sign. -/
def powA (a n : Int) : Int := if a < 0 ∧ (n.tdiv 65536).tmod 2 ≠ 0 then -powF (expoF (max a (-a)) n) else powF (expoF (max a (-a)) n)

def clamp32 (x : Int) : Int := max (-2147483648) (min 2147483647 x)
def powTo (a n v e : Int) : Prop := (n = 0 → v = 65536 ∧ e = 0) ∧ (n ≠ 0 → a = 0 → n < 0 → v = 0 ∧ e = 12) ∧ (n ≠ 0 → a = 0 → 0 < n → v = 0 ∧ e = 0) ∧ (n ≠ 0 → a < 0 → n % 65536 ≠ 0 → v = 0 ∧ e = 1) ∧ (n ≠ 0 → a ≠ 0 → ¬ (a < 0 ∧ n % 65536 ≠ 0) → e = 0 ∧ v = clamp32 (powA a n))

def bodyOf (P : Program) (f : FuncId) : Code := match P.funcs[f]? with | some fn => fn.body.getD .skip | none => .skip
def sL : Code → Code | .seq a _ => a | c => c
def sR : Code → Code | .seq _ b => b | c => c
def bB : Code → Code | .block _ b => b | c => c
def lB : Code → Code | .loop b => b | c => c
def rO : Code → Array Oper | .region _ o _ => o | _ => #[]
def tuM (P : Program) : Code := sL (sR (sR (sR (bodyOf P 56))))
def tuC (P : Program) : Code := lB (bB (sR (tuM P)))
def tuS (P : Program) : Code := bB (sL (sR (tuC P)))
def tuMids (P : Program) : List Code := [sL (tuS P), sL (sR (tuS P))]
def tuA (P : Program) : Array Oper := rO (sR (sR (tuS P)))
def tuCells : List (IntKind × Int) := [(.u64, 6521908912666391106), (.u64, 5484249825272419511), (.u64, 5029079263719320435), (.u64, 4815862801830788490), (.u64, 4712668792719003883), (.u64, 4661903986662671289), (.u64, 4636727017470743989), (.u64, 4624189567668517719), (.u64, 4617933561212708775), (.u64, 4614808732577250067), (.u64, 4613247111281068007), (.u64, 4612466498810092973), (.u64, 4612076242109103706), (.u64, 4611881126141011235), (.u64, 4611783571252412753), (.u64, 4611734794581956352), (.u64, 4611710406440186475), (.u64, 4611698212417665818), (.u64, 4611692115418496523), (.u64, 4611689066921934629), (.u64, 4611687542674409370), (.u64, 4611686780550835663), (.u64, 4611686399489096040), (.u64, 4611686208958238036), (.u64, 4611686113692811986), (.u64, 4611686066060099699), (.u64, 4611686042243743740), (.u64, 4611686030335565806), (.u64, 4611686024381476851), (.u64, 4611686021404432376), (.u64, 4611686019915910139), (.u64, 4611686019171649021)]
def tA (x : Int) : A := .s (.int .u64 (.v x 0 9223372036854775808))
def rT : List Int := [6521908912666391106, 5484249825272419511, 5029079263719320435, 4815862801830788490, 4712668792719003883, 4661903986662671289, 4636727017470743989, 4624189567668517719, 4617933561212708775, 4614808732577250067, 4613247111281068007, 4612466498810092973, 4612076242109103706, 4611881126141011235, 4611783571252412753, 4611734794581956352, 4611710406440186475, 4611698212417665818, 4611692115418496523, 4611689066921934629, 4611687542674409370, 4611686780550835663, 4611686399489096040, 4611686208958238036, 4611686113692811986, 4611686066060099699, 4611686042243743740, 4611686030335565806, 4611686024381476851, 4611686021404432376, 4611686019915910139, 4611686019171649021]

def Pre_len64 : List (List Int) → Prop
  | [[n]] => True
  | _ => False
def Post_len64 : List (List Int) → List (List Int) → Prop
  | [[n]], [[k]] => (0 ≤ k ∧ n < 2 ^ k.toNat ∧ (0 < n → 2 ^ k.toNat ≤ 2 * n) ∧ (n = 0 → k = 0))
  | _, _ => False
def Pre_mul64 : List (List Int) → Prop
  | [[a], [b]] => True
  | _ => False
def Post_mul64 : List (List Int) → List (List Int) → Prop
  | [[a], [b]], [[h], [l]] => h * 18446744073709551616 + l = a * b
  | _, _ => False
def Pre_compare : List (List Int) → Prop
  | [a, b] => True
  | _ => False
def Post_compare : List (List Int) → List (List Int) → Prop
  | [a, b], [[c]] => ((vd a < vd b → c = -1) ∧ (vd a = vd b → c = 0) ∧ (vd b < vd a → c = 1))
  | _, _ => False
def Pre_plus : List (List Int) → Prop
  | [a, b] => True
  | _ => False
def Post_plus : List (List Int) → List (List Int) → Prop
  | [a, b], [r] => vd r = (vd a + vd b) % top12
  | _, _ => False
def Pre_less : List (List Int) → Prop
  | [a, b] => vd b ≤ vd a
  | _ => False
def Post_less : List (List Int) → List (List Int) → Prop
  | [a, b], [r] => vd r = vd a - vd b
  | _, _ => False
def Inv_less : List Int → List Int → Prop
  | fs, i :: c => vd c + vd ((fs.drop 12).take i.toNat) = vd (fs.take 12) ∧ nnb i c
  | _, _ => False
def Mea_less : List Int → List Int → Nat
  | fs, i :: c => (12 - i).toNat
  | _, _ => 0
def Pre_product : List (List Int) → Prop
  | [m :: a, n :: b] => True
  | _ => False
def Post_product : List (List Int) → List (List Int) → Prop
  | [m :: a, n :: b], [p :: r] => ((p = 1 ↔ m ≠ n) ∧ vd r = (vd a * vd b) % top12)
  | _, _ => False
def Inv_prodo : List Int → List Int → Prop
  | fs, i :: o => top12 ∣ vd o - vd ((dA fs).take i.toNat) * vd (dB fs)
  | _, _ => False
def Mea_prodo : List Int → List Int → Nat
  | fs, i :: o => (12 - i).toNat
  | _, _ => 0
def Inv_prodi : List Int → List Int → Prop
  | i :: fs, q :: k :: o => (i + k ≤ 12 ∧ top12 ∣ vd o + q * 65536 ^ (i.toNat + k.toNat) - (vd ((dA fs).take i.toNat) * vd (dB fs) + (dA fs).getD i.toNat 0 * vd ((dB fs).take k.toNat) * 65536 ^ i.toNat))
  | _, _ => False
def Mea_prodi : List Int → List Int → Nat
  | i :: fs, q :: k :: o => (12 - k).toNat
  | _, _ => 0
def Pre_read : List (List Int) → Prop
  | [[h, l]] => True
  | _ => False
def Post_read : List (List Int) → List (List Int) → Prop
  | [[h, l]], [r] => (vd (r.drop 1) ≤ 170141183460469231731687303715884105728 ∧ sv r = w128 h l ∧ (r.getD 0 0 = 1 ↔ h < 0))
  | _, _ => False
def Pre_minus : List (List Int) → Prop
  | [m :: a] => True
  | _ => False
def Post_minus : List (List Int) → List (List Int) → Prop
  | [m :: a], [p :: r] => ((p = 1 ↔ m ≠ 1) ∧ r = a)
  | _, _ => False
def Pre_sum : List (List Int) → Prop
  | [a, b] => vd (a.drop 1) + vd (b.drop 1) < top12
  | _ => False
def Post_sum : List (List Int) → List (List Int) → Prop
  | [a, b], [r] => (sv r = sv a + sv b ∧ vd (r.drop 1) ≤ vd (a.drop 1) + vd (b.drop 1))
  | _, _ => False
def Pre_above : List (List Int) → Prop
  | [a, b] => vd (a.drop 1) + vd (b.drop 1) < top12
  | _ => False
def Post_above : List (List Int) → List (List Int) → Prop
  | [a, b], [[t]] => t = b2i (decide (sv b < sv a))
  | _, _ => False
def Pre_cmpi64 : List (List Int) → Prop
  | [[a], [b]] => True
  | _ => False
def Post_cmpi64 : List (List Int) → List (List Int) → Prop
  | [[a], [b]], [[c]] => ((a < b → c = -1) ∧ (a = b → c = 0) ∧ (b < a → c = 1))
  | _, _ => False
def Pre_cmpu64 : List (List Int) → Prop
  | [[a], [b]] => True
  | _ => False
def Post_cmpu64 : List (List Int) → List (List Int) → Prop
  | [[a], [b]], [[c]] => ((a < b → c = -1) ∧ (a = b → c = 0) ∧ (b < a → c = 1))
  | _, _ => False
def Pre_wcmp : List (List Int) → Prop
  | [[ah, al], [bh, bl]] => True
  | _ => False
def Post_wcmp : List (List Int) → List (List Int) → Prop
  | [[ah, al], [bh, bl]], [[c]] => ((w128 ah al < w128 bh bl → c = -1) ∧ (w128 ah al = w128 bh bl → c = 0) ∧ (w128 bh bl < w128 ah al → c = 1))
  | _, _ => False
def Pre_wof : List (List Int) → Prop
  | [[n]] => True
  | _ => False
def Post_wof : List (List Int) → List (List Int) → Prop
  | [[n]], [[h, l]] => w128 h l = n
  | _, _ => False
def Pre_lz64 : List (List Int) → Prop
  | [[n]] => True
  | _ => False
def Post_lz64 : List (List Int) → List (List Int) → Prop
  | [[n]], [[k]] => (0 ≤ k ∧ n < 2 ^ (64 - k).toNat ∧ (0 < n → 2 ^ (64 - k).toNat ≤ 2 * n) ∧ (n = 0 → k = 64))
  | _, _ => False
def Pre_div64 : List (List Int) → Prop
  | [[h], [l], [y]] => h < y
  | _ => False
def Post_div64 : List (List Int) → List (List Int) → Prop
  | [[h], [l], [y]], [[q], [r]] => isFloor (w128 h l) y q r
  | _, _ => False
def Inv_dv1 : List Int → List Int → Prop
  | [u, m, n, v], [q, s] => dvInv u m n v q s
  | _, _ => False
def Mea_dv1 : List Int → List Int → Nat
  | [u, m, n, v], [q, s] => q.toNat
  | _, _ => 0
def Inv_dv2 : List Int → List Int → Prop
  | [u, m, n, v], [q, s] => dvInv u m n v q s
  | _, _ => False
def Mea_dv2 : List Int → List Int → Nat
  | [u, m, n, v], [q, s] => q.toNat
  | _, _ => 0
def Pre_turned : List (List Int) → Prop
  | [[a, b, c]] => True
  | _ => False
def Post_turned : List (List Int) → List (List Int) → Prop
  | [[a, b, c]], [[x, y, z]] => (z = 0 ∧ w128 y x = (top8 - w128 b a) % top8)
  | _, _ => False
def Pre_part : List (List Int) → Prop
  | [[h, l]] => True
  | _ => False
def Post_part : List (List Int) → List (List Int) → Prop
  | [[h, l]], [[t, x, y, z]] => (z = 0 ∧ (h < 0 → t = 1 ∧ w128 y x = - w128 h l) ∧ (0 ≤ h → t = 0 ∧ w128 y x = w128 h l))
  | _, _ => False
def Pre_whole : List (List Int) → Prop
  | [[t, x, y, z]] => True
  | _ => False
def Post_whole : List (List Int) → List (List Int) → Prop
  | [[t, x, y, z]], [[h, l], [e]] => tellW (if t = 1 then - wv x y z else wv x y z) h l e
  | _, _ => False
def Pre_wtimes : List (List Int) → Prop
  | [[a, b, c], [n]] => True
  | _ => False
def Post_wtimes : List (List Int) → List (List Int) → Prop
  | [[a, b, c], [n]], [[x, y, z]] => wv x y z = (wv a b c * n) % top12
  | _, _ => False
def Pre_size : List (List Int) → Prop
  | [[n]] => True
  | _ => False
def Post_size : List (List Int) → List (List Int) → Prop
  | [[n]], [[m]] => ((n < 0 → m = -n) ∧ (0 ≤ n → m = n))
  | _, _ => False
def Pre_wadd : List (List Int) → Prop
  | [[a, b], [c, d]] => True
  | _ => False
def Post_wadd : List (List Int) → List (List Int) → Prop
  | [[a, b], [c, d]], [[h, l], [e]] => tellW (w128 a b + w128 c d) h l e
  | _, _ => False
def Pre_wsub : List (List Int) → Prop
  | [[a, b], [c, d]] => True
  | _ => False
def Post_wsub : List (List Int) → List (List Int) → Prop
  | [[a, b], [c, d]], [[h, l], [e]] => tellW (w128 a b - w128 c d) h l e
  | _, _ => False
def Pre_wtms : List (List Int) → Prop
  | [[a, b], [n]] => True
  | _ => False
def Post_wtms : List (List Int) → List (List Int) → Prop
  | [[a, b], [n]], [[h, l], [e]] => tellW (w128 a b * n) h l e
  | _, _ => False
def Pre_wmul : List (List Int) → Prop
  | [[a], [b]] => True
  | _ => False
def Post_wmul : List (List Int) → List (List Int) → Prop
  | [[a], [b]], [[h, l]] => w128 h l = a * b
  | _, _ => False
def Pre_wdivided : List (List Int) → Prop
  | [[a, b, c], [n]] => 0 < n
  | _ => False
def Post_wdivided : List (List Int) → List (List Int) → Prop
  | [[a, b, c], [n]], [[x, y, z], [r]] => (z = 0 ∧ isFloor (w128 b a) n (w128 y x) r)
  | _, _ => False
def Pre_wfloor : List (List Int) → Prop
  | [[a, b], [d]] => True
  | _ => False
def Post_wfloor : List (List Int) → List (List Int) → Prop
  | [[a, b], [d]], [[h, l], [r], [e]] => ((d < 1 → h = 0 ∧ l = 0 ∧ r = 0 ∧ e = 1) ∧ (1 ≤ d → e = 0 ∧ isFloor (w128 a b) d (w128 h l) r))
  | _, _ => False
def Pre_wnear : List (List Int) → Prop
  | [[a, b], [d]] => True
  | _ => False
def Post_wnear : List (List Int) → List (List Int) → Prop
  | [[a, b], [d]], [[h, l], [e]] => ((d < 1 → h = 0 ∧ l = 0 ∧ e = 1) ∧ (1 ≤ d → e = 0 ∧ isNear (w128 a b) d (w128 h l)))
  | _, _ => False
def Pre_wint : List (List Int) → Prop
  | [[a, b]] => True
  | _ => False
def Post_wint : List (List Int) → List (List Int) → Prop
  | [[a, b]], [[n], [t]] => isInt (w128 a b) n t
  | _, _ => False
def Pre_zero : List (List Int) → Prop
  | [m :: a] => True
  | _ => False
def Post_zero : List (List Int) → List (List Int) → Prop
  | [m :: a], [[t]] => (t = b2i (decide (vd a = 0)))
  | _, _ => False
def Pre_rof : List (List Int) → Prop
  | [[n]] => True
  | _ => False
def Post_rof : List (List Int) → List (List Int) → Prop
  | [[n]], [[h, l]] => w128 h l = n
  | _, _ => False
def Pre_small : List (List Int) → Prop
  | [[n]] => True
  | _ => False
def Post_small : List (List Int) → List (List Int) → Prop
  | [[n]], [r] => (vd (r.drop 1) ≤ 9223372036854775808 ∧ sv r = n ∧ (r.getD 0 0 = 1 ↔ n < 0))
  | _, _ => False
def Pre_tell : List (List Int) → Prop
  | [a] => True
  | _ => False
def Post_tell : List (List Int) → List (List Int) → Prop
  | [a], [[h, l], [e]] => tellW (sv a) h l e
  | _, _ => False
def Pre_divided : List (List Int) → Prop
  | [a, b] => (0 < vd b ∧ 2 * vd b ≤ top12)
  | _ => False
def Post_divided : List (List Int) → List (List Int) → Prop
  | [a, b], [q, r] => isFloor (vd a) (vd b) (vd q) (vd r)
  | _, _ => False
def Inv_divided : List Int → List Int → Prop
  | fs, i :: o => divInv (vd (fs.take 12)) (vd (fs.drop 12)) i (vd (o.take 12)) (vd (o.drop 12))
  | _, _ => False
def Mea_divided : List Int → List Int → Nat
  | fs, i :: o => (i + 1).toNat
  | _, _ => 0
def Pre_nearest : List (List Int) → Prop
  | [a, b] => (0 < vd (b.drop 1) ∧ 2 * vd (a.drop 1) + vd (b.drop 1) < top12 ∧ 4 * vd (b.drop 1) ≤ top12)
  | _ => False
def Post_nearest : List (List Int) → List (List Int) → Prop
  | [a, b], [r] => (nearest (sv a) (sv b) (sv r) ∧ vd (r.drop 1) ≤ 2 * vd (a.drop 1) + 2)
  | _, _ => False
def Pre_rcmp : List (List Int) → Prop
  | [[ah, al], [bh, bl]] => True
  | _ => False
def Post_rcmp : List (List Int) → List (List Int) → Prop
  | [[ah, al], [bh, bl]], [[c]] => ((w128 ah al < w128 bh bl → c = -1) ∧ (w128 ah al = w128 bh bl → c = 0) ∧ (w128 bh bl < w128 ah al → c = 1))
  | _, _ => False
def Pre_rint : List (List Int) → Prop
  | [[a, b]] => True
  | _ => False
def Post_rint : List (List Int) → List (List Int) → Prop
  | [[a, b]], [[n], [t]] => isInt (w128 a b) n t
  | _, _ => False
def Pre_rtms : List (List Int) → Prop
  | [[a, b], [n]] => True
  | _ => False
def Post_rtms : List (List Int) → List (List Int) → Prop
  | [[a, b], [n]], [[h, l], [e]] => tellW (w128 a b * n) h l e
  | _, _ => False
def Pre_rmul : List (List Int) → Prop
  | [[a], [b]] => True
  | _ => False
def Post_rmul : List (List Int) → List (List Int) → Prop
  | [[a], [b]], [[h, l]] => w128 h l = a * b
  | _, _ => False
def Pre_rfloor : List (List Int) → Prop
  | [[a, b], [d]] => True
  | _ => False
def Post_rfloor : List (List Int) → List (List Int) → Prop
  | [[a, b], [d]], [[h, l], [r], [e]] => ((d < 1 → h = 0 ∧ l = 0 ∧ r = 0 ∧ e = 1) ∧ (1 ≤ d → e = 0 ∧ isFloor (w128 a b) d (w128 h l) r))
  | _, _ => False
def Pre_rnear : List (List Int) → Prop
  | [[a, b], [d]] => True
  | _ => False
def Post_rnear : List (List Int) → List (List Int) → Prop
  | [[a, b], [d]], [[h, l], [e]] => ((d < 1 → h = 0 ∧ l = 0 ∧ e = 1) ∧ (1 ≤ d → e = 0 ∧ isNear (w128 a b) d (w128 h l)))
  | _, _ => False
def Pre_wide1 : List (List Int) → Prop
  | [[x]] => True
  | _ => False
def Post_wide1 : List (List Int) → List (List Int) → Prop
  | [[x]], [[h, l]] => w128 h l = x * x
  | _, _ => False
def Pre_wide2 : List (List Int) → Prop
  | [[ah, al], [bh, bl]] => True
  | _ => False
def Post_wide2 : List (List Int) → List (List Int) → Prop
  | [[ah, al], [bh, bl]], [[t]] => t = b2i (decide (w128 bh bl < w128 ah al))
  | _, _ => False
def Pre_rootwide : List (List Int) → Prop
  | [[h, l], [m], [_, _]] => True
  | _ => False
def Post_rootwide : List (List Int) → List (List Int) → Prop
  | [[h, l], [m], [_, _]], [[x]] => isRoot (w128 h l) x
  | _, _ => False
def Inv_rootwide : List Int → List Int → Prop
  | [h, l, m], [x, i] => rootInv 64 (w128 h l) x i
  | _, _ => False
def Mea_rootwide : List Int → List Int → Nat
  | [h, l, m], [x, i] => (64 - i).toNat
  | _, _ => 0
def Pre_mkwide : List (List Int) → Prop
  | [] => True
  | _ => False
def Post_mkwide : List (List Int) → List (List Int) → Prop
  | [], _ => True
  | _, _ => False
def Pre_rootWide : List (List Int) → Prop
  | [[h, l]] => True
  | _ => False
def Post_rootWide : List (List Int) → List (List Int) → Prop
  | [[h, l]], [[x], [e]] => ((h < 0 → x = 0 ∧ e = 1) ∧ (0 ≤ h → e = 0 ∧ isRoot (w128 h l) x))
  | _, _ => False
def Pre_log : List (List Int) → Prop
  | [[n]] => True
  | _ => False
def Post_log : List (List Int) → List (List Int) → Prop
  | [[n]], [[k]] => ((n = 0 → k = -1) ∧ (0 < n → 0 ≤ k ∧ k ≤ 63 ∧ 2 ^ k.toNat ≤ n ∧ n < 2 * 2 ^ k.toNat))
  | _, _ => False
def Pre_rnum : List (List Int) → Prop
  | [[n]] => True
  | _ => False
def Post_rnum : List (List Int) → List (List Int) → Prop
  | [[n]], [r] => (r.getD 0 0 = 0 ∧ vd (r.drop 1) = n)
  | _, _ => False
def Pre_rroot : List (List Int) → Prop
  | [n] => (n.getD 0 0 = 0 ∧ vd (n.drop 1) < top8)
  | _ => False
def Post_rroot : List (List Int) → List (List Int) → Prop
  | [n], [[x]] => isRoot (vd (n.drop 1)) x
  | _, _ => False
def Inv_rroot : List Int → List Int → Prop
  | n, [a, b] => (a ≤ b ∧ a * a ≤ vd (n.drop 1) ∧ vd (n.drop 1) < (b + 1) * (b + 1))
  | _, _ => False
def Mea_rroot : List Int → List Int → Nat
  | n, [a, b] => (b - a).toNat
  | _, _ => 0
def Pre_rRootWide : List (List Int) → Prop
  | [[h, l]] => True
  | _ => False
def Post_rRootWide : List (List Int) → List (List Int) → Prop
  | [[h, l]], [[x], [e]] => ((h < 0 → x = 0 ∧ e = 1) ∧ (0 ≤ h → e = 0 ∧ isRoot (w128 h l) x))
  | _, _ => False
def Pre_rLog : List (List Int) → Prop
  | [[n]] => True
  | _ => False
def Post_rLog : List (List Int) → List (List Int) → Prop
  | [[n]], [[k]] => ((n = 0 → k = -1) ∧ (0 < n → 0 ≤ k ∧ k ≤ 63 ∧ 2 ^ k.toNat ≤ n ∧ n < 2 * 2 ^ k.toNat))
  | _, _ => False
def Inv_rLog : List Int → List Int → Prop
  | [m], [n, k] => (n * 2 ^ (k + 1).toNat ≤ m ∧ m < (n + 1) * 2 ^ (k + 1).toNat ∧ (k = -1 ∨ 2 ^ k.toNat ≤ m))
  | _, _ => False
def Mea_rLog : List Int → List Int → Nat
  | [m], [n, k] => n.toNat
  | _, _ => 0
def Pre_sat : List (List Int) → Prop
  | [[n]] => True
  | _ => False
def Post_sat : List (List Int) → List (List Int) → Prop
  | [[n]], [[v]] => v = clamp32 n
  | _, _ => False
def Pre_pmade : List (List Int) → Prop
  | [] => True
  | _ => False
def Post_pmade : List (List Int) → List (List Int) → Prop
  | [], _ => True
  | _, _ => False
def Pre_ptimes : List (List Int) → Prop
  | [[a], [b]] => a * b < 85070591730234615865843651857942052864
  | _ => False
def Post_ptimes : List (List Int) → List (List Int) → Prop
  | [[a], [b]], [[v]] => v = a * b / 4611686018427387904
  | _, _ => False
def Pre_power : List (List Int) → Prop
  | [[e]] => True
  | _ => False
def Post_power : List (List Int) → List (List Int) → Prop
  | [[e]], [[v]] => v = powF e
  | _, _ => False
def Inv_pw : List Int → List Int → Prop
  | [e], [i, p] => p = qn (i - 1).toNat (e % 4294967296 / 2 ^ (33 - i).toNat)
  | _, _ => False
def Mea_pw : List Int → List Int → Nat
  | [e], [i, p] => (33 - i).toNat
  | _, _ => 0
def Pre_plong : List (List Int) → Prop
  | [[n]] => True
  | _ => False
def Post_plong : List (List Int) → List (List Int) → Prop
  | [[n]], [[v]] => v = longF n
  | _, _ => False
def Inv_lng : List Int → List Int → Prop
  | [y0, o0], [i, y, o] => (y = (ll y0 i.toNat).1 ∧ o = o0 * 2 ^ i.toNat + (ll y0 i.toNat).2)
  | _, _ => False
def Mea_lng : List Int → List Int → Nat
  | [y0, o0], [i, y, o] => (40 - i).toNat
  | _, _ => 0
def Pre_pexpo : List (List Int) → Prop
  | [[a], [n]] => True
  | _ => False
def Post_pexpo : List (List Int) → List (List Int) → Prop
  | [[a], [n]], [[v]] => v = expoF a n
  | _, _ => False
def Pre_pow : List (List Int) → Prop
  | [[a], [n]] => True
  | _ => False
def Post_pow : List (List Int) → List (List Int) → Prop
  | [[a], [n]], [[v], [e]] => powTo a n v e
  | _, _ => False
def Pre_rn4 : List (List Int) → Prop
  | [[n]] => True
  | _ => False
def Post_rn4 : List (List Int) → List (List Int) → Prop
  | [[n]], [r] => (r.getD 0 0 = 0 ∧ vd (r.drop 1) = n)
  | _, _ => False
def Pre_rprod4 : List (List Int) → Prop
  | [[a], [b]] => a * b < 85070591730234615865843651857942052864
  | _ => False
def Post_rprod4 : List (List Int) → List (List Int) → Prop
  | [[a], [b]], [[v]] => v = a * b / 4611686018427387904
  | _, _ => False
def Pre_tround : List (List Int) → Prop
  | [[x]] => True
  | _ => False
def Post_tround : List (List Int) → List (List Int) → Prop
  | [[x]], [[c]] => isRoot (x * 4611686018427387904) c
  | _, _ => False
def Pre_tnext : List (List Int) → Prop
  | [[i]] => True
  | _ => False
def Post_tnext : List (List Int) → List (List Int) → Prop
  | [[i]], [[j]] => j = i + 1
  | _, _ => False
def Pre_rtwo : List (List Int) → Prop
  | [[e]] => True
  | _ => False
def Post_rtwo : List (List Int) → List (List Int) → Prop
  | [[e]], [r] => (0 ≤ sv r ∧ sv r ≤ 1099511627776 ∧ vd (r.drop 1) ≤ 1267650600228229401496703205376 ∧ clamp32 (sv r) = clamp32 (powF e) ∧ clamp32 (-(sv r)) = clamp32 (-(powF e)))
  | _, _ => False
def Inv_tw0 : List Int → List Int → Prop
  | [e], [i, p] => p = qn (i - 1).toNat (e % 4294967296 / 2 ^ (33 - i).toNat)
  | _, _ => False
def Mea_tw0 : List Int → List Int → Nat
  | [e], [i, p] => (33 - i).toNat
  | _, _ => 0
def Inv_tw1 : List Int → List Int → Prop
  | [p, w0], w :: u => (sv u = p * 65536 * 2 ^ (w0 - w).toNat ∧ vd (u.drop 1) ≤ 604462909807314587353088 * 2 ^ (w0 - w).toNat ∧ w ≤ w0 ∧ (0 < w0 → 0 ≤ w) ∧ (w0 ≤ 0 → w = w0))
  | _, _ => False
def Mea_tw1 : List Int → List Int → Nat
  | [p, w0], w :: u => w.toNat
  | _, _ => 0
def Inv_tw2 : List Int → List Int → Prop
  | [w0], w :: u => (sv u = 4611686018427387904 * 2 ^ (w - w0).toNat ∧ vd (u.drop 1) = 4611686018427387904 * 2 ^ (w - w0).toNat ∧ w0 ≤ w ∧ (w0 < 0 → w ≤ 0) ∧ (0 ≤ w0 → w = w0))
  | _, _ => False
def Mea_tw2 : List Int → List Int → Nat
  | [w0], w :: u => (-w).toNat
  | _, _ => 0
def Pre_rhold : List (List Int) → Prop
  | [a, b] => (1 ≤ sv b ∧ vd (b.drop 1) ≤ 4611686018427387904 ∧ vd (b.drop 1) = sv b ∧ vd (a.drop 1) ≤ 1267650600228229401496703205376)
  | _ => False
def Post_rhold : List (List Int) → List (List Int) → Prop
  | [a, b], [[v]] => (∃ x, isNear (sv a) (sv b) x ∧ v = clamp32 x)
  | _, _ => False
def Pre_rhold1 : List (List Int) → Prop
  | [a] => vd (a.drop 1) ≤ 1267650600228229401496703205376
  | _ => False
def Post_rhold1 : List (List Int) → List (List Int) → Prop
  | [a], [[v]] => v = clamp32 (sv a)
  | _, _ => False
def Pre_rlong : List (List Int) → Prop
  | [[n]] => True
  | _ => False
def Post_rlong : List (List Int) → List (List Int) → Prop
  | [[n]], [[v]] => v = longF n
  | _, _ => False
def Inv_rl0 : List Int → List Int → Prop
  | [n, k], [i, y] => (y = n * 2 ^ (i - k).toNat ∧ k ≤ i)
  | _, _ => False
def Mea_rl0 : List Int → List Int → Nat
  | [n, k], [i, y] => (62 - i).toNat
  | _, _ => 0
def Inv_rl1 : List Int → List Int → Prop
  | [y0, o0], [i, y, o] => (y = (ll y0 i.toNat).1 ∧ o = o0 * 2 ^ i.toNat + (ll y0 i.toNat).2)
  | _, _ => False
def Mea_rl1 : List Int → List Int → Nat
  | [y0, o0], [i, y, o] => (40 - i).toNat
  | _, _ => 0
def Pre_rpow : List (List Int) → Prop
  | [[a], [n]] => True
  | _ => False
def Post_rpow : List (List Int) → List (List Int) → Prop
  | [[a], [n]], [[v], [e]] => powTo a n v e
  | _, _ => False
def Pre_rsat : List (List Int) → Prop
  | [[n]] => True
  | _ => False
def Post_rsat : List (List Int) → List (List Int) → Prop
  | [[n]], [[v]] => v = clamp32 n
  | _, _ => False
def E : Ctx where
  pre f a := if Nat.beq f 84 = true then Pre_len64 a else if Nat.beq f 62 = true then Pre_mul64 a else if Nat.beq f 68 = true then Pre_compare a else if Nat.beq f 72 = true then Pre_plus a else if Nat.beq f 70 = true then Pre_less a else if Nat.beq f 57 = true then Pre_product a else if Nat.beq f 49 = true then Pre_read a else if Nat.beq f 36 = true then Pre_minus a else if Nat.beq f 59 = true then Pre_sum a else if Nat.beq f 60 = true then Pre_above a else if Nat.beq f 94 = true then Pre_cmpi64 a else if Nat.beq f 95 = true then Pre_cmpu64 a else if Nat.beq f 86 = true then Pre_wcmp a else if Nat.beq f 65 = true then Pre_wof a else if Nat.beq f 98 = true then Pre_lz64 a else if Nat.beq f 90 = true then Pre_div64 a else if Nat.beq f 89 = true then Pre_turned a else if Nat.beq f 77 = true then Pre_part a else if Nat.beq f 79 = true then Pre_whole a else if Nat.beq f 82 = true then Pre_wtimes a else if Nat.beq f 83 = true then Pre_size a else if Nat.beq f 64 = true then Pre_wadd a else if Nat.beq f 80 = true then Pre_wsub a else if Nat.beq f 66 = true then Pre_wtms a else if Nat.beq f 44 = true then Pre_wmul a else if Nat.beq f 78 = true then Pre_wdivided a else if Nat.beq f 63 = true then Pre_wfloor a else if Nat.beq f 43 = true then Pre_wnear a else if Nat.beq f 46 = true then Pre_wint a else if Nat.beq f 69 = true then Pre_zero a else if Nat.beq f 52 = true then Pre_rof a else if Nat.beq f 50 = true then Pre_small a else if Nat.beq f 47 = true then Pre_tell a else if Nat.beq f 71 = true then Pre_divided a else if Nat.beq f 48 = true then Pre_nearest a else if Nat.beq f 55 = true then Pre_rcmp a else if Nat.beq f 34 = true then Pre_rint a else if Nat.beq f 51 = true then Pre_rtms a else if Nat.beq f 32 = true then Pre_rmul a else if Nat.beq f 73 = true then Pre_rfloor a else if Nat.beq f 31 = true then Pre_rnear a else if Nat.beq f 96 = true then Pre_wide1 a else if Nat.beq f 97 = true then Pre_wide2 a else if Nat.beq f 87 = true then Pre_rootwide a else if Nat.beq f 88 = true then Pre_mkwide a else if Nat.beq f 76 = true then Pre_rootWide a else if Nat.beq f 67 = true then Pre_log a else if Nat.beq f 92 = true then Pre_rnum a else if Nat.beq f 85 = true then Pre_rroot a else if Nat.beq f 74 = true then Pre_rRootWide a else if Nat.beq f 53 = true then Pre_rLog a else if Nat.beq f 19 = true then Pre_sat a else if Nat.beq f 41 = true then Pre_pmade a else if Nat.beq f 42 = true then Pre_ptimes a else if Nat.beq f 28 = true then Pre_power a else if Nat.beq f 45 = true then Pre_plong a else if Nat.beq f 29 = true then Pre_pexpo a else if Nat.beq f 15 = true then Pre_pow a else if Nat.beq f 58 = true then Pre_rn4 a else if Nat.beq f 54 = true then Pre_rprod4 a else if Nat.beq f 9001 = true then Pre_tround a else if Nat.beq f 9002 = true then Pre_tnext a else if Nat.beq f 35 = true then Pre_rtwo a else if Nat.beq f 38 = true then Pre_rhold a else if Nat.beq f 37 = true then Pre_rhold1 a else if Nat.beq f 33 = true then Pre_rlong a else if Nat.beq f 20 = true then Pre_rpow a else if Nat.beq f 23 = true then Pre_rsat a else False
  post f a r := if Nat.beq f 84 = true then Post_len64 a r else if Nat.beq f 62 = true then Post_mul64 a r else if Nat.beq f 68 = true then Post_compare a r else if Nat.beq f 72 = true then Post_plus a r else if Nat.beq f 70 = true then Post_less a r else if Nat.beq f 57 = true then Post_product a r else if Nat.beq f 49 = true then Post_read a r else if Nat.beq f 36 = true then Post_minus a r else if Nat.beq f 59 = true then Post_sum a r else if Nat.beq f 60 = true then Post_above a r else if Nat.beq f 94 = true then Post_cmpi64 a r else if Nat.beq f 95 = true then Post_cmpu64 a r else if Nat.beq f 86 = true then Post_wcmp a r else if Nat.beq f 65 = true then Post_wof a r else if Nat.beq f 98 = true then Post_lz64 a r else if Nat.beq f 90 = true then Post_div64 a r else if Nat.beq f 89 = true then Post_turned a r else if Nat.beq f 77 = true then Post_part a r else if Nat.beq f 79 = true then Post_whole a r else if Nat.beq f 82 = true then Post_wtimes a r else if Nat.beq f 83 = true then Post_size a r else if Nat.beq f 64 = true then Post_wadd a r else if Nat.beq f 80 = true then Post_wsub a r else if Nat.beq f 66 = true then Post_wtms a r else if Nat.beq f 44 = true then Post_wmul a r else if Nat.beq f 78 = true then Post_wdivided a r else if Nat.beq f 63 = true then Post_wfloor a r else if Nat.beq f 43 = true then Post_wnear a r else if Nat.beq f 46 = true then Post_wint a r else if Nat.beq f 69 = true then Post_zero a r else if Nat.beq f 52 = true then Post_rof a r else if Nat.beq f 50 = true then Post_small a r else if Nat.beq f 47 = true then Post_tell a r else if Nat.beq f 71 = true then Post_divided a r else if Nat.beq f 48 = true then Post_nearest a r else if Nat.beq f 55 = true then Post_rcmp a r else if Nat.beq f 34 = true then Post_rint a r else if Nat.beq f 51 = true then Post_rtms a r else if Nat.beq f 32 = true then Post_rmul a r else if Nat.beq f 73 = true then Post_rfloor a r else if Nat.beq f 31 = true then Post_rnear a r else if Nat.beq f 96 = true then Post_wide1 a r else if Nat.beq f 97 = true then Post_wide2 a r else if Nat.beq f 87 = true then Post_rootwide a r else if Nat.beq f 88 = true then Post_mkwide a r else if Nat.beq f 76 = true then Post_rootWide a r else if Nat.beq f 67 = true then Post_log a r else if Nat.beq f 92 = true then Post_rnum a r else if Nat.beq f 85 = true then Post_rroot a r else if Nat.beq f 74 = true then Post_rRootWide a r else if Nat.beq f 53 = true then Post_rLog a r else if Nat.beq f 19 = true then Post_sat a r else if Nat.beq f 41 = true then Post_pmade a r else if Nat.beq f 42 = true then Post_ptimes a r else if Nat.beq f 28 = true then Post_power a r else if Nat.beq f 45 = true then Post_plong a r else if Nat.beq f 29 = true then Post_pexpo a r else if Nat.beq f 15 = true then Post_pow a r else if Nat.beq f 58 = true then Post_rn4 a r else if Nat.beq f 54 = true then Post_rprod4 a r else if Nat.beq f 9001 = true then Post_tround a r else if Nat.beq f 9002 = true then Post_tnext a r else if Nat.beq f 35 = true then Post_rtwo a r else if Nat.beq f 38 = true then Post_rhold a r else if Nat.beq f 37 = true then Post_rhold1 a r else if Nat.beq f 33 = true then Post_rlong a r else if Nat.beq f 20 = true then Post_rpow a r else if Nat.beq f 23 = true then Post_rsat a r else False
  inv l a r := if Nat.beq l 0 = true then Inv_less a r else if Nat.beq l 1 = true then Inv_prodo a r else if Nat.beq l 2 = true then Inv_prodi a r else if Nat.beq l 3 = true then Inv_dv1 a r else if Nat.beq l 4 = true then Inv_dv2 a r else if Nat.beq l 5 = true then Inv_divided a r else if Nat.beq l 6 = true then Inv_rootwide a r else if Nat.beq l 7 = true then Inv_rroot a r else if Nat.beq l 8 = true then Inv_rLog a r else if Nat.beq l 9 = true then Inv_pw a r else if Nat.beq l 10 = true then Inv_lng a r else if Nat.beq l 11 = true then Inv_tw0 a r else if Nat.beq l 12 = true then Inv_tw1 a r else if Nat.beq l 13 = true then Inv_tw2 a r else if Nat.beq l 14 = true then Inv_rl0 a r else if Nat.beq l 15 = true then Inv_rl1 a r else False
  mea l a r := if Nat.beq l 0 = true then Mea_less a r else if Nat.beq l 1 = true then Mea_prodo a r else if Nat.beq l 2 = true then Mea_prodi a r else if Nat.beq l 3 = true then Mea_dv1 a r else if Nat.beq l 4 = true then Mea_dv2 a r else if Nat.beq l 5 = true then Mea_divided a r else if Nat.beq l 6 = true then Mea_rootwide a r else if Nat.beq l 7 = true then Mea_rroot a r else if Nat.beq l 8 = true then Mea_rLog a r else if Nat.beq l 9 = true then Mea_pw a r else if Nat.beq l 10 = true then Mea_lng a r else if Nat.beq l 11 = true then Mea_tw0 a r else if Nat.beq l 12 = true then Mea_tw1 a r else if Nat.beq l 13 = true then Mea_tw2 a r else if Nat.beq l 14 = true then Mea_rl0 a r else if Nat.beq l 15 = true then Mea_rl1 a r else 0
def anns0 : List (FuncId × Nat × Ann) := [(70, 2, { l := 0, slots := [(5, ir 0 12)], blks := [(1, List.replicate 12 (ir (-1) 65535))], fro := [0, 1] }), (57, 3, { l := 1, slots := [(6, ir 0 12)], blks := [(4, dg12)], fro := [0, 1] }), (57, 7, { l := 2, slots := [(7, ir 0 65535), (8, ir 0 12)], blks := [(4, dg12)], fro := [6, 0, 1] }), (90, 17, { l := 3, slots := [(15, u64), (16, u64)], blks := [], fro := [11, 9, 10, 13] }), (90, 24, { l := 4, slots := [(18, u64), (16, u64)], blks := [], fro := [17, 9, 10, 14] }), (71, 3, { l := 5, slots := [(8, ir (-1) 191)], blks := [(5, dg12), (6, dg12)], fro := [2, 3] }), (87, 2, { l := 6, slots := [(6, u64), (10, ir 0 64)], blks := [], fro := [0, 9] }), (85, 3, { l := 7, slots := [(3, u64), (4, u64)], blks := [], fro := [0] }), (53, 2, { l := 8, slots := [(0, u64), (3, ir (-1) 63)], blks := [], fro := [0] }), (28, 9, { l := 9, slots := [(17, ir 0 33), (5, .int .u64 4611686018427387904 9223372036854775808)], blks := [], fro := [0] }), (45, 5, { l := 10, slots := [(6, ir 0 40), (4, .int .u64 4611686018427387904 9223372036854775807), (5, ir (-17592186044416) 17592186044416)], blks := [], fro := [4, 5] }), (35, 9, { l := 11, slots := [(6, ir 1 33), (4, .int .u64 4611686018427387904 9223372036854775808)], blks := [], fro := [0] }), (35, 15, { l := 12, slots := [(3, ir (-40) 20)], blks := [(3, .bool :: dg12)], fro := [4, 3] }), (35, 18, { l := 13, slots := [(3, ir (-40) 20)], blks := [(4, .bool :: dg12)], fro := [3] }), (33, 4, { l := 14, slots := [(5, ir 0 62), (4, u64)], blks := [], fro := [0, 3] }), (33, 9, { l := 15, slots := [(7, ir 0 40), (4, .int .u64 4611686018427387904 9223372036854775807), (6, ir (-17592186044416) 17592186044416)], blks := [], fro := [4, 6] })]
def tab0 : Tab := { cons := [], exts := [(81, true), (91, false)], anns := anns0 }
def ash_len64 : List ShA := [.s u64]
def sh_len64 : ShV := .a (.s (ir 0 64))
def tab1 : Tab := { tab0 with cons := (84, ash_len64, sh_len64) :: tab0.cons }
def ash_mul64 : List ShA := [.s u64, .s u64]
def sh_mul64 : ShV := .tup [.s u64, .s u64]
def tab2 : Tab := { tab1 with cons := (62, ash_mul64, sh_mul64) :: tab1.cons }
def ash_compare : List ShA := [.agg dg12, .agg dg12]
def sh_compare : ShV := .a (.s (ir (-1) 1))
def tab3 : Tab := { tab2 with cons := (68, ash_compare, sh_compare) :: tab2.cons }
def ash_plus : List ShA := [.agg dg12, .agg dg12]
def sh_plus : ShV := .a (.agg dg12)
def tab4 : Tab := { tab3 with cons := (72, ash_plus, sh_plus) :: tab3.cons }
def ash_less : List ShA := [.agg dg12, .agg dg12]
def sh_less : ShV := .a (.agg dg12)
def tab5 : Tab := { tab4 with cons := (70, ash_less, sh_less) :: tab4.cons }
def ash_product : List ShA := [numS, numS]
def sh_product : ShV := .a numS
def tab6 : Tab := { tab5 with cons := (57, ash_product, sh_product) :: tab5.cons }
def ash_read : List ShA := [.agg [i64, u64]]
def sh_read : ShV := .a numS
def tab7 : Tab := { tab6 with cons := (49, ash_read, sh_read) :: tab6.cons }
def ash_minus : List ShA := [numS]
def sh_minus : ShV := .a numS
def tab8 : Tab := { tab7 with cons := (36, ash_minus, sh_minus) :: tab7.cons }
def ash_sum : List ShA := [numS, numS]
def sh_sum : ShV := .a numS
def tab9 : Tab := { tab8 with cons := (59, ash_sum, sh_sum) :: tab8.cons }
def ash_above : List ShA := [numS, numS]
def sh_above : ShV := .a (.s .bool)
def tab10 : Tab := { tab9 with cons := (60, ash_above, sh_above) :: tab9.cons }
def ash_cmpi64 : List ShA := [.s i64, .s i64]
def sh_cmpi64 : ShV := .a (.s (ir (-1) 1))
def tab11 : Tab := { tab10 with cons := (94, ash_cmpi64, sh_cmpi64) :: tab10.cons }
def ash_cmpu64 : List ShA := [.s u64, .s u64]
def sh_cmpu64 : ShV := .a (.s (ir (-1) 1))
def tab12 : Tab := { tab11 with cons := (95, ash_cmpu64, sh_cmpu64) :: tab11.cons }
def ash_wcmp : List ShA := [.agg [i64, u64], .agg [i64, u64]]
def sh_wcmp : ShV := .a (.s (ir (-1) 1))
def tab13 : Tab := { tab12 with cons := (86, ash_wcmp, sh_wcmp) :: tab12.cons }
def ash_wof : List ShA := [.s i64]
def sh_wof : ShV := .a (.agg [i64, u64])
def tab14 : Tab := { tab13 with cons := (65, ash_wof, sh_wof) :: tab13.cons }
def ash_lz64 : List ShA := [.s u64]
def sh_lz64 : ShV := .a (.s (ir 0 64))
def tab15 : Tab := { tab14 with cons := (98, ash_lz64, sh_lz64) :: tab14.cons }
def ash_div64 : List ShA := [.s u64, .s u64, .s u64]
def sh_div64 : ShV := .tup [.s u64, .s u64]
def tab16 : Tab := { tab15 with cons := (90, ash_div64, sh_div64) :: tab15.cons }
def ash_turned : List ShA := [.agg [u64, u64, u64]]
def sh_turned : ShV := .a (.agg [u64, u64, u64])
def tab17 : Tab := { tab16 with cons := (89, ash_turned, sh_turned) :: tab16.cons }
def ash_part : List ShA := [.agg [i64, u64]]
def sh_part : ShV := .a (.agg [.bool, u64, u64, u64])
def tab18 : Tab := { tab17 with cons := (77, ash_part, sh_part) :: tab17.cons }
def ash_whole : List ShA := [.agg [.bool, u64, u64, u64]]
def sh_whole : ShV := .tup [.agg [i64, u64], .s (ir 0 11)]
def tab19 : Tab := { tab18 with cons := (79, ash_whole, sh_whole) :: tab18.cons }
def ash_wtimes : List ShA := [.agg [u64, u64, u64], .s u64]
def sh_wtimes : ShV := .a (.agg [u64, u64, u64])
def tab20 : Tab := { tab19 with cons := (82, ash_wtimes, sh_wtimes) :: tab19.cons }
def ash_size : List ShA := [.s i64]
def sh_size : ShV := .a (.s u64)
def tab21 : Tab := { tab20 with cons := (83, ash_size, sh_size) :: tab20.cons }
def ash_wadd : List ShA := [.agg [i64, u64], .agg [i64, u64]]
def sh_wadd : ShV := .tup [.agg [i64, u64], .s (ir 0 11)]
def tab22 : Tab := { tab21 with cons := (64, ash_wadd, sh_wadd) :: tab21.cons }
def ash_wsub : List ShA := [.agg [i64, u64], .agg [i64, u64]]
def sh_wsub : ShV := .tup [.agg [i64, u64], .s (ir 0 11)]
def tab23 : Tab := { tab22 with cons := (80, ash_wsub, sh_wsub) :: tab22.cons }
def ash_wtms : List ShA := [.agg [i64, u64], .s i64]
def sh_wtms : ShV := .tup [.agg [i64, u64], .s (ir 0 11)]
def tab24 : Tab := { tab23 with cons := (66, ash_wtms, sh_wtms) :: tab23.cons }
def ash_wmul : List ShA := [.s i64, .s i64]
def sh_wmul : ShV := .a (.agg [i64, u64])
def tab25 : Tab := { tab24 with cons := (44, ash_wmul, sh_wmul) :: tab24.cons }
def ash_wdivided : List ShA := [.agg [u64, u64, u64], .s u64]
def sh_wdivided : ShV := .tup [.agg [u64, u64, u64], .s u64]
def tab26 : Tab := { tab25 with cons := (78, ash_wdivided, sh_wdivided) :: tab25.cons }
def ash_wfloor : List ShA := [.agg [i64, u64], .s i64]
def sh_wfloor : ShV := .tup [.agg [i64, u64], .s i64, .s (ir 0 11)]
def tab27 : Tab := { tab26 with cons := (63, ash_wfloor, sh_wfloor) :: tab26.cons }
def ash_wnear : List ShA := [.agg [i64, u64], .s i64]
def sh_wnear : ShV := .tup [.agg [i64, u64], .s (ir 0 11)]
def tab28 : Tab := { tab27 with cons := (43, ash_wnear, sh_wnear) :: tab27.cons }
def ash_wint : List ShA := [.agg [i64, u64]]
def sh_wint : ShV := .tup [.s i64, .s .bool]
def tab29 : Tab := { tab28 with cons := (46, ash_wint, sh_wint) :: tab28.cons }
def ash_zero : List ShA := [numS]
def sh_zero : ShV := .a (.s .bool)
def tab30 : Tab := { tab29 with cons := (69, ash_zero, sh_zero) :: tab29.cons }
def ash_rof : List ShA := [.s i64]
def sh_rof : ShV := .a (.agg [i64, u64])
def tab31 : Tab := { tab30 with cons := (52, ash_rof, sh_rof) :: tab30.cons }
def ash_small : List ShA := [.s i64]
def sh_small : ShV := .a numS
def tab32 : Tab := { tab31 with cons := (50, ash_small, sh_small) :: tab31.cons }
def ash_tell : List ShA := [numS]
def sh_tell : ShV := .tup [.agg [i64, u64], .s (ir 0 11)]
def tab33 : Tab := { tab32 with cons := (47, ash_tell, sh_tell) :: tab32.cons }
def ash_divided : List ShA := [.agg dg12, .agg dg12]
def sh_divided : ShV := .tup [.agg dg12, .agg dg12]
def tab34 : Tab := { tab33 with cons := (71, ash_divided, sh_divided) :: tab33.cons }
def ash_nearest : List ShA := [numS, numS]
def sh_nearest : ShV := .a numS
def tab35 : Tab := { tab34 with cons := (48, ash_nearest, sh_nearest) :: tab34.cons }
def ash_rcmp : List ShA := [.agg [i64, u64], .agg [i64, u64]]
def sh_rcmp : ShV := .a (.s (ir (-1) 1))
def tab36 : Tab := { tab35 with cons := (55, ash_rcmp, sh_rcmp) :: tab35.cons }
def ash_rint : List ShA := [.agg [i64, u64]]
def sh_rint : ShV := .tup [.s i64, .s .bool]
def tab37 : Tab := { tab36 with cons := (34, ash_rint, sh_rint) :: tab36.cons }
def ash_rtms : List ShA := [.agg [i64, u64], .s i64]
def sh_rtms : ShV := .tup [.agg [i64, u64], .s (ir 0 11)]
def tab38 : Tab := { tab37 with cons := (51, ash_rtms, sh_rtms) :: tab37.cons }
def ash_rmul : List ShA := [.s i64, .s i64]
def sh_rmul : ShV := .a (.agg [i64, u64])
def tab39 : Tab := { tab38 with cons := (32, ash_rmul, sh_rmul) :: tab38.cons }
def ash_rfloor : List ShA := [.agg [i64, u64], .s i64]
def sh_rfloor : ShV := .tup [.agg [i64, u64], .s i64, .s (ir 0 11)]
def tab40 : Tab := { tab39 with cons := (73, ash_rfloor, sh_rfloor) :: tab39.cons }
def ash_rnear : List ShA := [.agg [i64, u64], .s i64]
def sh_rnear : ShV := .tup [.agg [i64, u64], .s (ir 0 11)]
def tab41 : Tab := { tab40 with cons := (31, ash_rnear, sh_rnear) :: tab40.cons }
def ash_wide1 : List ShA := [.s u64]
def sh_wide1 : ShV := .a (.agg [u64, u64])
def tab42 : Tab := { tab41 with cons := (96, ash_wide1, sh_wide1) :: tab41.cons }
def ash_wide2 : List ShA := [.agg [u64, u64], .agg [u64, u64]]
def sh_wide2 : ShV := .a (.s .bool)
def tab43 : Tab := { tab42 with cons := (97, ash_wide2, sh_wide2) :: tab42.cons }
def ash_rootwide : List ShA := [.agg [u64, u64], .s (ir 64 64), .agg [.fn 96, .fn 97]]
def sh_rootwide : ShV := .a (.s u64)
def tab44 : Tab := { tab43 with cons := (87, ash_rootwide, sh_rootwide) :: tab43.cons }
def ash_mkwide : List ShA := []
def sh_mkwide : ShV := .a (.agg [.fn 96, .fn 97])
def tab45 : Tab := { tab44 with cons := (88, ash_mkwide, sh_mkwide) :: tab44.cons }
def ash_rootWide : List ShA := [.agg [i64, u64]]
def sh_rootWide : ShV := .tup [.s u64, .s i64]
def tab46 : Tab := { tab45 with cons := (76, ash_rootWide, sh_rootWide) :: tab45.cons }
def ash_log : List ShA := [.s u64]
def sh_log : ShV := .a (.s i64)
def tab47 : Tab := { tab46 with cons := (67, ash_log, sh_log) :: tab46.cons }
def ash_rnum : List ShA := [.s u64]
def sh_rnum : ShV := .a numS
def tab48 : Tab := { tab47 with cons := (92, ash_rnum, sh_rnum) :: tab47.cons }
def ash_rroot : List ShA := [numS]
def sh_rroot : ShV := .a (.s u64)
def tab49 : Tab := { tab48 with cons := (85, ash_rroot, sh_rroot) :: tab48.cons }
def ash_rRootWide : List ShA := [.agg [i64, u64]]
def sh_rRootWide : ShV := .tup [.s u64, .s i64]
def tab50 : Tab := { tab49 with cons := (74, ash_rRootWide, sh_rRootWide) :: tab49.cons }
def ash_rLog : List ShA := [.s u64]
def sh_rLog : ShV := .a (.s i64)
def tab51 : Tab := { tab50 with cons := (53, ash_rLog, sh_rLog) :: tab50.cons }
def ash_sat : List ShA := [.s i64]
def sh_sat : ShV := .a (.s i32)
def tab52 : Tab := { tab51 with cons := (19, ash_sat, sh_sat) :: tab51.cons }
def ash_pmade : List ShA := []
def sh_pmade : ShV := .a (.agg tabP)
def tab53 : Tab := { tab52 with cons := (41, ash_pmade, sh_pmade) :: tab52.cons }
def ash_ptimes : List ShA := [.s u64, .s u64]
def sh_ptimes : ShV := .a (.s u64)
def tab54 : Tab := { tab53 with cons := (42, ash_ptimes, sh_ptimes) :: tab53.cons }
def ash_power : List ShA := [.s i64]
def sh_power : ShV := .a (.s (ir 0 2147483648))
def tab55 : Tab := { tab54 with cons := (28, ash_power, sh_power) :: tab54.cons }
def ash_plong : List ShA := [.s sz]
def sh_plong : ShV := .a (.s (ir (-17592186044416) 16492674416640))
def tab56 : Tab := { tab55 with cons := (45, ash_plong, sh_plong) :: tab55.cons }
def ash_pexpo : List ShA := [.s sz, .s i32]
def sh_pexpo : ShV := .a (.s (ir (-1099511627776) 1099511627776))
def tab57 : Tab := { tab56 with cons := (29, ash_pexpo, sh_pexpo) :: tab56.cons }
def ash_pow : List ShA := [.s i32, .s i32]
def sh_pow : ShV := .tup [.s i32, .s (ir 0 15)]
def tab58 : Tab := { tab57 with cons := (15, ash_pow, sh_pow) :: tab57.cons }
def ash_rn4 : List ShA := [.s u64]
def sh_rn4 : ShV := .a numS
def tab59 : Tab := { tab58 with cons := (58, ash_rn4, sh_rn4) :: tab58.cons }
def ash_rprod4 : List ShA := [.s u64, .s u64]
def sh_rprod4 : ShV := .a (.s u64)
def tab60 : Tab := { tab59 with cons := (54, ash_rprod4, sh_rprod4) :: tab59.cons }
def T_tround (P : Program) (tab : Tab) (k : Nat) (vs : List Value) : T :=
  .all 0 9223372036854775808 fun x => .given 9001 [tA x] (symSeq P tab 2000 56 [sL (tuC P)]
    (hdT 31 vs [(0, .a (.s (.int .i64 (.lit 32)))), (4, .a (.s (.int .u64 (.v x 0 9223372036854775808)))), (5, .a (.s (.int .i64 (.lit k))))]) [] fun tmps mem =>
    symSeq P tab 2000 56 (tuMids P) tmps mem fun tmps mem => symOps P tab (symFn P (symCode P tab 2000)) (fun _ => .all) (tuA P) (List.range 3) tmps mem fun tmps mem => .both (endT 9001 [tA x] [.u64] 28 tmps mem) (endN 9001 [tA x] .u64 4 tmps))
def T_tnext (P : Program) (tab : Tab) (k : Nat) (vs : List Value) : T :=
  .all 0 31 fun i => .given 9002 [.s (.int .i64 (.v i 0 31))] (symSeq P tab 2000 56 [sR (sR (tuC P))] (hdT 31 vs [(5, .a (.s (.int .i64 (.v i 0 31))))]) [] fun tmps mem => endN 9002 [.s (.int .i64 (.v i 0 31))] .i64 5 tmps)
def new_roots : New := { args := [(.i64, 32)], cells := tuCells, len := 32 }
def tab61 : Tab := { tab60 with news := (56, new_roots) :: tab60.news }
def ash_rtwo : List ShA := [.s i64]
def sh_rtwo : ShV := .a numS
def tab62 : Tab := { tab61 with cons := (35, ash_rtwo, sh_rtwo) :: tab61.cons }
def ash_rhold : List ShA := [numS, numS]
def sh_rhold : ShV := .a (.s i32)
def tab63 : Tab := { tab62 with cons := (38, ash_rhold, sh_rhold) :: tab62.cons }
def ash_rhold1 : List ShA := [numS]
def sh_rhold1 : ShV := .a (.s i32)
def tab64 : Tab := { tab63 with cons := (37, ash_rhold1, sh_rhold1) :: tab63.cons }
def ash_rlong : List ShA := [.s (.int .u64 1 2147483648)]
def sh_rlong : ShV := .a (.s (ir (-17592186044416) 17592186044416))
def tab65 : Tab := { tab64 with cons := (33, ash_rlong, sh_rlong) :: tab64.cons }
def ash_rpow : List ShA := [.s i32, .s i32]
def sh_rpow : ShV := .tup [.s i32, .s (ir 0 15)]
def tab66 : Tab := { tab65 with cons := (20, ash_rpow, sh_rpow) :: tab65.cons }
def ash_rsat : List ShA := [.s i64]
def sh_rsat : ShV := .a (.s i32)
def tab67 : Tab := { tab66 with cons := (23, ash_rsat, sh_rsat) :: tab66.cons }

end Go.Proofs.YtogcbmadcgjljaaDoor.Sx
