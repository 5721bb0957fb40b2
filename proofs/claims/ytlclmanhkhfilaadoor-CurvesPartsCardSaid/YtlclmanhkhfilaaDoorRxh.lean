/-
  Contracts of functions, by their words. Printed by a program of our own.
-/
import Derived.Test.YtlclmanhkhfilaaDoorSxo
import Derived.KernelRfl
set_option maxRecDepth 1000000
set_option linter.all false
namespace Go.Proofs.YtlclmanhkhfilaaDoor.Sx
open Go Go.RowKit

def u64 : Sh := .int .u64 0 18446744073709551615
def u32 : Sh := .int .u32 0 4294967295
def u8 : Sh := .int .u8 0 255
def i64 : Sh := .int .i64 (-9223372036854775808) 9223372036854775807
def i32 : Sh := .int .i32 (-2147483648) 2147483647
def ir (lo hi : Int) : Sh := .int .i64 lo hi
def len8tab : List Int := (List.range 256).map fun i => if i = 0 then 0 else (Nat.log2 i : Int) + 1
def dg12 : List Sh := List.replicate 12 (ir 0 65535)
def numS : ShA := .agg (.bool :: dg12)
/-- a number of digits to the base 65536, the lowest first. -/
def vd : List Int → Int
  | [] => 0
  | d :: r => d + 65536 * vd r
def sv : List Int → Int
  | m :: ds => if m = 1 then - vd ds else vd ds
  | [] => 0
/-- no digit but the i-th is below 0. -/
def nnb : Int → List Int → Prop
  | _, [] => True
  | i, d :: r => (i ≠ 0 → 0 ≤ d) ∧ nnb (i - 1) r
def top12 : Int := 6277101735386680763835789423207666416102355444464034512896
def top8 : Int := 340282366920938463463374607431768211456
def dA (fs : List Int) : List Int := (fs.drop 1).take 12
def dB (fs : List Int) : List Int := fs.drop 14
def w128 (h l : Int) : Int := h * 18446744073709551616 + l

def half128 : Int := 170141183460469231731687303715884105728
/-- is a number a wide? -/
def inW (v : Int) : Prop := -half128 ≤ v ∧ v < half128
/-- a number told as a wide, or refused as too great. -/
def tellW (v h l e : Int) : Prop := (inW v → e = 0 ∧ w128 h l = v) ∧ (¬ inW v → e = 11 ∧ h = 0 ∧ l = 0)
def wv (a b c : Int) : Int := a + b * 18446744073709551616 + c * 340282366920938463463374607431768211456
/-- q is nearest to a by d. -/
def isNear (a d q : Int) : Prop := 2 * d * q ≤ 2 * a + d ∧ 2 * a + d < 2 * d * (q + 1)
/-- a digit of a quotient is guessed from above. -/
def dvInv (u m n v q s : Int) : Prop := q * m + s = u ∧ s < 4294967296 ∧ u * 4294967296 + v < (q + 1) * (m * 4294967296 + n)
def isFloor (a d q r : Int) : Prop := a = q * d + r ∧ 0 ≤ r ∧ r < d
def isI64 (v : Int) : Prop := -9223372036854775808 ≤ v ∧ v ≤ 9223372036854775807
def isInt (v n t : Int) : Prop := (isI64 v → t = 1 ∧ n = v) ∧ (¬ isI64 v → t = 0 ∧ n = 0)
def nearest (a b q : Int) : Prop := (0 < b → isNear a b q) ∧ (b < 0 → isNear (-a) (-b) q)
def divInv (a d : Int) (i q r : Int) : Prop := q * d + r = a / 2 ^ (i + 1).toNat ∧ 0 ≤ r ∧ r < d ∧ 0 ≤ q

/-- the bits from the (most - i)th on are not yet told. -/
def rootInv (most : Nat) (n x i : Int) : Prop := i ≤ most ∧ (∃ c : Int, x = c * 2 ^ (most - i.toNat)) ∧ x + 2 ^ (most - i.toNat) ≤ 2 ^ most ∧ x * x ≤ n ∧ n < (x + 2 ^ (most - i.toNat)) * (x + 2 ^ (most - i.toNat))
def isRoot (n x : Int) : Prop := x * x ≤ n ∧ n < (x + 1) * (x + 1)

def tT : List Int := [9223372036854775808, 6521908912666391106, 5484249825272419511, 5029079263719320435, 4815862801830788490, 4712668792719003883, 4661903986662671289, 4636727017470743989, 4624189567668517719, 4617933561212708775, 4614808732577250067, 4613247111281068007, 4612466498810092973, 4612076242109103706, 4611881126141011235, 4611783571252412753, 4611734794581956352, 4611710406440186475, 4611698212417665818, 4611692115418496523, 4611689066921934629, 4611687542674409370, 4611686780550835663, 4611686399489096040, 4611686208958238036, 4611686113692811986, 4611686066060099699, 4611686042243743740, 4611686030335565806, 4611686024381476851, 4611686021404432376, 4611686019915910139, 4611686019171649021]

def tP : List Int := [0, 6521908912666391106, 5484249825272419511, 5029079263719320435, 4815862801830788490, 4712668792719003883, 4661903986662671289, 4636727017470743989, 4624189567668517719, 4617933561212708775, 4614808732577250067, 4613247111281068007, 4612466498810092973, 4612076242109103706, 4611881126141011235, 4611783571252412753, 4611734794581956352, 4611710406440186475, 4611698212417665818, 4611692115418496523, 4611689066921934629, 4611687542674409370, 4611686780550835663, 4611686399489096040, 4611686208958238036, 4611686113692811986, 4611686066060099699, 4611686042243743740, 4611686030335565806, 4611686024381476851, 4611686021404432376, 4611686019915910139, 4611686019171649021]

def tt (i : Nat) : Int := tT.getD i 0
/-- 2 to the power of so many bits behind the point. -/
def qn : Nat → Int → Int
  | 0, _ => 4611686018427387904
  | n + 1, k => if k % 2 = 1 then qn n (k / 2) * tt (n + 1) / 4611686018427387904 else qn n (k / 2)
def powF (e : Int) : Int :=
  if 15 ≤ e / 4294967296 then 2147483648 else if e / 4294967296 < -17 then 0 else min ((qn 32 (e % 4294967296) / 2 ^ (45 - e / 4294967296).toNat + 1) / 2) 2147483648
/-- squared, and halved where it is 2 or more: the number, and the bits. -/
def ll (y0 : Int) : Nat → Int × Int
  | 0 => (y0, 0)
  | n + 1 =>
    if 9223372036854775808 ≤ (ll y0 n).1 * (ll y0 n).1 / 4611686018427387904 then ((ll y0 n).1 * (ll y0 n).1 / 4611686018427387904 / 2, 2 * (ll y0 n).2 + 1)
    else ((ll y0 n).1 * (ll y0 n).1 / 4611686018427387904, 2 * (ll y0 n).2)
def y0F (x : Int) : Int := x * 2 ^ (62 - Nat.log2 x.toNat)
def longF (x : Int) : Int := ((Nat.log2 x.toNat : Int) - 16) * 1099511627776 + (ll (y0F x) 40).2
def near24 (n : Int) : Int := (n / 8388608 + 1) / 2
def roundE (a n : Int) : Int := (2 * (longF a * n) + 16777216) / 33554432
def expoF (a n : Int) : Int := max (-1099511627776) (min 1099511627776 (roundE a n))


def tabP : List Sh := [.int .u64 0 0, .int .u64 6521908912666391106 6521908912666391106, .int .u64 5484249825272419511 5484249825272419511, .int .u64 5029079263719320435 5029079263719320435, .int .u64 4815862801830788490 4815862801830788490, .int .u64 4712668792719003883 4712668792719003883, .int .u64 4661903986662671289 4661903986662671289, .int .u64 4636727017470743989 4636727017470743989, .int .u64 4624189567668517719 4624189567668517719, .int .u64 4617933561212708775 4617933561212708775, .int .u64 4614808732577250067 4614808732577250067, .int .u64 4613247111281068007 4613247111281068007, .int .u64 4612466498810092973 4612466498810092973, .int .u64 4612076242109103706 4612076242109103706, .int .u64 4611881126141011235 4611881126141011235, .int .u64 4611783571252412753 4611783571252412753, .int .u64 4611734794581956352 4611734794581956352, .int .u64 4611710406440186475 4611710406440186475, .int .u64 4611698212417665818 4611698212417665818, .int .u64 4611692115418496523 4611692115418496523, .int .u64 4611689066921934629 4611689066921934629, .int .u64 4611687542674409370 4611687542674409370, .int .u64 4611686780550835663 4611686780550835663, .int .u64 4611686399489096040 4611686399489096040, .int .u64 4611686208958238036 4611686208958238036, .int .u64 4611686113692811986 4611686113692811986, .int .u64 4611686066060099699 4611686066060099699, .int .u64 4611686042243743740 4611686042243743740, .int .u64 4611686030335565806 4611686030335565806, .int .u64 4611686024381476851 4611686024381476851, .int .u64 4611686021404432376 4611686021404432376, .int .u64 4611686019915910139 4611686019915910139, .int .u64 4611686019171649021 4611686019171649021]
def s32 (lo hi : Int) : Sh := .int .i32 lo hi
def i8 : Sh := .int .i8 (-128) 127
def sz : Sh := .int .u64 1 2147483648
/-- a power's sign. -/
def powA (a n : Int) : Int := if a < 0 ∧ (n.tdiv 65536).tmod 2 ≠ 0 then -powF (expoF (max a (-a)) n) else powF (expoF (max a (-a)) n)

def clamp32 (x : Int) : Int := max (-2147483648) (min 2147483647 x)
def powTo (a n v e : Int) : Prop := (n = 0 → v = 65536 ∧ e = 0) ∧ (n ≠ 0 → a = 0 → n < 0 → v = 0 ∧ e = 12) ∧ (n ≠ 0 → a = 0 → 0 < n → v = 0 ∧ e = 0) ∧ (n ≠ 0 → a < 0 → n % 65536 ≠ 0 → v = 0 ∧ e = 1) ∧ (n ≠ 0 → a ≠ 0 → ¬ (a < 0 ∧ n % 65536 ≠ 0) → e = 0 ∧ v = clamp32 (powA a n))

def Pre_len64 : List (List Int) → Prop
  | [[n]] => True
  | _ => False
def Post_len64 : List (List Int) → List (List Int) → Prop
  | [[n]], [[k]] => (0 ≤ k ∧ n < 2 ^ k.toNat ∧ (0 < n → 2 ^ k.toNat ≤ 2 * n) ∧ (n = 0 → k = 0))
  | _, _ => False
def Pre_mul64 : List (List Int) → Prop
  | [[a], [b]] => True
  | _ => False
def Post_mul64 : List (List Int) → List (List Int) → Prop
  | [[a], [b]], [[h], [l]] => h * 18446744073709551616 + l = a * b
  | _, _ => False
def Pre_cmpi64 : List (List Int) → Prop
  | [[a], [b]] => True
  | _ => False
def Post_cmpi64 : List (List Int) → List (List Int) → Prop
  | [[a], [b]], [[c]] => ((a < b → c = -1) ∧ (a = b → c = 0) ∧ (b < a → c = 1))
  | _, _ => False
def Pre_cmpu64 : List (List Int) → Prop
  | [[a], [b]] => True
  | _ => False
def Post_cmpu64 : List (List Int) → List (List Int) → Prop
  | [[a], [b]], [[c]] => ((a < b → c = -1) ∧ (a = b → c = 0) ∧ (b < a → c = 1))
  | _, _ => False
def Pre_wcmp : List (List Int) → Prop
  | [[ah, al], [bh, bl]] => True
  | _ => False
def Post_wcmp : List (List Int) → List (List Int) → Prop
  | [[ah, al], [bh, bl]], [[c]] => ((w128 ah al < w128 bh bl → c = -1) ∧ (w128 ah al = w128 bh bl → c = 0) ∧ (w128 bh bl < w128 ah al → c = 1))
  | _, _ => False
def Pre_wof : List (List Int) → Prop
  | [[n]] => True
  | _ => False
def Post_wof : List (List Int) → List (List Int) → Prop
  | [[n]], [[h, l]] => w128 h l = n
  | _, _ => False
def Pre_lz64 : List (List Int) → Prop
  | [[n]] => True
  | _ => False
def Post_lz64 : List (List Int) → List (List Int) → Prop
  | [[n]], [[k]] => (0 ≤ k ∧ n < 2 ^ (64 - k).toNat ∧ (0 < n → 2 ^ (64 - k).toNat ≤ 2 * n) ∧ (n = 0 → k = 64))
  | _, _ => False
def Pre_div64 : List (List Int) → Prop
  | [[h], [l], [y]] => h < y
  | _ => False
def Post_div64 : List (List Int) → List (List Int) → Prop
  | [[h], [l], [y]], [[q], [r]] => isFloor (w128 h l) y q r
  | _, _ => False
def Inv_dv1 : List Int → List Int → Prop
  | [u, m, n, v], [q, s] => dvInv u m n v q s
  | _, _ => False
def Mea_dv1 : List Int → List Int → Nat
  | [u, m, n, v], [q, s] => q.toNat
  | _, _ => 0
def Inv_dv2 : List Int → List Int → Prop
  | [u, m, n, v], [q, s] => dvInv u m n v q s
  | _, _ => False
def Mea_dv2 : List Int → List Int → Nat
  | [u, m, n, v], [q, s] => q.toNat
  | _, _ => 0
def Pre_turned : List (List Int) → Prop
  | [[a, b, c]] => True
  | _ => False
def Post_turned : List (List Int) → List (List Int) → Prop
  | [[a, b, c]], [[x, y, z]] => (z = 0 ∧ w128 y x = (top8 - w128 b a) % top8)
  | _, _ => False
def Pre_part : List (List Int) → Prop
  | [[h, l]] => True
  | _ => False
def Post_part : List (List Int) → List (List Int) → Prop
  | [[h, l]], [[t, x, y, z]] => (z = 0 ∧ (h < 0 → t = 1 ∧ w128 y x = - w128 h l) ∧ (0 ≤ h → t = 0 ∧ w128 y x = w128 h l))
  | _, _ => False
def Pre_whole : List (List Int) → Prop
  | [[t, x, y, z]] => True
  | _ => False
def Post_whole : List (List Int) → List (List Int) → Prop
  | [[t, x, y, z]], [[h, l], [e]] => tellW (if t = 1 then - wv x y z else wv x y z) h l e
  | _, _ => False
def Pre_wtimes : List (List Int) → Prop
  | [[a, b, c], [n]] => True
  | _ => False
def Post_wtimes : List (List Int) → List (List Int) → Prop
  | [[a, b, c], [n]], [[x, y, z]] => wv x y z = (wv a b c * n) % top12
  | _, _ => False
def Pre_size : List (List Int) → Prop
  | [[n]] => True
  | _ => False
def Post_size : List (List Int) → List (List Int) → Prop
  | [[n]], [[m]] => ((n < 0 → m = -n) ∧ (0 ≤ n → m = n))
  | _, _ => False
def Pre_wadd : List (List Int) → Prop
  | [[a, b], [c, d]] => True
  | _ => False
def Post_wadd : List (List Int) → List (List Int) → Prop
  | [[a, b], [c, d]], [[h, l], [e]] => tellW (w128 a b + w128 c d) h l e
  | _, _ => False
def Pre_wsub : List (List Int) → Prop
  | [[a, b], [c, d]] => True
  | _ => False
def Post_wsub : List (List Int) → List (List Int) → Prop
  | [[a, b], [c, d]], [[h, l], [e]] => tellW (w128 a b - w128 c d) h l e
  | _, _ => False
def Pre_wtms : List (List Int) → Prop
  | [[a, b], [n]] => True
  | _ => False
def Post_wtms : List (List Int) → List (List Int) → Prop
  | [[a, b], [n]], [[h, l], [e]] => tellW (w128 a b * n) h l e
  | _, _ => False
def Pre_wmul : List (List Int) → Prop
  | [[a], [b]] => True
  | _ => False
def Post_wmul : List (List Int) → List (List Int) → Prop
  | [[a], [b]], [[h, l]] => w128 h l = a * b
  | _, _ => False
def Pre_wdivided : List (List Int) → Prop
  | [[a, b, c], [n]] => 0 < n
  | _ => False
def Post_wdivided : List (List Int) → List (List Int) → Prop
  | [[a, b, c], [n]], [[x, y, z], [r]] => (z = 0 ∧ isFloor (w128 b a) n (w128 y x) r)
  | _, _ => False
def Pre_wfloor : List (List Int) → Prop
  | [[a, b], [d]] => True
  | _ => False
def Post_wfloor : List (List Int) → List (List Int) → Prop
  | [[a, b], [d]], [[h, l], [r], [e]] => ((d < 1 → h = 0 ∧ l = 0 ∧ r = 0 ∧ e = 1) ∧ (1 ≤ d → e = 0 ∧ isFloor (w128 a b) d (w128 h l) r))
  | _, _ => False
def Pre_wnear : List (List Int) → Prop
  | [[a, b], [d]] => True
  | _ => False
def Post_wnear : List (List Int) → List (List Int) → Prop
  | [[a, b], [d]], [[h, l], [e]] => ((d < 1 → h = 0 ∧ l = 0 ∧ e = 1) ∧ (1 ≤ d → e = 0 ∧ isNear (w128 a b) d (w128 h l)))
  | _, _ => False
def Pre_wint : List (List Int) → Prop
  | [[a, b]] => True
  | _ => False
def Post_wint : List (List Int) → List (List Int) → Prop
  | [[a, b]], [[n], [t]] => isInt (w128 a b) n t
  | _, _ => False
def Pre_wide1 : List (List Int) → Prop
  | [[x]] => True
  | _ => False
def Post_wide1 : List (List Int) → List (List Int) → Prop
  | [[x]], [[h, l]] => w128 h l = x * x
  | _, _ => False
def Pre_wide2 : List (List Int) → Prop
  | [[ah, al], [bh, bl]] => True
  | _ => False
def Post_wide2 : List (List Int) → List (List Int) → Prop
  | [[ah, al], [bh, bl]], [[t]] => t = b2i (decide (w128 bh bl < w128 ah al))
  | _, _ => False
def Pre_rootwide : List (List Int) → Prop
  | [[h, l], [m], [_, _]] => True
  | _ => False
def Post_rootwide : List (List Int) → List (List Int) → Prop
  | [[h, l], [m], [_, _]], [[x]] => isRoot (w128 h l) x
  | _, _ => False
def Inv_rootwide : List Int → List Int → Prop
  | [h, l, m], [x, i] => rootInv 64 (w128 h l) x i
  | _, _ => False
def Mea_rootwide : List Int → List Int → Nat
  | [h, l, m], [x, i] => (64 - i).toNat
  | _, _ => 0
def Pre_mkwide : List (List Int) → Prop
  | [] => True
  | _ => False
def Post_mkwide : List (List Int) → List (List Int) → Prop
  | [], _ => True
  | _, _ => False
def Pre_rootWide : List (List Int) → Prop
  | [[h, l]] => True
  | _ => False
def Post_rootWide : List (List Int) → List (List Int) → Prop
  | [[h, l]], [[x], [e]] => ((h < 0 → x = 0 ∧ e = 1) ∧ (0 ≤ h → e = 0 ∧ isRoot (w128 h l) x))
  | _, _ => False
def Pre_log : List (List Int) → Prop
  | [[n]] => True
  | _ => False
def Post_log : List (List Int) → List (List Int) → Prop
  | [[n]], [[k]] => ((n = 0 → k = -1) ∧ (0 < n → 0 ≤ k ∧ k ≤ 63 ∧ 2 ^ k.toNat ≤ n ∧ n < 2 * 2 ^ k.toNat))
  | _, _ => False
def Pre_sat : List (List Int) → Prop
  | [[n]] => True
  | _ => False
def Post_sat : List (List Int) → List (List Int) → Prop
  | [[n]], [[v]] => v = clamp32 n
  | _, _ => False
def Pre_pmade : List (List Int) → Prop
  | [] => True
  | _ => False
def Post_pmade : List (List Int) → List (List Int) → Prop
  | [], _ => True
  | _, _ => False
def Pre_ptimes : List (List Int) → Prop
  | [[a], [b]] => a * b < 85070591730234615865843651857942052864
  | _ => False
def Post_ptimes : List (List Int) → List (List Int) → Prop
  | [[a], [b]], [[v]] => v = a * b / 4611686018427387904
  | _, _ => False
def Pre_power : List (List Int) → Prop
  | [[e]] => True
  | _ => False
def Post_power : List (List Int) → List (List Int) → Prop
  | [[e]], [[v]] => v = powF e
  | _, _ => False
def Inv_pw : List Int → List Int → Prop
  | [e], [i, p] => p = qn (i - 1).toNat (e % 4294967296 / 2 ^ (33 - i).toNat)
  | _, _ => False
def Mea_pw : List Int → List Int → Nat
  | [e], [i, p] => (33 - i).toNat
  | _, _ => 0
def Pre_plong : List (List Int) → Prop
  | [[n]] => True
  | _ => False
def Post_plong : List (List Int) → List (List Int) → Prop
  | [[n]], [[v]] => v = longF n
  | _, _ => False
def Inv_lng : List Int → List Int → Prop
  | [y0, o0], [i, y, o] => (y = (ll y0 i.toNat).1 ∧ o = o0 * 2 ^ i.toNat + (ll y0 i.toNat).2)
  | _, _ => False
def Mea_lng : List Int → List Int → Nat
  | [y0, o0], [i, y, o] => (40 - i).toNat
  | _, _ => 0
def Pre_pexpo : List (List Int) → Prop
  | [[a], [n]] => True
  | _ => False
def Post_pexpo : List (List Int) → List (List Int) → Prop
  | [[a], [n]], [[v]] => v = expoF a n
  | _, _ => False
def Pre_pow : List (List Int) → Prop
  | [[a], [n]] => True
  | _ => False
def Post_pow : List (List Int) → List (List Int) → Prop
  | [[a], [n]], [[v], [e]] => powTo a n v e
  | _, _ => False
def E : Ctx where
  pre f a := if Nat.beq f 47 = true then Pre_len64 a else if Nat.beq f 32 = true then Pre_mul64 a else if Nat.beq f 55 = true then Pre_cmpi64 a else if Nat.beq f 56 = true then Pre_cmpu64 a else if Nat.beq f 48 = true then Pre_wcmp a else if Nat.beq f 35 = true then Pre_wof a else if Nat.beq f 59 = true then Pre_lz64 a else if Nat.beq f 52 = true then Pre_div64 a else if Nat.beq f 51 = true then Pre_turned a else if Nat.beq f 40 = true then Pre_part a else if Nat.beq f 42 = true then Pre_whole a else if Nat.beq f 45 = true then Pre_wtimes a else if Nat.beq f 46 = true then Pre_size a else if Nat.beq f 34 = true then Pre_wadd a else if Nat.beq f 43 = true then Pre_wsub a else if Nat.beq f 36 = true then Pre_wtms a else if Nat.beq f 28 = true then Pre_wmul a else if Nat.beq f 41 = true then Pre_wdivided a else if Nat.beq f 33 = true then Pre_wfloor a else if Nat.beq f 27 = true then Pre_wnear a else if Nat.beq f 30 = true then Pre_wint a else if Nat.beq f 57 = true then Pre_wide1 a else if Nat.beq f 58 = true then Pre_wide2 a else if Nat.beq f 49 = true then Pre_rootwide a else if Nat.beq f 50 = true then Pre_mkwide a else if Nat.beq f 39 = true then Pre_rootWide a else if Nat.beq f 37 = true then Pre_log a else if Nat.beq f 19 = true then Pre_sat a else if Nat.beq f 25 = true then Pre_pmade a else if Nat.beq f 26 = true then Pre_ptimes a else if Nat.beq f 22 = true then Pre_power a else if Nat.beq f 29 = true then Pre_plong a else if Nat.beq f 23 = true then Pre_pexpo a else if Nat.beq f 16 = true then Pre_pow a else False
  post f a r := if Nat.beq f 47 = true then Post_len64 a r else if Nat.beq f 32 = true then Post_mul64 a r else if Nat.beq f 55 = true then Post_cmpi64 a r else if Nat.beq f 56 = true then Post_cmpu64 a r else if Nat.beq f 48 = true then Post_wcmp a r else if Nat.beq f 35 = true then Post_wof a r else if Nat.beq f 59 = true then Post_lz64 a r else if Nat.beq f 52 = true then Post_div64 a r else if Nat.beq f 51 = true then Post_turned a r else if Nat.beq f 40 = true then Post_part a r else if Nat.beq f 42 = true then Post_whole a r else if Nat.beq f 45 = true then Post_wtimes a r else if Nat.beq f 46 = true then Post_size a r else if Nat.beq f 34 = true then Post_wadd a r else if Nat.beq f 43 = true then Post_wsub a r else if Nat.beq f 36 = true then Post_wtms a r else if Nat.beq f 28 = true then Post_wmul a r else if Nat.beq f 41 = true then Post_wdivided a r else if Nat.beq f 33 = true then Post_wfloor a r else if Nat.beq f 27 = true then Post_wnear a r else if Nat.beq f 30 = true then Post_wint a r else if Nat.beq f 57 = true then Post_wide1 a r else if Nat.beq f 58 = true then Post_wide2 a r else if Nat.beq f 49 = true then Post_rootwide a r else if Nat.beq f 50 = true then Post_mkwide a r else if Nat.beq f 39 = true then Post_rootWide a r else if Nat.beq f 37 = true then Post_log a r else if Nat.beq f 19 = true then Post_sat a r else if Nat.beq f 25 = true then Post_pmade a r else if Nat.beq f 26 = true then Post_ptimes a r else if Nat.beq f 22 = true then Post_power a r else if Nat.beq f 29 = true then Post_plong a r else if Nat.beq f 23 = true then Post_pexpo a r else if Nat.beq f 16 = true then Post_pow a r else False
  inv l a r := if Nat.beq l 0 = true then Inv_dv1 a r else if Nat.beq l 1 = true then Inv_dv2 a r else if Nat.beq l 2 = true then Inv_rootwide a r else if Nat.beq l 3 = true then Inv_pw a r else if Nat.beq l 4 = true then Inv_lng a r else False
  mea l a r := if Nat.beq l 0 = true then Mea_dv1 a r else if Nat.beq l 1 = true then Mea_dv2 a r else if Nat.beq l 2 = true then Mea_rootwide a r else if Nat.beq l 3 = true then Mea_pw a r else if Nat.beq l 4 = true then Mea_lng a r else 0
def anns0 : List (FuncId × Nat × Ann) := [(52, 17, { l := 0, slots := [(15, u64), (16, u64)], blks := [], fro := [11, 9, 10, 13] }), (52, 24, { l := 1, slots := [(18, u64), (16, u64)], blks := [], fro := [17, 9, 10, 14] }), (49, 2, { l := 2, slots := [(6, u64), (10, ir 0 64)], blks := [], fro := [0, 9] }), (22, 9, { l := 3, slots := [(17, ir 0 33), (5, .int .u64 4611686018427387904 9223372036854775808)], blks := [], fro := [0] }), (29, 5, { l := 4, slots := [(6, ir 0 40), (4, .int .u64 4611686018427387904 9223372036854775807), (5, ir (-17592186044416) 17592186044416)], blks := [], fro := [4, 5] })]
def tab0 : Tab := { cons := [], exts := [(44, true), (53, false)], anns := anns0 }
def ash_len64 : List ShA := [.s u64]
def sh_len64 : ShV := .a (.s (ir 0 64))
def tab1 : Tab := { tab0 with cons := (47, ash_len64, sh_len64) :: tab0.cons }
def ash_mul64 : List ShA := [.s u64, .s u64]
def sh_mul64 : ShV := .tup [.s u64, .s u64]
def tab2 : Tab := { tab1 with cons := (32, ash_mul64, sh_mul64) :: tab1.cons }
def ash_cmpi64 : List ShA := [.s i64, .s i64]
def sh_cmpi64 : ShV := .a (.s (ir (-1) 1))
def tab3 : Tab := { tab2 with cons := (55, ash_cmpi64, sh_cmpi64) :: tab2.cons }
def ash_cmpu64 : List ShA := [.s u64, .s u64]
def sh_cmpu64 : ShV := .a (.s (ir (-1) 1))
def tab4 : Tab := { tab3 with cons := (56, ash_cmpu64, sh_cmpu64) :: tab3.cons }
def ash_wcmp : List ShA := [.agg [i64, u64], .agg [i64, u64]]
def sh_wcmp : ShV := .a (.s (ir (-1) 1))
def tab5 : Tab := { tab4 with cons := (48, ash_wcmp, sh_wcmp) :: tab4.cons }
def ash_wof : List ShA := [.s i64]
def sh_wof : ShV := .a (.agg [i64, u64])
def tab6 : Tab := { tab5 with cons := (35, ash_wof, sh_wof) :: tab5.cons }
def ash_lz64 : List ShA := [.s u64]
def sh_lz64 : ShV := .a (.s (ir 0 64))
def tab7 : Tab := { tab6 with cons := (59, ash_lz64, sh_lz64) :: tab6.cons }
def ash_div64 : List ShA := [.s u64, .s u64, .s u64]
def sh_div64 : ShV := .tup [.s u64, .s u64]
def tab8 : Tab := { tab7 with cons := (52, ash_div64, sh_div64) :: tab7.cons }
def ash_turned : List ShA := [.agg [u64, u64, u64]]
def sh_turned : ShV := .a (.agg [u64, u64, u64])
def tab9 : Tab := { tab8 with cons := (51, ash_turned, sh_turned) :: tab8.cons }
def ash_part : List ShA := [.agg [i64, u64]]
def sh_part : ShV := .a (.agg [.bool, u64, u64, u64])
def tab10 : Tab := { tab9 with cons := (40, ash_part, sh_part) :: tab9.cons }
def ash_whole : List ShA := [.agg [.bool, u64, u64, u64]]
def sh_whole : ShV := .tup [.agg [i64, u64], .s (ir 0 11)]
def tab11 : Tab := { tab10 with cons := (42, ash_whole, sh_whole) :: tab10.cons }
def ash_wtimes : List ShA := [.agg [u64, u64, u64], .s u64]
def sh_wtimes : ShV := .a (.agg [u64, u64, u64])
def tab12 : Tab := { tab11 with cons := (45, ash_wtimes, sh_wtimes) :: tab11.cons }
def ash_size : List ShA := [.s i64]
def sh_size : ShV := .a (.s u64)
def tab13 : Tab := { tab12 with cons := (46, ash_size, sh_size) :: tab12.cons }
def ash_wadd : List ShA := [.agg [i64, u64], .agg [i64, u64]]
def sh_wadd : ShV := .tup [.agg [i64, u64], .s (ir 0 11)]
def tab14 : Tab := { tab13 with cons := (34, ash_wadd, sh_wadd) :: tab13.cons }
def ash_wsub : List ShA := [.agg [i64, u64], .agg [i64, u64]]
def sh_wsub : ShV := .tup [.agg [i64, u64], .s (ir 0 11)]
def tab15 : Tab := { tab14 with cons := (43, ash_wsub, sh_wsub) :: tab14.cons }
def ash_wtms : List ShA := [.agg [i64, u64], .s i64]
def sh_wtms : ShV := .tup [.agg [i64, u64], .s (ir 0 11)]
def tab16 : Tab := { tab15 with cons := (36, ash_wtms, sh_wtms) :: tab15.cons }
def ash_wmul : List ShA := [.s i64, .s i64]
def sh_wmul : ShV := .a (.agg [i64, u64])
def tab17 : Tab := { tab16 with cons := (28, ash_wmul, sh_wmul) :: tab16.cons }
def ash_wdivided : List ShA := [.agg [u64, u64, u64], .s u64]
def sh_wdivided : ShV := .tup [.agg [u64, u64, u64], .s u64]
def tab18 : Tab := { tab17 with cons := (41, ash_wdivided, sh_wdivided) :: tab17.cons }
def ash_wfloor : List ShA := [.agg [i64, u64], .s i64]
def sh_wfloor : ShV := .tup [.agg [i64, u64], .s i64, .s (ir 0 11)]
def tab19 : Tab := { tab18 with cons := (33, ash_wfloor, sh_wfloor) :: tab18.cons }
def ash_wnear : List ShA := [.agg [i64, u64], .s i64]
def sh_wnear : ShV := .tup [.agg [i64, u64], .s (ir 0 11)]
def tab20 : Tab := { tab19 with cons := (27, ash_wnear, sh_wnear) :: tab19.cons }
def ash_wint : List ShA := [.agg [i64, u64]]
def sh_wint : ShV := .tup [.s i64, .s .bool]
def tab21 : Tab := { tab20 with cons := (30, ash_wint, sh_wint) :: tab20.cons }
def ash_wide1 : List ShA := [.s u64]
def sh_wide1 : ShV := .a (.agg [u64, u64])
def tab22 : Tab := { tab21 with cons := (57, ash_wide1, sh_wide1) :: tab21.cons }
def ash_wide2 : List ShA := [.agg [u64, u64], .agg [u64, u64]]
def sh_wide2 : ShV := .a (.s .bool)
def tab23 : Tab := { tab22 with cons := (58, ash_wide2, sh_wide2) :: tab22.cons }
def ash_rootwide : List ShA := [.agg [u64, u64], .s (ir 64 64), .agg [.fn 57, .fn 58]]
def sh_rootwide : ShV := .a (.s u64)
def tab24 : Tab := { tab23 with cons := (49, ash_rootwide, sh_rootwide) :: tab23.cons }
def ash_mkwide : List ShA := []
def sh_mkwide : ShV := .a (.agg [.fn 57, .fn 58])
def tab25 : Tab := { tab24 with cons := (50, ash_mkwide, sh_mkwide) :: tab24.cons }
def ash_rootWide : List ShA := [.agg [i64, u64]]
def sh_rootWide : ShV := .tup [.s u64, .s i64]
def tab26 : Tab := { tab25 with cons := (39, ash_rootWide, sh_rootWide) :: tab25.cons }
def ash_log : List ShA := [.s u64]
def sh_log : ShV := .a (.s i64)
def tab27 : Tab := { tab26 with cons := (37, ash_log, sh_log) :: tab26.cons }
def ash_sat : List ShA := [.s i64]
def sh_sat : ShV := .a (.s i32)
def tab28 : Tab := { tab27 with cons := (19, ash_sat, sh_sat) :: tab27.cons }
def ash_pmade : List ShA := []
def sh_pmade : ShV := .a (.agg tabP)
def tab29 : Tab := { tab28 with cons := (25, ash_pmade, sh_pmade) :: tab28.cons }
def ash_ptimes : List ShA := [.s u64, .s u64]
def sh_ptimes : ShV := .a (.s u64)
def tab30 : Tab := { tab29 with cons := (26, ash_ptimes, sh_ptimes) :: tab29.cons }
def ash_power : List ShA := [.s i64]
def sh_power : ShV := .a (.s (ir 0 2147483648))
def tab31 : Tab := { tab30 with cons := (22, ash_power, sh_power) :: tab30.cons }
def ash_plong : List ShA := [.s sz]
def sh_plong : ShV := .a (.s (ir (-17592186044416) 16492674416640))
def tab32 : Tab := { tab31 with cons := (29, ash_plong, sh_plong) :: tab31.cons }
def ash_pexpo : List ShA := [.s sz, .s i32]
def sh_pexpo : ShV := .a (.s (ir (-1099511627776) 1099511627776))
def tab33 : Tab := { tab32 with cons := (23, ash_pexpo, sh_pexpo) :: tab32.cons }
def ash_pow : List ShA := [.s i32, .s i32]
def sh_pow : ShV := .tup [.s i32, .s (ir 0 15)]
def tab34 : Tab := { tab33 with cons := (16, ash_pow, sh_pow) :: tab33.cons }

end Go.Proofs.YtlclmanhkhfilaaDoor.Sx
