/-
  Contracts of functions, by their words. Printed by a program of our own.
-/
import Derived.Test.YtcjllibeaiofpaaGreatDoorSf
import Derived.KernelRfl
set_option maxRecDepth 1000000
set_option linter.all false
namespace Go.Proofs.YtcjllibeaiofpaaGreatDoor.Sx
open Go Go.RowKit
def u64 : Sh := .int .u64 0 18446744073709551615
def u32 : Sh := .int .u32 0 4294967295
def u8 : Sh := .int .u8 0 255
def i64 : Sh := .int .i64 (-9223372036854775808) 9223372036854775807
def i32 : Sh := .int .i32 (-2147483648) 2147483647
def ir (lo hi : Int) : Sh := .int .i64 lo hi
def len8tab : List Int := (List.range 256).map fun i => if i = 0 then 0 else (Nat.log2 i : Int) + 1
def vd : List Int -> Int
 | [] => 0
 | d :: r => d + 65536 * vd r
def sv : List Int -> Int
 | m :: ds => if m = 1 then - vd ds else vd ds
 | [] => 0
def top12 : Int := 6277101735386680763835789423207666416102355444464034512896
def top8 : Int := 340282366920938463463374607431768211456
def w128 (h l : Int) : Int := h * 18446744073709551616 + l
def half128 : Int := 170141183460469231731687303715884105728
def inW (v : Int) : Prop := -half128 <= v /\ v < half128
def tellW (v h l e : Int) : Prop := (inW v -> e = 0 /\ w128 h l = v) /\ (¬ inW v -> e = 11 /\ h = 0 /\ l = 0)
def wv (a b c : Int) : Int := a + b * 18446744073709551616 + c * 340282366920938463463374607431768211456
def isNear (a d q : Int) : Prop := 2 * d * q <= 2 * a + d /\ 2 * a + d < 2 * d * (q + 1)
def dvInv (u m n v q s : Int) : Prop := q * m + s = u /\ s < 4294967296 /\ u * 4294967296 + v < (q + 1) * (m * 4294967296 + n)
def isFloor (a d q r : Int) : Prop := a = q * d + r /\ 0 <= r /\ r < d
def isI64 (v : Int) : Prop := -9223372036854775808 <= v /\ v <= 9223372036854775807
def isInt (v n t : Int) : Prop := (isI64 v -> t = 1 /\ n = v) /\ (¬ isI64 v -> t = 0 /\ n = 0)
def rootInv (most : Nat) (n x i : Int) : Prop := i <= most /\ (∃ c : Int, x = c * 2 ^ (most - i.toNat)) /\ x + 2 ^ (most - i.toNat) <= 2 ^ most /\ x * x <= n /\ n < (x + 2 ^ (most - i.toNat)) * (x + 2 ^ (most - i.toNat))
def isRoot (n x : Int) : Prop := x * x <= n /\ n < (x + 1) * (x + 1)
def tX : List Int := [0, 3260954456333195553, 4260642322793532497, 4523073764714963029, 4589479489746651963, 4606131040650197959, 4610297064819661174, 4611338766951757486, 4611599204741358746, 4611664314954810277, 4611680592556051597, 4611684661959354333, 4611685679310367042, 4611685933648131909, 4611685997232573856, 4611686013128684388, 4611686017102712024, 4611686018096218933, 4611686018344595661, 4611686018406689843, 4611686018422213388, 4611686018426094274, 4611686018427064496, 4611686018427307051, 4611686018427367690, 4611686018427382850, 4611686018427386640, 4611686018427387587, 4611686018427387824, 4611686018427387883, 4611686018427387898, 4611686018427387902, 4611686018427387903, 4611686018427387903, 4611686018427387903, 4611686018427387903, 4611686018427387903, 4611686018427387903, 4611686018427387903, 4611686018427387903, 4611686018427387903]
def tY : List Int := [4611686018427387904, 3260954456333195553, 1764815834521887441, 899695310372275546, 452024275624069879, 226284707652502140, 113176440454146015, 56592481536850978, 28296773447188931, 14148453308909939, 7074234977634092, 3537118529214895, 1768559394657193, 884279713584815, 442139858824434, 221069929666220, 110534964864860, 55267482436398, 27633741218695, 13816870609409, 6908435304712, 3454217652356, 1727108826178, 863554413089, 431777206544, 215888603272, 107944301636, 53972150818, 26986075409, 13493037704, 6746518852, 3373259426, 1686629713, 843314856, 421657428, 210828714, 105414357, 52707178, 26353589, 13176794, 6588397]
def cx (i : Nat) : Int := tX.getD i 0
def sx (i : Nat) : Int := tY.getD i 0
def onX (x y c s : Int) : Int := (x * c + -y * s) / 4611686018427387904
def onY (x y c s : Int) : Int := (y * c + x * s) / 4611686018427387904
def pn : Nat -> Int -> Int × Int
 | 0, _ => (4611686018427387904, 0)
 | n + 1, k => if k % 2 = 1 then (onX (pn n (k / 2)).1 (pn n (k / 2)).2 (cx (n + 1)) (sx (n + 1)), onY (pn n (k / 2)).1 (pn n (k / 2)).2 (cx (n + 1)) (sx (n + 1))) else pn n (k / 2)
def qt (q : Int) (p : Int × Int) : Int × Int :=
 if q % 4 = 0 then p else if q % 4 = 1 then (-p.2, p.1) else if q % 4 = 2 then (-p.1, -p.2) else (p.2, -p.1)
def nb (x y e : Int) : Prop := 0 <= e /\ x * x + y * y <= e * e
def jOf (a : Int) : Int := a * 1099511627776 / 5898240
def nearS (n : Int) : Int := (n / 35184372088832 + 1) / 2
def dirF (a : Int) : Int × Int := qt (jOf a / 1099511627776) (nearS (pn 40 (jOf a % 1099511627776)).1, nearS (pn 40 (jOf a % 1099511627776)).2)
def cosF (a : Int) : Int := (dirF a).1
def sinF (a : Int) : Int := (dirF a).2
def bkX (x y c s : Int) : Int := (x * c + y * s) / 4611686018427387904
def bkY (x y c s : Int) : Int := (y * c + -x * s) / 4611686018427387904
def bk (x y : Int) : Nat -> Int × Int × Int
 | 0 => (x, y, 0)
 | n + 1 =>
  if 0 <= bkY (bk x y n).1 (bk x y n).2.1 (cx (n + 1)) (sx (n + 1)) then
   (bkX (bk x y n).1 (bk x y n).2.1 (cx (n + 1)) (sx (n + 1)), bkY (bk x y n).1 (bk x y n).2.1 (cx (n + 1)) (sx (n + 1)), 2 * (bk x y n).2.2 + 1)
  else ((bk x y n).1, (bk x y n).2.1, 2 * (bk x y n).2.2)
def fQ (y x : Int) : Int := if 0 < x /\ 0 <= y then 0 else if 0 < y then 1 else if x < 0 then 2 else 3
def fX (y x : Int) : Int := if 0 < x /\ 0 <= y then x else if 0 < y then y else if x < 0 then -x else -y
def fY (y x : Int) : Int := if 0 < x /\ 0 <= y then y else if 0 < y then -x else if x < 0 then -y else x
def upN (m : Int) : Nat := 60 - Nat.log2 m.toNat
def fO (y x : Int) : Int := (bk (fX y x * 2 ^ upN (max (fX y x) (fY y x))) (fY y x * 2 ^ upN (max (fX y x) (fY y x))) 40).2.2
def roundO (O : Int) : Int := (2 * (O * 5898240) + 1099511627776) / 2199023255552
def atF (y x : Int) : Int := roundO (fQ y x * 1099511627776 + fO y x) % 23592960
def tabS : List Sh := [ir 0 0, ir 4611686018427387904 4611686018427387904, ir 3260954456333195553 3260954456333195553, ir 3260954456333195553 3260954456333195553, ir 4260642322793532497 4260642322793532497, ir 1764815834521887441 1764815834521887441, ir 4523073764714963029 4523073764714963029, ir 899695310372275546 899695310372275546, ir 4589479489746651963 4589479489746651963, ir 452024275624069879 452024275624069879, ir 4606131040650197959 4606131040650197959, ir 226284707652502140 226284707652502140, ir 4610297064819661174 4610297064819661174, ir 113176440454146015 113176440454146015, ir 4611338766951757486 4611338766951757486, ir 56592481536850978 56592481536850978, ir 4611599204741358746 4611599204741358746, ir 28296773447188931 28296773447188931, ir 4611664314954810277 4611664314954810277, ir 14148453308909939 14148453308909939, ir 4611680592556051597 4611680592556051597, ir 7074234977634092 7074234977634092, ir 4611684661959354333 4611684661959354333, ir 3537118529214895 3537118529214895, ir 4611685679310367042 4611685679310367042, ir 1768559394657193 1768559394657193, ir 4611685933648131909 4611685933648131909, ir 884279713584815 884279713584815, ir 4611685997232573856 4611685997232573856, ir 442139858824434 442139858824434, ir 4611686013128684388 4611686013128684388, ir 221069929666220 221069929666220, ir 4611686017102712024 4611686017102712024, ir 110534964864860 110534964864860, ir 4611686018096218933 4611686018096218933, ir 55267482436398 55267482436398, ir 4611686018344595661 4611686018344595661, ir 27633741218695 27633741218695, ir 4611686018406689843 4611686018406689843, ir 13816870609409 13816870609409, ir 4611686018422213388 4611686018422213388, ir 6908435304712 6908435304712, ir 4611686018426094274 4611686018426094274, ir 3454217652356 3454217652356, ir 4611686018427064496 4611686018427064496, ir 1727108826178 1727108826178, ir 4611686018427307051 4611686018427307051, ir 863554413089 863554413089, ir 4611686018427367690 4611686018427367690, ir 431777206544 431777206544, ir 4611686018427382850 4611686018427382850, ir 215888603272 215888603272, ir 4611686018427386640 4611686018427386640, ir 107944301636 107944301636, ir 4611686018427387587 4611686018427387587, ir 53972150818 53972150818, ir 4611686018427387824 4611686018427387824, ir 26986075409 26986075409, ir 4611686018427387883 4611686018427387883, ir 13493037704 13493037704, ir 4611686018427387898 4611686018427387898, ir 6746518852 6746518852, ir 4611686018427387902 4611686018427387902, ir 3373259426 3373259426, ir 4611686018427387903 4611686018427387903, ir 1686629713 1686629713, ir 4611686018427387903 4611686018427387903, ir 843314856 843314856, ir 4611686018427387903 4611686018427387903, ir 421657428 421657428, ir 4611686018427387903 4611686018427387903, ir 210828714 210828714, ir 4611686018427387903 4611686018427387903, ir 105414357 105414357, ir 4611686018427387903 4611686018427387903, ir 52707178 52707178, ir 4611686018427387903 4611686018427387903, ir 26353589 26353589, ir 4611686018427387903 4611686018427387903, ir 13176794 13176794, ir 4611686018427387903 4611686018427387903, ir 6588397 6588397]
def s32 (lo hi : Int) : Sh := .int .i32 lo hi
def tT : List Int := [9223372036854775808, 6521908912666391106, 5484249825272419511, 5029079263719320435, 4815862801830788490, 4712668792719003883, 4661903986662671289, 4636727017470743989, 4624189567668517719, 4617933561212708775, 4614808732577250067, 4613247111281068007, 4612466498810092973, 4612076242109103706, 4611881126141011235, 4611783571252412753, 4611734794581956352, 4611710406440186475, 4611698212417665818, 4611692115418496523, 4611689066921934629, 4611687542674409370, 4611686780550835663, 4611686399489096040, 4611686208958238036, 4611686113692811986, 4611686066060099699, 4611686042243743740, 4611686030335565806, 4611686024381476851, 4611686021404432376, 4611686019915910139, 4611686019171649021]
def tP : List Int := [0, 6521908912666391106, 5484249825272419511, 5029079263719320435, 4815862801830788490, 4712668792719003883, 4661903986662671289, 4636727017470743989, 4624189567668517719, 4617933561212708775, 4614808732577250067, 4613247111281068007, 4612466498810092973, 4612076242109103706, 4611881126141011235, 4611783571252412753, 4611734794581956352, 4611710406440186475, 4611698212417665818, 4611692115418496523, 4611689066921934629, 4611687542674409370, 4611686780550835663, 4611686399489096040, 4611686208958238036, 4611686113692811986, 4611686066060099699, 4611686042243743740, 4611686030335565806, 4611686024381476851, 4611686021404432376, 4611686019915910139, 4611686019171649021]
def tt (i : Nat) : Int := tT.getD i 0
def qn : Nat -> Int -> Int
 | 0, _ => 4611686018427387904
 | n + 1, k => if k % 2 = 1 then qn n (k / 2) * tt (n + 1) / 4611686018427387904 else qn n (k / 2)
def powF (e : Int) : Int :=
 if 15 <= e / 4294967296 then 2147483648 else if e / 4294967296 < -17 then 0 else min ((qn 32 (e % 4294967296) / 2 ^ (45 - e / 4294967296).toNat + 1) / 2) 2147483648
def ll (y0 : Int) : Nat -> Int × Int
 | 0 => (y0, 0)
 | n + 1 =>
  if 9223372036854775808 <= (ll y0 n).1 * (ll y0 n).1 / 4611686018427387904 then ((ll y0 n).1 * (ll y0 n).1 / 4611686018427387904 / 2, 2 * (ll y0 n).2 + 1)
  else ((ll y0 n).1 * (ll y0 n).1 / 4611686018427387904, 2 * (ll y0 n).2)
def y0F (x : Int) : Int := x * 2 ^ (62 - Nat.log2 x.toNat)
def longF (x : Int) : Int := ((Nat.log2 x.toNat : Int) - 16) * 1099511627776 + (ll (y0F x) 40).2
def near24 (n : Int) : Int := (n / 8388608 + 1) / 2
def roundE (a n : Int) : Int := (2 * (longF a * n) + 16777216) / 33554432
def expoF (a n : Int) : Int := max (-1099511627776) (min 1099511627776 (roundE a n))
def tabP : List Sh := [.int .u64 0 0, .int .u64 6521908912666391106 6521908912666391106, .int .u64 5484249825272419511 5484249825272419511, .int .u64 5029079263719320435 5029079263719320435, .int .u64 4815862801830788490 4815862801830788490, .int .u64 4712668792719003883 4712668792719003883, .int .u64 4661903986662671289 4661903986662671289, .int .u64 4636727017470743989 4636727017470743989, .int .u64 4624189567668517719 4624189567668517719, .int .u64 4617933561212708775 4617933561212708775, .int .u64 4614808732577250067 4614808732577250067, .int .u64 4613247111281068007 4613247111281068007, .int .u64 4612466498810092973 4612466498810092973, .int .u64 4612076242109103706 4612076242109103706, .int .u64 4611881126141011235 4611881126141011235, .int .u64 4611783571252412753 4611783571252412753, .int .u64 4611734794581956352 4611734794581956352, .int .u64 4611710406440186475 4611710406440186475, .int .u64 4611698212417665818 4611698212417665818, .int .u64 4611692115418496523 4611692115418496523, .int .u64 4611689066921934629 4611689066921934629, .int .u64 4611687542674409370 4611687542674409370, .int .u64 4611686780550835663 4611686780550835663, .int .u64 4611686399489096040 4611686399489096040, .int .u64 4611686208958238036 4611686208958238036, .int .u64 4611686113692811986 4611686113692811986, .int .u64 4611686066060099699 4611686066060099699, .int .u64 4611686042243743740 4611686042243743740, .int .u64 4611686030335565806 4611686030335565806, .int .u64 4611686024381476851 4611686024381476851, .int .u64 4611686021404432376 4611686021404432376, .int .u64 4611686019915910139 4611686019915910139, .int .u64 4611686019171649021 4611686019171649021]
def sz : Sh := .int .u64 1 2147483648
def powA (a n : Int) : Int := if a < 0 /\ (n.tdiv 65536).tmod 2 ≠ 0 then -powF (expoF (max a (-a)) n) else powF (expoF (max a (-a)) n)
def clamp32 (x : Int) : Int := max (-2147483648) (min 2147483647 x)
def powTo (a n v e : Int) : Prop := (n = 0 -> v = 65536 /\ e = 0) /\ (n ≠ 0 -> a = 0 -> n < 0 -> v = 0 /\ e = 12) /\ (n ≠ 0 -> a = 0 -> 0 < n -> v = 0 /\ e = 0) /\ (n ≠ 0 -> a < 0 -> n % 65536 ≠ 0 -> v = 0 /\ e = 1) /\ (n ≠ 0 -> a ≠ 0 -> ¬ (a < 0 /\ n % 65536 ≠ 0) -> e = 0 /\ v = clamp32 (powA a n))
def Pre_len64 : List (List Int) -> Prop
 | [[n]] => True
 | _ => False
def Post_len64 : List (List Int) -> List (List Int) -> Prop
 | [[n]], [[k]] => (0 <= k /\ n < 2 ^ k.toNat /\ (0 < n -> 2 ^ k.toNat <= 2 * n) /\ (n = 0 -> k = 0))
 | _, _ => False
def Pre_mul64 : List (List Int) -> Prop
 | [[a], [b]] => True
 | _ => False
def Post_mul64 : List (List Int) -> List (List Int) -> Prop
 | [[a], [b]], [[h], [l]] => h * 18446744073709551616 + l = a * b
 | _, _ => False
def Pre_cmpi64 : List (List Int) -> Prop
 | [[a], [b]] => True
 | _ => False
def Post_cmpi64 : List (List Int) -> List (List Int) -> Prop
 | [[a], [b]], [[c]] => ((a < b -> c = -1) /\ (a = b -> c = 0) /\ (b < a -> c = 1))
 | _, _ => False
def Pre_cmpu64 : List (List Int) -> Prop
 | [[a], [b]] => True
 | _ => False
def Post_cmpu64 : List (List Int) -> List (List Int) -> Prop
 | [[a], [b]], [[c]] => ((a < b -> c = -1) /\ (a = b -> c = 0) /\ (b < a -> c = 1))
 | _, _ => False
def Pre_wcmp : List (List Int) -> Prop
 | [[ah, al], [bh, bl]] => True
 | _ => False
def Post_wcmp : List (List Int) -> List (List Int) -> Prop
 | [[ah, al], [bh, bl]], [[c]] => ((w128 ah al < w128 bh bl -> c = -1) /\ (w128 ah al = w128 bh bl -> c = 0) /\ (w128 bh bl < w128 ah al -> c = 1))
 | _, _ => False
def Pre_wof : List (List Int) -> Prop
 | [[n]] => True
 | _ => False
def Post_wof : List (List Int) -> List (List Int) -> Prop
 | [[n]], [[h, l]] => w128 h l = n
 | _, _ => False
def Pre_lz64 : List (List Int) -> Prop
 | [[n]] => True
 | _ => False
def Post_lz64 : List (List Int) -> List (List Int) -> Prop
 | [[n]], [[k]] => (0 <= k /\ n < 2 ^ (64 - k).toNat /\ (0 < n -> 2 ^ (64 - k).toNat <= 2 * n) /\ (n = 0 -> k = 64))
 | _, _ => False
def Pre_div64 : List (List Int) -> Prop
 | [[h], [l], [y]] => h < y
 | _ => False
def Post_div64 : List (List Int) -> List (List Int) -> Prop
 | [[h], [l], [y]], [[q], [r]] => isFloor (w128 h l) y q r
 | _, _ => False
def Inv_dv1 : List Int -> List Int -> Prop
 | [u, m, n, v], [q, s] => dvInv u m n v q s
 | _, _ => False
def Mea_dv1 : List Int -> List Int -> Nat
 | [u, m, n, v], [q, s] => q.toNat
 | _, _ => 0
def Inv_dv2 : List Int -> List Int -> Prop
 | [u, m, n, v], [q, s] => dvInv u m n v q s
 | _, _ => False
def Mea_dv2 : List Int -> List Int -> Nat
 | [u, m, n, v], [q, s] => q.toNat
 | _, _ => 0
def Pre_turned : List (List Int) -> Prop
 | [[a, b, c]] => True
 | _ => False
def Post_turned : List (List Int) -> List (List Int) -> Prop
 | [[a, b, c]], [[x, y, z]] => (z = 0 /\ w128 y x = (top8 - w128 b a) % top8)
 | _, _ => False
def Pre_part : List (List Int) -> Prop
 | [[h, l]] => True
 | _ => False
def Post_part : List (List Int) -> List (List Int) -> Prop
 | [[h, l]], [[t, x, y, z]] => (z = 0 /\ (h < 0 -> t = 1 /\ w128 y x = - w128 h l) /\ (0 <= h -> t = 0 /\ w128 y x = w128 h l))
 | _, _ => False
def Pre_whole : List (List Int) -> Prop
 | [[t, x, y, z]] => True
 | _ => False
def Post_whole : List (List Int) -> List (List Int) -> Prop
 | [[t, x, y, z]], [[h, l], [e]] => tellW (if t = 1 then - wv x y z else wv x y z) h l e
 | _, _ => False
def Pre_wtimes : List (List Int) -> Prop
 | [[a, b, c], [n]] => True
 | _ => False
def Post_wtimes : List (List Int) -> List (List Int) -> Prop
 | [[a, b, c], [n]], [[x, y, z]] => wv x y z = (wv a b c * n) % top12
 | _, _ => False
def Pre_size : List (List Int) -> Prop
 | [[n]] => True
 | _ => False
def Post_size : List (List Int) -> List (List Int) -> Prop
 | [[n]], [[m]] => ((n < 0 -> m = -n) /\ (0 <= n -> m = n))
 | _, _ => False
def Pre_wadd : List (List Int) -> Prop
 | [[a, b], [c, d]] => True
 | _ => False
def Post_wadd : List (List Int) -> List (List Int) -> Prop
 | [[a, b], [c, d]], [[h, l], [e]] => tellW (w128 a b + w128 c d) h l e
 | _, _ => False
def Pre_wsub : List (List Int) -> Prop
 | [[a, b], [c, d]] => True
 | _ => False
def Post_wsub : List (List Int) -> List (List Int) -> Prop
 | [[a, b], [c, d]], [[h, l], [e]] => tellW (w128 a b - w128 c d) h l e
 | _, _ => False
def Pre_wtms : List (List Int) -> Prop
 | [[a, b], [n]] => True
 | _ => False
def Post_wtms : List (List Int) -> List (List Int) -> Prop
 | [[a, b], [n]], [[h, l], [e]] => tellW (w128 a b * n) h l e
 | _, _ => False
def Pre_wmul : List (List Int) -> Prop
 | [[a], [b]] => True
 | _ => False
def Post_wmul : List (List Int) -> List (List Int) -> Prop
 | [[a], [b]], [[h, l]] => w128 h l = a * b
 | _, _ => False
def Pre_wdivided : List (List Int) -> Prop
 | [[a, b, c], [n]] => 0 < n
 | _ => False
def Post_wdivided : List (List Int) -> List (List Int) -> Prop
 | [[a, b, c], [n]], [[x, y, z], [r]] => (z = 0 /\ isFloor (w128 b a) n (w128 y x) r)
 | _, _ => False
def Pre_wfloor : List (List Int) -> Prop
 | [[a, b], [d]] => True
 | _ => False
def Post_wfloor : List (List Int) -> List (List Int) -> Prop
 | [[a, b], [d]], [[h, l], [r], [e]] => ((d < 1 -> h = 0 /\ l = 0 /\ r = 0 /\ e = 1) /\ (1 <= d -> e = 0 /\ isFloor (w128 a b) d (w128 h l) r))
 | _, _ => False
def Pre_wnear : List (List Int) -> Prop
 | [[a, b], [d]] => True
 | _ => False
def Post_wnear : List (List Int) -> List (List Int) -> Prop
 | [[a, b], [d]], [[h, l], [e]] => ((d < 1 -> h = 0 /\ l = 0 /\ e = 1) /\ (1 <= d -> e = 0 /\ isNear (w128 a b) d (w128 h l)))
 | _, _ => False
def Pre_wint : List (List Int) -> Prop
 | [[a, b]] => True
 | _ => False
def Post_wint : List (List Int) -> List (List Int) -> Prop
 | [[a, b]], [[n], [t]] => isInt (w128 a b) n t
 | _, _ => False
def Pre_narrow1 : List (List Int) -> Prop
 | [[x]] => x < 4294967296
 | _ => False
def Post_narrow1 : List (List Int) -> List (List Int) -> Prop
 | [[x]], [[y]] => y = x * x
 | _, _ => False
def Pre_narrow2 : List (List Int) -> Prop
 | [[a], [b]] => True
 | _ => False
def Post_narrow2 : List (List Int) -> List (List Int) -> Prop
 | [[a], [b]], [[t]] => t = b2i (decide (b < a))
 | _, _ => False
def Pre_wide1 : List (List Int) -> Prop
 | [[x]] => True
 | _ => False
def Post_wide1 : List (List Int) -> List (List Int) -> Prop
 | [[x]], [[h, l]] => w128 h l = x * x
 | _, _ => False
def Pre_wide2 : List (List Int) -> Prop
 | [[ah, al], [bh, bl]] => True
 | _ => False
def Post_wide2 : List (List Int) -> List (List Int) -> Prop
 | [[ah, al], [bh, bl]], [[t]] => t = b2i (decide (w128 bh bl < w128 ah al))
 | _, _ => False
def Pre_rootnarrow : List (List Int) -> Prop
 | [[n], [m], [_, _]] => True
 | _ => False
def Post_rootnarrow : List (List Int) -> List (List Int) -> Prop
 | [[n], [m], [_, _]], [[x]] => isRoot n x
 | _, _ => False
def Inv_rootnarrow : List Int -> List Int -> Prop
 | [n, m], [x, i] => rootInv 32 n x i
 | _, _ => False
def Mea_rootnarrow : List Int -> List Int -> Nat
 | [n, m], [x, i] => (32 - i).toNat
 | _, _ => 0
def Pre_rootwide : List (List Int) -> Prop
 | [[h, l], [m], [_, _]] => True
 | _ => False
def Post_rootwide : List (List Int) -> List (List Int) -> Prop
 | [[h, l], [m], [_, _]], [[x]] => isRoot (w128 h l) x
 | _, _ => False
def Inv_rootwide : List Int -> List Int -> Prop
 | [h, l, m], [x, i] => rootInv 64 (w128 h l) x i
 | _, _ => False
def Mea_rootwide : List Int -> List Int -> Nat
 | [h, l, m], [x, i] => (64 - i).toNat
 | _, _ => 0
def Pre_mknarrow : List (List Int) -> Prop
 | [] => True
 | _ => False
def Post_mknarrow : List (List Int) -> List (List Int) -> Prop
 | [], _ => True
 | _, _ => False
def Pre_mkwide : List (List Int) -> Prop
 | [] => True
 | _ => False
def Post_mkwide : List (List Int) -> List (List Int) -> Prop
 | [], _ => True
 | _, _ => False
def Pre_root : List (List Int) -> Prop
 | [[n]] => True
 | _ => False
def Post_root : List (List Int) -> List (List Int) -> Prop
 | [[n]], [[x]] => isRoot n x
 | _, _ => False
def Pre_rootWide : List (List Int) -> Prop
 | [[h, l]] => True
 | _ => False
def Post_rootWide : List (List Int) -> List (List Int) -> Prop
 | [[h, l]], [[x], [e]] => ((h < 0 -> x = 0 /\ e = 1) /\ (0 <= h -> e = 0 /\ isRoot (w128 h l) x))
 | _, _ => False
def Pre_sqrt : List (List Int) -> Prop
 | [[x]] => True
 | _ => False
def Post_sqrt : List (List Int) -> List (List Int) -> Prop
 | [[x]], [[y], [e]] => ((x < 0 -> y = 0 /\ e = 1) /\ (0 <= x -> e = 0 /\ isRoot (x * 65536) y))
 | _, _ => False
def Pre_log : List (List Int) -> Prop
 | [[n]] => True
 | _ => False
def Post_log : List (List Int) -> List (List Int) -> Prop
 | [[n]], [[k]] => ((n = 0 -> k = -1) /\ (0 < n -> 0 <= k /\ k <= 63 /\ 2 ^ k.toNat <= n /\ n < 2 * 2 ^ k.toNat))
 | _, _ => False
def Pre_made : List (List Int) -> Prop
 | [] => True
 | _ => False
def Post_made : List (List Int) -> List (List Int) -> Prop
 | [], _ => True
 | _, _ => False
def Pre_crossed : List (List Int) -> Prop
 | [[a], [b], [c], [d]] => (isI64 ((a * b + c * d) / 4611686018427387904) /\ -half128 <= a * b + c * d /\ a * b + c * d < half128)
 | _ => False
def Post_crossed : List (List Int) -> List (List Int) -> Prop
 | [[a], [b], [c], [d]], [[v]] => v = (a * b + c * d) / 4611686018427387904
 | _, _ => False
def Pre_pon : List (List Int) -> Prop
 | [[x, y], [c, s]] => (nb x y 4611686018427387984 /\ nb c s 4611686018427387904)
 | _ => False
def Post_pon : List (List Int) -> List (List Int) -> Prop
 | [[x, y], [c, s]], [[p, q]] => (p = onX x y c s /\ q = onY x y c s)
 | _, _ => False
def Pre_pback : List (List Int) -> Prop
 | [[x, y], [c, s]] => (nb x y 4611686018427387984 /\ nb c s 4611686018427387904)
 | _ => False
def Post_pback : List (List Int) -> List (List Int) -> Prop
 | [[x, y], [c, s]], [[p, q]] => (p = bkX x y c s /\ q = bkY x y c s)
 | _, _ => False
def Pre_quarters : List (List Int) -> Prop
 | [[a]] => True
 | _ => False
def Post_quarters : List (List Int) -> List (List Int) -> Prop
 | [[a]], [[q], [l]] => (q = a / 5898240 % 4 /\ l = a % 5898240 * 1099511627776 / 5898240)
 | _, _ => False
def Pre_anear : List (List Int) -> Prop
 | [[n]] => True
 | _ => False
def Post_anear : List (List Int) -> List (List Int) -> Prop
 | [[n]], [[v]] => v = nearS n
 | _, _ => False
def Pre_direction : List (List Int) -> Prop
 | [[a]] => True
 | _ => False
def Post_direction : List (List Int) -> List (List Int) -> Prop
 | [[a]], [[c], [s]] => (c = cosF a /\ s = sinF a)
 | _, _ => False
def Inv_dir : List Int -> List Int -> Prop
 | [l], [i, x, y] => (x = (pn (i - 1).toNat (l / 2 ^ (41 - i).toNat)).1 /\ y = (pn (i - 1).toNat (l / 2 ^ (41 - i).toNat)).2)
 | _, _ => False
def Mea_dir : List Int -> List Int -> Nat
 | [l], [i, x, y] => (41 - i).toNat
 | _, _ => 0
def Pre_asin : List (List Int) -> Prop
 | [[a]] => True
 | _ => False
def Post_asin : List (List Int) -> List (List Int) -> Prop
 | [[a]], [[v]] => v = sinF a
 | _, _ => False
def Pre_acos : List (List Int) -> Prop
 | [[a]] => True
 | _ => False
def Post_acos : List (List Int) -> List (List Int) -> Prop
 | [[a]], [[v]] => v = cosF a
 | _, _ => False
def Pre_afirst : List (List Int) -> Prop
 | [[x], [y]] => (¬ (x = 0 /\ y = 0) /\ -2147483648 <= x /\ x <= 2147483648 /\ -2147483648 <= y /\ y <= 2147483648)
 | _ => False
def Post_afirst : List (List Int) -> List (List Int) -> Prop
 | [[x], [y]], [[q], [a, b]] => (q = fQ y x /\ a = fX y x /\ b = fY y x)
 | _, _ => False
def Pre_atan : List (List Int) -> Prop
 | [[y], [x]] => True
 | _ => False
def Post_atan : List (List Int) -> List (List Int) -> Prop
 | [[y], [x]], [[v], [e]] => ((x = 0 /\ y = 0 -> v = 0 /\ e = 12) /\ (¬ (x = 0 /\ y = 0) -> e = 0 /\ v = atF y x))
 | _, _ => False
def Inv_atn : List Int -> List Int -> Prop
 | [q, a, b], [i, o, x, y] => (o = q * 2 ^ (i - 1).toNat + (bk a b (i - 1).toNat).2.2 /\ x = (bk a b (i - 1).toNat).1 /\ y = (bk a b (i - 1).toNat).2.1)
 | _, _ => False
def Mea_atn : List Int -> List Int -> Nat
 | [q, a, b], [i, o, x, y] => (41 - i).toNat
 | _, _ => 0
def Pre_sat : List (List Int) -> Prop
 | [[n]] => True
 | _ => False
def Post_sat : List (List Int) -> List (List Int) -> Prop
 | [[n]], [[v]] => v = clamp32 n
 | _, _ => False
def Pre_held : List (List Int) -> Prop
 | [[h, l, d]] => 1 <= d
 | _ => False
def Post_held : List (List Int) -> List (List Int) -> Prop
 | [[h, l, d]], [[v]] => (∃ x, isNear (w128 h l) d x /\ v = clamp32 x)
 | _, _ => False
def Pre_fmul : List (List Int) -> Prop
 | [[a], [b]] => True
 | _ => False
def Post_fmul : List (List Int) -> List (List Int) -> Prop
 | [[a], [b]], [[v]] => (∃ x, isNear (a * b) 65536 x /\ v = clamp32 x)
 | _, _ => False
def Pre_fby : List (List Int) -> Prop
 | [[n], [d]] => True
 | _ => False
def Post_fby : List (List Int) -> List (List Int) -> Prop
 | [[n], [d]], [[h, l, q], [e]] => ((d = 0 -> e = 12 /\ h = 0 /\ l = 0 /\ q = 0) /\ (0 < d -> e = 0 /\ w128 h l = n * 65536 /\ q = d) /\ (d < 0 -> e = 0 /\ w128 h l = n * -65536 /\ q = -d))
 | _, _ => False
def Pre_fratio : List (List Int) -> Prop
 | [[n], [d]] => True
 | _ => False
def Post_fratio : List (List Int) -> List (List Int) -> Prop
 | [[n], [d]], [[v], [e]] => ((d = 0 -> v = 0 /\ e = 12) /\ (0 < d -> e = 0 /\ ∃ x, isNear (n * 65536) d x /\ v = clamp32 x) /\ (d < 0 -> e = 0 /\ ∃ x, isNear (n * -65536) (-d) x /\ v = clamp32 x))
 | _, _ => False
def Pre_pmade : List (List Int) -> Prop
 | [] => True
 | _ => False
def Post_pmade : List (List Int) -> List (List Int) -> Prop
 | [], _ => True
 | _, _ => False
def Pre_ptimes : List (List Int) -> Prop
 | [[a], [b]] => a * b < 85070591730234615865843651857942052864
 | _ => False
def Post_ptimes : List (List Int) -> List (List Int) -> Prop
 | [[a], [b]], [[v]] => v = a * b / 4611686018427387904
 | _, _ => False
def Pre_power : List (List Int) -> Prop
 | [[e]] => True
 | _ => False
def Post_power : List (List Int) -> List (List Int) -> Prop
 | [[e]], [[v]] => v = powF e
 | _, _ => False
def Inv_pw : List Int -> List Int -> Prop
 | [e], [i, p] => p = qn (i - 1).toNat (e % 4294967296 / 2 ^ (33 - i).toNat)
 | _, _ => False
def Mea_pw : List Int -> List Int -> Nat
 | [e], [i, p] => (33 - i).toNat
 | _, _ => 0
def Pre_plong : List (List Int) -> Prop
 | [[n]] => True
 | _ => False
def Post_plong : List (List Int) -> List (List Int) -> Prop
 | [[n]], [[v]] => v = longF n
 | _, _ => False
def Inv_lng : List Int -> List Int -> Prop
 | [y0, o0], [i, y, o] => (y = (ll y0 i.toNat).1 /\ o = o0 * 2 ^ i.toNat + (ll y0 i.toNat).2)
 | _, _ => False
def Mea_lng : List Int -> List Int -> Nat
 | [y0, o0], [i, y, o] => (40 - i).toNat
 | _, _ => 0
def Pre_pnear : List (List Int) -> Prop
 | [[n], [_]] => True
 | _ => False
def Post_pnear : List (List Int) -> List (List Int) -> Prop
 | [[n], [_]], [[v]] => v = near24 n
 | _, _ => False
def Pre_pexpo : List (List Int) -> Prop
 | [[a], [n]] => True
 | _ => False
def Post_pexpo : List (List Int) -> List (List Int) -> Prop
 | [[a], [n]], [[v]] => v = expoF a n
 | _, _ => False
def Pre_log2 : List (List Int) -> Prop
 | [[x]] => True
 | _ => False
def Post_log2 : List (List Int) -> List (List Int) -> Prop
 | [[x]], [[v], [e]] => ((x <= 0 -> v = 0 /\ e = 1) /\ (0 < x -> e = 0 /\ v = near24 (longF x)))
 | _, _ => False
def Pre_pow : List (List Int) -> Prop
 | [[a], [n]] => True
 | _ => False
def Post_pow : List (List Int) -> List (List Int) -> Prop
 | [[a], [n]], [[v], [e]] => powTo a n v e
 | _, _ => False
def Pre_fadd : List (List Int) -> Prop
 | [[a], [b]] => True
 | _ => False
def Post_fadd : List (List Int) -> List (List Int) -> Prop
 | [[a], [b]], [[v]] => v = clamp32 (a + b)
 | _, _ => False
def Pre_fsub : List (List Int) -> Prop
 | [[a], [b]] => True
 | _ => False
def Post_fsub : List (List Int) -> List (List Int) -> Prop
 | [[a], [b]], [[v]] => v = clamp32 (a - b)
 | _, _ => False
def Pre_fdiv : List (List Int) -> Prop
 | [[n], [d]] => True
 | _ => False
def Post_fdiv : List (List Int) -> List (List Int) -> Prop
 | [[n], [d]], [[v], [e]] => ((d = 0 -> v = 0 /\ e = 12) /\ (0 < d -> e = 0 /\ ∃ x, isNear (n * 65536) d x /\ v = clamp32 x) /\ (d < 0 -> e = 0 /\ ∃ x, isNear (n * -65536) (-d) x /\ v = clamp32 x))
 | _, _ => False
def Pre_fof : List (List Int) -> Prop
 | [[n]] => True
 | _ => False
def Post_fof : List (List Int) -> List (List Int) -> Prop
 | [[n]], [[v]] => v = clamp32 (n * 65536)
 | _, _ => False
def E : Ctx where
 pre f a := if Nat.beq f 116 = true then Pre_len64 a else if Nat.beq f 84 = true then Pre_mul64 a else if Nat.beq f 130 = true then Pre_cmpi64 a else if Nat.beq f 131 = true then Pre_cmpu64 a else if Nat.beq f 124 = true then Pre_wcmp a else if Nat.beq f 62 = true then Pre_wof a else if Nat.beq f 127 = true then Pre_lz64 a else if Nat.beq f 119 = true then Pre_div64 a else if Nat.beq f 104 = true then Pre_turned a else if Nat.beq f 85 = true then Pre_part a else if Nat.beq f 88 = true then Pre_whole a else if Nat.beq f 86 = true then Pre_wtimes a else if Nat.beq f 87 = true then Pre_size a else if Nat.beq f 90 = true then Pre_wadd a else if Nat.beq f 107 = true then Pre_wsub a else if Nat.beq f 61 = true then Pre_wtms a else if Nat.beq f 33 = true then Pre_wmul a else if Nat.beq f 106 = true then Pre_wdivided a else if Nat.beq f 89 = true then Pre_wfloor a else if Nat.beq f 63 = true then Pre_wnear a else if Nat.beq f 64 = true then Pre_wint a else if Nat.beq f 121 = true then Pre_narrow1 a else if Nat.beq f 122 = true then Pre_narrow2 a else if Nat.beq f 132 = true then Pre_wide1 a else if Nat.beq f 133 = true then Pre_wide2 a else if Nat.beq f 111 = true then Pre_rootnarrow a else if Nat.beq f 125 = true then Pre_rootwide a else if Nat.beq f 112 = true then Pre_mknarrow a else if Nat.beq f 126 = true then Pre_mkwide a else if Nat.beq f 92 = true then Pre_root a else if Nat.beq f 117 = true then Pre_rootWide a else if Nat.beq f 76 = true then Pre_sqrt a else if Nat.beq f 99 = true then Pre_log a else if Nat.beq f 100 = true then Pre_made a else if Nat.beq f 118 = true then Pre_crossed a else if Nat.beq f 109 = true then Pre_pon a else if Nat.beq f 101 = true then Pre_pback a else if Nat.beq f 108 = true then Pre_quarters a else if Nat.beq f 110 = true then Pre_anear a else if Nat.beq f 91 = true then Pre_direction a else if Nat.beq f 73 = true then Pre_asin a else if Nat.beq f 74 = true then Pre_acos a else if Nat.beq f 98 = true then Pre_afirst a else if Nat.beq f 80 = true then Pre_atan a else if Nat.beq f 32 = true then Pre_sat a else if Nat.beq f 34 = true then Pre_held a else if Nat.beq f 20 = true then Pre_fmul a else if Nat.beq f 114 = true then Pre_fby a else if Nat.beq f 95 = true then Pre_fratio a else if Nat.beq f 115 = true then Pre_pmade a else if Nat.beq f 113 = true then Pre_ptimes a else if Nat.beq f 96 = true then Pre_power a else if Nat.beq f 94 = true then Pre_plong a else if Nat.beq f 93 = true then Pre_pnear a else if Nat.beq f 97 = true then Pre_pexpo a else if Nat.beq f 77 = true then Pre_log2 a else if Nat.beq f 79 = true then Pre_pow a else if Nat.beq f 18 = true then Pre_fadd a else if Nat.beq f 19 = true then Pre_fsub a else if Nat.beq f 78 = true then Pre_fdiv a else if Nat.beq f 22 = true then Pre_fof a else False
 post f a r := if Nat.beq f 116 = true then Post_len64 a r else if Nat.beq f 84 = true then Post_mul64 a r else if Nat.beq f 130 = true then Post_cmpi64 a r else if Nat.beq f 131 = true then Post_cmpu64 a r else if Nat.beq f 124 = true then Post_wcmp a r else if Nat.beq f 62 = true then Post_wof a r else if Nat.beq f 127 = true then Post_lz64 a r else if Nat.beq f 119 = true then Post_div64 a r else if Nat.beq f 104 = true then Post_turned a r else if Nat.beq f 85 = true then Post_part a r else if Nat.beq f 88 = true then Post_whole a r else if Nat.beq f 86 = true then Post_wtimes a r else if Nat.beq f 87 = true then Post_size a r else if Nat.beq f 90 = true then Post_wadd a r else if Nat.beq f 107 = true then Post_wsub a r else if Nat.beq f 61 = true then Post_wtms a r else if Nat.beq f 33 = true then Post_wmul a r else if Nat.beq f 106 = true then Post_wdivided a r else if Nat.beq f 89 = true then Post_wfloor a r else if Nat.beq f 63 = true then Post_wnear a r else if Nat.beq f 64 = true then Post_wint a r else if Nat.beq f 121 = true then Post_narrow1 a r else if Nat.beq f 122 = true then Post_narrow2 a r else if Nat.beq f 132 = true then Post_wide1 a r else if Nat.beq f 133 = true then Post_wide2 a r else if Nat.beq f 111 = true then Post_rootnarrow a r else if Nat.beq f 125 = true then Post_rootwide a r else if Nat.beq f 112 = true then Post_mknarrow a r else if Nat.beq f 126 = true then Post_mkwide a r else if Nat.beq f 92 = true then Post_root a r else if Nat.beq f 117 = true then Post_rootWide a r else if Nat.beq f 76 = true then Post_sqrt a r else if Nat.beq f 99 = true then Post_log a r else if Nat.beq f 100 = true then Post_made a r else if Nat.beq f 118 = true then Post_crossed a r else if Nat.beq f 109 = true then Post_pon a r else if Nat.beq f 101 = true then Post_pback a r else if Nat.beq f 108 = true then Post_quarters a r else if Nat.beq f 110 = true then Post_anear a r else if Nat.beq f 91 = true then Post_direction a r else if Nat.beq f 73 = true then Post_asin a r else if Nat.beq f 74 = true then Post_acos a r else if Nat.beq f 98 = true then Post_afirst a r else if Nat.beq f 80 = true then Post_atan a r else if Nat.beq f 32 = true then Post_sat a r else if Nat.beq f 34 = true then Post_held a r else if Nat.beq f 20 = true then Post_fmul a r else if Nat.beq f 114 = true then Post_fby a r else if Nat.beq f 95 = true then Post_fratio a r else if Nat.beq f 115 = true then Post_pmade a r else if Nat.beq f 113 = true then Post_ptimes a r else if Nat.beq f 96 = true then Post_power a r else if Nat.beq f 94 = true then Post_plong a r else if Nat.beq f 93 = true then Post_pnear a r else if Nat.beq f 97 = true then Post_pexpo a r else if Nat.beq f 77 = true then Post_log2 a r else if Nat.beq f 79 = true then Post_pow a r else if Nat.beq f 18 = true then Post_fadd a r else if Nat.beq f 19 = true then Post_fsub a r else if Nat.beq f 78 = true then Post_fdiv a r else if Nat.beq f 22 = true then Post_fof a r else False
 inv l a r := if Nat.beq l 0 = true then Inv_dv1 a r else if Nat.beq l 1 = true then Inv_dv2 a r else if Nat.beq l 2 = true then Inv_rootnarrow a r else if Nat.beq l 3 = true then Inv_rootwide a r else if Nat.beq l 4 = true then Inv_dir a r else if Nat.beq l 5 = true then Inv_atn a r else if Nat.beq l 6 = true then Inv_pw a r else if Nat.beq l 7 = true then Inv_lng a r else False
 mea l a r := if Nat.beq l 0 = true then Mea_dv1 a r else if Nat.beq l 1 = true then Mea_dv2 a r else if Nat.beq l 2 = true then Mea_rootnarrow a r else if Nat.beq l 3 = true then Mea_rootwide a r else if Nat.beq l 4 = true then Mea_dir a r else if Nat.beq l 5 = true then Mea_atn a r else if Nat.beq l 6 = true then Mea_pw a r else if Nat.beq l 7 = true then Mea_lng a r else 0
def anns0 : List (FuncId × Nat × Ann) := [(119, 17, { l := 0, slots := [(15, u64), (16, u64)], blks := [], fro := [11, 9, 10, 13] }), (119, 24, { l := 1, slots := [(18, u64), (16, u64)], blks := [], fro := [17, 9, 10, 14] }), (111, 2, { l := 2, slots := [(6, u64), (10, ir 0 32)], blks := [], fro := [0, 9] }), (125, 2, { l := 3, slots := [(6, u64), (10, ir 0 64)], blks := [], fro := [0, 9] }), (91, 5, { l := 4, slots := [(9, ir 1 41)], blks := [(1, [ir (-4611686018427387984) 4611686018427387984, ir (-4611686018427387984) 4611686018427387984])], fro := [5] }), (80, 9, { l := 5, slots := [(12, ir 1 41), (10, ir 0 4398046511104)], blks := [(1, [ir (-4611686018427387984) 4611686018427387984, ir (-4611686018427387984) 4611686018427387984])], fro := [6, 7] }), (96, 9, { l := 6, slots := [(17, ir 0 33), (5, .int .u64 4611686018427387904 9223372036854775808)], blks := [], fro := [0] }), (94, 5, { l := 7, slots := [(6, ir 0 40), (4, .int .u64 4611686018427387904 9223372036854775807), (5, ir (-17592186044416) 17592186044416)], blks := [], fro := [4, 5] })]
def tab0 : Tab := { cons := [], exts := [(105, true), (120, false)], anns := anns0 }
def ash_len64 : List ShA := [.s u64]
def sh_len64 : ShV := .a (.s (ir 0 64))
def tab1 : Tab := { tab0 with cons := (116, ash_len64, sh_len64) :: tab0.cons }
def ash_mul64 : List ShA := [.s u64, .s u64]
def sh_mul64 : ShV := .tup [.s u64, .s u64]
def tab2 : Tab := { tab1 with cons := (84, ash_mul64, sh_mul64) :: tab1.cons }
def ash_cmpi64 : List ShA := [.s i64, .s i64]
def sh_cmpi64 : ShV := .a (.s (ir (-1) 1))
def tab3 : Tab := { tab2 with cons := (130, ash_cmpi64, sh_cmpi64) :: tab2.cons }
def ash_cmpu64 : List ShA := [.s u64, .s u64]
def sh_cmpu64 : ShV := .a (.s (ir (-1) 1))
def tab4 : Tab := { tab3 with cons := (131, ash_cmpu64, sh_cmpu64) :: tab3.cons }
def ash_wcmp : List ShA := [.agg [i64, u64], .agg [i64, u64]]
def sh_wcmp : ShV := .a (.s (ir (-1) 1))
def tab5 : Tab := { tab4 with cons := (124, ash_wcmp, sh_wcmp) :: tab4.cons }
def ash_wof : List ShA := [.s i64]
def sh_wof : ShV := .a (.agg [i64, u64])
def tab6 : Tab := { tab5 with cons := (62, ash_wof, sh_wof) :: tab5.cons }
def ash_lz64 : List ShA := [.s u64]
def sh_lz64 : ShV := .a (.s (ir 0 64))
def tab7 : Tab := { tab6 with cons := (127, ash_lz64, sh_lz64) :: tab6.cons }
def ash_div64 : List ShA := [.s u64, .s u64, .s u64]
def sh_div64 : ShV := .tup [.s u64, .s u64]
def tab8 : Tab := { tab7 with cons := (119, ash_div64, sh_div64) :: tab7.cons }
def ash_turned : List ShA := [.agg [u64, u64, u64]]
def sh_turned : ShV := .a (.agg [u64, u64, u64])
def tab9 : Tab := { tab8 with cons := (104, ash_turned, sh_turned) :: tab8.cons }
def ash_part : List ShA := [.agg [i64, u64]]
def sh_part : ShV := .a (.agg [.bool, u64, u64, u64])
def tab10 : Tab := { tab9 with cons := (85, ash_part, sh_part) :: tab9.cons }
def ash_whole : List ShA := [.agg [.bool, u64, u64, u64]]
def sh_whole : ShV := .tup [.agg [i64, u64], .s (ir 0 11)]
def tab11 : Tab := { tab10 with cons := (88, ash_whole, sh_whole) :: tab10.cons }
def ash_wtimes : List ShA := [.agg [u64, u64, u64], .s u64]
def sh_wtimes : ShV := .a (.agg [u64, u64, u64])
def tab12 : Tab := { tab11 with cons := (86, ash_wtimes, sh_wtimes) :: tab11.cons }
def ash_size : List ShA := [.s i64]
def sh_size : ShV := .a (.s u64)
def tab13 : Tab := { tab12 with cons := (87, ash_size, sh_size) :: tab12.cons }
def ash_wadd : List ShA := [.agg [i64, u64], .agg [i64, u64]]
def sh_wadd : ShV := .tup [.agg [i64, u64], .s (ir 0 11)]
def tab14 : Tab := { tab13 with cons := (90, ash_wadd, sh_wadd) :: tab13.cons }
def ash_wsub : List ShA := [.agg [i64, u64], .agg [i64, u64]]
def sh_wsub : ShV := .tup [.agg [i64, u64], .s (ir 0 11)]
def tab15 : Tab := { tab14 with cons := (107, ash_wsub, sh_wsub) :: tab14.cons }
def ash_wtms : List ShA := [.agg [i64, u64], .s i64]
def sh_wtms : ShV := .tup [.agg [i64, u64], .s (ir 0 11)]
def tab16 : Tab := { tab15 with cons := (61, ash_wtms, sh_wtms) :: tab15.cons }
def ash_wmul : List ShA := [.s i64, .s i64]
def sh_wmul : ShV := .a (.agg [i64, u64])
def tab17 : Tab := { tab16 with cons := (33, ash_wmul, sh_wmul) :: tab16.cons }
def ash_wdivided : List ShA := [.agg [u64, u64, u64], .s u64]
def sh_wdivided : ShV := .tup [.agg [u64, u64, u64], .s u64]
def tab18 : Tab := { tab17 with cons := (106, ash_wdivided, sh_wdivided) :: tab17.cons }
def ash_wfloor : List ShA := [.agg [i64, u64], .s i64]
def sh_wfloor : ShV := .tup [.agg [i64, u64], .s i64, .s (ir 0 11)]
def tab19 : Tab := { tab18 with cons := (89, ash_wfloor, sh_wfloor) :: tab18.cons }
def ash_wnear : List ShA := [.agg [i64, u64], .s i64]
def sh_wnear : ShV := .tup [.agg [i64, u64], .s (ir 0 11)]
def tab20 : Tab := { tab19 with cons := (63, ash_wnear, sh_wnear) :: tab19.cons }
def ash_wint : List ShA := [.agg [i64, u64]]
def sh_wint : ShV := .tup [.s i64, .s .bool]
def tab21 : Tab := { tab20 with cons := (64, ash_wint, sh_wint) :: tab20.cons }
def ash_narrow1 : List ShA := [.s u64]
def sh_narrow1 : ShV := .a (.s u64)
def tab22 : Tab := { tab21 with cons := (121, ash_narrow1, sh_narrow1) :: tab21.cons }
def ash_narrow2 : List ShA := [.s u64, .s u64]
def sh_narrow2 : ShV := .a (.s .bool)
def tab23 : Tab := { tab22 with cons := (122, ash_narrow2, sh_narrow2) :: tab22.cons }
def ash_wide1 : List ShA := [.s u64]
def sh_wide1 : ShV := .a (.agg [u64, u64])
def tab24 : Tab := { tab23 with cons := (132, ash_wide1, sh_wide1) :: tab23.cons }
def ash_wide2 : List ShA := [.agg [u64, u64], .agg [u64, u64]]
def sh_wide2 : ShV := .a (.s .bool)
def tab25 : Tab := { tab24 with cons := (133, ash_wide2, sh_wide2) :: tab24.cons }
def ash_rootnarrow : List ShA := [.s u64, .s (ir 32 32), .agg [.fn 121, .fn 122]]
def sh_rootnarrow : ShV := .a (.s u64)
def tab26 : Tab := { tab25 with cons := (111, ash_rootnarrow, sh_rootnarrow) :: tab25.cons }
def ash_rootwide : List ShA := [.agg [u64, u64], .s (ir 64 64), .agg [.fn 132, .fn 133]]
def sh_rootwide : ShV := .a (.s u64)
def tab27 : Tab := { tab26 with cons := (125, ash_rootwide, sh_rootwide) :: tab26.cons }
def ash_mknarrow : List ShA := []
def sh_mknarrow : ShV := .a (.agg [.fn 121, .fn 122])
def tab28 : Tab := { tab27 with cons := (112, ash_mknarrow, sh_mknarrow) :: tab27.cons }
def ash_mkwide : List ShA := []
def sh_mkwide : ShV := .a (.agg [.fn 132, .fn 133])
def tab29 : Tab := { tab28 with cons := (126, ash_mkwide, sh_mkwide) :: tab28.cons }
def ash_root : List ShA := [.s u64]
def sh_root : ShV := .a (.s u64)
def tab30 : Tab := { tab29 with cons := (92, ash_root, sh_root) :: tab29.cons }
def ash_rootWide : List ShA := [.agg [i64, u64]]
def sh_rootWide : ShV := .tup [.s u64, .s i64]
def tab31 : Tab := { tab30 with cons := (117, ash_rootWide, sh_rootWide) :: tab30.cons }
def ash_sqrt : List ShA := [.s i32]
def sh_sqrt : ShV := .tup [.s i32, .s i64]
def tab32 : Tab := { tab31 with cons := (76, ash_sqrt, sh_sqrt) :: tab31.cons }
def ash_log : List ShA := [.s u64]
def sh_log : ShV := .a (.s i64)
def tab33 : Tab := { tab32 with cons := (99, ash_log, sh_log) :: tab32.cons }
def ash_made : List ShA := []
def sh_made : ShV := .a (.agg tabS)
def tab34 : Tab := { tab33 with cons := (100, ash_made, sh_made) :: tab33.cons }
def ash_crossed : List ShA := [.s i64, .s i64, .s i64, .s i64]
def sh_crossed : ShV := .a (.s i64)
def tab35 : Tab := { tab34 with cons := (118, ash_crossed, sh_crossed) :: tab34.cons }
def ash_pon : List ShA := [.agg [i64, i64], .agg [i64, i64]]
def sh_pon : ShV := .a (.agg [i64, i64])
def tab36 : Tab := { tab35 with cons := (109, ash_pon, sh_pon) :: tab35.cons }
def ash_pback : List ShA := [.agg [i64, i64], .agg [i64, i64]]
def sh_pback : ShV := .a (.agg [i64, i64])
def tab37 : Tab := { tab36 with cons := (101, ash_pback, sh_pback) :: tab36.cons }
def ash_quarters : List ShA := [.s i32]
def sh_quarters : ShV := .tup [.s (ir 0 3), .s (.int .u64 0 1099511627775)]
def tab38 : Tab := { tab37 with cons := (108, ash_quarters, sh_quarters) :: tab37.cons }
def ash_anear : List ShA := [.s (ir (-4611686018427387984) 4611686018427387984)]
def sh_anear : ShV := .a (.s (s32 (-65537) 65537))
def tab39 : Tab := { tab38 with cons := (110, ash_anear, sh_anear) :: tab38.cons }
def ash_direction : List ShA := [.s i32]
def sh_direction : ShV := .tup [.s (s32 (-65536) 65536), .s (s32 (-65536) 65536)]
def tab40 : Tab := { tab39 with cons := (91, ash_direction, sh_direction) :: tab39.cons }
def ash_asin : List ShA := [.s i32]
def sh_asin : ShV := .a (.s (s32 (-65536) 65536))
def tab41 : Tab := { tab40 with cons := (73, ash_asin, sh_asin) :: tab40.cons }
def ash_acos : List ShA := [.s i32]
def sh_acos : ShV := .a (.s (s32 (-65536) 65536))
def tab42 : Tab := { tab41 with cons := (74, ash_acos, sh_acos) :: tab41.cons }
def ash_afirst : List ShA := [.s i64, .s i64]
def sh_afirst : ShV := .tup [.s (ir 0 3), .agg [ir 1 2147483648, ir 0 2147483648]]
def tab43 : Tab := { tab42 with cons := (98, ash_afirst, sh_afirst) :: tab42.cons }
def ash_atan : List ShA := [.s i32, .s i32]
def sh_atan : ShV := .tup [.s (s32 0 23592959), .s (ir 0 15)]
def tab44 : Tab := { tab43 with cons := (80, ash_atan, sh_atan) :: tab43.cons }
def ash_sat : List ShA := [.s i64]
def sh_sat : ShV := .a (.s i32)
def tab45 : Tab := { tab44 with cons := (32, ash_sat, sh_sat) :: tab44.cons }
def ash_held : List ShA := [.agg [i64, u64, i64]]
def sh_held : ShV := .a (.s i32)
def tab46 : Tab := { tab45 with cons := (34, ash_held, sh_held) :: tab45.cons }
def ash_fmul : List ShA := [.s i32, .s i32]
def sh_fmul : ShV := .a (.s i32)
def tab47 : Tab := { tab46 with cons := (20, ash_fmul, sh_fmul) :: tab46.cons }
def ash_fby : List ShA := [.s i64, .s (ir (-2147483648) 2147483647)]
def sh_fby : ShV := .tup [.agg [i64, u64, i64], .s (ir 0 15)]
def tab48 : Tab := { tab47 with cons := (114, ash_fby, sh_fby) :: tab47.cons }
def ash_fratio : List ShA := [.s i64, .s (ir (-2147483648) 2147483647)]
def sh_fratio : ShV := .tup [.s i32, .s (ir 0 15)]
def tab49 : Tab := { tab48 with cons := (95, ash_fratio, sh_fratio) :: tab48.cons }
def ash_pmade : List ShA := []
def sh_pmade : ShV := .a (.agg tabP)
def tab50 : Tab := { tab49 with cons := (115, ash_pmade, sh_pmade) :: tab49.cons }
def ash_ptimes : List ShA := [.s u64, .s u64]
def sh_ptimes : ShV := .a (.s u64)
def tab51 : Tab := { tab50 with cons := (113, ash_ptimes, sh_ptimes) :: tab50.cons }
def ash_power : List ShA := [.s i64]
def sh_power : ShV := .a (.s (ir 0 2147483648))
def tab52 : Tab := { tab51 with cons := (96, ash_power, sh_power) :: tab51.cons }
def ash_plong : List ShA := [.s sz]
def sh_plong : ShV := .a (.s (ir (-17592186044416) 16492674416640))
def tab53 : Tab := { tab52 with cons := (94, ash_plong, sh_plong) :: tab52.cons }
def ash_pnear : List ShA := [.s (ir (-17592186044416) 16492674416640), .s (ir 24 24)]
def sh_pnear : ShV := .a (.s (ir (-1048576) 983040))
def tab54 : Tab := { tab53 with cons := (93, ash_pnear, sh_pnear) :: tab53.cons }
def ash_pexpo : List ShA := [.s sz, .s i32]
def sh_pexpo : ShV := .a (.s (ir (-1099511627776) 1099511627776))
def tab55 : Tab := { tab54 with cons := (97, ash_pexpo, sh_pexpo) :: tab54.cons }
def ash_log2 : List ShA := [.s i32]
def sh_log2 : ShV := .tup [.s (s32 (-1048576) 983040), .s (ir 0 15)]
def tab56 : Tab := { tab55 with cons := (77, ash_log2, sh_log2) :: tab55.cons }
def ash_pow : List ShA := [.s i32, .s i32]
def sh_pow : ShV := .tup [.s i32, .s (ir 0 15)]
def tab57 : Tab := { tab56 with cons := (79, ash_pow, sh_pow) :: tab56.cons }
def ash_fadd : List ShA := [.s i32, .s i32]
def sh_fadd : ShV := .a (.s i32)
def tab58 : Tab := { tab57 with cons := (18, ash_fadd, sh_fadd) :: tab57.cons }
def ash_fsub : List ShA := [.s i32, .s i32]
def sh_fsub : ShV := .a (.s i32)
def tab59 : Tab := { tab58 with cons := (19, ash_fsub, sh_fsub) :: tab58.cons }
def ash_fdiv : List ShA := [.s i32, .s i32]
def sh_fdiv : ShV := .tup [.s i32, .s (ir 0 15)]
def tab60 : Tab := { tab59 with cons := (78, ash_fdiv, sh_fdiv) :: tab59.cons }
def ash_fof : List ShA := [.s (ir (-32768) 32767)]
def sh_fof : ShV := .a (.s i32)
def PureE (f : FuncId) (a : List ShA) (s : ShV) : Prop := ∀ args : List Value, shaFits a args -> E.pre f (args.map vints) -> Pure Tryz.prog f args.toArray fun v => s.fits v /\ E.post f (args.map vints) (vres v)
end Go.Proofs.YtcjllibeaiofpaaGreatDoor.Sx
