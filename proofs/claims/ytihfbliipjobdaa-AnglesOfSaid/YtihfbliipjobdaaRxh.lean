/-
  Contracts of functions, by their words. Printed by a program of our own.
-/
import Derived.Test.YtihfbliipjobdaaSxr
import Derived.KernelRfl
set_option maxRecDepth 1000000
set_option linter.all false
namespace Go.Proofs.Ytihfbliipjobdaa.Sx
open Go Go.RowKit

def u64 : Sh := .int .u64 0 18446744073709551615
def u32 : Sh := .int .u32 0 4294967295
def u8 : Sh := .int .u8 0 255
def i64 : Sh := .int .i64 (-9223372036854775808) 9223372036854775807
def i32 : Sh := .int .i32 (-2147483648) 2147483647
def ir (lo hi : Int) : Sh := .int .i64 lo hi
def len8tab : List Int := (List.range 256).map fun i => if i = 0 then 0 else (Nat.log2 i : Int) + 1
def dg12 : List Sh := List.replicate 12 (ir 0 65535)
def numS : ShA := .agg (.bool :: dg12)
/-- a number of digits to the base 65536, the lowest first. -/
def vd : List Int → Int
  | [] => 0
  | d :: r => d + 65536 * vd r
def sv : List Int → Int
  | m :: ds => if m = 1 then - vd ds else vd ds
  | [] => 0
/-- no digit but the i-th is below 0. -/
def nnb : Int → List Int → Prop
  | _, [] => True
  | i, d :: r => (i ≠ 0 → 0 ≤ d) ∧ nnb (i - 1) r
def top12 : Int := 6277101735386680763835789423207666416102355444464034512896
def top8 : Int := 340282366920938463463374607431768211456
def dA (fs : List Int) : List Int := (fs.drop 1).take 12
def dB (fs : List Int) : List Int := fs.drop 14
def w128 (h l : Int) : Int := h * 18446744073709551616 + l

def half128 : Int := 170141183460469231731687303715884105728
/-- is a number a wide? -/
def inW (v : Int) : Prop := -half128 ≤ v ∧ v < half128
/-- a number told as a wide, or refused as too great. -/
def tellW (v h l e : Int) : Prop := (inW v → e = 0 ∧ w128 h l = v) ∧ (¬ inW v → e = 11 ∧ h = 0 ∧ l = 0)
def wv (a b c : Int) : Int := a + b * 18446744073709551616 + c * 340282366920938463463374607431768211456
/-- q is nearest to a by d. -/
def isNear (a d q : Int) : Prop := 2 * d * q ≤ 2 * a + d ∧ 2 * a + d < 2 * d * (q + 1)
/-- a digit of a quotient is guessed from above. -/
def dvInv (u m n v q s : Int) : Prop := q * m + s = u ∧ s < 4294967296 ∧ u * 4294967296 + v < (q + 1) * (m * 4294967296 + n)
def isFloor (a d q r : Int) : Prop := a = q * d + r ∧ 0 ≤ r ∧ r < d
def isI64 (v : Int) : Prop := -9223372036854775808 ≤ v ∧ v ≤ 9223372036854775807
def isInt (v n t : Int) : Prop := (isI64 v → t = 1 ∧ n = v) ∧ (¬ isI64 v → t = 0 ∧ n = 0)
def nearest (a b q : Int) : Prop := (0 < b → isNear a b q) ∧ (b < 0 → isNear (-a) (-b) q)
def divInv (a d : Int) (i q r : Int) : Prop := q * d + r = a / 2 ^ (i + 1).toNat ∧ 0 ≤ r ∧ r < d ∧ 0 ≤ q

/-- the bits from the (most - i)th on are not yet told. -/
def rootInv (most : Nat) (n x i : Int) : Prop := i ≤ most ∧ (∃ c : Int, x = c * 2 ^ (most - i.toNat)) ∧ x + 2 ^ (most - i.toNat) ≤ 2 ^ most ∧ x * x ≤ n ∧ n < (x + 2 ^ (most - i.toNat)) * (x + 2 ^ (most - i.toNat))
def isRoot (n x : Int) : Prop := x * x ≤ n ∧ n < (x + 1) * (x + 1)

def tX : List Int := [0, 3260954456333195553, 4260642322793532497, 4523073764714963029, 4589479489746651963, 4606131040650197959, 4610297064819661174, 4611338766951757486, 4611599204741358746, 4611664314954810277, 4611680592556051597, 4611684661959354333, 4611685679310367042, 4611685933648131909, 4611685997232573856, 4611686013128684388, 4611686017102712024, 4611686018096218933, 4611686018344595661, 4611686018406689843, 4611686018422213388, 4611686018426094274, 4611686018427064496, 4611686018427307051, 4611686018427367690, 4611686018427382850, 4611686018427386640, 4611686018427387587, 4611686018427387824, 4611686018427387883, 4611686018427387898, 4611686018427387902, 4611686018427387903, 4611686018427387903, 4611686018427387903, 4611686018427387903, 4611686018427387903, 4611686018427387903, 4611686018427387903, 4611686018427387903, 4611686018427387903]
def tY : List Int := [4611686018427387904, 3260954456333195553, 1764815834521887441, 899695310372275546, 452024275624069879, 226284707652502140, 113176440454146015, 56592481536850978, 28296773447188931, 14148453308909939, 7074234977634092, 3537118529214895, 1768559394657193, 884279713584815, 442139858824434, 221069929666220, 110534964864860, 55267482436398, 27633741218695, 13816870609409, 6908435304712, 3454217652356, 1727108826178, 863554413089, 431777206544, 215888603272, 107944301636, 53972150818, 26986075409, 13493037704, 6746518852, 3373259426, 1686629713, 843314856, 421657428, 210828714, 105414357, 52707178, 26353589, 13176794, 6588397]

def u62 : Int := 4611686018427387904
def cx (i : Nat) : Int := tX.getD i 0
def sx (i : Nat) : Int := tY.getD i 0
def onX (x y c s : Int) : Int := (x * c + -y * s) / 4611686018427387904
def onY (x y c s : Int) : Int := (y * c + x * s) / 4611686018427387904
/-- the place that so many bits lead to. -/
def pn : Nat → Int → Int × Int
  | 0, _ => (4611686018427387904, 0)
  | n + 1, k => if k % 2 = 1 then (onX (pn n (k / 2)).1 (pn n (k / 2)).2 (cx (n + 1)) (sx (n + 1)), onY (pn n (k / 2)).1 (pn n (k / 2)).2 (cx (n + 1)) (sx (n + 1))) else pn n (k / 2)
def qt (q : Int) (p : Int × Int) : Int × Int :=
  if q % 4 = 0 then p else if q % 4 = 1 then (-p.2, p.1) else if q % 4 = 2 then (-p.1, -p.2) else (p.2, -p.1)
def nb (x y e : Int) : Prop := 0 ≤ e ∧ x * x + y * y ≤ e * e
def jOf (a : Int) : Int := a * 1099511627776 / 5898240
def nearS (n : Int) : Int := (n / 35184372088832 + 1) / 2
def dirF (a : Int) : Int × Int := qt (jOf a / 1099511627776) (nearS (pn 40 (jOf a % 1099511627776)).1, nearS (pn 40 (jOf a % 1099511627776)).2)
def cosF (a : Int) : Int := (dirF a).1
def sinF (a : Int) : Int := (dirF a).2
def bkX (x y c s : Int) : Int := (x * c + y * s) / 4611686018427387904
def bkY (x y c s : Int) : Int := (y * c + -x * s) / 4611686018427387904
/-- turned back by so many steps, where that may be: the place, and the bits. -/
def bk (x y : Int) : Nat → Int × Int × Int
  | 0 => (x, y, 0)
  | n + 1 =>
    if 0 ≤ bkY (bk x y n).1 (bk x y n).2.1 (cx (n + 1)) (sx (n + 1)) then
      (bkX (bk x y n).1 (bk x y n).2.1 (cx (n + 1)) (sx (n + 1)), bkY (bk x y n).1 (bk x y n).2.1 (cx (n + 1)) (sx (n + 1)), 2 * (bk x y n).2.2 + 1)
    else ((bk x y n).1, (bk x y n).2.1, 2 * (bk x y n).2.2)
def fQ (y x : Int) : Int := if 0 < x ∧ 0 ≤ y then 0 else if 0 < y then 1 else if x < 0 then 2 else 3
def fX (y x : Int) : Int := if 0 < x ∧ 0 ≤ y then x else if 0 < y then y else if x < 0 then -x else -y
def fY (y x : Int) : Int := if 0 < x ∧ 0 ≤ y then y else if 0 < y then -x else if x < 0 then -y else x
def upN (m : Int) : Nat := 60 - Nat.log2 m.toNat
def fO (y x : Int) : Int := (bk (fX y x * 2 ^ upN (max (fX y x) (fY y x))) (fY y x * 2 ^ upN (max (fX y x) (fY y x))) 40).2.2
def roundO (O : Int) : Int := (2 * (O * 5898240) + 1099511627776) / 2199023255552
def atF (y x : Int) : Int := roundO (fQ y x * 1099511627776 + fO y x) % 23592960


def tabS : List Sh := [ir 0 0, ir 4611686018427387904 4611686018427387904, ir 3260954456333195553 3260954456333195553, ir 3260954456333195553 3260954456333195553, ir 4260642322793532497 4260642322793532497, ir 1764815834521887441 1764815834521887441, ir 4523073764714963029 4523073764714963029, ir 899695310372275546 899695310372275546, ir 4589479489746651963 4589479489746651963, ir 452024275624069879 452024275624069879, ir 4606131040650197959 4606131040650197959, ir 226284707652502140 226284707652502140, ir 4610297064819661174 4610297064819661174, ir 113176440454146015 113176440454146015, ir 4611338766951757486 4611338766951757486, ir 56592481536850978 56592481536850978, ir 4611599204741358746 4611599204741358746, ir 28296773447188931 28296773447188931, ir 4611664314954810277 4611664314954810277, ir 14148453308909939 14148453308909939, ir 4611680592556051597 4611680592556051597, ir 7074234977634092 7074234977634092, ir 4611684661959354333 4611684661959354333, ir 3537118529214895 3537118529214895, ir 4611685679310367042 4611685679310367042, ir 1768559394657193 1768559394657193, ir 4611685933648131909 4611685933648131909, ir 884279713584815 884279713584815, ir 4611685997232573856 4611685997232573856, ir 442139858824434 442139858824434, ir 4611686013128684388 4611686013128684388, ir 221069929666220 221069929666220, ir 4611686017102712024 4611686017102712024, ir 110534964864860 110534964864860, ir 4611686018096218933 4611686018096218933, ir 55267482436398 55267482436398, ir 4611686018344595661 4611686018344595661, ir 27633741218695 27633741218695, ir 4611686018406689843 4611686018406689843, ir 13816870609409 13816870609409, ir 4611686018422213388 4611686018422213388, ir 6908435304712 6908435304712, ir 4611686018426094274 4611686018426094274, ir 3454217652356 3454217652356, ir 4611686018427064496 4611686018427064496, ir 1727108826178 1727108826178, ir 4611686018427307051 4611686018427307051, ir 863554413089 863554413089, ir 4611686018427367690 4611686018427367690, ir 431777206544 431777206544, ir 4611686018427382850 4611686018427382850, ir 215888603272 215888603272, ir 4611686018427386640 4611686018427386640, ir 107944301636 107944301636, ir 4611686018427387587 4611686018427387587, ir 53972150818 53972150818, ir 4611686018427387824 4611686018427387824, ir 26986075409 26986075409, ir 4611686018427387883 4611686018427387883, ir 13493037704 13493037704, ir 4611686018427387898 4611686018427387898, ir 6746518852 6746518852, ir 4611686018427387902 4611686018427387902, ir 3373259426 3373259426, ir 4611686018427387903 4611686018427387903, ir 1686629713 1686629713, ir 4611686018427387903 4611686018427387903, ir 843314856 843314856, ir 4611686018427387903 4611686018427387903, ir 421657428 421657428, ir 4611686018427387903 4611686018427387903, ir 210828714 210828714, ir 4611686018427387903 4611686018427387903, ir 105414357 105414357, ir 4611686018427387903 4611686018427387903, ir 52707178 52707178, ir 4611686018427387903 4611686018427387903, ir 26353589 26353589, ir 4611686018427387903 4611686018427387903, ir 13176794 13176794, ir 4611686018427387903 4611686018427387903, ir 6588397 6588397]
def s32 (lo hi : Int) : Sh := .int .i32 lo hi
def i8 : Sh := .int .i8 (-128) 127

def bodyOf (P : Program) (f : FuncId) : Code := match P.funcs[f]? with | some fn => fn.body.getD .skip | none => .skip
def sL : Code → Code | .seq a _ => a | c => c
def sR : Code → Code | .seq _ b => b | c => c
def bB : Code → Code | .block _ b => b | c => c
def lB : Code → Code | .loop b => b | c => c
def rO : Code → Array Oper | .region _ o _ => o | _ => #[]
def tuM (P : Program) : Code := sL (sR (sR (bodyOf P 18)))
def tuC (P : Program) : Code := lB (bB (sR (tuM P)))
def tuS (P : Program) : Code := bB (sL (sR (tuC P)))
def tuMids (P : Program) : List Code := [sL (tuS P), sL (sR (tuS P)), sL (sR (sR (tuS P))), sL (sR (sR (sR (tuS P)))), sL (sR (sR (sR (sR (tuS P)))))]
def tuA (P : Program) : Array Oper := rO (sR (sR (sR (sR (sR (tuS P))))))
def tuCells : List (IntKind × Int) := [(.i64, 0), (.i64, 4611686018427387904), (.i64, 3260954456333195553), (.i64, 3260954456333195553), (.i64, 4260642322793532497), (.i64, 1764815834521887441), (.i64, 4523073764714963029), (.i64, 899695310372275546), (.i64, 4589479489746651963), (.i64, 452024275624069879), (.i64, 4606131040650197959), (.i64, 226284707652502140), (.i64, 4610297064819661174), (.i64, 113176440454146015), (.i64, 4611338766951757486), (.i64, 56592481536850978), (.i64, 4611599204741358746), (.i64, 28296773447188931), (.i64, 4611664314954810277), (.i64, 14148453308909939), (.i64, 4611680592556051597), (.i64, 7074234977634092), (.i64, 4611684661959354333), (.i64, 3537118529214895), (.i64, 4611685679310367042), (.i64, 1768559394657193), (.i64, 4611685933648131909), (.i64, 884279713584815), (.i64, 4611685997232573856), (.i64, 442139858824434), (.i64, 4611686013128684388), (.i64, 221069929666220), (.i64, 4611686017102712024), (.i64, 110534964864860), (.i64, 4611686018096218933), (.i64, 55267482436398), (.i64, 4611686018344595661), (.i64, 27633741218695), (.i64, 4611686018406689843), (.i64, 13816870609409), (.i64, 4611686018422213388), (.i64, 6908435304712), (.i64, 4611686018426094274), (.i64, 3454217652356), (.i64, 4611686018427064496), (.i64, 1727108826178), (.i64, 4611686018427307051), (.i64, 863554413089), (.i64, 4611686018427367690), (.i64, 431777206544), (.i64, 4611686018427382850), (.i64, 215888603272), (.i64, 4611686018427386640), (.i64, 107944301636), (.i64, 4611686018427387587), (.i64, 53972150818), (.i64, 4611686018427387824), (.i64, 26986075409), (.i64, 4611686018427387883), (.i64, 13493037704), (.i64, 4611686018427387898), (.i64, 6746518852), (.i64, 4611686018427387902), (.i64, 3373259426), (.i64, 4611686018427387903), (.i64, 1686629713), (.i64, 4611686018427387903), (.i64, 843314856), (.i64, 4611686018427387903), (.i64, 421657428), (.i64, 4611686018427387903), (.i64, 210828714), (.i64, 4611686018427387903), (.i64, 105414357), (.i64, 4611686018427387903), (.i64, 52707178), (.i64, 4611686018427387903), (.i64, 26353589), (.i64, 4611686018427387903), (.i64, 13176794), (.i64, 4611686018427387903), (.i64, 6588397)]
def xyA (x y : Int) : A := .agg [.int .i64 (.v x 0 4611686018427387904), .int .i64 (.v y 0 4611686018427387904)]

def Pre_len64 : List (List Int) → Prop
  | [[n]] => True
  | _ => False
def Post_len64 : List (List Int) → List (List Int) → Prop
  | [[n]], [[k]] => (0 ≤ k ∧ n < 2 ^ k.toNat ∧ (0 < n → 2 ^ k.toNat ≤ 2 * n) ∧ (n = 0 → k = 0))
  | _, _ => False
def Pre_mul64 : List (List Int) → Prop
  | [[a], [b]] => True
  | _ => False
def Post_mul64 : List (List Int) → List (List Int) → Prop
  | [[a], [b]], [[h], [l]] => h * 18446744073709551616 + l = a * b
  | _, _ => False
def Pre_compare : List (List Int) → Prop
  | [a, b] => True
  | _ => False
def Post_compare : List (List Int) → List (List Int) → Prop
  | [a, b], [[c]] => ((vd a < vd b → c = -1) ∧ (vd a = vd b → c = 0) ∧ (vd b < vd a → c = 1))
  | _, _ => False
def Pre_plus : List (List Int) → Prop
  | [a, b] => True
  | _ => False
def Post_plus : List (List Int) → List (List Int) → Prop
  | [a, b], [r] => vd r = (vd a + vd b) % top12
  | _, _ => False
def Pre_less : List (List Int) → Prop
  | [a, b] => vd b ≤ vd a
  | _ => False
def Post_less : List (List Int) → List (List Int) → Prop
  | [a, b], [r] => vd r = vd a - vd b
  | _, _ => False
def Inv_less : List Int → List Int → Prop
  | fs, i :: c => vd c + vd ((fs.drop 12).take i.toNat) = vd (fs.take 12) ∧ nnb i c
  | _, _ => False
def Mea_less : List Int → List Int → Nat
  | fs, i :: c => (12 - i).toNat
  | _, _ => 0
def Pre_product : List (List Int) → Prop
  | [m :: a, n :: b] => True
  | _ => False
def Post_product : List (List Int) → List (List Int) → Prop
  | [m :: a, n :: b], [p :: r] => ((p = 1 ↔ m ≠ n) ∧ vd r = (vd a * vd b) % top12)
  | _, _ => False
def Inv_prodo : List Int → List Int → Prop
  | fs, i :: o => top12 ∣ vd o - vd ((dA fs).take i.toNat) * vd (dB fs)
  | _, _ => False
def Mea_prodo : List Int → List Int → Nat
  | fs, i :: o => (12 - i).toNat
  | _, _ => 0
def Inv_prodi : List Int → List Int → Prop
  | i :: fs, q :: k :: o => (i + k ≤ 12 ∧ top12 ∣ vd o + q * 65536 ^ (i.toNat + k.toNat) - (vd ((dA fs).take i.toNat) * vd (dB fs) + (dA fs).getD i.toNat 0 * vd ((dB fs).take k.toNat) * 65536 ^ i.toNat))
  | _, _ => False
def Mea_prodi : List Int → List Int → Nat
  | i :: fs, q :: k :: o => (12 - k).toNat
  | _, _ => 0
def Pre_read : List (List Int) → Prop
  | [[h, l]] => True
  | _ => False
def Post_read : List (List Int) → List (List Int) → Prop
  | [[h, l]], [r] => (vd (r.drop 1) ≤ 170141183460469231731687303715884105728 ∧ sv r = w128 h l ∧ (r.getD 0 0 = 1 ↔ h < 0))
  | _, _ => False
def Pre_minus : List (List Int) → Prop
  | [m :: a] => True
  | _ => False
def Post_minus : List (List Int) → List (List Int) → Prop
  | [m :: a], [p :: r] => ((p = 1 ↔ m ≠ 1) ∧ r = a)
  | _, _ => False
def Pre_sum : List (List Int) → Prop
  | [a, b] => vd (a.drop 1) + vd (b.drop 1) < top12
  | _ => False
def Post_sum : List (List Int) → List (List Int) → Prop
  | [a, b], [r] => (sv r = sv a + sv b ∧ vd (r.drop 1) ≤ vd (a.drop 1) + vd (b.drop 1))
  | _, _ => False
def Pre_above : List (List Int) → Prop
  | [a, b] => vd (a.drop 1) + vd (b.drop 1) < top12
  | _ => False
def Post_above : List (List Int) → List (List Int) → Prop
  | [a, b], [[t]] => t = b2i (decide (sv b < sv a))
  | _, _ => False
def Pre_cmpi64 : List (List Int) → Prop
  | [[a], [b]] => True
  | _ => False
def Post_cmpi64 : List (List Int) → List (List Int) → Prop
  | [[a], [b]], [[c]] => ((a < b → c = -1) ∧ (a = b → c = 0) ∧ (b < a → c = 1))
  | _, _ => False
def Pre_cmpu64 : List (List Int) → Prop
  | [[a], [b]] => True
  | _ => False
def Post_cmpu64 : List (List Int) → List (List Int) → Prop
  | [[a], [b]], [[c]] => ((a < b → c = -1) ∧ (a = b → c = 0) ∧ (b < a → c = 1))
  | _, _ => False
def Pre_wcmp : List (List Int) → Prop
  | [[ah, al], [bh, bl]] => True
  | _ => False
def Post_wcmp : List (List Int) → List (List Int) → Prop
  | [[ah, al], [bh, bl]], [[c]] => ((w128 ah al < w128 bh bl → c = -1) ∧ (w128 ah al = w128 bh bl → c = 0) ∧ (w128 bh bl < w128 ah al → c = 1))
  | _, _ => False
def Pre_wof : List (List Int) → Prop
  | [[n]] => True
  | _ => False
def Post_wof : List (List Int) → List (List Int) → Prop
  | [[n]], [[h, l]] => w128 h l = n
  | _, _ => False
def Pre_lz64 : List (List Int) → Prop
  | [[n]] => True
  | _ => False
def Post_lz64 : List (List Int) → List (List Int) → Prop
  | [[n]], [[k]] => (0 ≤ k ∧ n < 2 ^ (64 - k).toNat ∧ (0 < n → 2 ^ (64 - k).toNat ≤ 2 * n) ∧ (n = 0 → k = 64))
  | _, _ => False
def Pre_div64 : List (List Int) → Prop
  | [[h], [l], [y]] => h < y
  | _ => False
def Post_div64 : List (List Int) → List (List Int) → Prop
  | [[h], [l], [y]], [[q], [r]] => isFloor (w128 h l) y q r
  | _, _ => False
def Inv_dv1 : List Int → List Int → Prop
  | [u, m, n, v], [q, s] => dvInv u m n v q s
  | _, _ => False
def Mea_dv1 : List Int → List Int → Nat
  | [u, m, n, v], [q, s] => q.toNat
  | _, _ => 0
def Inv_dv2 : List Int → List Int → Prop
  | [u, m, n, v], [q, s] => dvInv u m n v q s
  | _, _ => False
def Mea_dv2 : List Int → List Int → Nat
  | [u, m, n, v], [q, s] => q.toNat
  | _, _ => 0
def Pre_turned : List (List Int) → Prop
  | [[a, b, c]] => True
  | _ => False
def Post_turned : List (List Int) → List (List Int) → Prop
  | [[a, b, c]], [[x, y, z]] => (z = 0 ∧ w128 y x = (top8 - w128 b a) % top8)
  | _, _ => False
def Pre_part : List (List Int) → Prop
  | [[h, l]] => True
  | _ => False
def Post_part : List (List Int) → List (List Int) → Prop
  | [[h, l]], [[t, x, y, z]] => (z = 0 ∧ (h < 0 → t = 1 ∧ w128 y x = - w128 h l) ∧ (0 ≤ h → t = 0 ∧ w128 y x = w128 h l))
  | _, _ => False
def Pre_whole : List (List Int) → Prop
  | [[t, x, y, z]] => True
  | _ => False
def Post_whole : List (List Int) → List (List Int) → Prop
  | [[t, x, y, z]], [[h, l], [e]] => tellW (if t = 1 then - wv x y z else wv x y z) h l e
  | _, _ => False
def Pre_wtimes : List (List Int) → Prop
  | [[a, b, c], [n]] => True
  | _ => False
def Post_wtimes : List (List Int) → List (List Int) → Prop
  | [[a, b, c], [n]], [[x, y, z]] => wv x y z = (wv a b c * n) % top12
  | _, _ => False
def Pre_size : List (List Int) → Prop
  | [[n]] => True
  | _ => False
def Post_size : List (List Int) → List (List Int) → Prop
  | [[n]], [[m]] => ((n < 0 → m = -n) ∧ (0 ≤ n → m = n))
  | _, _ => False
def Pre_wadd : List (List Int) → Prop
  | [[a, b], [c, d]] => True
  | _ => False
def Post_wadd : List (List Int) → List (List Int) → Prop
  | [[a, b], [c, d]], [[h, l], [e]] => tellW (w128 a b + w128 c d) h l e
  | _, _ => False
def Pre_wsub : List (List Int) → Prop
  | [[a, b], [c, d]] => True
  | _ => False
def Post_wsub : List (List Int) → List (List Int) → Prop
  | [[a, b], [c, d]], [[h, l], [e]] => tellW (w128 a b - w128 c d) h l e
  | _, _ => False
def Pre_wtms : List (List Int) → Prop
  | [[a, b], [n]] => True
  | _ => False
def Post_wtms : List (List Int) → List (List Int) → Prop
  | [[a, b], [n]], [[h, l], [e]] => tellW (w128 a b * n) h l e
  | _, _ => False
def Pre_wmul : List (List Int) → Prop
  | [[a], [b]] => True
  | _ => False
def Post_wmul : List (List Int) → List (List Int) → Prop
  | [[a], [b]], [[h, l]] => w128 h l = a * b
  | _, _ => False
def Pre_wdivided : List (List Int) → Prop
  | [[a, b, c], [n]] => 0 < n
  | _ => False
def Post_wdivided : List (List Int) → List (List Int) → Prop
  | [[a, b, c], [n]], [[x, y, z], [r]] => (z = 0 ∧ isFloor (w128 b a) n (w128 y x) r)
  | _, _ => False
def Pre_wfloor : List (List Int) → Prop
  | [[a, b], [d]] => True
  | _ => False
def Post_wfloor : List (List Int) → List (List Int) → Prop
  | [[a, b], [d]], [[h, l], [r], [e]] => ((d < 1 → h = 0 ∧ l = 0 ∧ r = 0 ∧ e = 1) ∧ (1 ≤ d → e = 0 ∧ isFloor (w128 a b) d (w128 h l) r))
  | _, _ => False
def Pre_wnear : List (List Int) → Prop
  | [[a, b], [d]] => True
  | _ => False
def Post_wnear : List (List Int) → List (List Int) → Prop
  | [[a, b], [d]], [[h, l], [e]] => ((d < 1 → h = 0 ∧ l = 0 ∧ e = 1) ∧ (1 ≤ d → e = 0 ∧ isNear (w128 a b) d (w128 h l)))
  | _, _ => False
def Pre_wint : List (List Int) → Prop
  | [[a, b]] => True
  | _ => False
def Post_wint : List (List Int) → List (List Int) → Prop
  | [[a, b]], [[n], [t]] => isInt (w128 a b) n t
  | _, _ => False
def Pre_zero : List (List Int) → Prop
  | [m :: a] => True
  | _ => False
def Post_zero : List (List Int) → List (List Int) → Prop
  | [m :: a], [[t]] => (t = b2i (decide (vd a = 0)))
  | _, _ => False
def Pre_rof : List (List Int) → Prop
  | [[n]] => True
  | _ => False
def Post_rof : List (List Int) → List (List Int) → Prop
  | [[n]], [[h, l]] => w128 h l = n
  | _, _ => False
def Pre_small : List (List Int) → Prop
  | [[n]] => True
  | _ => False
def Post_small : List (List Int) → List (List Int) → Prop
  | [[n]], [r] => (vd (r.drop 1) ≤ 9223372036854775808 ∧ sv r = n ∧ (r.getD 0 0 = 1 ↔ n < 0))
  | _, _ => False
def Pre_tell : List (List Int) → Prop
  | [a] => True
  | _ => False
def Post_tell : List (List Int) → List (List Int) → Prop
  | [a], [[h, l], [e]] => tellW (sv a) h l e
  | _, _ => False
def Pre_divided : List (List Int) → Prop
  | [a, b] => (0 < vd b ∧ 2 * vd b ≤ top12)
  | _ => False
def Post_divided : List (List Int) → List (List Int) → Prop
  | [a, b], [q, r] => isFloor (vd a) (vd b) (vd q) (vd r)
  | _, _ => False
def Inv_divided : List Int → List Int → Prop
  | fs, i :: o => divInv (vd (fs.take 12)) (vd (fs.drop 12)) i (vd (o.take 12)) (vd (o.drop 12))
  | _, _ => False
def Mea_divided : List Int → List Int → Nat
  | fs, i :: o => (i + 1).toNat
  | _, _ => 0
def Pre_nearest : List (List Int) → Prop
  | [a, b] => (0 < vd (b.drop 1) ∧ 2 * vd (a.drop 1) + vd (b.drop 1) < top12 ∧ 4 * vd (b.drop 1) ≤ top12)
  | _ => False
def Post_nearest : List (List Int) → List (List Int) → Prop
  | [a, b], [r] => (nearest (sv a) (sv b) (sv r) ∧ vd (r.drop 1) ≤ 2 * vd (a.drop 1) + 2)
  | _, _ => False
def Pre_rcmp : List (List Int) → Prop
  | [[ah, al], [bh, bl]] => True
  | _ => False
def Post_rcmp : List (List Int) → List (List Int) → Prop
  | [[ah, al], [bh, bl]], [[c]] => ((w128 ah al < w128 bh bl → c = -1) ∧ (w128 ah al = w128 bh bl → c = 0) ∧ (w128 bh bl < w128 ah al → c = 1))
  | _, _ => False
def Pre_rint : List (List Int) → Prop
  | [[a, b]] => True
  | _ => False
def Post_rint : List (List Int) → List (List Int) → Prop
  | [[a, b]], [[n], [t]] => isInt (w128 a b) n t
  | _, _ => False
def Pre_rtms : List (List Int) → Prop
  | [[a, b], [n]] => True
  | _ => False
def Post_rtms : List (List Int) → List (List Int) → Prop
  | [[a, b], [n]], [[h, l], [e]] => tellW (w128 a b * n) h l e
  | _, _ => False
def Pre_rmul : List (List Int) → Prop
  | [[a], [b]] => True
  | _ => False
def Post_rmul : List (List Int) → List (List Int) → Prop
  | [[a], [b]], [[h, l]] => w128 h l = a * b
  | _, _ => False
def Pre_rfloor : List (List Int) → Prop
  | [[a, b], [d]] => True
  | _ => False
def Post_rfloor : List (List Int) → List (List Int) → Prop
  | [[a, b], [d]], [[h, l], [r], [e]] => ((d < 1 → h = 0 ∧ l = 0 ∧ r = 0 ∧ e = 1) ∧ (1 ≤ d → e = 0 ∧ isFloor (w128 a b) d (w128 h l) r))
  | _, _ => False
def Pre_rnear : List (List Int) → Prop
  | [[a, b], [d]] => True
  | _ => False
def Post_rnear : List (List Int) → List (List Int) → Prop
  | [[a, b], [d]], [[h, l], [e]] => ((d < 1 → h = 0 ∧ l = 0 ∧ e = 1) ∧ (1 ≤ d → e = 0 ∧ isNear (w128 a b) d (w128 h l)))
  | _, _ => False
def Pre_wide1 : List (List Int) → Prop
  | [[x]] => True
  | _ => False
def Post_wide1 : List (List Int) → List (List Int) → Prop
  | [[x]], [[h, l]] => w128 h l = x * x
  | _, _ => False
def Pre_wide2 : List (List Int) → Prop
  | [[ah, al], [bh, bl]] => True
  | _ => False
def Post_wide2 : List (List Int) → List (List Int) → Prop
  | [[ah, al], [bh, bl]], [[t]] => t = b2i (decide (w128 bh bl < w128 ah al))
  | _, _ => False
def Pre_rootwide : List (List Int) → Prop
  | [[h, l], [m], [_, _]] => True
  | _ => False
def Post_rootwide : List (List Int) → List (List Int) → Prop
  | [[h, l], [m], [_, _]], [[x]] => isRoot (w128 h l) x
  | _, _ => False
def Inv_rootwide : List Int → List Int → Prop
  | [h, l, m], [x, i] => rootInv 64 (w128 h l) x i
  | _, _ => False
def Mea_rootwide : List Int → List Int → Nat
  | [h, l, m], [x, i] => (64 - i).toNat
  | _, _ => 0
def Pre_mkwide : List (List Int) → Prop
  | [] => True
  | _ => False
def Post_mkwide : List (List Int) → List (List Int) → Prop
  | [], _ => True
  | _, _ => False
def Pre_rootWide : List (List Int) → Prop
  | [[h, l]] => True
  | _ => False
def Post_rootWide : List (List Int) → List (List Int) → Prop
  | [[h, l]], [[x], [e]] => ((h < 0 → x = 0 ∧ e = 1) ∧ (0 ≤ h → e = 0 ∧ isRoot (w128 h l) x))
  | _, _ => False
def Pre_log : List (List Int) → Prop
  | [[n]] => True
  | _ => False
def Post_log : List (List Int) → List (List Int) → Prop
  | [[n]], [[k]] => ((n = 0 → k = -1) ∧ (0 < n → 0 ≤ k ∧ k ≤ 63 ∧ 2 ^ k.toNat ≤ n ∧ n < 2 * 2 ^ k.toNat))
  | _, _ => False
def Pre_rnum : List (List Int) → Prop
  | [[n]] => True
  | _ => False
def Post_rnum : List (List Int) → List (List Int) → Prop
  | [[n]], [r] => (r.getD 0 0 = 0 ∧ vd (r.drop 1) = n)
  | _, _ => False
def Pre_rroot : List (List Int) → Prop
  | [n] => (n.getD 0 0 = 0 ∧ vd (n.drop 1) < top8)
  | _ => False
def Post_rroot : List (List Int) → List (List Int) → Prop
  | [n], [[x]] => isRoot (vd (n.drop 1)) x
  | _, _ => False
def Inv_rroot : List Int → List Int → Prop
  | n, [a, b] => (a ≤ b ∧ a * a ≤ vd (n.drop 1) ∧ vd (n.drop 1) < (b + 1) * (b + 1))
  | _, _ => False
def Mea_rroot : List Int → List Int → Nat
  | n, [a, b] => (b - a).toNat
  | _, _ => 0
def Pre_rRootWide : List (List Int) → Prop
  | [[h, l]] => True
  | _ => False
def Post_rRootWide : List (List Int) → List (List Int) → Prop
  | [[h, l]], [[x], [e]] => ((h < 0 → x = 0 ∧ e = 1) ∧ (0 ≤ h → e = 0 ∧ isRoot (w128 h l) x))
  | _, _ => False
def Pre_made : List (List Int) → Prop
  | [] => True
  | _ => False
def Post_made : List (List Int) → List (List Int) → Prop
  | [], _ => True
  | _, _ => False
def Pre_crossed : List (List Int) → Prop
  | [[a], [b], [c], [d]] => (isI64 ((a * b + c * d) / 4611686018427387904) ∧ -half128 ≤ a * b + c * d ∧ a * b + c * d < half128)
  | _ => False
def Post_crossed : List (List Int) → List (List Int) → Prop
  | [[a], [b], [c], [d]], [[v]] => v = (a * b + c * d) / 4611686018427387904
  | _, _ => False
def Pre_pon : List (List Int) → Prop
  | [[x, y], [c, s]] => (nb x y 4611686018427387984 ∧ nb c s 4611686018427387904)
  | _ => False
def Post_pon : List (List Int) → List (List Int) → Prop
  | [[x, y], [c, s]], [[p, q]] => (p = onX x y c s ∧ q = onY x y c s)
  | _, _ => False
def Pre_pback : List (List Int) → Prop
  | [[x, y], [c, s]] => (nb x y 4611686018427387984 ∧ nb c s 4611686018427387904)
  | _ => False
def Post_pback : List (List Int) → List (List Int) → Prop
  | [[x, y], [c, s]], [[p, q]] => (p = bkX x y c s ∧ q = bkY x y c s)
  | _, _ => False
def Pre_quarters : List (List Int) → Prop
  | [[a]] => True
  | _ => False
def Post_quarters : List (List Int) → List (List Int) → Prop
  | [[a]], [[q], [l]] => (q = a / 5898240 % 4 ∧ l = a % 5898240 * 1099511627776 / 5898240)
  | _, _ => False
def Pre_anear : List (List Int) → Prop
  | [[n]] => True
  | _ => False
def Post_anear : List (List Int) → List (List Int) → Prop
  | [[n]], [[v]] => v = nearS n
  | _, _ => False
def Pre_direction : List (List Int) → Prop
  | [[a]] => True
  | _ => False
def Post_direction : List (List Int) → List (List Int) → Prop
  | [[a]], [[c], [s]] => (c = cosF a ∧ s = sinF a)
  | _, _ => False
def Inv_dir : List Int → List Int → Prop
  | [l], [i, x, y] => (x = (pn (i - 1).toNat (l / 2 ^ (41 - i).toNat)).1 ∧ y = (pn (i - 1).toNat (l / 2 ^ (41 - i).toNat)).2)
  | _, _ => False
def Mea_dir : List Int → List Int → Nat
  | [l], [i, x, y] => (41 - i).toNat
  | _, _ => 0
def Pre_asin : List (List Int) → Prop
  | [[a]] => True
  | _ => False
def Post_asin : List (List Int) → List (List Int) → Prop
  | [[a]], [[v]] => v = sinF a
  | _, _ => False
def Pre_acos : List (List Int) → Prop
  | [[a]] => True
  | _ => False
def Post_acos : List (List Int) → List (List Int) → Prop
  | [[a]], [[v]] => v = cosF a
  | _, _ => False
def Pre_afirst : List (List Int) → Prop
  | [[x], [y]] => (¬ (x = 0 ∧ y = 0) ∧ -2147483648 ≤ x ∧ x ≤ 2147483648 ∧ -2147483648 ≤ y ∧ y ≤ 2147483648)
  | _ => False
def Post_afirst : List (List Int) → List (List Int) → Prop
  | [[x], [y]], [[q], [a, b]] => (q = fQ y x ∧ a = fX y x ∧ b = fY y x)
  | _, _ => False
def Pre_atan : List (List Int) → Prop
  | [[y], [x]] => True
  | _ => False
def Post_atan : List (List Int) → List (List Int) → Prop
  | [[y], [x]], [[v], [e]] => ((x = 0 ∧ y = 0 → v = 0 ∧ e = 12) ∧ (¬ (x = 0 ∧ y = 0) → e = 0 ∧ v = atF y x))
  | _, _ => False
def Inv_atn : List Int → List Int → Prop
  | [q, a, b], [i, o, x, y] => (o = q * 2 ^ (i - 1).toNat + (bk a b (i - 1).toNat).2.2 ∧ x = (bk a b (i - 1).toNat).1 ∧ y = (bk a b (i - 1).toNat).2.1)
  | _, _ => False
def Mea_atn : List Int → List Int → Nat
  | [q, a, b], [i, o, x, y] => (41 - i).toNat
  | _, _ => 0
def Pre_leads : List (List Int) → Prop
  | [[y], [x], [w]] => ¬ (x = 0 ∧ y = 0)
  | _ => False
def Post_leads : List (List Int) → List (List Int) → Prop
  | [[y], [x], [w]], [[t]] => (t = 1 ↔ atF y x = w)
  | _, _ => False
def Pre_lives : List (List Int) → Prop
  | [] => True
  | _ => False
def Post_lives : List (List Int) → List (List Int) → Prop
  | [], [[t]] => t = 1
  | _, _ => False
def Pre_rt5 : List (List Int) → Prop
  | [[a], [b]] => True
  | _ => False
def Post_rt5 : List (List Int) → List (List Int) → Prop
  | [[a], [b]], [r] => (sv r = a * b ∧ vd (r.drop 1) ≤ 85070591730234615865843651857942052864)
  | _, _ => False
def Pre_rfl5 : List (List Int) → Prop
  | [a] => (-42535295865117307932921825928971026432 ≤ sv a ∧ sv a < 42535295865117307932921825928971026432)
  | _ => False
def Post_rfl5 : List (List Int) → List (List Int) → Prop
  | [a], [[v]] => v = sv a / 4611686018427387904
  | _, _ => False
def Pre_ron : List (List Int) → Prop
  | [[x, y], [c, s]] => (nb x y 4611686018427387984 ∧ nb c s 4611686018427387904)
  | _ => False
def Post_ron : List (List Int) → List (List Int) → Prop
  | [[x, y], [c, s]], [[p, q]] => (p = onX x y c s ∧ q = onY x y c s)
  | _, _ => False
def Pre_rback : List (List Int) → Prop
  | [[x, y], [c, s]] => (nb x y 4611686018427387984 ∧ nb c s 4611686018427387904)
  | _ => False
def Post_rback : List (List Int) → List (List Int) → Prop
  | [[x, y], [c, s]], [[p, q]] => (p = bkX x y c s ∧ q = bkY x y c s)
  | _, _ => False
def Pre_rnr5 : List (List Int) → Prop
  | [[n]] => True
  | _ => False
def Post_rnr5 : List (List Int) → List (List Int) → Prop
  | [[n]], [[v]] => v = nearS n
  | _, _ => False
def Pre_tround : List (List Int) → Prop
  | [[x, y]] => True
  | _ => False
def Post_tround : List (List Int) → List (List Int) → Prop
  | [[x, y]], [[c, l]] => (isRoot ((4611686018427387904 + x) * 2305843009213693952) c ∧ l = y * 2305843009213693952 / c)
  | _, _ => False
def Pre_tnext : List (List Int) → Prop
  | [[i]] => True
  | _ => False
def Post_tnext : List (List Int) → List (List Int) → Prop
  | [[i]], [[j]] => j = i + 1
  | _, _ => False
def Pre_rboth : List (List Int) → Prop
  | [[a]] => True
  | _ => False
def Post_rboth : List (List Int) → List (List Int) → Prop
  | [[a]], [[c], [s]] => (c = cosF a ∧ s = sinF a)
  | _, _ => False
def Inv_bt0 : List Int → List Int → Prop
  | [a], [r] => ((r - a) % 23592960 = 0 ∧ r ≤ max a 23592959)
  | _, _ => False
def Mea_bt0 : List Int → List Int → Nat
  | [a], [r] => (-r).toNat
  | _, _ => 0
def Inv_bt1 : List Int → List Int → Prop
  | [a], [r, q] => (r + 5898240 * q = a)
  | _, _ => False
def Mea_bt1 : List Int → List Int → Nat
  | [a], [r, q] => r.toNat
  | _, _ => 0
def Inv_bt2 : List Int → List Int → Prop
  | [r0], [i, r, x, y] => (r = r0 * 2 ^ (i - 1).toNat % 5898240 ∧ x = (pn (i - 1).toNat (r0 * 2 ^ (i - 1).toNat / 5898240)).1 ∧ y = (pn (i - 1).toNat (r0 * 2 ^ (i - 1).toNat / 5898240)).2)
  | _, _ => False
def Mea_bt2 : List Int → List Int → Nat
  | [r0], [i, r, x, y] => (41 - i).toNat
  | _, _ => 0
def Pre_rsin : List (List Int) → Prop
  | [[a]] => True
  | _ => False
def Post_rsin : List (List Int) → List (List Int) → Prop
  | [[a]], [[v]] => v = sinF a
  | _, _ => False
def Pre_rcos : List (List Int) → Prop
  | [[a]] => True
  | _ => False
def Post_rcos : List (List Int) → List (List Int) → Prop
  | [[a]], [[v]] => v = cosF a
  | _, _ => False
def Pre_ratan : List (List Int) → Prop
  | [[y], [x]] => True
  | _ => False
def Post_ratan : List (List Int) → List (List Int) → Prop
  | [[y], [x]], [[v], [e]] => ((x = 0 ∧ y = 0 → v = 0 ∧ e = 12) ∧ (¬ (x = 0 ∧ y = 0) → e = 0 ∧ v = atF y x))
  | _, _ => False
def Inv_at1 : List Int → List Int → Prop
  | [u0, v0], [u, v] => (∃ k : Nat, k ≤ upN (max u0 v0) ∧ u = u0 * 2 ^ k ∧ v = v0 * 2 ^ k)
  | _, _ => False
def Mea_at1 : List Int → List Int → Nat
  | [u0, v0], [u, v] => (2305843009213693952 - max u v).toNat
  | _, _ => 0
def Inv_at2 : List Int → List Int → Prop
  | [q, a, b], [i, o, x, y] => (o = q * 2 ^ (i - 1).toNat + (bk a b (i - 1).toNat).2.2 ∧ x = (bk a b (i - 1).toNat).1 ∧ y = (bk a b (i - 1).toNat).2.1)
  | _, _ => False
def Mea_at2 : List Int → List Int → Nat
  | [q, a, b], [i, o, x, y] => (41 - i).toNat
  | _, _ => 0
def Pre_lof : List (List Int) → Prop
  | [[a], [y], [x]] => True
  | _ => False
def Post_lof : List (List Int) → List (List Int) → Prop
  | [[a], [y], [x]], [[t]] => t = 1
  | _, _ => False
def E : Ctx where
  pre f a := if Nat.beq f 26 = true then Pre_len64 a else if Nat.beq f 27 = true then Pre_mul64 a else if Nat.beq f 63 = true then Pre_compare a else if Nat.beq f 62 = true then Pre_plus a else if Nat.beq f 64 = true then Pre_less a else if Nat.beq f 65 = true then Pre_product a else if Nat.beq f 42 = true then Pre_read a else if Nat.beq f 40 = true then Pre_minus a else if Nat.beq f 34 = true then Pre_sum a else if Nat.beq f 77 = true then Pre_above a else if Nat.beq f 70 = true then Pre_cmpi64 a else if Nat.beq f 71 = true then Pre_cmpu64 a else if Nat.beq f 52 = true then Pre_wcmp a else if Nat.beq f 32 = true then Pre_wof a else if Nat.beq f 81 = true then Pre_lz64 a else if Nat.beq f 75 = true then Pre_div64 a else if Nat.beq f 74 = true then Pre_turned a else if Nat.beq f 55 = true then Pre_part a else if Nat.beq f 57 = true then Pre_whole a else if Nat.beq f 60 = true then Pre_wtimes a else if Nat.beq f 61 = true then Pre_size a else if Nat.beq f 31 = true then Pre_wadd a else if Nat.beq f 58 = true then Pre_wsub a else if Nat.beq f 33 = true then Pre_wtms a else if Nat.beq f 16 = true then Pre_wmul a else if Nat.beq f 56 = true then Pre_wdivided a else if Nat.beq f 29 = true then Pre_wfloor a else if Nat.beq f 15 = true then Pre_wnear a else if Nat.beq f 17 = true then Pre_wint a else if Nat.beq f 66 = true then Pre_zero a else if Nat.beq f 45 = true then Pre_rof a else if Nat.beq f 43 = true then Pre_small a else if Nat.beq f 36 = true then Pre_tell a else if Nat.beq f 68 = true then Pre_divided a else if Nat.beq f 41 = true then Pre_nearest a else if Nat.beq f 46 = true then Pre_rcmp a else if Nat.beq f 22 = true then Pre_rint a else if Nat.beq f 44 = true then Pre_rtms a else if Nat.beq f 21 = true then Pre_rmul a else if Nat.beq f 38 = true then Pre_rfloor a else if Nat.beq f 20 = true then Pre_rnear a else if Nat.beq f 72 = true then Pre_wide1 a else if Nat.beq f 73 = true then Pre_wide2 a else if Nat.beq f 53 = true then Pre_rootwide a else if Nat.beq f 54 = true then Pre_mkwide a else if Nat.beq f 28 = true then Pre_rootWide a else if Nat.beq f 12 = true then Pre_log a else if Nat.beq f 78 = true then Pre_rnum a else if Nat.beq f 67 = true then Pre_rroot a else if Nat.beq f 37 = true then Pre_rRootWide a else if Nat.beq f 13 = true then Pre_made a else if Nat.beq f 30 = true then Pre_crossed a else if Nat.beq f 48 = true then Pre_pon a else if Nat.beq f 14 = true then Pre_pback a else if Nat.beq f 47 = true then Pre_quarters a else if Nat.beq f 49 = true then Pre_anear a else if Nat.beq f 23 = true then Pre_direction a else if Nat.beq f 6 = true then Pre_asin a else if Nat.beq f 8 = true then Pre_acos a else if Nat.beq f 11 = true then Pre_afirst a else if Nat.beq f 4 = true then Pre_atan a else if Nat.beq f 25 = true then Pre_leads a else if Nat.beq f 10 = true then Pre_lives a else if Nat.beq f 35 = true then Pre_rt5 a else if Nat.beq f 39 = true then Pre_rfl5 a else if Nat.beq f 50 = true then Pre_ron a else if Nat.beq f 19 = true then Pre_rback a else if Nat.beq f 51 = true then Pre_rnr5 a else if Nat.beq f 9001 = true then Pre_tround a else if Nat.beq f 9002 = true then Pre_tnext a else if Nat.beq f 24 = true then Pre_rboth a else if Nat.beq f 7 = true then Pre_rsin a else if Nat.beq f 9 = true then Pre_rcos a else if Nat.beq f 5 = true then Pre_ratan a else if Nat.beq f 3 = true then Pre_lof a else False
  post f a r := if Nat.beq f 26 = true then Post_len64 a r else if Nat.beq f 27 = true then Post_mul64 a r else if Nat.beq f 63 = true then Post_compare a r else if Nat.beq f 62 = true then Post_plus a r else if Nat.beq f 64 = true then Post_less a r else if Nat.beq f 65 = true then Post_product a r else if Nat.beq f 42 = true then Post_read a r else if Nat.beq f 40 = true then Post_minus a r else if Nat.beq f 34 = true then Post_sum a r else if Nat.beq f 77 = true then Post_above a r else if Nat.beq f 70 = true then Post_cmpi64 a r else if Nat.beq f 71 = true then Post_cmpu64 a r else if Nat.beq f 52 = true then Post_wcmp a r else if Nat.beq f 32 = true then Post_wof a r else if Nat.beq f 81 = true then Post_lz64 a r else if Nat.beq f 75 = true then Post_div64 a r else if Nat.beq f 74 = true then Post_turned a r else if Nat.beq f 55 = true then Post_part a r else if Nat.beq f 57 = true then Post_whole a r else if Nat.beq f 60 = true then Post_wtimes a r else if Nat.beq f 61 = true then Post_size a r else if Nat.beq f 31 = true then Post_wadd a r else if Nat.beq f 58 = true then Post_wsub a r else if Nat.beq f 33 = true then Post_wtms a r else if Nat.beq f 16 = true then Post_wmul a r else if Nat.beq f 56 = true then Post_wdivided a r else if Nat.beq f 29 = true then Post_wfloor a r else if Nat.beq f 15 = true then Post_wnear a r else if Nat.beq f 17 = true then Post_wint a r else if Nat.beq f 66 = true then Post_zero a r else if Nat.beq f 45 = true then Post_rof a r else if Nat.beq f 43 = true then Post_small a r else if Nat.beq f 36 = true then Post_tell a r else if Nat.beq f 68 = true then Post_divided a r else if Nat.beq f 41 = true then Post_nearest a r else if Nat.beq f 46 = true then Post_rcmp a r else if Nat.beq f 22 = true then Post_rint a r else if Nat.beq f 44 = true then Post_rtms a r else if Nat.beq f 21 = true then Post_rmul a r else if Nat.beq f 38 = true then Post_rfloor a r else if Nat.beq f 20 = true then Post_rnear a r else if Nat.beq f 72 = true then Post_wide1 a r else if Nat.beq f 73 = true then Post_wide2 a r else if Nat.beq f 53 = true then Post_rootwide a r else if Nat.beq f 54 = true then Post_mkwide a r else if Nat.beq f 28 = true then Post_rootWide a r else if Nat.beq f 12 = true then Post_log a r else if Nat.beq f 78 = true then Post_rnum a r else if Nat.beq f 67 = true then Post_rroot a r else if Nat.beq f 37 = true then Post_rRootWide a r else if Nat.beq f 13 = true then Post_made a r else if Nat.beq f 30 = true then Post_crossed a r else if Nat.beq f 48 = true then Post_pon a r else if Nat.beq f 14 = true then Post_pback a r else if Nat.beq f 47 = true then Post_quarters a r else if Nat.beq f 49 = true then Post_anear a r else if Nat.beq f 23 = true then Post_direction a r else if Nat.beq f 6 = true then Post_asin a r else if Nat.beq f 8 = true then Post_acos a r else if Nat.beq f 11 = true then Post_afirst a r else if Nat.beq f 4 = true then Post_atan a r else if Nat.beq f 25 = true then Post_leads a r else if Nat.beq f 10 = true then Post_lives a r else if Nat.beq f 35 = true then Post_rt5 a r else if Nat.beq f 39 = true then Post_rfl5 a r else if Nat.beq f 50 = true then Post_ron a r else if Nat.beq f 19 = true then Post_rback a r else if Nat.beq f 51 = true then Post_rnr5 a r else if Nat.beq f 9001 = true then Post_tround a r else if Nat.beq f 9002 = true then Post_tnext a r else if Nat.beq f 24 = true then Post_rboth a r else if Nat.beq f 7 = true then Post_rsin a r else if Nat.beq f 9 = true then Post_rcos a r else if Nat.beq f 5 = true then Post_ratan a r else if Nat.beq f 3 = true then Post_lof a r else False
  inv l a r := if Nat.beq l 0 = true then Inv_less a r else if Nat.beq l 1 = true then Inv_prodo a r else if Nat.beq l 2 = true then Inv_prodi a r else if Nat.beq l 3 = true then Inv_dv1 a r else if Nat.beq l 4 = true then Inv_dv2 a r else if Nat.beq l 5 = true then Inv_divided a r else if Nat.beq l 6 = true then Inv_rootwide a r else if Nat.beq l 7 = true then Inv_rroot a r else if Nat.beq l 8 = true then Inv_dir a r else if Nat.beq l 9 = true then Inv_atn a r else if Nat.beq l 10 = true then Inv_bt0 a r else if Nat.beq l 11 = true then Inv_bt1 a r else if Nat.beq l 12 = true then Inv_bt2 a r else if Nat.beq l 13 = true then Inv_at1 a r else if Nat.beq l 14 = true then Inv_at2 a r else False
  mea l a r := if Nat.beq l 0 = true then Mea_less a r else if Nat.beq l 1 = true then Mea_prodo a r else if Nat.beq l 2 = true then Mea_prodi a r else if Nat.beq l 3 = true then Mea_dv1 a r else if Nat.beq l 4 = true then Mea_dv2 a r else if Nat.beq l 5 = true then Mea_divided a r else if Nat.beq l 6 = true then Mea_rootwide a r else if Nat.beq l 7 = true then Mea_rroot a r else if Nat.beq l 8 = true then Mea_dir a r else if Nat.beq l 9 = true then Mea_atn a r else if Nat.beq l 10 = true then Mea_bt0 a r else if Nat.beq l 11 = true then Mea_bt1 a r else if Nat.beq l 12 = true then Mea_bt2 a r else if Nat.beq l 13 = true then Mea_at1 a r else if Nat.beq l 14 = true then Mea_at2 a r else 0
def anns0 : List (FuncId × Nat × Ann) := [(64, 2, { l := 0, slots := [(5, ir 0 12)], blks := [(0, List.replicate 12 (ir (-1) 65535))], fro := [0, 1] }), (65, 3, { l := 1, slots := [(6, ir 0 12)], blks := [(3, dg12)], fro := [0, 1] }), (65, 7, { l := 2, slots := [(7, ir 0 65535), (8, ir 0 12)], blks := [(3, dg12)], fro := [6, 0, 1] }), (75, 17, { l := 3, slots := [(15, u64), (16, u64)], blks := [], fro := [11, 9, 10, 13] }), (75, 24, { l := 4, slots := [(18, u64), (16, u64)], blks := [], fro := [17, 9, 10, 14] }), (68, 3, { l := 5, slots := [(8, ir (-1) 191)], blks := [(4, dg12), (5, dg12)], fro := [2, 3] }), (53, 2, { l := 6, slots := [(6, u64), (10, ir 0 64)], blks := [], fro := [0, 9] }), (67, 3, { l := 7, slots := [(3, u64), (4, u64)], blks := [], fro := [0] }), (23, 5, { l := 8, slots := [(9, ir 1 41)], blks := [(0, [ir (-4611686018427387984) 4611686018427387984, ir (-4611686018427387984) 4611686018427387984])], fro := [5] }), (4, 9, { l := 9, slots := [(12, ir 1 41), (10, ir 0 4398046511104)], blks := [(0, [ir (-4611686018427387984) 4611686018427387984, ir (-4611686018427387984) 4611686018427387984])], fro := [6, 7] }), (24, 3, { l := 10, slots := [(5, ir (-2147483648) 2147483647)], blks := [], fro := [5] }), (24, 5, { l := 11, slots := [(5, ir 0 2147483647), (4, ir 0 400)], blks := [], fro := [5] }), (24, 11, { l := 12, slots := [(8, ir 1 41), (5, ir 0 5898239)], blks := [(1, [ir (-4611686018427387984) 4611686018427387984, ir (-4611686018427387984) 4611686018427387984])], fro := [5] }), (5, 19, { l := 13, slots := [(6, ir 0 2305843009213693952), (7, ir 0 2305843009213693952)], blks := [], fro := [6, 7] }), (5, 26, { l := 14, slots := [(12, ir 1 41), (11, ir 0 4398046511104)], blks := [(1, [ir (-4611686018427387984) 4611686018427387984, ir (-4611686018427387984) 4611686018427387984])], fro := [11, 6, 7] })]
def tab0 : Tab := { cons := [], exts := [(59, true), (76, false)], anns := anns0 }
def ash_len64 : List ShA := [.s u64]
def sh_len64 : ShV := .a (.s (ir 0 64))
def tab1 : Tab := { tab0 with cons := (26, ash_len64, sh_len64) :: tab0.cons }
def ash_mul64 : List ShA := [.s u64, .s u64]
def sh_mul64 : ShV := .tup [.s u64, .s u64]
def tab2 : Tab := { tab1 with cons := (27, ash_mul64, sh_mul64) :: tab1.cons }
def ash_compare : List ShA := [.agg dg12, .agg dg12]
def sh_compare : ShV := .a (.s (ir (-1) 1))
def tab3 : Tab := { tab2 with cons := (63, ash_compare, sh_compare) :: tab2.cons }
def ash_plus : List ShA := [.agg dg12, .agg dg12]
def sh_plus : ShV := .a (.agg dg12)
def tab4 : Tab := { tab3 with cons := (62, ash_plus, sh_plus) :: tab3.cons }
def ash_less : List ShA := [.agg dg12, .agg dg12]
def sh_less : ShV := .a (.agg dg12)
def tab5 : Tab := { tab4 with cons := (64, ash_less, sh_less) :: tab4.cons }
def ash_product : List ShA := [numS, numS]
def sh_product : ShV := .a numS
def tab6 : Tab := { tab5 with cons := (65, ash_product, sh_product) :: tab5.cons }
def ash_read : List ShA := [.agg [i64, u64]]
def sh_read : ShV := .a numS
def tab7 : Tab := { tab6 with cons := (42, ash_read, sh_read) :: tab6.cons }
def ash_minus : List ShA := [numS]
def sh_minus : ShV := .a numS
def tab8 : Tab := { tab7 with cons := (40, ash_minus, sh_minus) :: tab7.cons }
def ash_sum : List ShA := [numS, numS]
def sh_sum : ShV := .a numS
def tab9 : Tab := { tab8 with cons := (34, ash_sum, sh_sum) :: tab8.cons }
def ash_above : List ShA := [numS, numS]
def sh_above : ShV := .a (.s .bool)
def tab10 : Tab := { tab9 with cons := (77, ash_above, sh_above) :: tab9.cons }
def ash_cmpi64 : List ShA := [.s i64, .s i64]
def sh_cmpi64 : ShV := .a (.s (ir (-1) 1))
def tab11 : Tab := { tab10 with cons := (70, ash_cmpi64, sh_cmpi64) :: tab10.cons }
def ash_cmpu64 : List ShA := [.s u64, .s u64]
def sh_cmpu64 : ShV := .a (.s (ir (-1) 1))
def tab12 : Tab := { tab11 with cons := (71, ash_cmpu64, sh_cmpu64) :: tab11.cons }
def ash_wcmp : List ShA := [.agg [i64, u64], .agg [i64, u64]]
def sh_wcmp : ShV := .a (.s (ir (-1) 1))
def tab13 : Tab := { tab12 with cons := (52, ash_wcmp, sh_wcmp) :: tab12.cons }
def ash_wof : List ShA := [.s i64]
def sh_wof : ShV := .a (.agg [i64, u64])
def tab14 : Tab := { tab13 with cons := (32, ash_wof, sh_wof) :: tab13.cons }
def ash_lz64 : List ShA := [.s u64]
def sh_lz64 : ShV := .a (.s (ir 0 64))
def tab15 : Tab := { tab14 with cons := (81, ash_lz64, sh_lz64) :: tab14.cons }
def ash_div64 : List ShA := [.s u64, .s u64, .s u64]
def sh_div64 : ShV := .tup [.s u64, .s u64]
def tab16 : Tab := { tab15 with cons := (75, ash_div64, sh_div64) :: tab15.cons }
def ash_turned : List ShA := [.agg [u64, u64, u64]]
def sh_turned : ShV := .a (.agg [u64, u64, u64])
def tab17 : Tab := { tab16 with cons := (74, ash_turned, sh_turned) :: tab16.cons }
def ash_part : List ShA := [.agg [i64, u64]]
def sh_part : ShV := .a (.agg [.bool, u64, u64, u64])
def tab18 : Tab := { tab17 with cons := (55, ash_part, sh_part) :: tab17.cons }
def ash_whole : List ShA := [.agg [.bool, u64, u64, u64]]
def sh_whole : ShV := .tup [.agg [i64, u64], .s (ir 0 11)]
def tab19 : Tab := { tab18 with cons := (57, ash_whole, sh_whole) :: tab18.cons }
def ash_wtimes : List ShA := [.agg [u64, u64, u64], .s u64]
def sh_wtimes : ShV := .a (.agg [u64, u64, u64])
def tab20 : Tab := { tab19 with cons := (60, ash_wtimes, sh_wtimes) :: tab19.cons }
def ash_size : List ShA := [.s i64]
def sh_size : ShV := .a (.s u64)
def tab21 : Tab := { tab20 with cons := (61, ash_size, sh_size) :: tab20.cons }
def ash_wadd : List ShA := [.agg [i64, u64], .agg [i64, u64]]
def sh_wadd : ShV := .tup [.agg [i64, u64], .s (ir 0 11)]
def tab22 : Tab := { tab21 with cons := (31, ash_wadd, sh_wadd) :: tab21.cons }
def ash_wsub : List ShA := [.agg [i64, u64], .agg [i64, u64]]
def sh_wsub : ShV := .tup [.agg [i64, u64], .s (ir 0 11)]
def tab23 : Tab := { tab22 with cons := (58, ash_wsub, sh_wsub) :: tab22.cons }
def ash_wtms : List ShA := [.agg [i64, u64], .s i64]
def sh_wtms : ShV := .tup [.agg [i64, u64], .s (ir 0 11)]
def tab24 : Tab := { tab23 with cons := (33, ash_wtms, sh_wtms) :: tab23.cons }
def ash_wmul : List ShA := [.s i64, .s i64]
def sh_wmul : ShV := .a (.agg [i64, u64])
def tab25 : Tab := { tab24 with cons := (16, ash_wmul, sh_wmul) :: tab24.cons }
def ash_wdivided : List ShA := [.agg [u64, u64, u64], .s u64]
def sh_wdivided : ShV := .tup [.agg [u64, u64, u64], .s u64]
def tab26 : Tab := { tab25 with cons := (56, ash_wdivided, sh_wdivided) :: tab25.cons }
def ash_wfloor : List ShA := [.agg [i64, u64], .s i64]
def sh_wfloor : ShV := .tup [.agg [i64, u64], .s i64, .s (ir 0 11)]
def tab27 : Tab := { tab26 with cons := (29, ash_wfloor, sh_wfloor) :: tab26.cons }
def ash_wnear : List ShA := [.agg [i64, u64], .s i64]
def sh_wnear : ShV := .tup [.agg [i64, u64], .s (ir 0 11)]
def tab28 : Tab := { tab27 with cons := (15, ash_wnear, sh_wnear) :: tab27.cons }
def ash_wint : List ShA := [.agg [i64, u64]]
def sh_wint : ShV := .tup [.s i64, .s .bool]
def tab29 : Tab := { tab28 with cons := (17, ash_wint, sh_wint) :: tab28.cons }
def ash_zero : List ShA := [numS]
def sh_zero : ShV := .a (.s .bool)
def tab30 : Tab := { tab29 with cons := (66, ash_zero, sh_zero) :: tab29.cons }
def ash_rof : List ShA := [.s i64]
def sh_rof : ShV := .a (.agg [i64, u64])
def tab31 : Tab := { tab30 with cons := (45, ash_rof, sh_rof) :: tab30.cons }
def ash_small : List ShA := [.s i64]
def sh_small : ShV := .a numS
def tab32 : Tab := { tab31 with cons := (43, ash_small, sh_small) :: tab31.cons }
def ash_tell : List ShA := [numS]
def sh_tell : ShV := .tup [.agg [i64, u64], .s (ir 0 11)]
def tab33 : Tab := { tab32 with cons := (36, ash_tell, sh_tell) :: tab32.cons }
def ash_divided : List ShA := [.agg dg12, .agg dg12]
def sh_divided : ShV := .tup [.agg dg12, .agg dg12]
def tab34 : Tab := { tab33 with cons := (68, ash_divided, sh_divided) :: tab33.cons }
def ash_nearest : List ShA := [numS, numS]
def sh_nearest : ShV := .a numS
def tab35 : Tab := { tab34 with cons := (41, ash_nearest, sh_nearest) :: tab34.cons }
def ash_rcmp : List ShA := [.agg [i64, u64], .agg [i64, u64]]
def sh_rcmp : ShV := .a (.s (ir (-1) 1))
def tab36 : Tab := { tab35 with cons := (46, ash_rcmp, sh_rcmp) :: tab35.cons }
def ash_rint : List ShA := [.agg [i64, u64]]
def sh_rint : ShV := .tup [.s i64, .s .bool]
def tab37 : Tab := { tab36 with cons := (22, ash_rint, sh_rint) :: tab36.cons }
def ash_rtms : List ShA := [.agg [i64, u64], .s i64]
def sh_rtms : ShV := .tup [.agg [i64, u64], .s (ir 0 11)]
def tab38 : Tab := { tab37 with cons := (44, ash_rtms, sh_rtms) :: tab37.cons }
def ash_rmul : List ShA := [.s i64, .s i64]
def sh_rmul : ShV := .a (.agg [i64, u64])
def tab39 : Tab := { tab38 with cons := (21, ash_rmul, sh_rmul) :: tab38.cons }
def ash_rfloor : List ShA := [.agg [i64, u64], .s i64]
def sh_rfloor : ShV := .tup [.agg [i64, u64], .s i64, .s (ir 0 11)]
def tab40 : Tab := { tab39 with cons := (38, ash_rfloor, sh_rfloor) :: tab39.cons }
def ash_rnear : List ShA := [.agg [i64, u64], .s i64]
def sh_rnear : ShV := .tup [.agg [i64, u64], .s (ir 0 11)]
def tab41 : Tab := { tab40 with cons := (20, ash_rnear, sh_rnear) :: tab40.cons }
def ash_wide1 : List ShA := [.s u64]
def sh_wide1 : ShV := .a (.agg [u64, u64])
def tab42 : Tab := { tab41 with cons := (72, ash_wide1, sh_wide1) :: tab41.cons }
def ash_wide2 : List ShA := [.agg [u64, u64], .agg [u64, u64]]
def sh_wide2 : ShV := .a (.s .bool)
def tab43 : Tab := { tab42 with cons := (73, ash_wide2, sh_wide2) :: tab42.cons }
def ash_rootwide : List ShA := [.agg [u64, u64], .s (ir 64 64), .agg [.fn 72, .fn 73]]
def sh_rootwide : ShV := .a (.s u64)
def tab44 : Tab := { tab43 with cons := (53, ash_rootwide, sh_rootwide) :: tab43.cons }
def ash_mkwide : List ShA := []
def sh_mkwide : ShV := .a (.agg [.fn 72, .fn 73])
def tab45 : Tab := { tab44 with cons := (54, ash_mkwide, sh_mkwide) :: tab44.cons }
def ash_rootWide : List ShA := [.agg [i64, u64]]
def sh_rootWide : ShV := .tup [.s u64, .s i64]
def tab46 : Tab := { tab45 with cons := (28, ash_rootWide, sh_rootWide) :: tab45.cons }
def ash_log : List ShA := [.s u64]
def sh_log : ShV := .a (.s i64)
def tab47 : Tab := { tab46 with cons := (12, ash_log, sh_log) :: tab46.cons }
def ash_rnum : List ShA := [.s u64]
def sh_rnum : ShV := .a numS
def tab48 : Tab := { tab47 with cons := (78, ash_rnum, sh_rnum) :: tab47.cons }
def ash_rroot : List ShA := [numS]
def sh_rroot : ShV := .a (.s u64)
def tab49 : Tab := { tab48 with cons := (67, ash_rroot, sh_rroot) :: tab48.cons }
def ash_rRootWide : List ShA := [.agg [i64, u64]]
def sh_rRootWide : ShV := .tup [.s u64, .s i64]
def tab50 : Tab := { tab49 with cons := (37, ash_rRootWide, sh_rRootWide) :: tab49.cons }
def ash_made : List ShA := []
def sh_made : ShV := .a (.agg tabS)
def tab51 : Tab := { tab50 with cons := (13, ash_made, sh_made) :: tab50.cons }
def ash_crossed : List ShA := [.s i64, .s i64, .s i64, .s i64]
def sh_crossed : ShV := .a (.s i64)
def tab52 : Tab := { tab51 with cons := (30, ash_crossed, sh_crossed) :: tab51.cons }
def ash_pon : List ShA := [.agg [i64, i64], .agg [i64, i64]]
def sh_pon : ShV := .a (.agg [i64, i64])
def tab53 : Tab := { tab52 with cons := (48, ash_pon, sh_pon) :: tab52.cons }
def ash_pback : List ShA := [.agg [i64, i64], .agg [i64, i64]]
def sh_pback : ShV := .a (.agg [i64, i64])
def tab54 : Tab := { tab53 with cons := (14, ash_pback, sh_pback) :: tab53.cons }
def ash_quarters : List ShA := [.s i32]
def sh_quarters : ShV := .tup [.s (ir 0 3), .s (.int .u64 0 1099511627775)]
def tab55 : Tab := { tab54 with cons := (47, ash_quarters, sh_quarters) :: tab54.cons }
def ash_anear : List ShA := [.s (ir (-4611686018427387984) 4611686018427387984)]
def sh_anear : ShV := .a (.s (s32 (-65537) 65537))
def tab56 : Tab := { tab55 with cons := (49, ash_anear, sh_anear) :: tab55.cons }
def ash_direction : List ShA := [.s i32]
def sh_direction : ShV := .tup [.s (s32 (-65536) 65536), .s (s32 (-65536) 65536)]
def tab57 : Tab := { tab56 with cons := (23, ash_direction, sh_direction) :: tab56.cons }
def ash_asin : List ShA := [.s i32]
def sh_asin : ShV := .a (.s (s32 (-65536) 65536))
def tab58 : Tab := { tab57 with cons := (6, ash_asin, sh_asin) :: tab57.cons }
def ash_acos : List ShA := [.s i32]
def sh_acos : ShV := .a (.s (s32 (-65536) 65536))
def tab59 : Tab := { tab58 with cons := (8, ash_acos, sh_acos) :: tab58.cons }
def ash_afirst : List ShA := [.s i64, .s i64]
def sh_afirst : ShV := .tup [.s (ir 0 3), .agg [ir 1 2147483648, ir 0 2147483648]]
def tab60 : Tab := { tab59 with cons := (11, ash_afirst, sh_afirst) :: tab59.cons }
def ash_atan : List ShA := [.s i32, .s i32]
def sh_atan : ShV := .tup [.s (s32 0 23592959), .s (ir 0 15)]
def tab61 : Tab := { tab60 with cons := (4, ash_atan, sh_atan) :: tab60.cons }
def ash_leads : List ShA := [.s i32, .s i32, .s i32]
def sh_leads : ShV := .a (.s .bool)
def tab62 : Tab := { tab61 with cons := (25, ash_leads, sh_leads) :: tab61.cons }
def ash_lives : List ShA := []
def sh_lives : ShV := .a (.s .bool)
def tab63 : Tab := { tab62 with cons := (10, ash_lives, sh_lives) :: tab62.cons }
def ash_rt5 : List ShA := [.s i64, .s i64]
def sh_rt5 : ShV := .a numS
def tab64 : Tab := { tab63 with cons := (35, ash_rt5, sh_rt5) :: tab63.cons }
def ash_rfl5 : List ShA := [numS]
def sh_rfl5 : ShV := .a (.s i64)
def tab65 : Tab := { tab64 with cons := (39, ash_rfl5, sh_rfl5) :: tab64.cons }
def ash_ron : List ShA := [.agg [i64, i64], .agg [i64, i64]]
def sh_ron : ShV := .a (.agg [i64, i64])
def tab66 : Tab := { tab65 with cons := (50, ash_ron, sh_ron) :: tab65.cons }
def ash_rback : List ShA := [.agg [i64, i64], .agg [i64, i64]]
def sh_rback : ShV := .a (.agg [i64, i64])
def tab67 : Tab := { tab66 with cons := (19, ash_rback, sh_rback) :: tab66.cons }
def ash_rnr5 : List ShA := [.s (ir (-4611686018427387984) 4611686018427387984)]
def sh_rnr5 : ShV := .a (.s (s32 (-65537) 65537))
def tab68 : Tab := { tab67 with cons := (51, ash_rnr5, sh_rnr5) :: tab67.cons }
def T_tround (P : Program) (tab : Tab) (k : Nat) (vs : List Value) (g cap : Nat) : T :=
  .all 0 4611686018427387904 fun x => .all 0 4611686018427387904 fun y => .given 9001 [xyA x y] (symSeq P tab 2000 18 [sL (tuC P)]
    (hdT 63 vs [(1, .a (.s (.sl 0 g 0 (k + 1) cap))), (2, .a (.s (.int .i64 (.lit k))))]) [⟨g, (tuCells.take (2 * k)).map litS ++ [.int .i64 (.v x 0 4611686018427387904), .int .i64 (.v y 0 4611686018427387904)], 0, false, false⟩] fun tmps mem =>
    symSeq P tab 2000 18 (tuMids P) tmps mem fun tmps mem => symOps P tab (symFn P (symCode P tab 2000)) (fun _ => .all) (tuA P) (List.range 8) tmps mem fun tmps mem => endT 9001 [xyA x y] [.i64, .i64] 60 tmps mem)
def T_tnext (P : Program) (tab : Tab) (k : Nat) (vs : List Value) : T :=
  .all 0 39 fun i => .given 9002 [.s (.int .i64 (.v i 0 39))] (symSeq P tab 2000 18 [sR (sR (tuC P))] (hdT 63 vs [(2, .a (.s (.int .i64 (.v i 0 39))))]) [] fun tmps mem => endN 9002 [.s (.int .i64 (.v i 0 39))] .i64 2 tmps)
def new_turns : New := { args := [], cells := tuCells, len := 41 }
def tab69 : Tab := { tab68 with news := (18, new_turns) :: tab68.news }
def ash_rboth : List ShA := [.s i32]
def sh_rboth : ShV := .tup [.s (s32 (-65536) 65536), .s (s32 (-65536) 65536)]
def tab70 : Tab := { tab69 with cons := (24, ash_rboth, sh_rboth) :: tab69.cons }
def ash_rsin : List ShA := [.s i32]
def sh_rsin : ShV := .a (.s (s32 (-65536) 65536))
def tab71 : Tab := { tab70 with cons := (7, ash_rsin, sh_rsin) :: tab70.cons }
def ash_rcos : List ShA := [.s i32]
def sh_rcos : ShV := .a (.s (s32 (-65536) 65536))
def tab72 : Tab := { tab71 with cons := (9, ash_rcos, sh_rcos) :: tab71.cons }
def ash_ratan : List ShA := [.s i32, .s i32]
def sh_ratan : ShV := .tup [.s (s32 0 23592959), .s (ir 0 15)]
def tab73 : Tab := { tab72 with cons := (5, ash_ratan, sh_ratan) :: tab72.cons }
def ash_lof : List ShA := [.s i32, .s i32, .s i32]
def sh_lof : ShV := .a (.s .bool)

end Go.Proofs.Ytihfbliipjobdaa.Sx
