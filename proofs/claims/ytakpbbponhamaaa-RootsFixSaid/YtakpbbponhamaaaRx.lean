/-
  Contracts of functions, and what each function comes to. Printed by a program of our own.
-/
import Derived.Test.YtakpbbponhamaaaSxo
import Derived.KernelRfl
set_option maxRecDepth 1000000
set_option linter.all false
namespace Go.Proofs.Ytakpbbponhamaaa.Sx
open Go Go.RowKit

def u64 : Sh := .int .u64 0 18446744073709551615
def u32 : Sh := .int .u32 0 4294967295
def u8 : Sh := .int .u8 0 255
def i64 : Sh := .int .i64 (-9223372036854775808) 9223372036854775807
def i32 : Sh := .int .i32 (-2147483648) 2147483647
def ir (lo hi : Int) : Sh := .int .i64 lo hi
def len8tab : List Int := (List.range 256).map fun i => if i = 0 then 0 else (Nat.log2 i : Int) + 1
def dg12 : List Sh := List.replicate 12 (ir 0 65535)
def numS : ShA := .agg (.bool :: dg12)
/-- a number of digits to the base 65536, the lowest first. -/
def vd : List Int → Int
  | [] => 0
  | d :: r => d + 65536 * vd r
def sv : List Int → Int
  | m :: ds => if m = 1 then - vd ds else vd ds
  | [] => 0
/-- no digit but the i-th is below 0. -/
def nnb : Int → List Int → Prop
  | _, [] => True
  | i, d :: r => (i ≠ 0 → 0 ≤ d) ∧ nnb (i - 1) r
def top12 : Int := 6277101735386680763835789423207666416102355444464034512896
def top8 : Int := 340282366920938463463374607431768211456
def dA (fs : List Int) : List Int := (fs.drop 1).take 12
def dB (fs : List Int) : List Int := fs.drop 14
def w128 (h l : Int) : Int := h * 18446744073709551616 + l

/-- the bits from the (most - i)th on are not yet told. -/
def rootInv (most : Nat) (n x i : Int) : Prop := i ≤ most ∧ (∃ c : Int, x = c * 2 ^ (most - i.toNat)) ∧ x + 2 ^ (most - i.toNat) ≤ 2 ^ most ∧ x * x ≤ n ∧ n < (x + 2 ^ (most - i.toNat)) * (x + 2 ^ (most - i.toNat))
def isRoot (n x : Int) : Prop := x * x ≤ n ∧ n < (x + 1) * (x + 1)

def Pre_len64 : List (List Int) → Prop
  | [[n]] => True
  | _ => False
def Post_len64 : List (List Int) → List (List Int) → Prop
  | [[n]], [[k]] => (0 ≤ k ∧ n < 2 ^ k.toNat ∧ (0 < n → 2 ^ k.toNat ≤ 2 * n) ∧ (n = 0 → k = 0))
  | _, _ => False
def Pre_mul64 : List (List Int) → Prop
  | [[a], [b]] => True
  | _ => False
def Post_mul64 : List (List Int) → List (List Int) → Prop
  | [[a], [b]], [[h], [l]] => h * 18446744073709551616 + l = a * b
  | _, _ => False
def Pre_compare : List (List Int) → Prop
  | [a, b] => True
  | _ => False
def Post_compare : List (List Int) → List (List Int) → Prop
  | [a, b], [[c]] => ((vd a < vd b → c = -1) ∧ (vd a = vd b → c = 0) ∧ (vd b < vd a → c = 1))
  | _, _ => False
def Pre_plus : List (List Int) → Prop
  | [a, b] => True
  | _ => False
def Post_plus : List (List Int) → List (List Int) → Prop
  | [a, b], [r] => vd r = (vd a + vd b) % top12
  | _, _ => False
def Pre_less : List (List Int) → Prop
  | [a, b] => vd b ≤ vd a
  | _ => False
def Post_less : List (List Int) → List (List Int) → Prop
  | [a, b], [r] => vd r = vd a - vd b
  | _, _ => False
def Inv_less : List Int → List Int → Prop
  | fs, i :: c => vd c + vd ((fs.drop 12).take i.toNat) = vd (fs.take 12) ∧ nnb i c
  | _, _ => False
def Mea_less : List Int → List Int → Nat
  | fs, i :: c => (12 - i).toNat
  | _, _ => 0
def Pre_product : List (List Int) → Prop
  | [m :: a, n :: b] => True
  | _ => False
def Post_product : List (List Int) → List (List Int) → Prop
  | [m :: a, n :: b], [p :: r] => ((p = 1 ↔ m ≠ n) ∧ vd r = (vd a * vd b) % top12)
  | _, _ => False
def Inv_prodo : List Int → List Int → Prop
  | fs, i :: o => top12 ∣ vd o - vd ((dA fs).take i.toNat) * vd (dB fs)
  | _, _ => False
def Mea_prodo : List Int → List Int → Nat
  | fs, i :: o => (12 - i).toNat
  | _, _ => 0
def Inv_prodi : List Int → List Int → Prop
  | i :: fs, q :: k :: o => (i + k ≤ 12 ∧ top12 ∣ vd o + q * 65536 ^ (i.toNat + k.toNat) - (vd ((dA fs).take i.toNat) * vd (dB fs) + (dA fs).getD i.toNat 0 * vd ((dB fs).take k.toNat) * 65536 ^ i.toNat))
  | _, _ => False
def Mea_prodi : List Int → List Int → Nat
  | i :: fs, q :: k :: o => (12 - k).toNat
  | _, _ => 0
def Pre_read : List (List Int) → Prop
  | [[h, l]] => True
  | _ => False
def Post_read : List (List Int) → List (List Int) → Prop
  | [[h, l]], [r] => (vd (r.drop 1) ≤ 170141183460469231731687303715884105728 ∧ sv r = w128 h l ∧ (r.getD 0 0 = 1 ↔ h < 0))
  | _, _ => False
def Pre_minus : List (List Int) → Prop
  | [m :: a] => True
  | _ => False
def Post_minus : List (List Int) → List (List Int) → Prop
  | [m :: a], [p :: r] => ((p = 1 ↔ m ≠ 1) ∧ r = a)
  | _, _ => False
def Pre_sum : List (List Int) → Prop
  | [a, b] => vd (a.drop 1) + vd (b.drop 1) < top12
  | _ => False
def Post_sum : List (List Int) → List (List Int) → Prop
  | [a, b], [r] => (sv r = sv a + sv b ∧ vd (r.drop 1) ≤ vd (a.drop 1) + vd (b.drop 1))
  | _, _ => False
def Pre_above : List (List Int) → Prop
  | [a, b] => vd (a.drop 1) + vd (b.drop 1) < top12
  | _ => False
def Post_above : List (List Int) → List (List Int) → Prop
  | [a, b], [[t]] => t = b2i (decide (sv b < sv a))
  | _, _ => False
def Pre_cmpi64 : List (List Int) → Prop
  | [[a], [b]] => True
  | _ => False
def Post_cmpi64 : List (List Int) → List (List Int) → Prop
  | [[a], [b]], [[c]] => ((a < b → c = -1) ∧ (a = b → c = 0) ∧ (b < a → c = 1))
  | _, _ => False
def Pre_cmpu64 : List (List Int) → Prop
  | [[a], [b]] => True
  | _ => False
def Post_cmpu64 : List (List Int) → List (List Int) → Prop
  | [[a], [b]], [[c]] => ((a < b → c = -1) ∧ (a = b → c = 0) ∧ (b < a → c = 1))
  | _, _ => False
def Pre_wcmp : List (List Int) → Prop
  | [[ah, al], [bh, bl]] => True
  | _ => False
def Post_wcmp : List (List Int) → List (List Int) → Prop
  | [[ah, al], [bh, bl]], [[c]] => ((w128 ah al < w128 bh bl → c = -1) ∧ (w128 ah al = w128 bh bl → c = 0) ∧ (w128 bh bl < w128 ah al → c = 1))
  | _, _ => False
def Pre_wof : List (List Int) → Prop
  | [[n]] => True
  | _ => False
def Post_wof : List (List Int) → List (List Int) → Prop
  | [[n]], [[h, l]] => w128 h l = n
  | _, _ => False
def Pre_narrow1 : List (List Int) → Prop
  | [[x]] => x < 4294967296
  | _ => False
def Post_narrow1 : List (List Int) → List (List Int) → Prop
  | [[x]], [[y]] => y = x * x
  | _, _ => False
def Pre_narrow2 : List (List Int) → Prop
  | [[a], [b]] => True
  | _ => False
def Post_narrow2 : List (List Int) → List (List Int) → Prop
  | [[a], [b]], [[t]] => t = b2i (decide (b < a))
  | _, _ => False
def Pre_wide1 : List (List Int) → Prop
  | [[x]] => True
  | _ => False
def Post_wide1 : List (List Int) → List (List Int) → Prop
  | [[x]], [[h, l]] => w128 h l = x * x
  | _, _ => False
def Pre_wide2 : List (List Int) → Prop
  | [[ah, al], [bh, bl]] => True
  | _ => False
def Post_wide2 : List (List Int) → List (List Int) → Prop
  | [[ah, al], [bh, bl]], [[t]] => t = b2i (decide (w128 bh bl < w128 ah al))
  | _, _ => False
def Pre_rootnarrow : List (List Int) → Prop
  | [[n], [m], [_, _]] => True
  | _ => False
def Post_rootnarrow : List (List Int) → List (List Int) → Prop
  | [[n], [m], [_, _]], [[x]] => isRoot n x
  | _, _ => False
def Inv_rootnarrow : List Int → List Int → Prop
  | [n, m], [x, i] => rootInv 32 n x i
  | _, _ => False
def Mea_rootnarrow : List Int → List Int → Nat
  | [n, m], [x, i] => (32 - i).toNat
  | _, _ => 0
def Pre_rootwide : List (List Int) → Prop
  | [[h, l], [m], [_, _]] => True
  | _ => False
def Post_rootwide : List (List Int) → List (List Int) → Prop
  | [[h, l], [m], [_, _]], [[x]] => isRoot (w128 h l) x
  | _, _ => False
def Inv_rootwide : List Int → List Int → Prop
  | [h, l, m], [x, i] => rootInv 64 (w128 h l) x i
  | _, _ => False
def Mea_rootwide : List Int → List Int → Nat
  | [h, l, m], [x, i] => (64 - i).toNat
  | _, _ => 0
def Pre_mknarrow : List (List Int) → Prop
  | [] => True
  | _ => False
def Post_mknarrow : List (List Int) → List (List Int) → Prop
  | [], _ => True
  | _, _ => False
def Pre_mkwide : List (List Int) → Prop
  | [] => True
  | _ => False
def Post_mkwide : List (List Int) → List (List Int) → Prop
  | [], _ => True
  | _, _ => False
def Pre_root : List (List Int) → Prop
  | [[n]] => True
  | _ => False
def Post_root : List (List Int) → List (List Int) → Prop
  | [[n]], [[x]] => isRoot n x
  | _, _ => False
def Pre_rootWide : List (List Int) → Prop
  | [[h, l]] => True
  | _ => False
def Post_rootWide : List (List Int) → List (List Int) → Prop
  | [[h, l]], [[x], [e]] => ((h < 0 → x = 0 ∧ e = 1) ∧ (0 ≤ h → e = 0 ∧ isRoot (w128 h l) x))
  | _, _ => False
def Pre_sqrt : List (List Int) → Prop
  | [[x]] => True
  | _ => False
def Post_sqrt : List (List Int) → List (List Int) → Prop
  | [[x]], [[y], [e]] => ((x < 0 → y = 0 ∧ e = 1) ∧ (0 ≤ x → e = 0 ∧ isRoot (x * 65536) y))
  | _, _ => False
def Pre_log : List (List Int) → Prop
  | [[n]] => True
  | _ => False
def Post_log : List (List Int) → List (List Int) → Prop
  | [[n]], [[k]] => ((n = 0 → k = -1) ∧ (0 < n → 0 ≤ k ∧ k ≤ 63 ∧ 2 ^ k.toNat ≤ n ∧ n < 2 * 2 ^ k.toNat))
  | _, _ => False
def Pre_rnum : List (List Int) → Prop
  | [[n]] => True
  | _ => False
def Post_rnum : List (List Int) → List (List Int) → Prop
  | [[n]], [r] => (r.getD 0 0 = 0 ∧ vd (r.drop 1) = n)
  | _, _ => False
def Pre_rroot : List (List Int) → Prop
  | [n] => (n.getD 0 0 = 0 ∧ vd (n.drop 1) < top8)
  | _ => False
def Post_rroot : List (List Int) → List (List Int) → Prop
  | [n], [[x]] => isRoot (vd (n.drop 1)) x
  | _, _ => False
def Inv_rroot : List Int → List Int → Prop
  | n, [a, b] => (a ≤ b ∧ a * a ≤ vd (n.drop 1) ∧ vd (n.drop 1) < (b + 1) * (b + 1))
  | _, _ => False
def Mea_rroot : List Int → List Int → Nat
  | n, [a, b] => (b - a).toNat
  | _, _ => 0
def Pre_rRoot : List (List Int) → Prop
  | [[n]] => True
  | _ => False
def Post_rRoot : List (List Int) → List (List Int) → Prop
  | [[n]], [[x]] => isRoot n x
  | _, _ => False
def Pre_rRootWide : List (List Int) → Prop
  | [[h, l]] => True
  | _ => False
def Post_rRootWide : List (List Int) → List (List Int) → Prop
  | [[h, l]], [[x], [e]] => ((h < 0 → x = 0 ∧ e = 1) ∧ (0 ≤ h → e = 0 ∧ isRoot (w128 h l) x))
  | _, _ => False
def Pre_rSqrt : List (List Int) → Prop
  | [[x]] => True
  | _ => False
def Post_rSqrt : List (List Int) → List (List Int) → Prop
  | [[x]], [[y], [e]] => ((x < 0 → y = 0 ∧ e = 1) ∧ (0 ≤ x → e = 0 ∧ isRoot (x * 65536) y))
  | _, _ => False
def Pre_rLog : List (List Int) → Prop
  | [[n]] => True
  | _ => False
def Post_rLog : List (List Int) → List (List Int) → Prop
  | [[n]], [[k]] => ((n = 0 → k = -1) ∧ (0 < n → 0 ≤ k ∧ k ≤ 63 ∧ 2 ^ k.toNat ≤ n ∧ n < 2 * 2 ^ k.toNat))
  | _, _ => False
def Inv_rLog : List Int → List Int → Prop
  | [m], [n, k] => (n * 2 ^ (k + 1).toNat ≤ m ∧ m < (n + 1) * 2 ^ (k + 1).toNat ∧ (k = -1 ∨ 2 ^ k.toNat ≤ m))
  | _, _ => False
def Mea_rLog : List Int → List Int → Nat
  | [m], [n, k] => n.toNat
  | _, _ => 0
def Pre_lproduct : List (List Int) → Prop
  | [[a], [b]] => True
  | _ => False
def Post_lproduct : List (List Int) → List (List Int) → Prop
  | [[a], [b]], [[h], [l]] => w128 h l = a * b
  | _, _ => False
def Pre_lives : List (List Int) → Prop
  | [] => True
  | _ => False
def Post_lives : List (List Int) → List (List Int) → Prop
  | [], [[t]] => t = 1
  | _, _ => False
def Pre_lof : List (List Int) → Prop
  | [[n], [h, l], [x]] => True
  | _ => False
def Post_lof : List (List Int) → List (List Int) → Prop
  | [[n], [h, l], [x]], [[t]] => t = 1
  | _, _ => False
def Pre_lbetween : List (List Int) → Prop
  | [[n], [h, l]] => True
  | _ => False
def Post_lbetween : List (List Int) → List (List Int) → Prop
  | [[n], [h, l]], [[t]] => t = 1
  | _, _ => False
def Pre_lsquares : List (List Int) → Prop
  | [[n], [m]] => True
  | _ => False
def Post_lsquares : List (List Int) → List (List Int) → Prop
  | [[n], [m]], [[t]] => t = 1
  | _, _ => False
def Pre_lrise : List (List Int) → Prop
  | [[a], [b]] => True
  | _ => False
def Post_lrise : List (List Int) → List (List Int) → Prop
  | [[a], [b]], [[t]] => t = 1
  | _, _ => False
def Pre_lfix : List (List Int) → Prop
  | [[x]] => True
  | _ => False
def Post_lfix : List (List Int) → List (List Int) → Prop
  | [[x]], [[t]] => t = 1
  | _, _ => False
def Pre_llog : List (List Int) → Prop
  | [[a], [b], [n]] => True
  | _ => False
def Post_llog : List (List Int) → List (List Int) → Prop
  | [[a], [b], [n]], [[t]] => t = 1
  | _, _ => False
def E : Ctx where
  pre f a := if Nat.beq f 28 = true then Pre_len64 a else if Nat.beq f 33 = true then Pre_mul64 a else if Nat.beq f 46 = true then Pre_compare a else if Nat.beq f 45 = true then Pre_plus a else if Nat.beq f 37 = true then Pre_less a else if Nat.beq f 36 = true then Pre_product a else if Nat.beq f 24 = true then Pre_read a else if Nat.beq f 43 = true then Pre_minus a else if Nat.beq f 42 = true then Pre_sum a else if Nat.beq f 35 = true then Pre_above a else if Nat.beq f 30 = true then Pre_cmpi64 a else if Nat.beq f 31 = true then Pre_cmpu64 a else if Nat.beq f 19 = true then Pre_wcmp a else if Nat.beq f 20 = true then Pre_wof a else if Nat.beq f 38 = true then Pre_narrow1 a else if Nat.beq f 39 = true then Pre_narrow2 a else if Nat.beq f 32 = true then Pre_wide1 a else if Nat.beq f 34 = true then Pre_wide2 a else if Nat.beq f 25 = true then Pre_rootnarrow a else if Nat.beq f 21 = true then Pre_rootwide a else if Nat.beq f 26 = true then Pre_mknarrow a else if Nat.beq f 22 = true then Pre_mkwide a else if Nat.beq f 13 = true then Pre_root a else if Nat.beq f 9 = true then Pre_rootWide a else if Nat.beq f 11 = true then Pre_sqrt a else if Nat.beq f 15 = true then Pre_log a else if Nat.beq f 27 = true then Pre_rnum a else if Nat.beq f 23 = true then Pre_rroot a else if Nat.beq f 14 = true then Pre_rRoot a else if Nat.beq f 10 = true then Pre_rRootWide a else if Nat.beq f 12 = true then Pre_rSqrt a else if Nat.beq f 16 = true then Pre_rLog a else if Nat.beq f 18 = true then Pre_lproduct a else if Nat.beq f 17 = true then Pre_lives a else if Nat.beq f 3 = true then Pre_lof a else if Nat.beq f 4 = true then Pre_lbetween a else if Nat.beq f 5 = true then Pre_lsquares a else if Nat.beq f 6 = true then Pre_lrise a else if Nat.beq f 7 = true then Pre_lfix a else if Nat.beq f 8 = true then Pre_llog a else False
  post f a r := if Nat.beq f 28 = true then Post_len64 a r else if Nat.beq f 33 = true then Post_mul64 a r else if Nat.beq f 46 = true then Post_compare a r else if Nat.beq f 45 = true then Post_plus a r else if Nat.beq f 37 = true then Post_less a r else if Nat.beq f 36 = true then Post_product a r else if Nat.beq f 24 = true then Post_read a r else if Nat.beq f 43 = true then Post_minus a r else if Nat.beq f 42 = true then Post_sum a r else if Nat.beq f 35 = true then Post_above a r else if Nat.beq f 30 = true then Post_cmpi64 a r else if Nat.beq f 31 = true then Post_cmpu64 a r else if Nat.beq f 19 = true then Post_wcmp a r else if Nat.beq f 20 = true then Post_wof a r else if Nat.beq f 38 = true then Post_narrow1 a r else if Nat.beq f 39 = true then Post_narrow2 a r else if Nat.beq f 32 = true then Post_wide1 a r else if Nat.beq f 34 = true then Post_wide2 a r else if Nat.beq f 25 = true then Post_rootnarrow a r else if Nat.beq f 21 = true then Post_rootwide a r else if Nat.beq f 26 = true then Post_mknarrow a r else if Nat.beq f 22 = true then Post_mkwide a r else if Nat.beq f 13 = true then Post_root a r else if Nat.beq f 9 = true then Post_rootWide a r else if Nat.beq f 11 = true then Post_sqrt a r else if Nat.beq f 15 = true then Post_log a r else if Nat.beq f 27 = true then Post_rnum a r else if Nat.beq f 23 = true then Post_rroot a r else if Nat.beq f 14 = true then Post_rRoot a r else if Nat.beq f 10 = true then Post_rRootWide a r else if Nat.beq f 12 = true then Post_rSqrt a r else if Nat.beq f 16 = true then Post_rLog a r else if Nat.beq f 18 = true then Post_lproduct a r else if Nat.beq f 17 = true then Post_lives a r else if Nat.beq f 3 = true then Post_lof a r else if Nat.beq f 4 = true then Post_lbetween a r else if Nat.beq f 5 = true then Post_lsquares a r else if Nat.beq f 6 = true then Post_lrise a r else if Nat.beq f 7 = true then Post_lfix a r else if Nat.beq f 8 = true then Post_llog a r else False
  inv l a r := if Nat.beq l 0 = true then Inv_less a r else if Nat.beq l 1 = true then Inv_prodo a r else if Nat.beq l 2 = true then Inv_prodi a r else if Nat.beq l 3 = true then Inv_rootnarrow a r else if Nat.beq l 4 = true then Inv_rootwide a r else if Nat.beq l 5 = true then Inv_rroot a r else if Nat.beq l 6 = true then Inv_rLog a r else False
  mea l a r := if Nat.beq l 0 = true then Mea_less a r else if Nat.beq l 1 = true then Mea_prodo a r else if Nat.beq l 2 = true then Mea_prodi a r else if Nat.beq l 3 = true then Mea_rootnarrow a r else if Nat.beq l 4 = true then Mea_rootwide a r else if Nat.beq l 5 = true then Mea_rroot a r else if Nat.beq l 6 = true then Mea_rLog a r else 0
def anns0 : List (FuncId × Nat × Ann) := [(37, 2, { l := 0, slots := [(5, ir 0 12)], blks := [(0, List.replicate 12 (ir (-1) 65535))], fro := [0, 1] }), (36, 3, { l := 1, slots := [(6, ir 0 12)], blks := [(3, dg12)], fro := [0, 1] }), (36, 7, { l := 2, slots := [(7, ir 0 65535), (8, ir 0 12)], blks := [(3, dg12)], fro := [6, 0, 1] }), (25, 2, { l := 3, slots := [(6, u64), (10, ir 0 32)], blks := [], fro := [0, 9] }), (21, 2, { l := 4, slots := [(6, u64), (10, ir 0 64)], blks := [], fro := [0, 9] }), (23, 3, { l := 5, slots := [(3, u64), (4, u64)], blks := [], fro := [0] }), (16, 2, { l := 6, slots := [(0, u64), (3, ir (-1) 63)], blks := [], fro := [0] })]
def tab0 : Tab := { cons := [], exts := [], anns := anns0 }
def ash_len64 : List ShA := [.s u64]
def sh_len64 : ShV := .a (.s (ir 0 64))
def tab1 : Tab := { tab0 with cons := (28, ash_len64, sh_len64) :: tab0.cons }
def ash_mul64 : List ShA := [.s u64, .s u64]
def sh_mul64 : ShV := .tup [.s u64, .s u64]
def tab2 : Tab := { tab1 with cons := (33, ash_mul64, sh_mul64) :: tab1.cons }
def ash_compare : List ShA := [.agg dg12, .agg dg12]
def sh_compare : ShV := .a (.s (ir (-1) 1))
def tab3 : Tab := { tab2 with cons := (46, ash_compare, sh_compare) :: tab2.cons }
def ash_plus : List ShA := [.agg dg12, .agg dg12]
def sh_plus : ShV := .a (.agg dg12)
def tab4 : Tab := { tab3 with cons := (45, ash_plus, sh_plus) :: tab3.cons }
def ash_less : List ShA := [.agg dg12, .agg dg12]
def sh_less : ShV := .a (.agg dg12)
def tab5 : Tab := { tab4 with cons := (37, ash_less, sh_less) :: tab4.cons }
def ash_product : List ShA := [numS, numS]
def sh_product : ShV := .a numS
def tab6 : Tab := { tab5 with cons := (36, ash_product, sh_product) :: tab5.cons }
def ash_read : List ShA := [.agg [i64, u64]]
def sh_read : ShV := .a numS
def tab7 : Tab := { tab6 with cons := (24, ash_read, sh_read) :: tab6.cons }
def ash_minus : List ShA := [numS]
def sh_minus : ShV := .a numS
def tab8 : Tab := { tab7 with cons := (43, ash_minus, sh_minus) :: tab7.cons }
def ash_sum : List ShA := [numS, numS]
def sh_sum : ShV := .a numS
def tab9 : Tab := { tab8 with cons := (42, ash_sum, sh_sum) :: tab8.cons }
def ash_above : List ShA := [numS, numS]
def sh_above : ShV := .a (.s .bool)
def tab10 : Tab := { tab9 with cons := (35, ash_above, sh_above) :: tab9.cons }
def ash_cmpi64 : List ShA := [.s i64, .s i64]
def sh_cmpi64 : ShV := .a (.s (ir (-1) 1))
def tab11 : Tab := { tab10 with cons := (30, ash_cmpi64, sh_cmpi64) :: tab10.cons }
def ash_cmpu64 : List ShA := [.s u64, .s u64]
def sh_cmpu64 : ShV := .a (.s (ir (-1) 1))
def tab12 : Tab := { tab11 with cons := (31, ash_cmpu64, sh_cmpu64) :: tab11.cons }
def ash_wcmp : List ShA := [.agg [i64, u64], .agg [i64, u64]]
def sh_wcmp : ShV := .a (.s (ir (-1) 1))
def tab13 : Tab := { tab12 with cons := (19, ash_wcmp, sh_wcmp) :: tab12.cons }
def ash_wof : List ShA := [.s i64]
def sh_wof : ShV := .a (.agg [i64, u64])
def tab14 : Tab := { tab13 with cons := (20, ash_wof, sh_wof) :: tab13.cons }
def ash_narrow1 : List ShA := [.s u64]
def sh_narrow1 : ShV := .a (.s u64)
def tab15 : Tab := { tab14 with cons := (38, ash_narrow1, sh_narrow1) :: tab14.cons }
def ash_narrow2 : List ShA := [.s u64, .s u64]
def sh_narrow2 : ShV := .a (.s .bool)
def tab16 : Tab := { tab15 with cons := (39, ash_narrow2, sh_narrow2) :: tab15.cons }
def ash_wide1 : List ShA := [.s u64]
def sh_wide1 : ShV := .a (.agg [u64, u64])
def tab17 : Tab := { tab16 with cons := (32, ash_wide1, sh_wide1) :: tab16.cons }
def ash_wide2 : List ShA := [.agg [u64, u64], .agg [u64, u64]]
def sh_wide2 : ShV := .a (.s .bool)
def tab18 : Tab := { tab17 with cons := (34, ash_wide2, sh_wide2) :: tab17.cons }
def ash_rootnarrow : List ShA := [.s u64, .s (ir 32 32), .agg [.fn 38, .fn 39]]
def sh_rootnarrow : ShV := .a (.s u64)
def tab19 : Tab := { tab18 with cons := (25, ash_rootnarrow, sh_rootnarrow) :: tab18.cons }
def ash_rootwide : List ShA := [.agg [u64, u64], .s (ir 64 64), .agg [.fn 32, .fn 34]]
def sh_rootwide : ShV := .a (.s u64)
def tab20 : Tab := { tab19 with cons := (21, ash_rootwide, sh_rootwide) :: tab19.cons }
def ash_mknarrow : List ShA := []
def sh_mknarrow : ShV := .a (.agg [.fn 38, .fn 39])
def tab21 : Tab := { tab20 with cons := (26, ash_mknarrow, sh_mknarrow) :: tab20.cons }
def ash_mkwide : List ShA := []
def sh_mkwide : ShV := .a (.agg [.fn 32, .fn 34])
def tab22 : Tab := { tab21 with cons := (22, ash_mkwide, sh_mkwide) :: tab21.cons }
def ash_root : List ShA := [.s u64]
def sh_root : ShV := .a (.s u64)
def tab23 : Tab := { tab22 with cons := (13, ash_root, sh_root) :: tab22.cons }
def ash_rootWide : List ShA := [.agg [i64, u64]]
def sh_rootWide : ShV := .tup [.s u64, .s i64]
def tab24 : Tab := { tab23 with cons := (9, ash_rootWide, sh_rootWide) :: tab23.cons }
def ash_sqrt : List ShA := [.s i32]
def sh_sqrt : ShV := .tup [.s i32, .s i64]
def tab25 : Tab := { tab24 with cons := (11, ash_sqrt, sh_sqrt) :: tab24.cons }
def ash_log : List ShA := [.s u64]
def sh_log : ShV := .a (.s i64)
def tab26 : Tab := { tab25 with cons := (15, ash_log, sh_log) :: tab25.cons }
def ash_rnum : List ShA := [.s u64]
def sh_rnum : ShV := .a numS
def tab27 : Tab := { tab26 with cons := (27, ash_rnum, sh_rnum) :: tab26.cons }
def ash_rroot : List ShA := [numS]
def sh_rroot : ShV := .a (.s u64)
def tab28 : Tab := { tab27 with cons := (23, ash_rroot, sh_rroot) :: tab27.cons }
def ash_rRoot : List ShA := [.s u64]
def sh_rRoot : ShV := .a (.s u64)
def tab29 : Tab := { tab28 with cons := (14, ash_rRoot, sh_rRoot) :: tab28.cons }
def ash_rRootWide : List ShA := [.agg [i64, u64]]
def sh_rRootWide : ShV := .tup [.s u64, .s i64]
def tab30 : Tab := { tab29 with cons := (10, ash_rRootWide, sh_rRootWide) :: tab29.cons }
def ash_rSqrt : List ShA := [.s i32]
def sh_rSqrt : ShV := .tup [.s i32, .s i64]
def tab31 : Tab := { tab30 with cons := (12, ash_rSqrt, sh_rSqrt) :: tab30.cons }
def ash_rLog : List ShA := [.s u64]
def sh_rLog : ShV := .a (.s i64)
def tab32 : Tab := { tab31 with cons := (16, ash_rLog, sh_rLog) :: tab31.cons }
def ash_lproduct : List ShA := [.s u64, .s u64]
def sh_lproduct : ShV := .tup [.s u64, .s u64]
def tab33 : Tab := { tab32 with cons := (18, ash_lproduct, sh_lproduct) :: tab32.cons }
def ash_lives : List ShA := []
def sh_lives : ShV := .a (.s .bool)
def tab34 : Tab := { tab33 with cons := (17, ash_lives, sh_lives) :: tab33.cons }
def ash_lof : List ShA := [.s u64, .agg [i64, u64], .s i32]
def sh_lof : ShV := .a (.s .bool)
def ash_lbetween : List ShA := [.s u64, .agg [i64, u64]]
def sh_lbetween : ShV := .a (.s .bool)
def ash_lsquares : List ShA := [.s u32, .s u64]
def sh_lsquares : ShV := .a (.s .bool)
def ash_lrise : List ShA := [.s u64, .s u64]
def sh_lrise : ShV := .a (.s .bool)
def ash_lfix : List ShA := [.s i32]
def sh_lfix : ShV := .a (.s .bool)
def ash_llog : List ShA := [.s u32, .s u32, .s u64]
def sh_llog : ShV := .a (.s .bool)

/-- math/bits.Len64 -/
def P_len64 : Prop :=
  (∀ n : Int, 0 ≤ n → n ≤ 18446744073709551615 →
  (Pre_len64 [[n]] →
  (((4294967296 ≤ n) →
    (∀ n1 : Int, n1 = (n / 4294967296) → 0 ≤ n1 → n1 ≤ 4294967295 →
    (((65536 ≤ n1) →
      (∀ n2 : Int, n2 = (n1 / 65536) → 0 ≤ n2 → n2 ≤ 65535 →
      (((256 ≤ n2) →
        (∀ n3 : Int, n3 = (n2 / 256) → 0 ≤ n3 → n3 ≤ 255 →
        (∀ n4 : Int, n4 = (len8tab.getD (Int.toNat n3) 0) → 0 ≤ n4 → n4 ≤ 8 →
        (∀ n5 : Int, n5 = (56 + n4) → 56 ≤ n5 → n5 ≤ 64 →
        Post_len64 [[n]] [[n5]])))) ∧
       (¬ (256 ≤ n2) →
        (∀ n3 : Int, n3 = (len8tab.getD (Int.toNat (IntKind.wrap .u8 n2)) 0) → 0 ≤ n3 → n3 ≤ 8 →
        (∀ n4 : Int, n4 = (48 + n3) → 48 ≤ n4 → n4 ≤ 56 →
        Post_len64 [[n]] [[n4]])))))) ∧
     (¬ (65536 ≤ n1) →
      (((256 ≤ n1) →
        (∀ n2 : Int, n2 = (n1 / 256) → 0 ≤ n2 → n2 ≤ 16777215 →
        (∀ n3 : Int, n3 = (len8tab.getD (Int.toNat (IntKind.wrap .u8 n2)) 0) → 0 ≤ n3 → n3 ≤ 8 →
        (∀ n4 : Int, n4 = (40 + n3) → 40 ≤ n4 → n4 ≤ 48 →
        Post_len64 [[n]] [[n4]])))) ∧
       (¬ (256 ≤ n1) →
        (∀ n2 : Int, n2 = (len8tab.getD (Int.toNat (IntKind.wrap .u8 n1)) 0) → 0 ≤ n2 → n2 ≤ 8 →
        (∀ n3 : Int, n3 = (32 + n2) → 32 ≤ n3 → n3 ≤ 40 →
        Post_len64 [[n]] [[n3]])))))))) ∧
   (¬ (4294967296 ≤ n) →
    (((65536 ≤ n) →
      (∀ n1 : Int, n1 = (n / 65536) → 0 ≤ n1 → n1 ≤ 281474976710655 →
      (((256 ≤ n1) →
        (∀ n2 : Int, n2 = (n1 / 256) → 0 ≤ n2 → n2 ≤ 1099511627775 →
        (∀ n3 : Int, n3 = (len8tab.getD (Int.toNat (IntKind.wrap .u8 n2)) 0) → 0 ≤ n3 → n3 ≤ 8 →
        (∀ n4 : Int, n4 = (24 + n3) → 24 ≤ n4 → n4 ≤ 32 →
        Post_len64 [[n]] [[n4]])))) ∧
       (¬ (256 ≤ n1) →
        (∀ n2 : Int, n2 = (len8tab.getD (Int.toNat (IntKind.wrap .u8 n1)) 0) → 0 ≤ n2 → n2 ≤ 8 →
        (∀ n3 : Int, n3 = (16 + n2) → 16 ≤ n3 → n3 ≤ 24 →
        Post_len64 [[n]] [[n3]])))))) ∧
     (¬ (65536 ≤ n) →
      (((256 ≤ n) →
        (∀ n1 : Int, n1 = (n / 256) → 0 ≤ n1 → n1 ≤ 72057594037927935 →
        (∀ n2 : Int, n2 = (len8tab.getD (Int.toNat (IntKind.wrap .u8 n1)) 0) → 0 ≤ n2 → n2 ≤ 8 →
        (∀ n3 : Int, n3 = (8 + n2) → 8 ≤ n3 → n3 ≤ 16 →
        Post_len64 [[n]] [[n3]])))) ∧
       (¬ (256 ≤ n) →
        (∀ n1 : Int, n1 = (len8tab.getD (Int.toNat (IntKind.wrap .u8 n)) 0) → 0 ≤ n1 → n1 ≤ 8 →
        Post_len64 [[n]] [[n1]])))))))))
theorem c_len64 : canCall Try.prog 28 = true := by kernel_rfl
theorem s_len64 : P_len64 = sat E (symTop Try.prog tab0 2000 28 ash_len64 sh_len64) := by kernel_rfl
theorem pure_len64 (hV : Valid Try.prog tab0 E) (h : P_len64) (args : List Value) (ha : shaFits ash_len64 args) (hp : E.pre 28 (args.map vints)) : Pure Try.prog 28 args.toArray fun v => sh_len64.fits v ∧ E.post 28 (args.map vints) (vres v) := @top_sat Try.prog tab0 E hV 2000 28 ash_len64 sh_len64 (@Eq.mp _ _ s_len64 h) args ha hp
theorem step_len64 (hV : Valid Try.prog tab0 E) (h : P_len64) : Valid Try.prog tab1 E := hV.add c_len64 (pure_len64 hV h)

/-- math/bits.Mul64 -/
def P_mul64 : Prop :=
  (∀ n : Int, 0 ≤ n → n ≤ 18446744073709551615 →
  (∀ n1 : Int, 0 ≤ n1 → n1 ≤ 18446744073709551615 →
  (Pre_mul64 [[n], [n1]] →
  (∀ n2 : Int, n2 = (n % 4294967296) → 0 ≤ n2 → n2 ≤ 4294967295 →
  (∀ n3 : Int, n3 = (n / 4294967296) → 0 ≤ n3 → n3 ≤ 4294967295 →
  (∀ n4 : Int, n4 = (n1 % 4294967296) → 0 ≤ n4 → n4 ≤ 4294967295 →
  (∀ n5 : Int, n5 = (n1 / 4294967296) → 0 ≤ n5 → n5 ≤ 4294967295 →
  (∀ n6 : Int, n6 = (n2 * n4) → 0 ≤ n6 → n6 ≤ 18446744065119617025 →
  (∀ n7 : Int, n7 = ((n3 * n4) + (n6 / 4294967296)) → 0 ≤ n7 → n7 ≤ 18446744069414584319 →
  (∀ n8 : Int, n8 = (n7 % 4294967296) → 0 ≤ n8 → n8 ≤ 4294967295 →
  (∀ n9 : Int, n9 = (n7 / 4294967296) → 0 ≤ n9 → n9 ≤ 4294967294 →
  (∀ n10 : Int, n10 = (n8 + (n2 * n5)) → 0 ≤ n10 → n10 ≤ 18446744069414584320 →
  (∀ n11 : Int, n11 = (((n3 * n5) + n9) + (n10 / 4294967296)) → 0 ≤ n11 → n11 ≤ 18446744073709551614 →
  (∀ n12 : Int, n12 = (IntKind.wrap .u64 (n * n1)) → 0 ≤ n12 → n12 ≤ 18446744073709551615 →
  Post_mul64 [[n], [n1]] [[n11], [n12]]))))))))))))))
theorem c_mul64 : canCall Try.prog 33 = true := by kernel_rfl
theorem s_mul64 : P_mul64 = sat E (symTop Try.prog tab1 2000 33 ash_mul64 sh_mul64) := by kernel_rfl
theorem pure_mul64 (hV : Valid Try.prog tab1 E) (h : P_mul64) (args : List Value) (ha : shaFits ash_mul64 args) (hp : E.pre 33 (args.map vints)) : Pure Try.prog 33 args.toArray fun v => sh_mul64.fits v ∧ E.post 33 (args.map vints) (vres v) := @top_sat Try.prog tab1 E hV 2000 33 ash_mul64 sh_mul64 (@Eq.mp _ _ s_mul64 h) args ha hp
theorem step_mul64 (hV : Valid Try.prog tab1 E) (h : P_mul64) : Valid Try.prog tab2 E := hV.add c_mul64 (pure_mul64 hV h)

/-- gouache/gouacheref01.compare -/
def P_compare : Prop :=
  (∀ n : Int, 0 ≤ n → n ≤ 65535 →
  (∀ n1 : Int, 0 ≤ n1 → n1 ≤ 65535 →
  (∀ n2 : Int, 0 ≤ n2 → n2 ≤ 65535 →
  (∀ n3 : Int, 0 ≤ n3 → n3 ≤ 65535 →
  (∀ n4 : Int, 0 ≤ n4 → n4 ≤ 65535 →
  (∀ n5 : Int, 0 ≤ n5 → n5 ≤ 65535 →
  (∀ n6 : Int, 0 ≤ n6 → n6 ≤ 65535 →
  (∀ n7 : Int, 0 ≤ n7 → n7 ≤ 65535 →
  (∀ n8 : Int, 0 ≤ n8 → n8 ≤ 65535 →
  (∀ n9 : Int, 0 ≤ n9 → n9 ≤ 65535 →
  (∀ n10 : Int, 0 ≤ n10 → n10 ≤ 65535 →
  (∀ n11 : Int, 0 ≤ n11 → n11 ≤ 65535 →
  (∀ n12 : Int, 0 ≤ n12 → n12 ≤ 65535 →
  (∀ n13 : Int, 0 ≤ n13 → n13 ≤ 65535 →
  (∀ n14 : Int, 0 ≤ n14 → n14 ≤ 65535 →
  (∀ n15 : Int, 0 ≤ n15 → n15 ≤ 65535 →
  (∀ n16 : Int, 0 ≤ n16 → n16 ≤ 65535 →
  (∀ n17 : Int, 0 ≤ n17 → n17 ≤ 65535 →
  (∀ n18 : Int, 0 ≤ n18 → n18 ≤ 65535 →
  (∀ n19 : Int, 0 ≤ n19 → n19 ≤ 65535 →
  (∀ n20 : Int, 0 ≤ n20 → n20 ≤ 65535 →
  (∀ n21 : Int, 0 ≤ n21 → n21 ≤ 65535 →
  (∀ n22 : Int, 0 ≤ n22 → n22 ≤ 65535 →
  (∀ n23 : Int, 0 ≤ n23 → n23 ≤ 65535 →
  (Pre_compare [[n, n1, n2, n3, n4, n5, n6, n7, n8, n9, n10, n11], [n12, n13, n14, n15, n16, n17, n18, n19, n20, n21, n22, n23]] →
  (∀ b : Nat, (∀ b1 : Nat, (((n11 < n23) →
    Post_compare [[n, n1, n2, n3, n4, n5, n6, n7, n8, n9, n10, n11], [n12, n13, n14, n15, n16, n17, n18, n19, n20, n21, n22, n23]] [[(-1)]]) ∧
   (¬ (n11 < n23) →
    (((n23 < n11) →
      Post_compare [[n, n1, n2, n3, n4, n5, n6, n7, n8, n9, n10, n11], [n12, n13, n14, n15, n16, n17, n18, n19, n20, n21, n22, n23]] [[1]]) ∧
     (¬ (n23 < n11) →
      (((n10 < n22) →
        Post_compare [[n, n1, n2, n3, n4, n5, n6, n7, n8, n9, n10, n11], [n12, n13, n14, n15, n16, n17, n18, n19, n20, n21, n22, n23]] [[(-1)]]) ∧
       (¬ (n10 < n22) →
        (((n22 < n10) →
          Post_compare [[n, n1, n2, n3, n4, n5, n6, n7, n8, n9, n10, n11], [n12, n13, n14, n15, n16, n17, n18, n19, n20, n21, n22, n23]] [[1]]) ∧
         (¬ (n22 < n10) →
          (((n9 < n21) →
            Post_compare [[n, n1, n2, n3, n4, n5, n6, n7, n8, n9, n10, n11], [n12, n13, n14, n15, n16, n17, n18, n19, n20, n21, n22, n23]] [[(-1)]]) ∧
           (¬ (n9 < n21) →
            (((n21 < n9) →
              Post_compare [[n, n1, n2, n3, n4, n5, n6, n7, n8, n9, n10, n11], [n12, n13, n14, n15, n16, n17, n18, n19, n20, n21, n22, n23]] [[1]]) ∧
             (¬ (n21 < n9) →
              (((n8 < n20) →
                Post_compare [[n, n1, n2, n3, n4, n5, n6, n7, n8, n9, n10, n11], [n12, n13, n14, n15, n16, n17, n18, n19, n20, n21, n22, n23]] [[(-1)]]) ∧
               (¬ (n8 < n20) →
                (((n20 < n8) →
                  Post_compare [[n, n1, n2, n3, n4, n5, n6, n7, n8, n9, n10, n11], [n12, n13, n14, n15, n16, n17, n18, n19, n20, n21, n22, n23]] [[1]]) ∧
                 (¬ (n20 < n8) →
                  (((n7 < n19) →
                    Post_compare [[n, n1, n2, n3, n4, n5, n6, n7, n8, n9, n10, n11], [n12, n13, n14, n15, n16, n17, n18, n19, n20, n21, n22, n23]] [[(-1)]]) ∧
                   (¬ (n7 < n19) →
                    (((n19 < n7) →
                      Post_compare [[n, n1, n2, n3, n4, n5, n6, n7, n8, n9, n10, n11], [n12, n13, n14, n15, n16, n17, n18, n19, n20, n21, n22, n23]] [[1]]) ∧
                     (¬ (n19 < n7) →
                      (((n6 < n18) →
                        Post_compare [[n, n1, n2, n3, n4, n5, n6, n7, n8, n9, n10, n11], [n12, n13, n14, n15, n16, n17, n18, n19, n20, n21, n22, n23]] [[(-1)]]) ∧
                       (¬ (n6 < n18) →
                        (((n18 < n6) →
                          Post_compare [[n, n1, n2, n3, n4, n5, n6, n7, n8, n9, n10, n11], [n12, n13, n14, n15, n16, n17, n18, n19, n20, n21, n22, n23]] [[1]]) ∧
                         (¬ (n18 < n6) →
                          (((n5 < n17) →
                            Post_compare [[n, n1, n2, n3, n4, n5, n6, n7, n8, n9, n10, n11], [n12, n13, n14, n15, n16, n17, n18, n19, n20, n21, n22, n23]] [[(-1)]]) ∧
                           (¬ (n5 < n17) →
                            (((n17 < n5) →
                              Post_compare [[n, n1, n2, n3, n4, n5, n6, n7, n8, n9, n10, n11], [n12, n13, n14, n15, n16, n17, n18, n19, n20, n21, n22, n23]] [[1]]) ∧
                             (¬ (n17 < n5) →
                              (((n4 < n16) →
                                Post_compare [[n, n1, n2, n3, n4, n5, n6, n7, n8, n9, n10, n11], [n12, n13, n14, n15, n16, n17, n18, n19, n20, n21, n22, n23]] [[(-1)]]) ∧
                               (¬ (n4 < n16) →
                                (((n16 < n4) →
                                  Post_compare [[n, n1, n2, n3, n4, n5, n6, n7, n8, n9, n10, n11], [n12, n13, n14, n15, n16, n17, n18, n19, n20, n21, n22, n23]] [[1]]) ∧
                                 (¬ (n16 < n4) →
                                  (((n3 < n15) →
                                    Post_compare [[n, n1, n2, n3, n4, n5, n6, n7, n8, n9, n10, n11], [n12, n13, n14, n15, n16, n17, n18, n19, n20, n21, n22, n23]] [[(-1)]]) ∧
                                   (¬ (n3 < n15) →
                                    (((n15 < n3) →
                                      Post_compare [[n, n1, n2, n3, n4, n5, n6, n7, n8, n9, n10, n11], [n12, n13, n14, n15, n16, n17, n18, n19, n20, n21, n22, n23]] [[1]]) ∧
                                     (¬ (n15 < n3) →
                                      (((n2 < n14) →
                                        Post_compare [[n, n1, n2, n3, n4, n5, n6, n7, n8, n9, n10, n11], [n12, n13, n14, n15, n16, n17, n18, n19, n20, n21, n22, n23]] [[(-1)]]) ∧
                                       (¬ (n2 < n14) →
                                        (((n14 < n2) →
                                          Post_compare [[n, n1, n2, n3, n4, n5, n6, n7, n8, n9, n10, n11], [n12, n13, n14, n15, n16, n17, n18, n19, n20, n21, n22, n23]] [[1]]) ∧
                                         (¬ (n14 < n2) →
                                          (((n1 < n13) →
                                            Post_compare [[n, n1, n2, n3, n4, n5, n6, n7, n8, n9, n10, n11], [n12, n13, n14, n15, n16, n17, n18, n19, n20, n21, n22, n23]] [[(-1)]]) ∧
                                           (¬ (n1 < n13) →
                                            (((n13 < n1) →
                                              Post_compare [[n, n1, n2, n3, n4, n5, n6, n7, n8, n9, n10, n11], [n12, n13, n14, n15, n16, n17, n18, n19, n20, n21, n22, n23]] [[1]]) ∧
                                             (¬ (n13 < n1) →
                                              (((n < n12) →
                                                Post_compare [[n, n1, n2, n3, n4, n5, n6, n7, n8, n9, n10, n11], [n12, n13, n14, n15, n16, n17, n18, n19, n20, n21, n22, n23]] [[(-1)]]) ∧
                                               (¬ (n < n12) →
                                                (((n12 < n) →
                                                  Post_compare [[n, n1, n2, n3, n4, n5, n6, n7, n8, n9, n10, n11], [n12, n13, n14, n15, n16, n17, n18, n19, n20, n21, n22, n23]] [[1]]) ∧
                                                 (¬ (n12 < n) →
                                                  Post_compare [[n, n1, n2, n3, n4, n5, n6, n7, n8, n9, n10, n11], [n12, n13, n14, n15, n16, n17, n18, n19, n20, n21, n22, n23]] [[0]])))))))))))))))))))))))))))))))))))))))))))))))))))))))))))))))))))))))))))
theorem c_compare : canCall Try.prog 46 = true := by kernel_rfl
theorem s_compare : P_compare = sat E (symTop Try.prog tab2 2000 46 ash_compare sh_compare) := by kernel_rfl
theorem pure_compare (hV : Valid Try.prog tab2 E) (h : P_compare) (args : List Value) (ha : shaFits ash_compare args) (hp : E.pre 46 (args.map vints)) : Pure Try.prog 46 args.toArray fun v => sh_compare.fits v ∧ E.post 46 (args.map vints) (vres v) := @top_sat Try.prog tab2 E hV 2000 46 ash_compare sh_compare (@Eq.mp _ _ s_compare h) args ha hp
theorem step_compare (hV : Valid Try.prog tab2 E) (h : P_compare) : Valid Try.prog tab3 E := hV.add c_compare (pure_compare hV h)

/-- gouache/gouacheref01.plus -/
def P_plus : Prop :=
  (∀ n : Int, 0 ≤ n → n ≤ 65535 →
  (∀ n1 : Int, 0 ≤ n1 → n1 ≤ 65535 →
  (∀ n2 : Int, 0 ≤ n2 → n2 ≤ 65535 →
  (∀ n3 : Int, 0 ≤ n3 → n3 ≤ 65535 →
  (∀ n4 : Int, 0 ≤ n4 → n4 ≤ 65535 →
  (∀ n5 : Int, 0 ≤ n5 → n5 ≤ 65535 →
  (∀ n6 : Int, 0 ≤ n6 → n6 ≤ 65535 →
  (∀ n7 : Int, 0 ≤ n7 → n7 ≤ 65535 →
  (∀ n8 : Int, 0 ≤ n8 → n8 ≤ 65535 →
  (∀ n9 : Int, 0 ≤ n9 → n9 ≤ 65535 →
  (∀ n10 : Int, 0 ≤ n10 → n10 ≤ 65535 →
  (∀ n11 : Int, 0 ≤ n11 → n11 ≤ 65535 →
  (∀ n12 : Int, 0 ≤ n12 → n12 ≤ 65535 →
  (∀ n13 : Int, 0 ≤ n13 → n13 ≤ 65535 →
  (∀ n14 : Int, 0 ≤ n14 → n14 ≤ 65535 →
  (∀ n15 : Int, 0 ≤ n15 → n15 ≤ 65535 →
  (∀ n16 : Int, 0 ≤ n16 → n16 ≤ 65535 →
  (∀ n17 : Int, 0 ≤ n17 → n17 ≤ 65535 →
  (∀ n18 : Int, 0 ≤ n18 → n18 ≤ 65535 →
  (∀ n19 : Int, 0 ≤ n19 → n19 ≤ 65535 →
  (∀ n20 : Int, 0 ≤ n20 → n20 ≤ 65535 →
  (∀ n21 : Int, 0 ≤ n21 → n21 ≤ 65535 →
  (∀ n22 : Int, 0 ≤ n22 → n22 ≤ 65535 →
  (∀ n23 : Int, 0 ≤ n23 → n23 ≤ 65535 →
  (Pre_plus [[n, n1, n2, n3, n4, n5, n6, n7, n8, n9, n10, n11], [n12, n13, n14, n15, n16, n17, n18, n19, n20, n21, n22, n23]] →
  (∀ b : Nat, (∀ b1 : Nat, (∀ b2 : Nat, (∀ n24 : Int, n24 = (n + n12) → 0 ≤ n24 → n24 ≤ 131070 →
  (∀ n25 : Int, n25 = (n24 % 65536) → 0 ≤ n25 → n25 ≤ 65535 →
  (∀ n26 : Int, n26 = (n24 / 65536) → 0 ≤ n26 → n26 ≤ 1 →
  (∀ n27 : Int, n27 = ((n26 + n1) + n13) → 0 ≤ n27 → n27 ≤ 131071 →
  (∀ n28 : Int, n28 = (n27 % 65536) → 0 ≤ n28 → n28 ≤ 65535 →
  (∀ n29 : Int, n29 = (n27 / 65536) → 0 ≤ n29 → n29 ≤ 1 →
  (∀ n30 : Int, n30 = ((n29 + n2) + n14) → 0 ≤ n30 → n30 ≤ 131071 →
  (∀ n31 : Int, n31 = (n30 % 65536) → 0 ≤ n31 → n31 ≤ 65535 →
  (∀ n32 : Int, n32 = (n30 / 65536) → 0 ≤ n32 → n32 ≤ 1 →
  (∀ n33 : Int, n33 = ((n32 + n3) + n15) → 0 ≤ n33 → n33 ≤ 131071 →
  (∀ n34 : Int, n34 = (n33 % 65536) → 0 ≤ n34 → n34 ≤ 65535 →
  (∀ n35 : Int, n35 = (n33 / 65536) → 0 ≤ n35 → n35 ≤ 1 →
  (∀ n36 : Int, n36 = ((n35 + n4) + n16) → 0 ≤ n36 → n36 ≤ 131071 →
  (∀ n37 : Int, n37 = (n36 % 65536) → 0 ≤ n37 → n37 ≤ 65535 →
  (∀ n38 : Int, n38 = (n36 / 65536) → 0 ≤ n38 → n38 ≤ 1 →
  (∀ n39 : Int, n39 = ((n38 + n5) + n17) → 0 ≤ n39 → n39 ≤ 131071 →
  (∀ n40 : Int, n40 = (n39 % 65536) → 0 ≤ n40 → n40 ≤ 65535 →
  (∀ n41 : Int, n41 = (n39 / 65536) → 0 ≤ n41 → n41 ≤ 1 →
  (∀ n42 : Int, n42 = ((n41 + n6) + n18) → 0 ≤ n42 → n42 ≤ 131071 →
  (∀ n43 : Int, n43 = (n42 % 65536) → 0 ≤ n43 → n43 ≤ 65535 →
  (∀ n44 : Int, n44 = (n42 / 65536) → 0 ≤ n44 → n44 ≤ 1 →
  (∀ n45 : Int, n45 = ((n44 + n7) + n19) → 0 ≤ n45 → n45 ≤ 131071 →
  (∀ n46 : Int, n46 = (n45 % 65536) → 0 ≤ n46 → n46 ≤ 65535 →
  (∀ n47 : Int, n47 = (n45 / 65536) → 0 ≤ n47 → n47 ≤ 1 →
  (∀ n48 : Int, n48 = ((n47 + n8) + n20) → 0 ≤ n48 → n48 ≤ 131071 →
  (∀ n49 : Int, n49 = (n48 % 65536) → 0 ≤ n49 → n49 ≤ 65535 →
  (∀ n50 : Int, n50 = (n48 / 65536) → 0 ≤ n50 → n50 ≤ 1 →
  (∀ n51 : Int, n51 = ((n50 + n9) + n21) → 0 ≤ n51 → n51 ≤ 131071 →
  (∀ n52 : Int, n52 = (n51 % 65536) → 0 ≤ n52 → n52 ≤ 65535 →
  (∀ n53 : Int, n53 = (n51 / 65536) → 0 ≤ n53 → n53 ≤ 1 →
  (∀ n54 : Int, n54 = ((n53 + n10) + n22) → 0 ≤ n54 → n54 ≤ 131071 →
  (∀ n55 : Int, n55 = (n54 % 65536) → 0 ≤ n55 → n55 ≤ 65535 →
  (∀ n56 : Int, n56 = (n54 / 65536) → 0 ≤ n56 → n56 ≤ 1 →
  (∀ n57 : Int, n57 = ((n56 + n11) + n23) → 0 ≤ n57 → n57 ≤ 131071 →
  (∀ n58 : Int, n58 = (n57 % 65536) → 0 ≤ n58 → n58 ≤ 65535 →
  (∀ n59 : Int, n59 = (n57 / 65536) → 0 ≤ n59 → n59 ≤ 1 →
  Post_plus [[n, n1, n2, n3, n4, n5, n6, n7, n8, n9, n10, n11], [n12, n13, n14, n15, n16, n17, n18, n19, n20, n21, n22, n23]] [[n25, n28, n31, n34, n37, n40, n43, n46, n49, n52, n55, n58]]))))))))))))))))))))))))))))))))))))))))))))))))))))))))))))))))
theorem c_plus : canCall Try.prog 45 = true := by kernel_rfl
theorem s_plus : P_plus = sat E (symTop Try.prog tab3 2000 45 ash_plus sh_plus) := by kernel_rfl
theorem pure_plus (hV : Valid Try.prog tab3 E) (h : P_plus) (args : List Value) (ha : shaFits ash_plus args) (hp : E.pre 45 (args.map vints)) : Pure Try.prog 45 args.toArray fun v => sh_plus.fits v ∧ E.post 45 (args.map vints) (vres v) := @top_sat Try.prog tab3 E hV 2000 45 ash_plus sh_plus (@Eq.mp _ _ s_plus h) args ha hp
theorem step_plus (hV : Valid Try.prog tab3 E) (h : P_plus) : Valid Try.prog tab4 E := hV.add c_plus (pure_plus hV h)

/-- gouache/gouacheref01.less -/
def P_less : Prop :=
  (∀ n : Int, 0 ≤ n → n ≤ 65535 →
  (∀ n1 : Int, 0 ≤ n1 → n1 ≤ 65535 →
  (∀ n2 : Int, 0 ≤ n2 → n2 ≤ 65535 →
  (∀ n3 : Int, 0 ≤ n3 → n3 ≤ 65535 →
  (∀ n4 : Int, 0 ≤ n4 → n4 ≤ 65535 →
  (∀ n5 : Int, 0 ≤ n5 → n5 ≤ 65535 →
  (∀ n6 : Int, 0 ≤ n6 → n6 ≤ 65535 →
  (∀ n7 : Int, 0 ≤ n7 → n7 ≤ 65535 →
  (∀ n8 : Int, 0 ≤ n8 → n8 ≤ 65535 →
  (∀ n9 : Int, 0 ≤ n9 → n9 ≤ 65535 →
  (∀ n10 : Int, 0 ≤ n10 → n10 ≤ 65535 →
  (∀ n11 : Int, 0 ≤ n11 → n11 ≤ 65535 →
  (∀ n12 : Int, 0 ≤ n12 → n12 ≤ 65535 →
  (∀ n13 : Int, 0 ≤ n13 → n13 ≤ 65535 →
  (∀ n14 : Int, 0 ≤ n14 → n14 ≤ 65535 →
  (∀ n15 : Int, 0 ≤ n15 → n15 ≤ 65535 →
  (∀ n16 : Int, 0 ≤ n16 → n16 ≤ 65535 →
  (∀ n17 : Int, 0 ≤ n17 → n17 ≤ 65535 →
  (∀ n18 : Int, 0 ≤ n18 → n18 ≤ 65535 →
  (∀ n19 : Int, 0 ≤ n19 → n19 ≤ 65535 →
  (∀ n20 : Int, 0 ≤ n20 → n20 ≤ 65535 →
  (∀ n21 : Int, 0 ≤ n21 → n21 ≤ 65535 →
  (∀ n22 : Int, 0 ≤ n22 → n22 ≤ 65535 →
  (∀ n23 : Int, 0 ≤ n23 → n23 ≤ 65535 →
  (Pre_less [[n, n1, n2, n3, n4, n5, n6, n7, n8, n9, n10, n11], [n12, n13, n14, n15, n16, n17, n18, n19, n20, n21, n22, n23]] →
  (∀ b : Nat, (∀ b1 : Nat, (∀ b2 : Nat, (Inv_less [n, n1, n2, n3, n4, n5, n6, n7, n8, n9, n10, n11, n12, n13, n14, n15, n16, n17, n18, n19, n20, n21, n22, n23] [0, n, n1, n2, n3, n4, n5, n6, n7, n8, n9, n10, n11] ∧
  (∀ n24 : Int, 0 ≤ n24 → n24 ≤ 12 →
  (∀ n25 : Int, (-1) ≤ n25 → n25 ≤ 65535 →
  (∀ n26 : Int, (-1) ≤ n26 → n26 ≤ 65535 →
  (∀ n27 : Int, (-1) ≤ n27 → n27 ≤ 65535 →
  (∀ n28 : Int, (-1) ≤ n28 → n28 ≤ 65535 →
  (∀ n29 : Int, (-1) ≤ n29 → n29 ≤ 65535 →
  (∀ n30 : Int, (-1) ≤ n30 → n30 ≤ 65535 →
  (∀ n31 : Int, (-1) ≤ n31 → n31 ≤ 65535 →
  (∀ n32 : Int, (-1) ≤ n32 → n32 ≤ 65535 →
  (∀ n33 : Int, (-1) ≤ n33 → n33 ≤ 65535 →
  (∀ n34 : Int, (-1) ≤ n34 → n34 ≤ 65535 →
  (∀ n35 : Int, (-1) ≤ n35 → n35 ≤ 65535 →
  (∀ n36 : Int, (-1) ≤ n36 → n36 ≤ 65535 →
  (Inv_less [n, n1, n2, n3, n4, n5, n6, n7, n8, n9, n10, n11, n12, n13, n14, n15, n16, n17, n18, n19, n20, n21, n22, n23] [n24, n25, n26, n27, n28, n29, n30, n31, n32, n33, n34, n35, n36] →
  (∀ vs : List Value, vs.length = 30 →
  (((n24 < 12) →
    ((n24 < 12) ∧
    ((n24 < 12) ∧
    ((n24 < 12) ∧
    (∀ n37 : Int, n37 = ((if n24 = 0 then n25 else (if n24 = 1 then n26 else (if n24 = 2 then n27 else (if n24 = 3 then n28 else (if n24 = 4 then n29 else (if n24 = 5 then n30 else (if n24 = 6 then n31 else (if n24 = 7 then n32 else (if n24 = 8 then n33 else (if n24 = 9 then n34 else (if n24 = 10 then n35 else n36))))))))))) - (if n24 = 0 then n12 else (if n24 = 1 then n13 else (if n24 = 2 then n14 else (if n24 = 3 then n15 else (if n24 = 4 then n16 else (if n24 = 5 then n17 else (if n24 = 6 then n18 else (if n24 = 7 then n19 else (if n24 = 8 then n20 else (if n24 = 9 then n21 else (if n24 = 10 then n22 else n23)))))))))))) → (-65536) ≤ n37 → n37 ≤ 65535 →
    ((n24 < 12) ∧
    ((((if n24 = 0 then (if n24 = 0 then n37 else n25) else (if n24 = 1 then (if n24 = 1 then n37 else n26) else (if n24 = 2 then (if n24 = 2 then n37 else n27) else (if n24 = 3 then (if n24 = 3 then n37 else n28) else (if n24 = 4 then (if n24 = 4 then n37 else n29) else (if n24 = 5 then (if n24 = 5 then n37 else n30) else (if n24 = 6 then (if n24 = 6 then n37 else n31) else (if n24 = 7 then (if n24 = 7 then n37 else n32) else (if n24 = 8 then (if n24 = 8 then n37 else n33) else (if n24 = 9 then (if n24 = 9 then n37 else n34) else (if n24 = 10 then (if n24 = 10 then n37 else n35) else (if n24 = 11 then n37 else n36)))))))))))) < 0) →
      ((n24 < 12) ∧
      ((n24 < 12) ∧
      (∀ n38 : Int, n38 = ((if n24 = 0 then (if n24 = 0 then n37 else n25) else (if n24 = 1 then (if n24 = 1 then n37 else n26) else (if n24 = 2 then (if n24 = 2 then n37 else n27) else (if n24 = 3 then (if n24 = 3 then n37 else n28) else (if n24 = 4 then (if n24 = 4 then n37 else n29) else (if n24 = 5 then (if n24 = 5 then n37 else n30) else (if n24 = 6 then (if n24 = 6 then n37 else n31) else (if n24 = 7 then (if n24 = 7 then n37 else n32) else (if n24 = 8 then (if n24 = 8 then n37 else n33) else (if n24 = 9 then (if n24 = 9 then n37 else n34) else (if n24 = 10 then (if n24 = 10 then n37 else n35) else (if n24 = 11 then n37 else n36)))))))))))) + 65536) → 0 ≤ n38 → n38 ≤ 131071 →
      (((n24 + 1) < 12) ∧
      (((n24 + 1) < 12) ∧
      (∀ n39 : Int, n39 = ((if (n24 + 1) = 1 then (if n24 = 1 then n38 else (if n24 = 1 then n37 else n26)) else (if (n24 + 1) = 2 then (if n24 = 2 then n38 else (if n24 = 2 then n37 else n27)) else (if (n24 + 1) = 3 then (if n24 = 3 then n38 else (if n24 = 3 then n37 else n28)) else (if (n24 + 1) = 4 then (if n24 = 4 then n38 else (if n24 = 4 then n37 else n29)) else (if (n24 + 1) = 5 then (if n24 = 5 then n38 else (if n24 = 5 then n37 else n30)) else (if (n24 + 1) = 6 then (if n24 = 6 then n38 else (if n24 = 6 then n37 else n31)) else (if (n24 + 1) = 7 then (if n24 = 7 then n38 else (if n24 = 7 then n37 else n32)) else (if (n24 + 1) = 8 then (if n24 = 8 then n38 else (if n24 = 8 then n37 else n33)) else (if (n24 + 1) = 9 then (if n24 = 9 then n38 else (if n24 = 9 then n37 else n34)) else (if (n24 + 1) = 10 then (if n24 = 10 then n38 else (if n24 = 10 then n37 else n35)) else (if n24 = 11 then n38 else (if n24 = 11 then n37 else n36)))))))))))) - 1) → (-65537) ≤ n39 → n39 ≤ 131070 →
      (∀ n40 : Int, n40 = (n24 + 1) → 1 ≤ n40 → n40 ≤ 13 →
      ((n40 ≤ 12) ∧
      (∀ n41 : Int, n41 = n40 → 0 ≤ n41 → n41 ≤ 12 →
      (((-1) ≤ (if n24 = 0 then n38 else (if n24 = 0 then n37 else n25))) ∧
      (((if n24 = 0 then n38 else (if n24 = 0 then n37 else n25)) ≤ 65535) ∧
      (∀ n42 : Int, n42 = (if n24 = 0 then n38 else (if n24 = 0 then n37 else n25)) → (-1) ≤ n42 → n42 ≤ 65535 →
      (((-1) ≤ (if (n24 + 1) = 1 then n39 else (if n24 = 1 then n38 else (if n24 = 1 then n37 else n26)))) ∧
      (((if (n24 + 1) = 1 then n39 else (if n24 = 1 then n38 else (if n24 = 1 then n37 else n26))) ≤ 65535) ∧
      (∀ n43 : Int, n43 = (if (n24 + 1) = 1 then n39 else (if n24 = 1 then n38 else (if n24 = 1 then n37 else n26))) → (-1) ≤ n43 → n43 ≤ 65535 →
      (((-1) ≤ (if (n24 + 1) = 2 then n39 else (if n24 = 2 then n38 else (if n24 = 2 then n37 else n27)))) ∧
      (((if (n24 + 1) = 2 then n39 else (if n24 = 2 then n38 else (if n24 = 2 then n37 else n27))) ≤ 65535) ∧
      (∀ n44 : Int, n44 = (if (n24 + 1) = 2 then n39 else (if n24 = 2 then n38 else (if n24 = 2 then n37 else n27))) → (-1) ≤ n44 → n44 ≤ 65535 →
      (((-1) ≤ (if (n24 + 1) = 3 then n39 else (if n24 = 3 then n38 else (if n24 = 3 then n37 else n28)))) ∧
      (((if (n24 + 1) = 3 then n39 else (if n24 = 3 then n38 else (if n24 = 3 then n37 else n28))) ≤ 65535) ∧
      (∀ n45 : Int, n45 = (if (n24 + 1) = 3 then n39 else (if n24 = 3 then n38 else (if n24 = 3 then n37 else n28))) → (-1) ≤ n45 → n45 ≤ 65535 →
      (((-1) ≤ (if (n24 + 1) = 4 then n39 else (if n24 = 4 then n38 else (if n24 = 4 then n37 else n29)))) ∧
      (((if (n24 + 1) = 4 then n39 else (if n24 = 4 then n38 else (if n24 = 4 then n37 else n29))) ≤ 65535) ∧
      (∀ n46 : Int, n46 = (if (n24 + 1) = 4 then n39 else (if n24 = 4 then n38 else (if n24 = 4 then n37 else n29))) → (-1) ≤ n46 → n46 ≤ 65535 →
      (((-1) ≤ (if (n24 + 1) = 5 then n39 else (if n24 = 5 then n38 else (if n24 = 5 then n37 else n30)))) ∧
      (((if (n24 + 1) = 5 then n39 else (if n24 = 5 then n38 else (if n24 = 5 then n37 else n30))) ≤ 65535) ∧
      (∀ n47 : Int, n47 = (if (n24 + 1) = 5 then n39 else (if n24 = 5 then n38 else (if n24 = 5 then n37 else n30))) → (-1) ≤ n47 → n47 ≤ 65535 →
      (((-1) ≤ (if (n24 + 1) = 6 then n39 else (if n24 = 6 then n38 else (if n24 = 6 then n37 else n31)))) ∧
      (((if (n24 + 1) = 6 then n39 else (if n24 = 6 then n38 else (if n24 = 6 then n37 else n31))) ≤ 65535) ∧
      (∀ n48 : Int, n48 = (if (n24 + 1) = 6 then n39 else (if n24 = 6 then n38 else (if n24 = 6 then n37 else n31))) → (-1) ≤ n48 → n48 ≤ 65535 →
      (((-1) ≤ (if (n24 + 1) = 7 then n39 else (if n24 = 7 then n38 else (if n24 = 7 then n37 else n32)))) ∧
      (((if (n24 + 1) = 7 then n39 else (if n24 = 7 then n38 else (if n24 = 7 then n37 else n32))) ≤ 65535) ∧
      (∀ n49 : Int, n49 = (if (n24 + 1) = 7 then n39 else (if n24 = 7 then n38 else (if n24 = 7 then n37 else n32))) → (-1) ≤ n49 → n49 ≤ 65535 →
      (((-1) ≤ (if (n24 + 1) = 8 then n39 else (if n24 = 8 then n38 else (if n24 = 8 then n37 else n33)))) ∧
      (((if (n24 + 1) = 8 then n39 else (if n24 = 8 then n38 else (if n24 = 8 then n37 else n33))) ≤ 65535) ∧
      (∀ n50 : Int, n50 = (if (n24 + 1) = 8 then n39 else (if n24 = 8 then n38 else (if n24 = 8 then n37 else n33))) → (-1) ≤ n50 → n50 ≤ 65535 →
      (((-1) ≤ (if (n24 + 1) = 9 then n39 else (if n24 = 9 then n38 else (if n24 = 9 then n37 else n34)))) ∧
      (((if (n24 + 1) = 9 then n39 else (if n24 = 9 then n38 else (if n24 = 9 then n37 else n34))) ≤ 65535) ∧
      (∀ n51 : Int, n51 = (if (n24 + 1) = 9 then n39 else (if n24 = 9 then n38 else (if n24 = 9 then n37 else n34))) → (-1) ≤ n51 → n51 ≤ 65535 →
      (((-1) ≤ (if (n24 + 1) = 10 then n39 else (if n24 = 10 then n38 else (if n24 = 10 then n37 else n35)))) ∧
      (((if (n24 + 1) = 10 then n39 else (if n24 = 10 then n38 else (if n24 = 10 then n37 else n35))) ≤ 65535) ∧
      (∀ n52 : Int, n52 = (if (n24 + 1) = 10 then n39 else (if n24 = 10 then n38 else (if n24 = 10 then n37 else n35))) → (-1) ≤ n52 → n52 ≤ 65535 →
      (((-1) ≤ (if (n24 + 1) = 11 then n39 else (if n24 = 11 then n38 else (if n24 = 11 then n37 else n36)))) ∧
      (((if (n24 + 1) = 11 then n39 else (if n24 = 11 then n38 else (if n24 = 11 then n37 else n36))) ≤ 65535) ∧
      (∀ n53 : Int, n53 = (if (n24 + 1) = 11 then n39 else (if n24 = 11 then n38 else (if n24 = 11 then n37 else n36))) → (-1) ≤ n53 → n53 ≤ 65535 →
      (Inv_less [n, n1, n2, n3, n4, n5, n6, n7, n8, n9, n10, n11, n12, n13, n14, n15, n16, n17, n18, n19, n20, n21, n22, n23] [n41, n42, n43, n44, n45, n46, n47, n48, n49, n50, n51, n52, n53] ∧ Mea_less [n, n1, n2, n3, n4, n5, n6, n7, n8, n9, n10, n11, n12, n13, n14, n15, n16, n17, n18, n19, n20, n21, n22, n23] [n41, n42, n43, n44, n45, n46, n47, n48, n49, n50, n51, n52, n53] < Mea_less [n, n1, n2, n3, n4, n5, n6, n7, n8, n9, n10, n11, n12, n13, n14, n15, n16, n17, n18, n19, n20, n21, n22, n23] [n24, n25, n26, n27, n28, n29, n30, n31, n32, n33, n34, n35, n36]))))))))))))))))))))))))))))))))))))))))))))))) ∧
     (¬ ((if n24 = 0 then (if n24 = 0 then n37 else n25) else (if n24 = 1 then (if n24 = 1 then n37 else n26) else (if n24 = 2 then (if n24 = 2 then n37 else n27) else (if n24 = 3 then (if n24 = 3 then n37 else n28) else (if n24 = 4 then (if n24 = 4 then n37 else n29) else (if n24 = 5 then (if n24 = 5 then n37 else n30) else (if n24 = 6 then (if n24 = 6 then n37 else n31) else (if n24 = 7 then (if n24 = 7 then n37 else n32) else (if n24 = 8 then (if n24 = 8 then n37 else n33) else (if n24 = 9 then (if n24 = 9 then n37 else n34) else (if n24 = 10 then (if n24 = 10 then n37 else n35) else (if n24 = 11 then n37 else n36)))))))))))) < 0) →
      (∀ n38 : Int, n38 = (n24 + 1) → 1 ≤ n38 → n38 ≤ 13 →
      ((n38 ≤ 12) ∧
      (∀ n39 : Int, n39 = n38 → 0 ≤ n39 → n39 ≤ 12 →
      (((-1) ≤ (if n24 = 0 then n37 else n25)) ∧
      (∀ n40 : Int, n40 = (if n24 = 0 then n37 else n25) → (-1) ≤ n40 → n40 ≤ 65535 →
      (((-1) ≤ (if n24 = 1 then n37 else n26)) ∧
      (∀ n41 : Int, n41 = (if n24 = 1 then n37 else n26) → (-1) ≤ n41 → n41 ≤ 65535 →
      (((-1) ≤ (if n24 = 2 then n37 else n27)) ∧
      (∀ n42 : Int, n42 = (if n24 = 2 then n37 else n27) → (-1) ≤ n42 → n42 ≤ 65535 →
      (((-1) ≤ (if n24 = 3 then n37 else n28)) ∧
      (∀ n43 : Int, n43 = (if n24 = 3 then n37 else n28) → (-1) ≤ n43 → n43 ≤ 65535 →
      (((-1) ≤ (if n24 = 4 then n37 else n29)) ∧
      (∀ n44 : Int, n44 = (if n24 = 4 then n37 else n29) → (-1) ≤ n44 → n44 ≤ 65535 →
      (((-1) ≤ (if n24 = 5 then n37 else n30)) ∧
      (∀ n45 : Int, n45 = (if n24 = 5 then n37 else n30) → (-1) ≤ n45 → n45 ≤ 65535 →
      (((-1) ≤ (if n24 = 6 then n37 else n31)) ∧
      (∀ n46 : Int, n46 = (if n24 = 6 then n37 else n31) → (-1) ≤ n46 → n46 ≤ 65535 →
      (((-1) ≤ (if n24 = 7 then n37 else n32)) ∧
      (∀ n47 : Int, n47 = (if n24 = 7 then n37 else n32) → (-1) ≤ n47 → n47 ≤ 65535 →
      (((-1) ≤ (if n24 = 8 then n37 else n33)) ∧
      (∀ n48 : Int, n48 = (if n24 = 8 then n37 else n33) → (-1) ≤ n48 → n48 ≤ 65535 →
      (((-1) ≤ (if n24 = 9 then n37 else n34)) ∧
      (∀ n49 : Int, n49 = (if n24 = 9 then n37 else n34) → (-1) ≤ n49 → n49 ≤ 65535 →
      (((-1) ≤ (if n24 = 10 then n37 else n35)) ∧
      (∀ n50 : Int, n50 = (if n24 = 10 then n37 else n35) → (-1) ≤ n50 → n50 ≤ 65535 →
      (((-1) ≤ (if n24 = 11 then n37 else n36)) ∧
      (∀ n51 : Int, n51 = (if n24 = 11 then n37 else n36) → (-1) ≤ n51 → n51 ≤ 65535 →
      (Inv_less [n, n1, n2, n3, n4, n5, n6, n7, n8, n9, n10, n11, n12, n13, n14, n15, n16, n17, n18, n19, n20, n21, n22, n23] [n39, n40, n41, n42, n43, n44, n45, n46, n47, n48, n49, n50, n51] ∧ Mea_less [n, n1, n2, n3, n4, n5, n6, n7, n8, n9, n10, n11, n12, n13, n14, n15, n16, n17, n18, n19, n20, n21, n22, n23] [n39, n40, n41, n42, n43, n44, n45, n46, n47, n48, n49, n50, n51] < Mea_less [n, n1, n2, n3, n4, n5, n6, n7, n8, n9, n10, n11, n12, n13, n14, n15, n16, n17, n18, n19, n20, n21, n22, n23] [n24, n25, n26, n27, n28, n29, n30, n31, n32, n33, n34, n35, n36])))))))))))))))))))))))))))))))))))) ∧
   (¬ (n24 < 12) →
    ((0 ≤ n25) ∧
    (∀ n37 : Int, n37 = n25 → 0 ≤ n37 → n37 ≤ 65535 →
    ((0 ≤ n26) ∧
    (∀ n38 : Int, n38 = n26 → 0 ≤ n38 → n38 ≤ 65535 →
    ((0 ≤ n27) ∧
    (∀ n39 : Int, n39 = n27 → 0 ≤ n39 → n39 ≤ 65535 →
    ((0 ≤ n28) ∧
    (∀ n40 : Int, n40 = n28 → 0 ≤ n40 → n40 ≤ 65535 →
    ((0 ≤ n29) ∧
    (∀ n41 : Int, n41 = n29 → 0 ≤ n41 → n41 ≤ 65535 →
    ((0 ≤ n30) ∧
    (∀ n42 : Int, n42 = n30 → 0 ≤ n42 → n42 ≤ 65535 →
    ((0 ≤ n31) ∧
    (∀ n43 : Int, n43 = n31 → 0 ≤ n43 → n43 ≤ 65535 →
    ((0 ≤ n32) ∧
    (∀ n44 : Int, n44 = n32 → 0 ≤ n44 → n44 ≤ 65535 →
    ((0 ≤ n33) ∧
    (∀ n45 : Int, n45 = n33 → 0 ≤ n45 → n45 ≤ 65535 →
    ((0 ≤ n34) ∧
    (∀ n46 : Int, n46 = n34 → 0 ≤ n46 → n46 ≤ 65535 →
    ((0 ≤ n35) ∧
    (∀ n47 : Int, n47 = n35 → 0 ≤ n47 → n47 ≤ 65535 →
    ((0 ≤ n36) ∧
    (∀ n48 : Int, n48 = n36 → 0 ≤ n48 → n48 ≤ 65535 →
    Post_less [[n, n1, n2, n3, n4, n5, n6, n7, n8, n9, n10, n11], [n12, n13, n14, n15, n16, n17, n18, n19, n20, n21, n22, n23]] [[n37, n38, n39, n40, n41, n42, n43, n44, n45, n46, n47, n48]]))))))))))))))))))))))))))))))))))))))))))))))))))))))))))))))))))))))
theorem c_less : canCall Try.prog 37 = true := by kernel_rfl
theorem s_less : P_less = sat E (symTop Try.prog tab4 2000 37 ash_less sh_less) := by kernel_rfl
theorem pure_less (hV : Valid Try.prog tab4 E) (h : P_less) (args : List Value) (ha : shaFits ash_less args) (hp : E.pre 37 (args.map vints)) : Pure Try.prog 37 args.toArray fun v => sh_less.fits v ∧ E.post 37 (args.map vints) (vres v) := @top_sat Try.prog tab4 E hV 2000 37 ash_less sh_less (@Eq.mp _ _ s_less h) args ha hp
theorem step_less (hV : Valid Try.prog tab4 E) (h : P_less) : Valid Try.prog tab5 E := hV.add c_less (pure_less hV h)

/-- gouache/gouacheref01.Product -/
def P_product : Prop :=
  (∀ t : Bool, (∀ n : Int, 0 ≤ n → n ≤ 65535 →
  (∀ n1 : Int, 0 ≤ n1 → n1 ≤ 65535 →
  (∀ n2 : Int, 0 ≤ n2 → n2 ≤ 65535 →
  (∀ n3 : Int, 0 ≤ n3 → n3 ≤ 65535 →
  (∀ n4 : Int, 0 ≤ n4 → n4 ≤ 65535 →
  (∀ n5 : Int, 0 ≤ n5 → n5 ≤ 65535 →
  (∀ n6 : Int, 0 ≤ n6 → n6 ≤ 65535 →
  (∀ n7 : Int, 0 ≤ n7 → n7 ≤ 65535 →
  (∀ n8 : Int, 0 ≤ n8 → n8 ≤ 65535 →
  (∀ n9 : Int, 0 ≤ n9 → n9 ≤ 65535 →
  (∀ n10 : Int, 0 ≤ n10 → n10 ≤ 65535 →
  (∀ n11 : Int, 0 ≤ n11 → n11 ≤ 65535 →
  (∀ t1 : Bool, (∀ n12 : Int, 0 ≤ n12 → n12 ≤ 65535 →
  (∀ n13 : Int, 0 ≤ n13 → n13 ≤ 65535 →
  (∀ n14 : Int, 0 ≤ n14 → n14 ≤ 65535 →
  (∀ n15 : Int, 0 ≤ n15 → n15 ≤ 65535 →
  (∀ n16 : Int, 0 ≤ n16 → n16 ≤ 65535 →
  (∀ n17 : Int, 0 ≤ n17 → n17 ≤ 65535 →
  (∀ n18 : Int, 0 ≤ n18 → n18 ≤ 65535 →
  (∀ n19 : Int, 0 ≤ n19 → n19 ≤ 65535 →
  (∀ n20 : Int, 0 ≤ n20 → n20 ≤ 65535 →
  (∀ n21 : Int, 0 ≤ n21 → n21 ≤ 65535 →
  (∀ n22 : Int, 0 ≤ n22 → n22 ≤ 65535 →
  (∀ n23 : Int, 0 ≤ n23 → n23 ≤ 65535 →
  (Pre_product [[b2i t, n, n1, n2, n3, n4, n5, n6, n7, n8, n9, n10, n11], [b2i t1, n12, n13, n14, n15, n16, n17, n18, n19, n20, n21, n22, n23]] →
  (∀ b : Nat, (∀ b1 : Nat, (∀ b2 : Nat, (∀ b3 : Nat, (Inv_prodo [b2i t, n, n1, n2, n3, n4, n5, n6, n7, n8, n9, n10, n11, b2i t1, n12, n13, n14, n15, n16, n17, n18, n19, n20, n21, n22, n23] [0, 0, 0, 0, 0, 0, 0, 0, 0, 0, 0, 0, 0] ∧
  (∀ n24 : Int, 0 ≤ n24 → n24 ≤ 12 →
  (∀ n25 : Int, 0 ≤ n25 → n25 ≤ 65535 →
  (∀ n26 : Int, 0 ≤ n26 → n26 ≤ 65535 →
  (∀ n27 : Int, 0 ≤ n27 → n27 ≤ 65535 →
  (∀ n28 : Int, 0 ≤ n28 → n28 ≤ 65535 →
  (∀ n29 : Int, 0 ≤ n29 → n29 ≤ 65535 →
  (∀ n30 : Int, 0 ≤ n30 → n30 ≤ 65535 →
  (∀ n31 : Int, 0 ≤ n31 → n31 ≤ 65535 →
  (∀ n32 : Int, 0 ≤ n32 → n32 ≤ 65535 →
  (∀ n33 : Int, 0 ≤ n33 → n33 ≤ 65535 →
  (∀ n34 : Int, 0 ≤ n34 → n34 ≤ 65535 →
  (∀ n35 : Int, 0 ≤ n35 → n35 ≤ 65535 →
  (∀ n36 : Int, 0 ≤ n36 → n36 ≤ 65535 →
  (Inv_prodo [b2i t, n, n1, n2, n3, n4, n5, n6, n7, n8, n9, n10, n11, b2i t1, n12, n13, n14, n15, n16, n17, n18, n19, n20, n21, n22, n23] [n24, n25, n26, n27, n28, n29, n30, n31, n32, n33, n34, n35, n36] →
  (∀ vs : List Value, vs.length = 41 →
  (((n24 < 12) →
    (Inv_prodi [n24, b2i t, n, n1, n2, n3, n4, n5, n6, n7, n8, n9, n10, n11, b2i t1, n12, n13, n14, n15, n16, n17, n18, n19, n20, n21, n22, n23] [0, 0, n25, n26, n27, n28, n29, n30, n31, n32, n33, n34, n35, n36] ∧
    (∀ n37 : Int, 0 ≤ n37 → n37 ≤ 65535 →
    (∀ n38 : Int, 0 ≤ n38 → n38 ≤ 12 →
    (∀ n39 : Int, 0 ≤ n39 → n39 ≤ 65535 →
    (∀ n40 : Int, 0 ≤ n40 → n40 ≤ 65535 →
    (∀ n41 : Int, 0 ≤ n41 → n41 ≤ 65535 →
    (∀ n42 : Int, 0 ≤ n42 → n42 ≤ 65535 →
    (∀ n43 : Int, 0 ≤ n43 → n43 ≤ 65535 →
    (∀ n44 : Int, 0 ≤ n44 → n44 ≤ 65535 →
    (∀ n45 : Int, 0 ≤ n45 → n45 ≤ 65535 →
    (∀ n46 : Int, 0 ≤ n46 → n46 ≤ 65535 →
    (∀ n47 : Int, 0 ≤ n47 → n47 ≤ 65535 →
    (∀ n48 : Int, 0 ≤ n48 → n48 ≤ 65535 →
    (∀ n49 : Int, 0 ≤ n49 → n49 ≤ 65535 →
    (∀ n50 : Int, 0 ≤ n50 → n50 ≤ 65535 →
    (Inv_prodi [n24, b2i t, n, n1, n2, n3, n4, n5, n6, n7, n8, n9, n10, n11, b2i t1, n12, n13, n14, n15, n16, n17, n18, n19, n20, n21, n22, n23] [n37, n38, n39, n40, n41, n42, n43, n44, n45, n46, n47, n48, n49, n50] →
    (∀ vs1 : List Value, vs1.length = 34 →
    ((((n24 + n38) < 12) →
      (((n24 + n38) < 12) ∧
      ((n24 < 12) ∧
      ((n38 < 12) ∧
      (∀ n51 : Int, n51 = ((n37 + (if (n24 + n38) = 0 then n39 else (if (n24 + n38) = 1 then n40 else (if (n24 + n38) = 2 then n41 else (if (n24 + n38) = 3 then n42 else (if (n24 + n38) = 4 then n43 else (if (n24 + n38) = 5 then n44 else (if (n24 + n38) = 6 then n45 else (if (n24 + n38) = 7 then n46 else (if (n24 + n38) = 8 then n47 else (if (n24 + n38) = 9 then n48 else (if (n24 + n38) = 10 then n49 else n50)))))))))))) + ((if n24 = 0 then n else (if n24 = 1 then n1 else (if n24 = 2 then n2 else (if n24 = 3 then n3 else (if n24 = 4 then n4 else (if n24 = 5 then n5 else (if n24 = 6 then n6 else (if n24 = 7 then n7 else (if n24 = 8 then n8 else (if n24 = 9 then n9 else (if n24 = 10 then n10 else n11))))))))))) * (if n38 = 0 then n12 else (if n38 = 1 then n13 else (if n38 = 2 then n14 else (if n38 = 3 then n15 else (if n38 = 4 then n16 else (if n38 = 5 then n17 else (if n38 = 6 then n18 else (if n38 = 7 then n19 else (if n38 = 8 then n20 else (if n38 = 9 then n21 else (if n38 = 10 then n22 else n23))))))))))))) → 0 ≤ n51 → n51 ≤ 4294967295 →
      (((n24 + n38) < 12) ∧
      (∀ n52 : Int, n52 = (n51 % 65536) → 0 ≤ n52 → n52 ≤ 65535 →
      (∀ n53 : Int, n53 = (n51 / 65536) → 0 ≤ n53 → n53 ≤ 65535 →
      (∀ n54 : Int, n54 = (n38 + 1) → 1 ≤ n54 → n54 ≤ 13 →
      ((n54 ≤ 12) ∧
      (∀ n55 : Int, n55 = n54 → 0 ≤ n55 → n55 ≤ 12 →
      (Inv_prodi [n24, b2i t, n, n1, n2, n3, n4, n5, n6, n7, n8, n9, n10, n11, b2i t1, n12, n13, n14, n15, n16, n17, n18, n19, n20, n21, n22, n23] [n53, n55, (if (n24 + n38) = 0 then n52 else n39), (if (n24 + n38) = 1 then n52 else n40), (if (n24 + n38) = 2 then n52 else n41), (if (n24 + n38) = 3 then n52 else n42), (if (n24 + n38) = 4 then n52 else n43), (if (n24 + n38) = 5 then n52 else n44), (if (n24 + n38) = 6 then n52 else n45), (if (n24 + n38) = 7 then n52 else n46), (if (n24 + n38) = 8 then n52 else n47), (if (n24 + n38) = 9 then n52 else n48), (if (n24 + n38) = 10 then n52 else n49), (if (n24 + n38) = 11 then n52 else n50)] ∧ Mea_prodi [n24, b2i t, n, n1, n2, n3, n4, n5, n6, n7, n8, n9, n10, n11, b2i t1, n12, n13, n14, n15, n16, n17, n18, n19, n20, n21, n22, n23] [n53, n55, (if (n24 + n38) = 0 then n52 else n39), (if (n24 + n38) = 1 then n52 else n40), (if (n24 + n38) = 2 then n52 else n41), (if (n24 + n38) = 3 then n52 else n42), (if (n24 + n38) = 4 then n52 else n43), (if (n24 + n38) = 5 then n52 else n44), (if (n24 + n38) = 6 then n52 else n45), (if (n24 + n38) = 7 then n52 else n46), (if (n24 + n38) = 8 then n52 else n47), (if (n24 + n38) = 9 then n52 else n48), (if (n24 + n38) = 10 then n52 else n49), (if (n24 + n38) = 11 then n52 else n50)] < Mea_prodi [n24, b2i t, n, n1, n2, n3, n4, n5, n6, n7, n8, n9, n10, n11, b2i t1, n12, n13, n14, n15, n16, n17, n18, n19, n20, n21, n22, n23] [n37, n38, n39, n40, n41, n42, n43, n44, n45, n46, n47, n48, n49, n50])))))))))))) ∧
     (¬ ((n24 + n38) < 12) →
      (∀ n51 : Int, n51 = (n24 + 1) → 1 ≤ n51 → n51 ≤ 13 →
      ((n51 ≤ 12) ∧
      (∀ n52 : Int, n52 = n51 → 0 ≤ n52 → n52 ≤ 12 →
      (Inv_prodo [b2i t, n, n1, n2, n3, n4, n5, n6, n7, n8, n9, n10, n11, b2i t1, n12, n13, n14, n15, n16, n17, n18, n19, n20, n21, n22, n23] [n52, n39, n40, n41, n42, n43, n44, n45, n46, n47, n48, n49, n50] ∧ Mea_prodo [b2i t, n, n1, n2, n3, n4, n5, n6, n7, n8, n9, n10, n11, b2i t1, n12, n13, n14, n15, n16, n17, n18, n19, n20, n21, n22, n23] [n52, n39, n40, n41, n42, n43, n44, n45, n46, n47, n48, n49, n50] < Mea_prodo [b2i t, n, n1, n2, n3, n4, n5, n6, n7, n8, n9, n10, n11, b2i t1, n12, n13, n14, n15, n16, n17, n18, n19, n20, n21, n22, n23] [n24, n25, n26, n27, n28, n29, n30, n31, n32, n33, n34, n35, n36])))))))))))))))))))))))) ∧
   (¬ (n24 < 12) →
    Post_product [[b2i t, n, n1, n2, n3, n4, n5, n6, n7, n8, n9, n10, n11], [b2i t1, n12, n13, n14, n15, n16, n17, n18, n19, n20, n21, n22, n23]] [[b2i (!(t == t1)), n25, n26, n27, n28, n29, n30, n31, n32, n33, n34, n35, n36]])))))))))))))))))))))))))))))))))))))))))))))))))
theorem c_product : canCall Try.prog 36 = true := by kernel_rfl
theorem s_product : P_product = sat E (symTop Try.prog tab5 2000 36 ash_product sh_product) := by kernel_rfl
theorem pure_product (hV : Valid Try.prog tab5 E) (h : P_product) (args : List Value) (ha : shaFits ash_product args) (hp : E.pre 36 (args.map vints)) : Pure Try.prog 36 args.toArray fun v => sh_product.fits v ∧ E.post 36 (args.map vints) (vres v) := @top_sat Try.prog tab5 E hV 2000 36 ash_product sh_product (@Eq.mp _ _ s_product h) args ha hp
theorem step_product (hV : Valid Try.prog tab5 E) (h : P_product) : Valid Try.prog tab6 E := hV.add c_product (pure_product hV h)

/-- gouache/gouacheref01.Read -/
def P_read : Prop :=
  (∀ n : Int, (-9223372036854775808) ≤ n → n ≤ 9223372036854775807 →
  (∀ n1 : Int, 0 ≤ n1 → n1 ≤ 18446744073709551615 →
  (Pre_read [[n, n1]] →
  (∀ b : Nat, (∀ b1 : Nat, (∀ b2 : Nat, (∀ n2 : Int, n2 = (n1 % 65536) → 0 ≤ n2 → n2 ≤ 65535 →
  (∀ n3 : Int, n3 = ((IntKind.wrap .u64 n) % 65536) → 0 ≤ n3 → n3 ≤ 65535 →
  (∀ n4 : Int, n4 = ((n1 / 65536) % 65536) → 0 ≤ n4 → n4 ≤ 65535 →
  (∀ n5 : Int, n5 = (((IntKind.wrap .u64 n) / 65536) % 65536) → 0 ≤ n5 → n5 ≤ 65535 →
  (∀ n6 : Int, n6 = ((n1 / 4294967296) % 65536) → 0 ≤ n6 → n6 ≤ 65535 →
  (∀ n7 : Int, n7 = (((IntKind.wrap .u64 n) / 4294967296) % 65536) → 0 ≤ n7 → n7 ≤ 65535 →
  (∀ n8 : Int, n8 = (n1 / 281474976710656) → 0 ≤ n8 → n8 ≤ 65535 →
  (∀ n9 : Int, n9 = ((IntKind.wrap .u64 n) / 281474976710656) → 0 ≤ n9 → n9 ≤ 65535 →
  (((n < 0) →
    (Pre_less [[0, 0, 0, 0, 0, 0, 0, 0, 1, 0, 0, 0], [n2, n4, n6, n8, n3, n5, n7, n9, 0, 0, 0, 0]] ∧
    (∀ n10 : Int, 0 ≤ n10 → n10 ≤ 65535 →
    (∀ n11 : Int, 0 ≤ n11 → n11 ≤ 65535 →
    (∀ n12 : Int, 0 ≤ n12 → n12 ≤ 65535 →
    (∀ n13 : Int, 0 ≤ n13 → n13 ≤ 65535 →
    (∀ n14 : Int, 0 ≤ n14 → n14 ≤ 65535 →
    (∀ n15 : Int, 0 ≤ n15 → n15 ≤ 65535 →
    (∀ n16 : Int, 0 ≤ n16 → n16 ≤ 65535 →
    (∀ n17 : Int, 0 ≤ n17 → n17 ≤ 65535 →
    (∀ n18 : Int, 0 ≤ n18 → n18 ≤ 65535 →
    (∀ n19 : Int, 0 ≤ n19 → n19 ≤ 65535 →
    (∀ n20 : Int, 0 ≤ n20 → n20 ≤ 65535 →
    (∀ n21 : Int, 0 ≤ n21 → n21 ≤ 65535 →
    (Post_less [[0, 0, 0, 0, 0, 0, 0, 0, 1, 0, 0, 0], [n2, n4, n6, n8, n3, n5, n7, n9, 0, 0, 0, 0]] [[n10, n11, n12, n13, n14, n15, n16, n17, n18, n19, n20, n21]] →
    Post_read [[n, n1]] [[b2i true, n10, n11, n12, n13, n14, n15, n16, n17, n18, n19, n20, n21]]))))))))))))))) ∧
   (¬ (n < 0) →
    Post_read [[n, n1]] [[b2i false, n2, n4, n6, n8, n3, n5, n7, n9, 0, 0, 0, 0]]))))))))))))))))
theorem c_read : canCall Try.prog 24 = true := by kernel_rfl
theorem s_read : P_read = sat E (symTop Try.prog tab6 2000 24 ash_read sh_read) := by kernel_rfl
theorem pure_read (hV : Valid Try.prog tab6 E) (h : P_read) (args : List Value) (ha : shaFits ash_read args) (hp : E.pre 24 (args.map vints)) : Pure Try.prog 24 args.toArray fun v => sh_read.fits v ∧ E.post 24 (args.map vints) (vres v) := @top_sat Try.prog tab6 E hV 2000 24 ash_read sh_read (@Eq.mp _ _ s_read h) args ha hp
theorem step_read (hV : Valid Try.prog tab6 E) (h : P_read) : Valid Try.prog tab7 E := hV.add c_read (pure_read hV h)

/-- gouache/gouacheref01.Minus -/
def P_minus : Prop :=
  (∀ t : Bool, (∀ n : Int, 0 ≤ n → n ≤ 65535 →
  (∀ n1 : Int, 0 ≤ n1 → n1 ≤ 65535 →
  (∀ n2 : Int, 0 ≤ n2 → n2 ≤ 65535 →
  (∀ n3 : Int, 0 ≤ n3 → n3 ≤ 65535 →
  (∀ n4 : Int, 0 ≤ n4 → n4 ≤ 65535 →
  (∀ n5 : Int, 0 ≤ n5 → n5 ≤ 65535 →
  (∀ n6 : Int, 0 ≤ n6 → n6 ≤ 65535 →
  (∀ n7 : Int, 0 ≤ n7 → n7 ≤ 65535 →
  (∀ n8 : Int, 0 ≤ n8 → n8 ≤ 65535 →
  (∀ n9 : Int, 0 ≤ n9 → n9 ≤ 65535 →
  (∀ n10 : Int, 0 ≤ n10 → n10 ≤ 65535 →
  (∀ n11 : Int, 0 ≤ n11 → n11 ≤ 65535 →
  (Pre_minus [[b2i t, n, n1, n2, n3, n4, n5, n6, n7, n8, n9, n10, n11]] →
  (∀ b : Nat, (∀ b1 : Nat, Post_minus [[b2i t, n, n1, n2, n3, n4, n5, n6, n7, n8, n9, n10, n11]] [[b2i (!t), n, n1, n2, n3, n4, n5, n6, n7, n8, n9, n10, n11]]))))))))))))))))
theorem c_minus : canCall Try.prog 43 = true := by kernel_rfl
theorem s_minus : P_minus = sat E (symTop Try.prog tab7 2000 43 ash_minus sh_minus) := by kernel_rfl
theorem pure_minus (hV : Valid Try.prog tab7 E) (h : P_minus) (args : List Value) (ha : shaFits ash_minus args) (hp : E.pre 43 (args.map vints)) : Pure Try.prog 43 args.toArray fun v => sh_minus.fits v ∧ E.post 43 (args.map vints) (vres v) := @top_sat Try.prog tab7 E hV 2000 43 ash_minus sh_minus (@Eq.mp _ _ s_minus h) args ha hp
theorem step_minus (hV : Valid Try.prog tab7 E) (h : P_minus) : Valid Try.prog tab8 E := hV.add c_minus (pure_minus hV h)

/-- gouache/gouacheref01.Sum -/
def P_sum : Prop :=
  (∀ t : Bool, (∀ n : Int, 0 ≤ n → n ≤ 65535 →
  (∀ n1 : Int, 0 ≤ n1 → n1 ≤ 65535 →
  (∀ n2 : Int, 0 ≤ n2 → n2 ≤ 65535 →
  (∀ n3 : Int, 0 ≤ n3 → n3 ≤ 65535 →
  (∀ n4 : Int, 0 ≤ n4 → n4 ≤ 65535 →
  (∀ n5 : Int, 0 ≤ n5 → n5 ≤ 65535 →
  (∀ n6 : Int, 0 ≤ n6 → n6 ≤ 65535 →
  (∀ n7 : Int, 0 ≤ n7 → n7 ≤ 65535 →
  (∀ n8 : Int, 0 ≤ n8 → n8 ≤ 65535 →
  (∀ n9 : Int, 0 ≤ n9 → n9 ≤ 65535 →
  (∀ n10 : Int, 0 ≤ n10 → n10 ≤ 65535 →
  (∀ n11 : Int, 0 ≤ n11 → n11 ≤ 65535 →
  (∀ t1 : Bool, (∀ n12 : Int, 0 ≤ n12 → n12 ≤ 65535 →
  (∀ n13 : Int, 0 ≤ n13 → n13 ≤ 65535 →
  (∀ n14 : Int, 0 ≤ n14 → n14 ≤ 65535 →
  (∀ n15 : Int, 0 ≤ n15 → n15 ≤ 65535 →
  (∀ n16 : Int, 0 ≤ n16 → n16 ≤ 65535 →
  (∀ n17 : Int, 0 ≤ n17 → n17 ≤ 65535 →
  (∀ n18 : Int, 0 ≤ n18 → n18 ≤ 65535 →
  (∀ n19 : Int, 0 ≤ n19 → n19 ≤ 65535 →
  (∀ n20 : Int, 0 ≤ n20 → n20 ≤ 65535 →
  (∀ n21 : Int, 0 ≤ n21 → n21 ≤ 65535 →
  (∀ n22 : Int, 0 ≤ n22 → n22 ≤ 65535 →
  (∀ n23 : Int, 0 ≤ n23 → n23 ≤ 65535 →
  (Pre_sum [[b2i t, n, n1, n2, n3, n4, n5, n6, n7, n8, n9, n10, n11], [b2i t1, n12, n13, n14, n15, n16, n17, n18, n19, n20, n21, n22, n23]] →
  (∀ b : Nat, (∀ b1 : Nat, (∀ b2 : Nat, ((((t = true) ↔ (t1 = true)) →
    (Pre_plus [[n, n1, n2, n3, n4, n5, n6, n7, n8, n9, n10, n11], [n12, n13, n14, n15, n16, n17, n18, n19, n20, n21, n22, n23]] ∧
    (∀ n24 : Int, 0 ≤ n24 → n24 ≤ 65535 →
    (∀ n25 : Int, 0 ≤ n25 → n25 ≤ 65535 →
    (∀ n26 : Int, 0 ≤ n26 → n26 ≤ 65535 →
    (∀ n27 : Int, 0 ≤ n27 → n27 ≤ 65535 →
    (∀ n28 : Int, 0 ≤ n28 → n28 ≤ 65535 →
    (∀ n29 : Int, 0 ≤ n29 → n29 ≤ 65535 →
    (∀ n30 : Int, 0 ≤ n30 → n30 ≤ 65535 →
    (∀ n31 : Int, 0 ≤ n31 → n31 ≤ 65535 →
    (∀ n32 : Int, 0 ≤ n32 → n32 ≤ 65535 →
    (∀ n33 : Int, 0 ≤ n33 → n33 ≤ 65535 →
    (∀ n34 : Int, 0 ≤ n34 → n34 ≤ 65535 →
    (∀ n35 : Int, 0 ≤ n35 → n35 ≤ 65535 →
    (Post_plus [[n, n1, n2, n3, n4, n5, n6, n7, n8, n9, n10, n11], [n12, n13, n14, n15, n16, n17, n18, n19, n20, n21, n22, n23]] [[n24, n25, n26, n27, n28, n29, n30, n31, n32, n33, n34, n35]] →
    Post_sum [[b2i t, n, n1, n2, n3, n4, n5, n6, n7, n8, n9, n10, n11], [b2i t1, n12, n13, n14, n15, n16, n17, n18, n19, n20, n21, n22, n23]] [[b2i t, n24, n25, n26, n27, n28, n29, n30, n31, n32, n33, n34, n35]]))))))))))))))) ∧
   (¬ ((t = true) ↔ (t1 = true)) →
    (Pre_compare [[n, n1, n2, n3, n4, n5, n6, n7, n8, n9, n10, n11], [n12, n13, n14, n15, n16, n17, n18, n19, n20, n21, n22, n23]] ∧
    (∀ n24 : Int, (-1) ≤ n24 → n24 ≤ 1 →
    (Post_compare [[n, n1, n2, n3, n4, n5, n6, n7, n8, n9, n10, n11], [n12, n13, n14, n15, n16, n17, n18, n19, n20, n21, n22, n23]] [[n24]] →
    (((n24 < 0) →
      (Pre_less [[n12, n13, n14, n15, n16, n17, n18, n19, n20, n21, n22, n23], [n, n1, n2, n3, n4, n5, n6, n7, n8, n9, n10, n11]] ∧
      (∀ n25 : Int, 0 ≤ n25 → n25 ≤ 65535 →
      (∀ n26 : Int, 0 ≤ n26 → n26 ≤ 65535 →
      (∀ n27 : Int, 0 ≤ n27 → n27 ≤ 65535 →
      (∀ n28 : Int, 0 ≤ n28 → n28 ≤ 65535 →
      (∀ n29 : Int, 0 ≤ n29 → n29 ≤ 65535 →
      (∀ n30 : Int, 0 ≤ n30 → n30 ≤ 65535 →
      (∀ n31 : Int, 0 ≤ n31 → n31 ≤ 65535 →
      (∀ n32 : Int, 0 ≤ n32 → n32 ≤ 65535 →
      (∀ n33 : Int, 0 ≤ n33 → n33 ≤ 65535 →
      (∀ n34 : Int, 0 ≤ n34 → n34 ≤ 65535 →
      (∀ n35 : Int, 0 ≤ n35 → n35 ≤ 65535 →
      (∀ n36 : Int, 0 ≤ n36 → n36 ≤ 65535 →
      (Post_less [[n12, n13, n14, n15, n16, n17, n18, n19, n20, n21, n22, n23], [n, n1, n2, n3, n4, n5, n6, n7, n8, n9, n10, n11]] [[n25, n26, n27, n28, n29, n30, n31, n32, n33, n34, n35, n36]] →
      Post_sum [[b2i t, n, n1, n2, n3, n4, n5, n6, n7, n8, n9, n10, n11], [b2i t1, n12, n13, n14, n15, n16, n17, n18, n19, n20, n21, n22, n23]] [[b2i t1, n25, n26, n27, n28, n29, n30, n31, n32, n33, n34, n35, n36]]))))))))))))))) ∧
     (¬ (n24 < 0) →
      (Pre_less [[n, n1, n2, n3, n4, n5, n6, n7, n8, n9, n10, n11], [n12, n13, n14, n15, n16, n17, n18, n19, n20, n21, n22, n23]] ∧
      (∀ n25 : Int, 0 ≤ n25 → n25 ≤ 65535 →
      (∀ n26 : Int, 0 ≤ n26 → n26 ≤ 65535 →
      (∀ n27 : Int, 0 ≤ n27 → n27 ≤ 65535 →
      (∀ n28 : Int, 0 ≤ n28 → n28 ≤ 65535 →
      (∀ n29 : Int, 0 ≤ n29 → n29 ≤ 65535 →
      (∀ n30 : Int, 0 ≤ n30 → n30 ≤ 65535 →
      (∀ n31 : Int, 0 ≤ n31 → n31 ≤ 65535 →
      (∀ n32 : Int, 0 ≤ n32 → n32 ≤ 65535 →
      (∀ n33 : Int, 0 ≤ n33 → n33 ≤ 65535 →
      (∀ n34 : Int, 0 ≤ n34 → n34 ≤ 65535 →
      (∀ n35 : Int, 0 ≤ n35 → n35 ≤ 65535 →
      (∀ n36 : Int, 0 ≤ n36 → n36 ≤ 65535 →
      (Post_less [[n, n1, n2, n3, n4, n5, n6, n7, n8, n9, n10, n11], [n12, n13, n14, n15, n16, n17, n18, n19, n20, n21, n22, n23]] [[n25, n26, n27, n28, n29, n30, n31, n32, n33, n34, n35, n36]] →
      Post_sum [[b2i t, n, n1, n2, n3, n4, n5, n6, n7, n8, n9, n10, n11], [b2i t1, n12, n13, n14, n15, n16, n17, n18, n19, n20, n21, n22, n23]] [[b2i t, n25, n26, n27, n28, n29, n30, n31, n32, n33, n34, n35, n36]])))))))))))))))))))))))))))))))))))))))))))))))))))
theorem c_sum : canCall Try.prog 42 = true := by kernel_rfl
theorem s_sum : P_sum = sat E (symTop Try.prog tab8 2000 42 ash_sum sh_sum) := by kernel_rfl
theorem pure_sum (hV : Valid Try.prog tab8 E) (h : P_sum) (args : List Value) (ha : shaFits ash_sum args) (hp : E.pre 42 (args.map vints)) : Pure Try.prog 42 args.toArray fun v => sh_sum.fits v ∧ E.post 42 (args.map vints) (vres v) := @top_sat Try.prog tab8 E hV 2000 42 ash_sum sh_sum (@Eq.mp _ _ s_sum h) args ha hp
theorem step_sum (hV : Valid Try.prog tab8 E) (h : P_sum) : Valid Try.prog tab9 E := hV.add c_sum (pure_sum hV h)

/-- gouache/gouacheref01.Above -/
def P_above : Prop :=
  (∀ t : Bool, (∀ n : Int, 0 ≤ n → n ≤ 65535 →
  (∀ n1 : Int, 0 ≤ n1 → n1 ≤ 65535 →
  (∀ n2 : Int, 0 ≤ n2 → n2 ≤ 65535 →
  (∀ n3 : Int, 0 ≤ n3 → n3 ≤ 65535 →
  (∀ n4 : Int, 0 ≤ n4 → n4 ≤ 65535 →
  (∀ n5 : Int, 0 ≤ n5 → n5 ≤ 65535 →
  (∀ n6 : Int, 0 ≤ n6 → n6 ≤ 65535 →
  (∀ n7 : Int, 0 ≤ n7 → n7 ≤ 65535 →
  (∀ n8 : Int, 0 ≤ n8 → n8 ≤ 65535 →
  (∀ n9 : Int, 0 ≤ n9 → n9 ≤ 65535 →
  (∀ n10 : Int, 0 ≤ n10 → n10 ≤ 65535 →
  (∀ n11 : Int, 0 ≤ n11 → n11 ≤ 65535 →
  (∀ t1 : Bool, (∀ n12 : Int, 0 ≤ n12 → n12 ≤ 65535 →
  (∀ n13 : Int, 0 ≤ n13 → n13 ≤ 65535 →
  (∀ n14 : Int, 0 ≤ n14 → n14 ≤ 65535 →
  (∀ n15 : Int, 0 ≤ n15 → n15 ≤ 65535 →
  (∀ n16 : Int, 0 ≤ n16 → n16 ≤ 65535 →
  (∀ n17 : Int, 0 ≤ n17 → n17 ≤ 65535 →
  (∀ n18 : Int, 0 ≤ n18 → n18 ≤ 65535 →
  (∀ n19 : Int, 0 ≤ n19 → n19 ≤ 65535 →
  (∀ n20 : Int, 0 ≤ n20 → n20 ≤ 65535 →
  (∀ n21 : Int, 0 ≤ n21 → n21 ≤ 65535 →
  (∀ n22 : Int, 0 ≤ n22 → n22 ≤ 65535 →
  (∀ n23 : Int, 0 ≤ n23 → n23 ≤ 65535 →
  (Pre_above [[b2i t, n, n1, n2, n3, n4, n5, n6, n7, n8, n9, n10, n11], [b2i t1, n12, n13, n14, n15, n16, n17, n18, n19, n20, n21, n22, n23]] →
  (∀ b : Nat, (∀ b1 : Nat, (Pre_minus [[b2i t1, n12, n13, n14, n15, n16, n17, n18, n19, n20, n21, n22, n23]] ∧
  (∀ t2 : Bool, (∀ n24 : Int, 0 ≤ n24 → n24 ≤ 65535 →
  (∀ n25 : Int, 0 ≤ n25 → n25 ≤ 65535 →
  (∀ n26 : Int, 0 ≤ n26 → n26 ≤ 65535 →
  (∀ n27 : Int, 0 ≤ n27 → n27 ≤ 65535 →
  (∀ n28 : Int, 0 ≤ n28 → n28 ≤ 65535 →
  (∀ n29 : Int, 0 ≤ n29 → n29 ≤ 65535 →
  (∀ n30 : Int, 0 ≤ n30 → n30 ≤ 65535 →
  (∀ n31 : Int, 0 ≤ n31 → n31 ≤ 65535 →
  (∀ n32 : Int, 0 ≤ n32 → n32 ≤ 65535 →
  (∀ n33 : Int, 0 ≤ n33 → n33 ≤ 65535 →
  (∀ n34 : Int, 0 ≤ n34 → n34 ≤ 65535 →
  (∀ n35 : Int, 0 ≤ n35 → n35 ≤ 65535 →
  (Post_minus [[b2i t1, n12, n13, n14, n15, n16, n17, n18, n19, n20, n21, n22, n23]] [[b2i t2, n24, n25, n26, n27, n28, n29, n30, n31, n32, n33, n34, n35]] →
  (Pre_sum [[b2i t, n, n1, n2, n3, n4, n5, n6, n7, n8, n9, n10, n11], [b2i t2, n24, n25, n26, n27, n28, n29, n30, n31, n32, n33, n34, n35]] ∧
  (∀ t3 : Bool, (∀ n36 : Int, 0 ≤ n36 → n36 ≤ 65535 →
  (∀ n37 : Int, 0 ≤ n37 → n37 ≤ 65535 →
  (∀ n38 : Int, 0 ≤ n38 → n38 ≤ 65535 →
  (∀ n39 : Int, 0 ≤ n39 → n39 ≤ 65535 →
  (∀ n40 : Int, 0 ≤ n40 → n40 ≤ 65535 →
  (∀ n41 : Int, 0 ≤ n41 → n41 ≤ 65535 →
  (∀ n42 : Int, 0 ≤ n42 → n42 ≤ 65535 →
  (∀ n43 : Int, 0 ≤ n43 → n43 ≤ 65535 →
  (∀ n44 : Int, 0 ≤ n44 → n44 ≤ 65535 →
  (∀ n45 : Int, 0 ≤ n45 → n45 ≤ 65535 →
  (∀ n46 : Int, 0 ≤ n46 → n46 ≤ 65535 →
  (∀ n47 : Int, 0 ≤ n47 → n47 ≤ 65535 →
  (Post_sum [[b2i t, n, n1, n2, n3, n4, n5, n6, n7, n8, n9, n10, n11], [b2i t2, n24, n25, n26, n27, n28, n29, n30, n31, n32, n33, n34, n35]] [[b2i t3, n36, n37, n38, n39, n40, n41, n42, n43, n44, n45, n46, n47]] →
  (∀ b2 : Nat, (((¬ (t3 = true)) →
    (∀ b3 : Nat, Post_above [[b2i t, n, n1, n2, n3, n4, n5, n6, n7, n8, n9, n10, n11], [b2i t1, n12, n13, n14, n15, n16, n17, n18, n19, n20, n21, n22, n23]] [[b2i (!((n36 == 0) && ((n37 == 0) && ((n38 == 0) && ((n39 == 0) && ((n40 == 0) && ((n41 == 0) && ((n42 == 0) && ((n43 == 0) && ((n44 == 0) && ((n45 == 0) && ((n46 == 0) && (n47 == 0)))))))))))))]])) ∧
   (¬ (¬ (t3 = true)) →
    Post_above [[b2i t, n, n1, n2, n3, n4, n5, n6, n7, n8, n9, n10, n11], [b2i t1, n12, n13, n14, n15, n16, n17, n18, n19, n20, n21, n22, n23]] [[b2i false]]))))))))))))))))))))))))))))))))))))))))))))))))))))))))))))))
theorem c_above : canCall Try.prog 35 = true := by kernel_rfl
theorem s_above : P_above = sat E (symTop Try.prog tab9 2000 35 ash_above sh_above) := by kernel_rfl
theorem pure_above (hV : Valid Try.prog tab9 E) (h : P_above) (args : List Value) (ha : shaFits ash_above args) (hp : E.pre 35 (args.map vints)) : Pure Try.prog 35 args.toArray fun v => sh_above.fits v ∧ E.post 35 (args.map vints) (vres v) := @top_sat Try.prog tab9 E hV 2000 35 ash_above sh_above (@Eq.mp _ _ s_above h) args ha hp
theorem step_above (hV : Valid Try.prog tab9 E) (h : P_above) : Valid Try.prog tab10 E := hV.add c_above (pure_above hV h)

/-- cmp.Compare[int64] -/
def P_cmpi64 : Prop :=
  (∀ n : Int, (-9223372036854775808) ≤ n → n ≤ 9223372036854775807 →
  (∀ n1 : Int, (-9223372036854775808) ≤ n1 → n1 ≤ 9223372036854775807 →
  (Pre_cmpi64 [[n], [n1]] →
  (((¬ (n = n)) →
    (((¬ (n1 = n1)) →
      Post_cmpi64 [[n], [n1]] [[0]]) ∧
     (¬ (¬ (n1 = n1)) →
      Post_cmpi64 [[n], [n1]] [[(-1)]]))) ∧
   (¬ (¬ (n = n)) →
    (((¬ (n1 = n1)) →
      Post_cmpi64 [[n], [n1]] [[1]]) ∧
     (¬ (¬ (n1 = n1)) →
      (((n < n1) →
        Post_cmpi64 [[n], [n1]] [[(-1)]]) ∧
       (¬ (n < n1) →
        (((n1 < n) →
          Post_cmpi64 [[n], [n1]] [[1]]) ∧
         (¬ (n1 < n) →
          Post_cmpi64 [[n], [n1]] [[0]])))))))))))
theorem c_cmpi64 : canCall Try.prog 30 = true := by kernel_rfl
theorem s_cmpi64 : P_cmpi64 = sat E (symTop Try.prog tab10 2000 30 ash_cmpi64 sh_cmpi64) := by kernel_rfl
theorem pure_cmpi64 (hV : Valid Try.prog tab10 E) (h : P_cmpi64) (args : List Value) (ha : shaFits ash_cmpi64 args) (hp : E.pre 30 (args.map vints)) : Pure Try.prog 30 args.toArray fun v => sh_cmpi64.fits v ∧ E.post 30 (args.map vints) (vres v) := @top_sat Try.prog tab10 E hV 2000 30 ash_cmpi64 sh_cmpi64 (@Eq.mp _ _ s_cmpi64 h) args ha hp
theorem step_cmpi64 (hV : Valid Try.prog tab10 E) (h : P_cmpi64) : Valid Try.prog tab11 E := hV.add c_cmpi64 (pure_cmpi64 hV h)

/-- cmp.Compare[uint64] -/
def P_cmpu64 : Prop :=
  (∀ n : Int, 0 ≤ n → n ≤ 18446744073709551615 →
  (∀ n1 : Int, 0 ≤ n1 → n1 ≤ 18446744073709551615 →
  (Pre_cmpu64 [[n], [n1]] →
  (((¬ (n = n)) →
    (((¬ (n1 = n1)) →
      Post_cmpu64 [[n], [n1]] [[0]]) ∧
     (¬ (¬ (n1 = n1)) →
      Post_cmpu64 [[n], [n1]] [[(-1)]]))) ∧
   (¬ (¬ (n = n)) →
    (((¬ (n1 = n1)) →
      Post_cmpu64 [[n], [n1]] [[1]]) ∧
     (¬ (¬ (n1 = n1)) →
      (((n < n1) →
        Post_cmpu64 [[n], [n1]] [[(-1)]]) ∧
       (¬ (n < n1) →
        (((n1 < n) →
          Post_cmpu64 [[n], [n1]] [[1]]) ∧
         (¬ (n1 < n) →
          Post_cmpu64 [[n], [n1]] [[0]])))))))))))
theorem c_cmpu64 : canCall Try.prog 31 = true := by kernel_rfl
theorem s_cmpu64 : P_cmpu64 = sat E (symTop Try.prog tab11 2000 31 ash_cmpu64 sh_cmpu64) := by kernel_rfl
theorem pure_cmpu64 (hV : Valid Try.prog tab11 E) (h : P_cmpu64) (args : List Value) (ha : shaFits ash_cmpu64 args) (hp : E.pre 31 (args.map vints)) : Pure Try.prog 31 args.toArray fun v => sh_cmpu64.fits v ∧ E.post 31 (args.map vints) (vres v) := @top_sat Try.prog tab11 E hV 2000 31 ash_cmpu64 sh_cmpu64 (@Eq.mp _ _ s_cmpu64 h) args ha hp
theorem step_cmpu64 (hV : Valid Try.prog tab11 E) (h : P_cmpu64) : Valid Try.prog tab12 E := hV.add c_cmpu64 (pure_cmpu64 hV h)

/-- gouache/wides.Cmp -/
def P_wcmp : Prop :=
  (∀ n : Int, (-9223372036854775808) ≤ n → n ≤ 9223372036854775807 →
  (∀ n1 : Int, 0 ≤ n1 → n1 ≤ 18446744073709551615 →
  (∀ n2 : Int, (-9223372036854775808) ≤ n2 → n2 ≤ 9223372036854775807 →
  (∀ n3 : Int, 0 ≤ n3 → n3 ≤ 18446744073709551615 →
  (Pre_wcmp [[n, n1], [n2, n3]] →
  (∀ b : Nat, (∀ b1 : Nat, (Pre_cmpi64 [[n], [n2]] ∧
  (∀ n4 : Int, (-1) ≤ n4 → n4 ≤ 1 →
  (Post_cmpi64 [[n], [n2]] [[n4]] →
  (Pre_cmpu64 [[n1], [n3]] ∧
  (∀ n5 : Int, (-1) ≤ n5 → n5 ≤ 1 →
  (Post_cmpu64 [[n1], [n3]] [[n5]] →
  (∀ b2 : Nat, (((¬ (n4 = 0)) →
    Post_wcmp [[n, n1], [n2, n3]] [[n4]]) ∧
   (¬ (¬ (n4 = 0)) →
    (((¬ (n5 = 0)) →
      Post_wcmp [[n, n1], [n2, n3]] [[n5]]) ∧
     (¬ (¬ (n5 = 0)) →
      Post_wcmp [[n, n1], [n2, n3]] [[0]]))))))))))))))))))
theorem c_wcmp : canCall Try.prog 19 = true := by kernel_rfl
theorem s_wcmp : P_wcmp = sat E (symTop Try.prog tab12 2000 19 ash_wcmp sh_wcmp) := by kernel_rfl
theorem pure_wcmp (hV : Valid Try.prog tab12 E) (h : P_wcmp) (args : List Value) (ha : shaFits ash_wcmp args) (hp : E.pre 19 (args.map vints)) : Pure Try.prog 19 args.toArray fun v => sh_wcmp.fits v ∧ E.post 19 (args.map vints) (vres v) := @top_sat Try.prog tab12 E hV 2000 19 ash_wcmp sh_wcmp (@Eq.mp _ _ s_wcmp h) args ha hp
theorem step_wcmp (hV : Valid Try.prog tab12 E) (h : P_wcmp) : Valid Try.prog tab13 E := hV.add c_wcmp (pure_wcmp hV h)

/-- gouache/wides.Of -/
def P_wof : Prop :=
  (∀ n : Int, (-9223372036854775808) ≤ n → n ≤ 9223372036854775807 →
  (Pre_wof [[n]] →
  (∀ b : Nat, (∀ n1 : Int, n1 = (n / 9223372036854775808) → (-1) ≤ n1 → n1 ≤ 0 →
  (∀ n2 : Int, n2 = (IntKind.wrap .u64 n) → 0 ≤ n2 → n2 ≤ 18446744073709551615 →
  Post_wof [[n]] [[n1, n2]])))))
theorem c_wof : canCall Try.prog 20 = true := by kernel_rfl
theorem s_wof : P_wof = sat E (symTop Try.prog tab13 2000 20 ash_wof sh_wof) := by kernel_rfl
theorem pure_wof (hV : Valid Try.prog tab13 E) (h : P_wof) (args : List Value) (ha : shaFits ash_wof args) (hp : E.pre 20 (args.map vints)) : Pure Try.prog 20 args.toArray fun v => sh_wof.fits v ∧ E.post 20 (args.map vints) (vres v) := @top_sat Try.prog tab13 E hV 2000 20 ash_wof sh_wof (@Eq.mp _ _ s_wof h) args ha hp
theorem step_wof (hV : Valid Try.prog tab13 E) (h : P_wof) : Valid Try.prog tab14 E := hV.add c_wof (pure_wof hV h)

/-- gouache/roots.narrow$1 -/
def P_narrow1 : Prop :=
  (∀ n : Int, 0 ≤ n → n ≤ 18446744073709551615 →
  (Pre_narrow1 [[n]] →
  (∀ n1 : Int, n1 = (IntKind.wrap .u64 (n * n)) → 0 ≤ n1 → n1 ≤ 18446744073709551615 →
  Post_narrow1 [[n]] [[n1]])))
theorem c_narrow1 : canCall Try.prog 38 = true := by kernel_rfl
theorem s_narrow1 : P_narrow1 = sat E (symTop Try.prog tab14 2000 38 ash_narrow1 sh_narrow1) := by kernel_rfl
theorem pure_narrow1 (hV : Valid Try.prog tab14 E) (h : P_narrow1) (args : List Value) (ha : shaFits ash_narrow1 args) (hp : E.pre 38 (args.map vints)) : Pure Try.prog 38 args.toArray fun v => sh_narrow1.fits v ∧ E.post 38 (args.map vints) (vres v) := @top_sat Try.prog tab14 E hV 2000 38 ash_narrow1 sh_narrow1 (@Eq.mp _ _ s_narrow1 h) args ha hp
theorem step_narrow1 (hV : Valid Try.prog tab14 E) (h : P_narrow1) : Valid Try.prog tab15 E := hV.add c_narrow1 (pure_narrow1 hV h)

/-- gouache/roots.narrow$2 -/
def P_narrow2 : Prop :=
  (∀ n : Int, 0 ≤ n → n ≤ 18446744073709551615 →
  (∀ n1 : Int, 0 ≤ n1 → n1 ≤ 18446744073709551615 →
  (Pre_narrow2 [[n], [n1]] →
  Post_narrow2 [[n], [n1]] [[b2i (decide (n1 < n))]])))
theorem c_narrow2 : canCall Try.prog 39 = true := by kernel_rfl
theorem s_narrow2 : P_narrow2 = sat E (symTop Try.prog tab15 2000 39 ash_narrow2 sh_narrow2) := by kernel_rfl
theorem pure_narrow2 (hV : Valid Try.prog tab15 E) (h : P_narrow2) (args : List Value) (ha : shaFits ash_narrow2 args) (hp : E.pre 39 (args.map vints)) : Pure Try.prog 39 args.toArray fun v => sh_narrow2.fits v ∧ E.post 39 (args.map vints) (vres v) := @top_sat Try.prog tab15 E hV 2000 39 ash_narrow2 sh_narrow2 (@Eq.mp _ _ s_narrow2 h) args ha hp
theorem step_narrow2 (hV : Valid Try.prog tab15 E) (h : P_narrow2) : Valid Try.prog tab16 E := hV.add c_narrow2 (pure_narrow2 hV h)

/-- gouache/roots.wide$1 -/
def P_wide1 : Prop :=
  (∀ n : Int, 0 ≤ n → n ≤ 18446744073709551615 →
  (Pre_wide1 [[n]] →
  (∀ b : Nat, (Pre_mul64 [[n], [n]] ∧
  (∀ n1 : Int, 0 ≤ n1 → n1 ≤ 18446744073709551615 →
  (∀ n2 : Int, 0 ≤ n2 → n2 ≤ 18446744073709551615 →
  (Post_mul64 [[n], [n]] [[n1], [n2]] →
  Post_wide1 [[n]] [[n1, n2]])))))))
theorem c_wide1 : canCall Try.prog 32 = true := by kernel_rfl
theorem s_wide1 : P_wide1 = sat E (symTop Try.prog tab16 2000 32 ash_wide1 sh_wide1) := by kernel_rfl
theorem pure_wide1 (hV : Valid Try.prog tab16 E) (h : P_wide1) (args : List Value) (ha : shaFits ash_wide1 args) (hp : E.pre 32 (args.map vints)) : Pure Try.prog 32 args.toArray fun v => sh_wide1.fits v ∧ E.post 32 (args.map vints) (vres v) := @top_sat Try.prog tab16 E hV 2000 32 ash_wide1 sh_wide1 (@Eq.mp _ _ s_wide1 h) args ha hp
theorem step_wide1 (hV : Valid Try.prog tab16 E) (h : P_wide1) : Valid Try.prog tab17 E := hV.add c_wide1 (pure_wide1 hV h)

/-- gouache/roots.wide$2 -/
def P_wide2 : Prop :=
  (∀ n : Int, 0 ≤ n → n ≤ 18446744073709551615 →
  (∀ n1 : Int, 0 ≤ n1 → n1 ≤ 18446744073709551615 →
  (∀ n2 : Int, 0 ≤ n2 → n2 ≤ 18446744073709551615 →
  (∀ n3 : Int, 0 ≤ n3 → n3 ≤ 18446744073709551615 →
  (Pre_wide2 [[n, n1], [n2, n3]] →
  (∀ b : Nat, (∀ b1 : Nat, (((n2 < n) →
    Post_wide2 [[n, n1], [n2, n3]] [[b2i true]]) ∧
   (¬ (n2 < n) →
    (((n = n2) →
      Post_wide2 [[n, n1], [n2, n3]] [[b2i (decide (n3 < n1))]]) ∧
     (¬ (n = n2) →
      Post_wide2 [[n, n1], [n2, n3]] [[b2i false]])))))))))))
theorem c_wide2 : canCall Try.prog 34 = true := by kernel_rfl
theorem s_wide2 : P_wide2 = sat E (symTop Try.prog tab17 2000 34 ash_wide2 sh_wide2) := by kernel_rfl
theorem pure_wide2 (hV : Valid Try.prog tab17 E) (h : P_wide2) (args : List Value) (ha : shaFits ash_wide2 args) (hp : E.pre 34 (args.map vints)) : Pure Try.prog 34 args.toArray fun v => sh_wide2.fits v ∧ E.post 34 (args.map vints) (vres v) := @top_sat Try.prog tab17 E hV 2000 34 ash_wide2 sh_wide2 (@Eq.mp _ _ s_wide2 h) args ha hp
theorem step_wide2 (hV : Valid Try.prog tab17 E) (h : P_wide2) : Valid Try.prog tab18 E := hV.add c_wide2 (pure_wide2 hV h)

/-- gouache/roots.root[uint64] -/
def P_rootnarrow : Prop :=
  (∀ n : Int, 0 ≤ n → n ≤ 18446744073709551615 →
  (∀ n1 : Int, 32 ≤ n1 → n1 ≤ 32 →
  (Pre_rootnarrow [[n], [n1], [0, 0]] →
  (∀ b : Nat, (Inv_rootnarrow [n, n1] [0, 0] ∧
  (∀ n2 : Int, 0 ≤ n2 → n2 ≤ 18446744073709551615 →
  (∀ n3 : Int, 0 ≤ n3 → n3 ≤ 32 →
  (Inv_rootnarrow [n, n1] [n2, n3] →
  (∀ vs : List Value, vs.length = 24 →
  (((n3 < n1) →
    ((0 ≤ ((n1 - 1) - n3)) ∧
    (∀ n4 : Int, n4 = ((n1 - 1) - n3) → 0 ≤ n4 → n4 ≤ 31 →
    (∀ n5 : Int, n5 = (bitsI .or .u64 n2 (shI .shl .u64 1 n4)) → 0 ≤ n5 → n5 ≤ 18446744073709551615 →
    (Pre_narrow1 [[n5]] ∧
    (∀ n6 : Int, 0 ≤ n6 → n6 ≤ 18446744073709551615 →
    (Post_narrow1 [[n5]] [[n6]] →
    (Pre_narrow2 [[n6], [n]] ∧
    (∀ t : Bool, (Post_narrow2 [[n6], [n]] [[b2i t]] →
    (((¬ (t = true)) →
      (((n3 + 1) ≤ 32) ∧
      (∀ n7 : Int, n7 = (n3 + 1) → 0 ≤ n7 → n7 ≤ 32 →
      (Inv_rootnarrow [n, n1] [n5, n7] ∧ Mea_rootnarrow [n, n1] [n5, n7] < Mea_rootnarrow [n, n1] [n2, n3])))) ∧
     (¬ (¬ (t = true)) →
      (((n3 + 1) ≤ 32) ∧
      (∀ n7 : Int, n7 = (n3 + 1) → 0 ≤ n7 → n7 ≤ 32 →
      (Inv_rootnarrow [n, n1] [n2, n7] ∧ Mea_rootnarrow [n, n1] [n2, n7] < Mea_rootnarrow [n, n1] [n2, n3]))))))))))))))) ∧
   (¬ (n3 < n1) →
    Post_rootnarrow [[n], [n1], [0, 0]] [[n2]])))))))))))
theorem c_rootnarrow : canCall Try.prog 25 = true := by kernel_rfl
theorem s_rootnarrow : P_rootnarrow = sat E (symTop Try.prog tab18 2000 25 ash_rootnarrow sh_rootnarrow) := by kernel_rfl
theorem pure_rootnarrow (hV : Valid Try.prog tab18 E) (h : P_rootnarrow) (args : List Value) (ha : shaFits ash_rootnarrow args) (hp : E.pre 25 (args.map vints)) : Pure Try.prog 25 args.toArray fun v => sh_rootnarrow.fits v ∧ E.post 25 (args.map vints) (vres v) := @top_sat Try.prog tab18 E hV 2000 25 ash_rootnarrow sh_rootnarrow (@Eq.mp _ _ s_rootnarrow h) args ha hp
theorem step_rootnarrow (hV : Valid Try.prog tab18 E) (h : P_rootnarrow) : Valid Try.prog tab19 E := hV.add c_rootnarrow (pure_rootnarrow hV h)

/-- gouache/roots.root[gouache/roots.pair] -/
def P_rootwide : Prop :=
  (∀ n : Int, 0 ≤ n → n ≤ 18446744073709551615 →
  (∀ n1 : Int, 0 ≤ n1 → n1 ≤ 18446744073709551615 →
  (∀ n2 : Int, 64 ≤ n2 → n2 ≤ 64 →
  (Pre_rootwide [[n, n1], [n2], [0, 0]] →
  (∀ b : Nat, (∀ b1 : Nat, (Inv_rootwide [n, n1, n2] [0, 0] ∧
  (∀ n3 : Int, 0 ≤ n3 → n3 ≤ 18446744073709551615 →
  (∀ n4 : Int, 0 ≤ n4 → n4 ≤ 64 →
  (Inv_rootwide [n, n1, n2] [n3, n4] →
  (∀ vs : List Value, vs.length = 24 →
  (((n4 < n2) →
    ((0 ≤ ((n2 - 1) - n4)) ∧
    (∀ n5 : Int, n5 = ((n2 - 1) - n4) → 0 ≤ n5 → n5 ≤ 63 →
    (∀ n6 : Int, n6 = (bitsI .or .u64 n3 (shI .shl .u64 1 n5)) → 0 ≤ n6 → n6 ≤ 18446744073709551615 →
    (Pre_wide1 [[n6]] ∧
    (∀ n7 : Int, 0 ≤ n7 → n7 ≤ 18446744073709551615 →
    (∀ n8 : Int, 0 ≤ n8 → n8 ≤ 18446744073709551615 →
    (Post_wide1 [[n6]] [[n7, n8]] →
    (Pre_wide2 [[n7, n8], [n, n1]] ∧
    (∀ t : Bool, (Post_wide2 [[n7, n8], [n, n1]] [[b2i t]] →
    (((¬ (t = true)) →
      (((n4 + 1) ≤ 64) ∧
      (∀ n9 : Int, n9 = (n4 + 1) → 0 ≤ n9 → n9 ≤ 64 →
      (Inv_rootwide [n, n1, n2] [n6, n9] ∧ Mea_rootwide [n, n1, n2] [n6, n9] < Mea_rootwide [n, n1, n2] [n3, n4])))) ∧
     (¬ (¬ (t = true)) →
      (((n4 + 1) ≤ 64) ∧
      (∀ n9 : Int, n9 = (n4 + 1) → 0 ≤ n9 → n9 ≤ 64 →
      (Inv_rootwide [n, n1, n2] [n3, n9] ∧ Mea_rootwide [n, n1, n2] [n3, n9] < Mea_rootwide [n, n1, n2] [n3, n4])))))))))))))))) ∧
   (¬ (n4 < n2) →
    Post_rootwide [[n, n1], [n2], [0, 0]] [[n3]])))))))))))))
theorem c_rootwide : canCall Try.prog 21 = true := by kernel_rfl
theorem s_rootwide : P_rootwide = sat E (symTop Try.prog tab19 2000 21 ash_rootwide sh_rootwide) := by kernel_rfl
theorem pure_rootwide (hV : Valid Try.prog tab19 E) (h : P_rootwide) (args : List Value) (ha : shaFits ash_rootwide args) (hp : E.pre 21 (args.map vints)) : Pure Try.prog 21 args.toArray fun v => sh_rootwide.fits v ∧ E.post 21 (args.map vints) (vres v) := @top_sat Try.prog tab19 E hV 2000 21 ash_rootwide sh_rootwide (@Eq.mp _ _ s_rootwide h) args ha hp
theorem step_rootwide (hV : Valid Try.prog tab19 E) (h : P_rootwide) : Valid Try.prog tab20 E := hV.add c_rootwide (pure_rootwide hV h)

/-- gouache/roots.narrow -/
def P_mknarrow : Prop :=
  (Pre_mknarrow [] →
  (∀ b : Nat, Post_mknarrow [] [[0, 0]]))
theorem c_mknarrow : canCall Try.prog 26 = true := by kernel_rfl
theorem s_mknarrow : P_mknarrow = sat E (symTop Try.prog tab20 2000 26 ash_mknarrow sh_mknarrow) := by kernel_rfl
theorem pure_mknarrow (hV : Valid Try.prog tab20 E) (h : P_mknarrow) (args : List Value) (ha : shaFits ash_mknarrow args) (hp : E.pre 26 (args.map vints)) : Pure Try.prog 26 args.toArray fun v => sh_mknarrow.fits v ∧ E.post 26 (args.map vints) (vres v) := @top_sat Try.prog tab20 E hV 2000 26 ash_mknarrow sh_mknarrow (@Eq.mp _ _ s_mknarrow h) args ha hp
theorem step_mknarrow (hV : Valid Try.prog tab20 E) (h : P_mknarrow) : Valid Try.prog tab21 E := hV.add c_mknarrow (pure_mknarrow hV h)

/-- gouache/roots.wide -/
def P_mkwide : Prop :=
  (Pre_mkwide [] →
  (∀ b : Nat, Post_mkwide [] [[0, 0]]))
theorem c_mkwide : canCall Try.prog 22 = true := by kernel_rfl
theorem s_mkwide : P_mkwide = sat E (symTop Try.prog tab21 2000 22 ash_mkwide sh_mkwide) := by kernel_rfl
theorem pure_mkwide (hV : Valid Try.prog tab21 E) (h : P_mkwide) (args : List Value) (ha : shaFits ash_mkwide args) (hp : E.pre 22 (args.map vints)) : Pure Try.prog 22 args.toArray fun v => sh_mkwide.fits v ∧ E.post 22 (args.map vints) (vres v) := @top_sat Try.prog tab21 E hV 2000 22 ash_mkwide sh_mkwide (@Eq.mp _ _ s_mkwide h) args ha hp
theorem step_mkwide (hV : Valid Try.prog tab21 E) (h : P_mkwide) : Valid Try.prog tab22 E := hV.add c_mkwide (pure_mkwide hV h)

/-- gouache/roots.Root -/
def P_root : Prop :=
  (∀ n : Int, 0 ≤ n → n ≤ 18446744073709551615 →
  (Pre_root [[n]] →
  (Pre_mknarrow [] ∧
  (Post_mknarrow [] [[0, 0]] →
  (Pre_rootnarrow [[n], [32], [0, 0]] ∧
  (∀ n1 : Int, 0 ≤ n1 → n1 ≤ 18446744073709551615 →
  (Post_rootnarrow [[n], [32], [0, 0]] [[n1]] →
  Post_root [[n]] [[n1]])))))))
theorem c_root : canCall Try.prog 13 = true := by kernel_rfl
theorem s_root : P_root = sat E (symTop Try.prog tab22 2000 13 ash_root sh_root) := by kernel_rfl
theorem pure_root (hV : Valid Try.prog tab22 E) (h : P_root) (args : List Value) (ha : shaFits ash_root args) (hp : E.pre 13 (args.map vints)) : Pure Try.prog 13 args.toArray fun v => sh_root.fits v ∧ E.post 13 (args.map vints) (vres v) := @top_sat Try.prog tab22 E hV 2000 13 ash_root sh_root (@Eq.mp _ _ s_root h) args ha hp
theorem step_root (hV : Valid Try.prog tab22 E) (h : P_root) : Valid Try.prog tab23 E := hV.add c_root (pure_root hV h)

/-- gouache/roots.RootWide -/
def P_rootWide : Prop :=
  (∀ n : Int, (-9223372036854775808) ≤ n → n ≤ 9223372036854775807 →
  (∀ n1 : Int, 0 ≤ n1 → n1 ≤ 18446744073709551615 →
  (Pre_rootWide [[n, n1]] →
  (∀ b : Nat, (Pre_wof [[0]] ∧
  (∀ n2 : Int, (-9223372036854775808) ≤ n2 → n2 ≤ 9223372036854775807 →
  (∀ n3 : Int, 0 ≤ n3 → n3 ≤ 18446744073709551615 →
  (Post_wof [[0]] [[n2, n3]] →
  (Pre_wcmp [[n, n1], [n2, n3]] ∧
  (∀ n4 : Int, (-1) ≤ n4 → n4 ≤ 1 →
  (Post_wcmp [[n, n1], [n2, n3]] [[n4]] →
  (((n4 < 0) →
    Post_rootWide [[n, n1]] [[0], [1]]) ∧
   (¬ (n4 < 0) →
    (Pre_mkwide [] ∧
    (Post_mkwide [] [[0, 0]] →
    (∀ n5 : Int, n5 = (IntKind.wrap .u64 n) → 0 ≤ n5 → n5 ≤ 18446744073709551615 →
    (Pre_rootwide [[n5, n1], [64], [0, 0]] ∧
    (∀ n6 : Int, 0 ≤ n6 → n6 ≤ 18446744073709551615 →
    (Post_rootwide [[n5, n1], [64], [0, 0]] [[n6]] →
    Post_rootWide [[n, n1]] [[n6], [0]])))))))))))))))))))
theorem c_rootWide : canCall Try.prog 9 = true := by kernel_rfl
theorem s_rootWide : P_rootWide = sat E (symTop Try.prog tab23 2000 9 ash_rootWide sh_rootWide) := by kernel_rfl
theorem pure_rootWide (hV : Valid Try.prog tab23 E) (h : P_rootWide) (args : List Value) (ha : shaFits ash_rootWide args) (hp : E.pre 9 (args.map vints)) : Pure Try.prog 9 args.toArray fun v => sh_rootWide.fits v ∧ E.post 9 (args.map vints) (vres v) := @top_sat Try.prog tab23 E hV 2000 9 ash_rootWide sh_rootWide (@Eq.mp _ _ s_rootWide h) args ha hp
theorem step_rootWide (hV : Valid Try.prog tab23 E) (h : P_rootWide) : Valid Try.prog tab24 E := hV.add c_rootWide (pure_rootWide hV h)

/-- gouache/roots.Sqrt -/
def P_sqrt : Prop :=
  (∀ n : Int, (-2147483648) ≤ n → n ≤ 2147483647 →
  (Pre_sqrt [[n]] →
  (((n < 0) →
    Post_sqrt [[n]] [[0], [1]]) ∧
   (¬ (n < 0) →
    (∀ n1 : Int, n1 = (IntKind.wrap .u64 ((IntKind.wrap .u64 n) * 65536)) → 0 ≤ n1 → n1 ≤ 18446744073709551615 →
    (Pre_root [[n1]] ∧
    (∀ n2 : Int, 0 ≤ n2 → n2 ≤ 18446744073709551615 →
    (Post_root [[n1]] [[n2]] →
    (∀ n3 : Int, n3 = (IntKind.wrap .i32 n2) → (-2147483648) ≤ n3 → n3 ≤ 2147483647 →
    Post_sqrt [[n]] [[n3], [0]])))))))))
theorem c_sqrt : canCall Try.prog 11 = true := by kernel_rfl
theorem s_sqrt : P_sqrt = sat E (symTop Try.prog tab24 2000 11 ash_sqrt sh_sqrt) := by kernel_rfl
theorem pure_sqrt (hV : Valid Try.prog tab24 E) (h : P_sqrt) (args : List Value) (ha : shaFits ash_sqrt args) (hp : E.pre 11 (args.map vints)) : Pure Try.prog 11 args.toArray fun v => sh_sqrt.fits v ∧ E.post 11 (args.map vints) (vres v) := @top_sat Try.prog tab24 E hV 2000 11 ash_sqrt sh_sqrt (@Eq.mp _ _ s_sqrt h) args ha hp
theorem step_sqrt (hV : Valid Try.prog tab24 E) (h : P_sqrt) : Valid Try.prog tab25 E := hV.add c_sqrt (pure_sqrt hV h)

/-- gouache/roots.Log -/
def P_log : Prop :=
  (∀ n : Int, 0 ≤ n → n ≤ 18446744073709551615 →
  (Pre_log [[n]] →
  (Pre_len64 [[n]] ∧
  (∀ n1 : Int, 0 ≤ n1 → n1 ≤ 64 →
  (Post_len64 [[n]] [[n1]] →
  (∀ n2 : Int, n2 = (n1 - 1) → (-1) ≤ n2 → n2 ≤ 63 →
  Post_log [[n]] [[n2]]))))))
theorem c_log : canCall Try.prog 15 = true := by kernel_rfl
theorem s_log : P_log = sat E (symTop Try.prog tab25 2000 15 ash_log sh_log) := by kernel_rfl
theorem pure_log (hV : Valid Try.prog tab25 E) (h : P_log) (args : List Value) (ha : shaFits ash_log args) (hp : E.pre 15 (args.map vints)) : Pure Try.prog 15 args.toArray fun v => sh_log.fits v ∧ E.post 15 (args.map vints) (vres v) := @top_sat Try.prog tab25 E hV 2000 15 ash_log sh_log (@Eq.mp _ _ s_log h) args ha hp
theorem step_log (hV : Valid Try.prog tab25 E) (h : P_log) : Valid Try.prog tab26 E := hV.add c_log (pure_log hV h)

/-- gouache/gouacheref03.num -/
def P_rnum : Prop :=
  (∀ n : Int, 0 ≤ n → n ≤ 18446744073709551615 →
  (Pre_rnum [[n]] →
  (∀ b : Nat, (Pre_read [[0, n]] ∧
  (∀ t : Bool, (∀ n1 : Int, 0 ≤ n1 → n1 ≤ 65535 →
  (∀ n2 : Int, 0 ≤ n2 → n2 ≤ 65535 →
  (∀ n3 : Int, 0 ≤ n3 → n3 ≤ 65535 →
  (∀ n4 : Int, 0 ≤ n4 → n4 ≤ 65535 →
  (∀ n5 : Int, 0 ≤ n5 → n5 ≤ 65535 →
  (∀ n6 : Int, 0 ≤ n6 → n6 ≤ 65535 →
  (∀ n7 : Int, 0 ≤ n7 → n7 ≤ 65535 →
  (∀ n8 : Int, 0 ≤ n8 → n8 ≤ 65535 →
  (∀ n9 : Int, 0 ≤ n9 → n9 ≤ 65535 →
  (∀ n10 : Int, 0 ≤ n10 → n10 ≤ 65535 →
  (∀ n11 : Int, 0 ≤ n11 → n11 ≤ 65535 →
  (∀ n12 : Int, 0 ≤ n12 → n12 ≤ 65535 →
  (Post_read [[0, n]] [[b2i t, n1, n2, n3, n4, n5, n6, n7, n8, n9, n10, n11, n12]] →
  Post_rnum [[n]] [[b2i t, n1, n2, n3, n4, n5, n6, n7, n8, n9, n10, n11, n12]]))))))))))))))))))
theorem c_rnum : canCall Try.prog 27 = true := by kernel_rfl
theorem s_rnum : P_rnum = sat E (symTop Try.prog tab26 2000 27 ash_rnum sh_rnum) := by kernel_rfl
theorem pure_rnum (hV : Valid Try.prog tab26 E) (h : P_rnum) (args : List Value) (ha : shaFits ash_rnum args) (hp : E.pre 27 (args.map vints)) : Pure Try.prog 27 args.toArray fun v => sh_rnum.fits v ∧ E.post 27 (args.map vints) (vres v) := @top_sat Try.prog tab26 E hV 2000 27 ash_rnum sh_rnum (@Eq.mp _ _ s_rnum h) args ha hp
theorem step_rnum (hV : Valid Try.prog tab26 E) (h : P_rnum) : Valid Try.prog tab27 E := hV.add c_rnum (pure_rnum hV h)

/-- gouache/gouacheref03.root -/
def P_rroot : Prop :=
  (∀ t : Bool, (∀ n : Int, 0 ≤ n → n ≤ 65535 →
  (∀ n1 : Int, 0 ≤ n1 → n1 ≤ 65535 →
  (∀ n2 : Int, 0 ≤ n2 → n2 ≤ 65535 →
  (∀ n3 : Int, 0 ≤ n3 → n3 ≤ 65535 →
  (∀ n4 : Int, 0 ≤ n4 → n4 ≤ 65535 →
  (∀ n5 : Int, 0 ≤ n5 → n5 ≤ 65535 →
  (∀ n6 : Int, 0 ≤ n6 → n6 ≤ 65535 →
  (∀ n7 : Int, 0 ≤ n7 → n7 ≤ 65535 →
  (∀ n8 : Int, 0 ≤ n8 → n8 ≤ 65535 →
  (∀ n9 : Int, 0 ≤ n9 → n9 ≤ 65535 →
  (∀ n10 : Int, 0 ≤ n10 → n10 ≤ 65535 →
  (∀ n11 : Int, 0 ≤ n11 → n11 ≤ 65535 →
  (Pre_rroot [[b2i t, n, n1, n2, n3, n4, n5, n6, n7, n8, n9, n10, n11]] →
  (∀ b : Nat, (Inv_rroot [b2i t, n, n1, n2, n3, n4, n5, n6, n7, n8, n9, n10, n11] [0, 18446744073709551615] ∧
  (∀ n12 : Int, 0 ≤ n12 → n12 ≤ 18446744073709551615 →
  (∀ n13 : Int, 0 ≤ n13 → n13 ≤ 18446744073709551615 →
  (Inv_rroot [b2i t, n, n1, n2, n3, n4, n5, n6, n7, n8, n9, n10, n11] [n12, n13] →
  (∀ vs : List Value, vs.length = 27 →
  (((n12 < n13) →
    (∀ n14 : Int, n14 = (IntKind.wrap .u64 ((IntKind.wrap .u64 (n12 + ((IntKind.wrap .u64 (n13 - n12)) / 2))) + ((IntKind.wrap .u64 (n13 - n12)) % 2))) → 0 ≤ n14 → n14 ≤ 18446744073709551615 →
    (Pre_rnum [[n14]] ∧
    (∀ t1 : Bool, (∀ n15 : Int, 0 ≤ n15 → n15 ≤ 65535 →
    (∀ n16 : Int, 0 ≤ n16 → n16 ≤ 65535 →
    (∀ n17 : Int, 0 ≤ n17 → n17 ≤ 65535 →
    (∀ n18 : Int, 0 ≤ n18 → n18 ≤ 65535 →
    (∀ n19 : Int, 0 ≤ n19 → n19 ≤ 65535 →
    (∀ n20 : Int, 0 ≤ n20 → n20 ≤ 65535 →
    (∀ n21 : Int, 0 ≤ n21 → n21 ≤ 65535 →
    (∀ n22 : Int, 0 ≤ n22 → n22 ≤ 65535 →
    (∀ n23 : Int, 0 ≤ n23 → n23 ≤ 65535 →
    (∀ n24 : Int, 0 ≤ n24 → n24 ≤ 65535 →
    (∀ n25 : Int, 0 ≤ n25 → n25 ≤ 65535 →
    (∀ n26 : Int, 0 ≤ n26 → n26 ≤ 65535 →
    (Post_rnum [[n14]] [[b2i t1, n15, n16, n17, n18, n19, n20, n21, n22, n23, n24, n25, n26]] →
    (Pre_rnum [[n14]] ∧
    (∀ t2 : Bool, (∀ n27 : Int, 0 ≤ n27 → n27 ≤ 65535 →
    (∀ n28 : Int, 0 ≤ n28 → n28 ≤ 65535 →
    (∀ n29 : Int, 0 ≤ n29 → n29 ≤ 65535 →
    (∀ n30 : Int, 0 ≤ n30 → n30 ≤ 65535 →
    (∀ n31 : Int, 0 ≤ n31 → n31 ≤ 65535 →
    (∀ n32 : Int, 0 ≤ n32 → n32 ≤ 65535 →
    (∀ n33 : Int, 0 ≤ n33 → n33 ≤ 65535 →
    (∀ n34 : Int, 0 ≤ n34 → n34 ≤ 65535 →
    (∀ n35 : Int, 0 ≤ n35 → n35 ≤ 65535 →
    (∀ n36 : Int, 0 ≤ n36 → n36 ≤ 65535 →
    (∀ n37 : Int, 0 ≤ n37 → n37 ≤ 65535 →
    (∀ n38 : Int, 0 ≤ n38 → n38 ≤ 65535 →
    (Post_rnum [[n14]] [[b2i t2, n27, n28, n29, n30, n31, n32, n33, n34, n35, n36, n37, n38]] →
    (Pre_product [[b2i t1, n15, n16, n17, n18, n19, n20, n21, n22, n23, n24, n25, n26], [b2i t2, n27, n28, n29, n30, n31, n32, n33, n34, n35, n36, n37, n38]] ∧
    (∀ t3 : Bool, (∀ n39 : Int, 0 ≤ n39 → n39 ≤ 65535 →
    (∀ n40 : Int, 0 ≤ n40 → n40 ≤ 65535 →
    (∀ n41 : Int, 0 ≤ n41 → n41 ≤ 65535 →
    (∀ n42 : Int, 0 ≤ n42 → n42 ≤ 65535 →
    (∀ n43 : Int, 0 ≤ n43 → n43 ≤ 65535 →
    (∀ n44 : Int, 0 ≤ n44 → n44 ≤ 65535 →
    (∀ n45 : Int, 0 ≤ n45 → n45 ≤ 65535 →
    (∀ n46 : Int, 0 ≤ n46 → n46 ≤ 65535 →
    (∀ n47 : Int, 0 ≤ n47 → n47 ≤ 65535 →
    (∀ n48 : Int, 0 ≤ n48 → n48 ≤ 65535 →
    (∀ n49 : Int, 0 ≤ n49 → n49 ≤ 65535 →
    (∀ n50 : Int, 0 ≤ n50 → n50 ≤ 65535 →
    (Post_product [[b2i t1, n15, n16, n17, n18, n19, n20, n21, n22, n23, n24, n25, n26], [b2i t2, n27, n28, n29, n30, n31, n32, n33, n34, n35, n36, n37, n38]] [[b2i t3, n39, n40, n41, n42, n43, n44, n45, n46, n47, n48, n49, n50]] →
    (Pre_above [[b2i t3, n39, n40, n41, n42, n43, n44, n45, n46, n47, n48, n49, n50], [b2i t, n, n1, n2, n3, n4, n5, n6, n7, n8, n9, n10, n11]] ∧
    (∀ t4 : Bool, (Post_above [[b2i t3, n39, n40, n41, n42, n43, n44, n45, n46, n47, n48, n49, n50], [b2i t, n, n1, n2, n3, n4, n5, n6, n7, n8, n9, n10, n11]] [[b2i t4]] →
    (((t4 = true) →
      (∀ n51 : Int, n51 = (IntKind.wrap .u64 (n14 - 1)) → 0 ≤ n51 → n51 ≤ 18446744073709551615 →
      (Inv_rroot [b2i t, n, n1, n2, n3, n4, n5, n6, n7, n8, n9, n10, n11] [n12, n51] ∧ Mea_rroot [b2i t, n, n1, n2, n3, n4, n5, n6, n7, n8, n9, n10, n11] [n12, n51] < Mea_rroot [b2i t, n, n1, n2, n3, n4, n5, n6, n7, n8, n9, n10, n11] [n12, n13]))) ∧
     (¬ (t4 = true) →
      (Inv_rroot [b2i t, n, n1, n2, n3, n4, n5, n6, n7, n8, n9, n10, n11] [n14, n13] ∧ Mea_rroot [b2i t, n, n1, n2, n3, n4, n5, n6, n7, n8, n9, n10, n11] [n14, n13] < Mea_rroot [b2i t, n, n1, n2, n3, n4, n5, n6, n7, n8, n9, n10, n11] [n12, n13]))))))))))))))))))))))))))))))))))))))))))))))))))))) ∧
   (¬ (n12 < n13) →
    Post_rroot [[b2i t, n, n1, n2, n3, n4, n5, n6, n7, n8, n9, n10, n11]] [[n12]]))))))))))))))))))))))
theorem c_rroot : canCall Try.prog 23 = true := by kernel_rfl
theorem s_rroot : P_rroot = sat E (symTop Try.prog tab27 2000 23 ash_rroot sh_rroot) := by kernel_rfl
theorem pure_rroot (hV : Valid Try.prog tab27 E) (h : P_rroot) (args : List Value) (ha : shaFits ash_rroot args) (hp : E.pre 23 (args.map vints)) : Pure Try.prog 23 args.toArray fun v => sh_rroot.fits v ∧ E.post 23 (args.map vints) (vres v) := @top_sat Try.prog tab27 E hV 2000 23 ash_rroot sh_rroot (@Eq.mp _ _ s_rroot h) args ha hp
theorem step_rroot (hV : Valid Try.prog tab27 E) (h : P_rroot) : Valid Try.prog tab28 E := hV.add c_rroot (pure_rroot hV h)

/-- gouache/gouacheref03.Root -/
def P_rRoot : Prop :=
  (∀ n : Int, 0 ≤ n → n ≤ 18446744073709551615 →
  (Pre_rRoot [[n]] →
  (Pre_rnum [[n]] ∧
  (∀ t : Bool, (∀ n1 : Int, 0 ≤ n1 → n1 ≤ 65535 →
  (∀ n2 : Int, 0 ≤ n2 → n2 ≤ 65535 →
  (∀ n3 : Int, 0 ≤ n3 → n3 ≤ 65535 →
  (∀ n4 : Int, 0 ≤ n4 → n4 ≤ 65535 →
  (∀ n5 : Int, 0 ≤ n5 → n5 ≤ 65535 →
  (∀ n6 : Int, 0 ≤ n6 → n6 ≤ 65535 →
  (∀ n7 : Int, 0 ≤ n7 → n7 ≤ 65535 →
  (∀ n8 : Int, 0 ≤ n8 → n8 ≤ 65535 →
  (∀ n9 : Int, 0 ≤ n9 → n9 ≤ 65535 →
  (∀ n10 : Int, 0 ≤ n10 → n10 ≤ 65535 →
  (∀ n11 : Int, 0 ≤ n11 → n11 ≤ 65535 →
  (∀ n12 : Int, 0 ≤ n12 → n12 ≤ 65535 →
  (Post_rnum [[n]] [[b2i t, n1, n2, n3, n4, n5, n6, n7, n8, n9, n10, n11, n12]] →
  (Pre_rroot [[b2i t, n1, n2, n3, n4, n5, n6, n7, n8, n9, n10, n11, n12]] ∧
  (∀ n13 : Int, 0 ≤ n13 → n13 ≤ 18446744073709551615 →
  (Post_rroot [[b2i t, n1, n2, n3, n4, n5, n6, n7, n8, n9, n10, n11, n12]] [[n13]] →
  Post_rRoot [[n]] [[n13]]))))))))))))))))))))
theorem c_rRoot : canCall Try.prog 14 = true := by kernel_rfl
theorem s_rRoot : P_rRoot = sat E (symTop Try.prog tab28 2000 14 ash_rRoot sh_rRoot) := by kernel_rfl
theorem pure_rRoot (hV : Valid Try.prog tab28 E) (h : P_rRoot) (args : List Value) (ha : shaFits ash_rRoot args) (hp : E.pre 14 (args.map vints)) : Pure Try.prog 14 args.toArray fun v => sh_rRoot.fits v ∧ E.post 14 (args.map vints) (vres v) := @top_sat Try.prog tab28 E hV 2000 14 ash_rRoot sh_rRoot (@Eq.mp _ _ s_rRoot h) args ha hp
theorem step_rRoot (hV : Valid Try.prog tab28 E) (h : P_rRoot) : Valid Try.prog tab29 E := hV.add c_rRoot (pure_rRoot hV h)

/-- gouache/gouacheref03.RootWide -/
def P_rRootWide : Prop :=
  (∀ n : Int, (-9223372036854775808) ≤ n → n ≤ 9223372036854775807 →
  (∀ n1 : Int, 0 ≤ n1 → n1 ≤ 18446744073709551615 →
  (Pre_rRootWide [[n, n1]] →
  (∀ b : Nat, (((n < 0) →
    Post_rRootWide [[n, n1]] [[0], [1]]) ∧
   (¬ (n < 0) →
    (Pre_read [[n, n1]] ∧
    (∀ t : Bool, (∀ n2 : Int, 0 ≤ n2 → n2 ≤ 65535 →
    (∀ n3 : Int, 0 ≤ n3 → n3 ≤ 65535 →
    (∀ n4 : Int, 0 ≤ n4 → n4 ≤ 65535 →
    (∀ n5 : Int, 0 ≤ n5 → n5 ≤ 65535 →
    (∀ n6 : Int, 0 ≤ n6 → n6 ≤ 65535 →
    (∀ n7 : Int, 0 ≤ n7 → n7 ≤ 65535 →
    (∀ n8 : Int, 0 ≤ n8 → n8 ≤ 65535 →
    (∀ n9 : Int, 0 ≤ n9 → n9 ≤ 65535 →
    (∀ n10 : Int, 0 ≤ n10 → n10 ≤ 65535 →
    (∀ n11 : Int, 0 ≤ n11 → n11 ≤ 65535 →
    (∀ n12 : Int, 0 ≤ n12 → n12 ≤ 65535 →
    (∀ n13 : Int, 0 ≤ n13 → n13 ≤ 65535 →
    (Post_read [[n, n1]] [[b2i t, n2, n3, n4, n5, n6, n7, n8, n9, n10, n11, n12, n13]] →
    (Pre_rroot [[b2i t, n2, n3, n4, n5, n6, n7, n8, n9, n10, n11, n12, n13]] ∧
    (∀ n14 : Int, 0 ≤ n14 → n14 ≤ 18446744073709551615 →
    (Post_rroot [[b2i t, n2, n3, n4, n5, n6, n7, n8, n9, n10, n11, n12, n13]] [[n14]] →
    Post_rRootWide [[n, n1]] [[n14], [0]]))))))))))))))))))))))))
theorem c_rRootWide : canCall Try.prog 10 = true := by kernel_rfl
theorem s_rRootWide : P_rRootWide = sat E (symTop Try.prog tab29 2000 10 ash_rRootWide sh_rRootWide) := by kernel_rfl
theorem pure_rRootWide (hV : Valid Try.prog tab29 E) (h : P_rRootWide) (args : List Value) (ha : shaFits ash_rRootWide args) (hp : E.pre 10 (args.map vints)) : Pure Try.prog 10 args.toArray fun v => sh_rRootWide.fits v ∧ E.post 10 (args.map vints) (vres v) := @top_sat Try.prog tab29 E hV 2000 10 ash_rRootWide sh_rRootWide (@Eq.mp _ _ s_rRootWide h) args ha hp
theorem step_rRootWide (hV : Valid Try.prog tab29 E) (h : P_rRootWide) : Valid Try.prog tab30 E := hV.add c_rRootWide (pure_rRootWide hV h)

/-- gouache/gouacheref03.Sqrt -/
def P_rSqrt : Prop :=
  (∀ n : Int, (-2147483648) ≤ n → n ≤ 2147483647 →
  (Pre_rSqrt [[n]] →
  (((n < 0) →
    Post_rSqrt [[n]] [[0], [1]]) ∧
   (¬ (n < 0) →
    (∀ n1 : Int, n1 = (IntKind.wrap .u64 ((IntKind.wrap .u64 n) * 65536)) → 0 ≤ n1 → n1 ≤ 18446744073709551615 →
    (Pre_rRoot [[n1]] ∧
    (∀ n2 : Int, 0 ≤ n2 → n2 ≤ 18446744073709551615 →
    (Post_rRoot [[n1]] [[n2]] →
    (∀ n3 : Int, n3 = (IntKind.wrap .i32 n2) → (-2147483648) ≤ n3 → n3 ≤ 2147483647 →
    Post_rSqrt [[n]] [[n3], [0]])))))))))
theorem c_rSqrt : canCall Try.prog 12 = true := by kernel_rfl
theorem s_rSqrt : P_rSqrt = sat E (symTop Try.prog tab30 2000 12 ash_rSqrt sh_rSqrt) := by kernel_rfl
theorem pure_rSqrt (hV : Valid Try.prog tab30 E) (h : P_rSqrt) (args : List Value) (ha : shaFits ash_rSqrt args) (hp : E.pre 12 (args.map vints)) : Pure Try.prog 12 args.toArray fun v => sh_rSqrt.fits v ∧ E.post 12 (args.map vints) (vres v) := @top_sat Try.prog tab30 E hV 2000 12 ash_rSqrt sh_rSqrt (@Eq.mp _ _ s_rSqrt h) args ha hp
theorem step_rSqrt (hV : Valid Try.prog tab30 E) (h : P_rSqrt) : Valid Try.prog tab31 E := hV.add c_rSqrt (pure_rSqrt hV h)

/-- gouache/gouacheref03.Log -/
def P_rLog : Prop :=
  (∀ n : Int, 0 ≤ n → n ≤ 18446744073709551615 →
  (Pre_rLog [[n]] →
  (Inv_rLog [n] [n, (-1)] ∧
  (∀ n1 : Int, 0 ≤ n1 → n1 ≤ 18446744073709551615 →
  (∀ n2 : Int, (-1) ≤ n2 → n2 ≤ 63 →
  (Inv_rLog [n] [n1, n2] →
  (∀ vs : List Value, vs.length = 8 →
  (((0 < n1) →
    (∀ n3 : Int, n3 = (n1 / 2) → 0 ≤ n3 → n3 ≤ 9223372036854775807 →
    (∀ n4 : Int, n4 = (n2 + 1) → 0 ≤ n4 → n4 ≤ 64 →
    ((n4 ≤ 63) ∧
    (∀ n5 : Int, n5 = n4 → (-1) ≤ n5 → n5 ≤ 63 →
    (Inv_rLog [n] [n3, n5] ∧ Mea_rLog [n] [n3, n5] < Mea_rLog [n] [n1, n2])))))) ∧
   (¬ (0 < n1) →
    Post_rLog [[n]] [[n2]])))))))))
theorem c_rLog : canCall Try.prog 16 = true := by kernel_rfl
theorem s_rLog : P_rLog = sat E (symTop Try.prog tab31 2000 16 ash_rLog sh_rLog) := by kernel_rfl
theorem pure_rLog (hV : Valid Try.prog tab31 E) (h : P_rLog) (args : List Value) (ha : shaFits ash_rLog args) (hp : E.pre 16 (args.map vints)) : Pure Try.prog 16 args.toArray fun v => sh_rLog.fits v ∧ E.post 16 (args.map vints) (vres v) := @top_sat Try.prog tab31 E hV 2000 16 ash_rLog sh_rLog (@Eq.mp _ _ s_rLog h) args ha hp
theorem step_rLog (hV : Valid Try.prog tab31 E) (h : P_rLog) : Valid Try.prog tab32 E := hV.add c_rLog (pure_rLog hV h)

/-- gouache/gouachelaw03.product -/
def P_lproduct : Prop :=
  (∀ n : Int, 0 ≤ n → n ≤ 18446744073709551615 →
  (∀ n1 : Int, 0 ≤ n1 → n1 ≤ 18446744073709551615 →
  (Pre_lproduct [[n], [n1]] →
  (∀ n2 : Int, n2 = ((n % 4294967296) * (n1 % 4294967296)) → 0 ≤ n2 → n2 ≤ 18446744065119617025 →
  (∀ n3 : Int, n3 = ((n / 4294967296) * (n1 % 4294967296)) → 0 ≤ n3 → n3 ≤ 18446744065119617025 →
  (∀ n4 : Int, n4 = ((n % 4294967296) * (n1 / 4294967296)) → 0 ≤ n4 → n4 ≤ 18446744065119617025 →
  (∀ n5 : Int, n5 = (((n2 / 4294967296) + (n3 % 4294967296)) + (n4 % 4294967296)) → 0 ≤ n5 → n5 ≤ 12884901884 →
  (∀ n6 : Int, n6 = (((((n / 4294967296) * (n1 / 4294967296)) + (n3 / 4294967296)) + (n4 / 4294967296)) + (n5 / 4294967296)) → 0 ≤ n6 → n6 ≤ 18446744073709551615 →
  (∀ n7 : Int, n7 = (bitsI .or .u64 (IntKind.wrap .u64 (n5 * 4294967296)) (n2 % 4294967296)) → 0 ≤ n7 → n7 ≤ 18446744073709551615 →
  Post_lproduct [[n], [n1]] [[n6], [n7]])))))))))
theorem c_lproduct : canCall Try.prog 18 = true := by kernel_rfl
theorem s_lproduct : P_lproduct = sat E (symTop Try.prog tab32 2000 18 ash_lproduct sh_lproduct) := by kernel_rfl
theorem pure_lproduct (hV : Valid Try.prog tab32 E) (h : P_lproduct) (args : List Value) (ha : shaFits ash_lproduct args) (hp : E.pre 18 (args.map vints)) : Pure Try.prog 18 args.toArray fun v => sh_lproduct.fits v ∧ E.post 18 (args.map vints) (vres v) := @top_sat Try.prog tab32 E hV 2000 18 ash_lproduct sh_lproduct (@Eq.mp _ _ s_lproduct h) args ha hp
theorem step_lproduct (hV : Valid Try.prog tab32 E) (h : P_lproduct) : Valid Try.prog tab33 E := hV.add c_lproduct (pure_lproduct hV h)

/-- gouache/gouachelaw03.lives -/
def P_lives : Prop :=
  (Pre_lives [] →
  (Pre_rootWide [[9223372036854775807, 18446744073709551615]] ∧
  (∀ n : Int, 0 ≤ n → n ≤ 18446744073709551615 →
  (∀ n1 : Int, (-9223372036854775808) ≤ n1 → n1 ≤ 9223372036854775807 →
  (Post_rootWide [[9223372036854775807, 18446744073709551615]] [[n], [n1]] →
  (Pre_wof [[(-1)]] ∧
  (∀ n2 : Int, (-9223372036854775808) ≤ n2 → n2 ≤ 9223372036854775807 →
  (∀ n3 : Int, 0 ≤ n3 → n3 ≤ 18446744073709551615 →
  (Post_wof [[(-1)]] [[n2, n3]] →
  (Pre_rootWide [[n2, n3]] ∧
  (∀ n4 : Int, 0 ≤ n4 → n4 ≤ 18446744073709551615 →
  (∀ n5 : Int, (-9223372036854775808) ≤ n5 → n5 ≤ 9223372036854775807 →
  (Post_rootWide [[n2, n3]] [[n4], [n5]] →
  (Pre_sqrt [[131072]] ∧
  (∀ n6 : Int, (-2147483648) ≤ n6 → n6 ≤ 2147483647 →
  (∀ n7 : Int, (-9223372036854775808) ≤ n7 → n7 ≤ 9223372036854775807 →
  (Post_sqrt [[131072]] [[n6], [n7]] →
  (Pre_sqrt [[1]] ∧
  (∀ n8 : Int, (-2147483648) ≤ n8 → n8 ≤ 2147483647 →
  (∀ n9 : Int, (-9223372036854775808) ≤ n9 → n9 ≤ 9223372036854775807 →
  (Post_sqrt [[1]] [[n8], [n9]] →
  (Pre_sqrt [[(-1)]] ∧
  (∀ n10 : Int, (-2147483648) ≤ n10 → n10 ≤ 2147483647 →
  (∀ n11 : Int, (-9223372036854775808) ≤ n11 → n11 ≤ 9223372036854775807 →
  (Post_sqrt [[(-1)]] [[n10], [n11]] →
  (Pre_root [[0]] ∧
  (∀ n12 : Int, 0 ≤ n12 → n12 ≤ 18446744073709551615 →
  (Post_root [[0]] [[n12]] →
  (((n12 = 0) →
    (Pre_root [[24]] ∧
    (∀ n13 : Int, 0 ≤ n13 → n13 ≤ 18446744073709551615 →
    (Post_root [[24]] [[n13]] →
    (((n13 = 4) →
      (Pre_root [[25]] ∧
      (∀ n14 : Int, 0 ≤ n14 → n14 ≤ 18446744073709551615 →
      (Post_root [[25]] [[n14]] →
      (((n14 = 5) →
        (Pre_root [[18446744073709551615]] ∧
        (∀ n15 : Int, 0 ≤ n15 → n15 ≤ 18446744073709551615 →
        (Post_root [[18446744073709551615]] [[n15]] →
        (((n15 = 4294967295) →
          (((n = 13043817825332782212) →
            (((n1 = 0) →
              (((n5 = 1) →
                (((n6 = 92681) →
                  (((n7 = 0) →
                    (((n8 = 256) →
                      (((n9 = 0) →
                        (((n11 = 1) →
                          (Pre_log [[0]] ∧
                          (∀ n16 : Int, (-9223372036854775808) ≤ n16 → n16 ≤ 9223372036854775807 →
                          (Post_log [[0]] [[n16]] →
                          (((n16 = (-1)) →
                            (Pre_log [[1]] ∧
                            (∀ n17 : Int, (-9223372036854775808) ≤ n17 → n17 ≤ 9223372036854775807 →
                            (Post_log [[1]] [[n17]] →
                            (((n17 = 0) →
                              (Pre_log [[9223372036854775808]] ∧
                              (∀ n18 : Int, (-9223372036854775808) ≤ n18 → n18 ≤ 9223372036854775807 →
                              (Post_log [[9223372036854775808]] [[n18]] →
                              Post_lives [] [[b2i (n18 == 63)]])))) ∧
                             (¬ (n17 = 0) →
                              Post_lives [] [[b2i false]])))))) ∧
                           (¬ (n16 = (-1)) →
                            Post_lives [] [[b2i false]])))))) ∧
                         (¬ (n11 = 1) →
                          Post_lives [] [[b2i false]]))) ∧
                       (¬ (n9 = 0) →
                        Post_lives [] [[b2i false]]))) ∧
                     (¬ (n8 = 256) →
                      Post_lives [] [[b2i false]]))) ∧
                   (¬ (n7 = 0) →
                    Post_lives [] [[b2i false]]))) ∧
                 (¬ (n6 = 92681) →
                  Post_lives [] [[b2i false]]))) ∧
               (¬ (n5 = 1) →
                Post_lives [] [[b2i false]]))) ∧
             (¬ (n1 = 0) →
              Post_lives [] [[b2i false]]))) ∧
           (¬ (n = 13043817825332782212) →
            Post_lives [] [[b2i false]]))) ∧
         (¬ (n15 = 4294967295) →
          Post_lives [] [[b2i false]])))))) ∧
       (¬ (n14 = 5) →
        Post_lives [] [[b2i false]])))))) ∧
     (¬ (n13 = 4) →
      Post_lives [] [[b2i false]])))))) ∧
   (¬ (n12 = 0) →
    Post_lives [] [[b2i false]]))))))))))))))))))))))))))))))
theorem c_lives : canCall Try.prog 17 = true := by kernel_rfl
theorem s_lives : P_lives = sat E (symTop Try.prog tab33 2000 17 ash_lives sh_lives) := by kernel_rfl
theorem pure_lives (hV : Valid Try.prog tab33 E) (h : P_lives) (args : List Value) (ha : shaFits ash_lives args) (hp : E.pre 17 (args.map vints)) : Pure Try.prog 17 args.toArray fun v => sh_lives.fits v ∧ E.post 17 (args.map vints) (vres v) := @top_sat Try.prog tab33 E hV 2000 17 ash_lives sh_lives (@Eq.mp _ _ s_lives h) args ha hp
theorem step_lives (hV : Valid Try.prog tab33 E) (h : P_lives) : Valid Try.prog tab34 E := hV.add c_lives (pure_lives hV h)

/-- gouache/gouachelaw03.RootsOf -/
def P_lof : Prop :=
  (∀ n : Int, 0 ≤ n → n ≤ 18446744073709551615 →
  (∀ n1 : Int, (-9223372036854775808) ≤ n1 → n1 ≤ 9223372036854775807 →
  (∀ n2 : Int, 0 ≤ n2 → n2 ≤ 18446744073709551615 →
  (∀ n3 : Int, (-2147483648) ≤ n3 → n3 ≤ 2147483647 →
  (Pre_lof [[n], [n1, n2], [n3]] →
  (∀ b : Nat, (Pre_rootWide [[n1, n2]] ∧
  (∀ n4 : Int, 0 ≤ n4 → n4 ≤ 18446744073709551615 →
  (∀ n5 : Int, (-9223372036854775808) ≤ n5 → n5 ≤ 9223372036854775807 →
  (Post_rootWide [[n1, n2]] [[n4], [n5]] →
  (Pre_rRootWide [[n1, n2]] ∧
  (∀ n6 : Int, 0 ≤ n6 → n6 ≤ 18446744073709551615 →
  (∀ n7 : Int, (-9223372036854775808) ≤ n7 → n7 ≤ 9223372036854775807 →
  (Post_rRootWide [[n1, n2]] [[n6], [n7]] →
  (Pre_sqrt [[n3]] ∧
  (∀ n8 : Int, (-2147483648) ≤ n8 → n8 ≤ 2147483647 →
  (∀ n9 : Int, (-9223372036854775808) ≤ n9 → n9 ≤ 9223372036854775807 →
  (Post_sqrt [[n3]] [[n8], [n9]] →
  (Pre_rSqrt [[n3]] ∧
  (∀ n10 : Int, (-2147483648) ≤ n10 → n10 ≤ 2147483647 →
  (∀ n11 : Int, (-9223372036854775808) ≤ n11 → n11 ≤ 9223372036854775807 →
  (Post_rSqrt [[n3]] [[n10], [n11]] →
  (Pre_root [[n]] ∧
  (∀ n12 : Int, 0 ≤ n12 → n12 ≤ 18446744073709551615 →
  (Post_root [[n]] [[n12]] →
  (Pre_rRoot [[n]] ∧
  (∀ n13 : Int, 0 ≤ n13 → n13 ≤ 18446744073709551615 →
  (Post_rRoot [[n]] [[n13]] →
  (((n12 = n13) →
    (((n4 = n6) →
      (((n5 = n7) →
        (((n8 = n10) →
          (((n9 = n11) →
            (Pre_log [[n]] ∧
            (∀ n14 : Int, (-9223372036854775808) ≤ n14 → n14 ≤ 9223372036854775807 →
            (Post_log [[n]] [[n14]] →
            (Pre_rLog [[n]] ∧
            (∀ n15 : Int, (-9223372036854775808) ≤ n15 → n15 ≤ 9223372036854775807 →
            (Post_rLog [[n]] [[n15]] →
            (((n14 = n15) →
              (Pre_lives [] ∧
              (∀ t : Bool, (Post_lives [] [[b2i t]] →
              Post_lof [[n], [n1, n2], [n3]] [[b2i t]])))) ∧
             (¬ (n14 = n15) →
              Post_lof [[n], [n1, n2], [n3]] [[b2i false]]))))))))) ∧
           (¬ (n9 = n11) →
            Post_lof [[n], [n1, n2], [n3]] [[b2i false]]))) ∧
         (¬ (n8 = n10) →
          Post_lof [[n], [n1, n2], [n3]] [[b2i false]]))) ∧
       (¬ (n5 = n7) →
        Post_lof [[n], [n1, n2], [n3]] [[b2i false]]))) ∧
     (¬ (n4 = n6) →
      Post_lof [[n], [n1, n2], [n3]] [[b2i false]]))) ∧
   (¬ (n12 = n13) →
    Post_lof [[n], [n1, n2], [n3]] [[b2i false]]))))))))))))))))))))))))))))))
theorem c_lof : canCall Try.prog 3 = true := by kernel_rfl
theorem s_lof : P_lof = sat E (symTop Try.prog tab34 2000 3 ash_lof sh_lof) := by kernel_rfl
theorem pure_lof (hV : Valid Try.prog tab34 E) (h : P_lof) (args : List Value) (ha : shaFits ash_lof args) (hp : E.pre 3 (args.map vints)) : Pure Try.prog 3 args.toArray fun v => sh_lof.fits v ∧ E.post 3 (args.map vints) (vres v) := @top_sat Try.prog tab34 E hV 2000 3 ash_lof sh_lof (@Eq.mp _ _ s_lof h) args ha hp
/-- gouache/gouachelaw03.RootsBetween -/
def P_lbetween : Prop :=
  (∀ n : Int, 0 ≤ n → n ≤ 18446744073709551615 →
  (∀ n1 : Int, (-9223372036854775808) ≤ n1 → n1 ≤ 9223372036854775807 →
  (∀ n2 : Int, 0 ≤ n2 → n2 ≤ 18446744073709551615 →
  (Pre_lbetween [[n], [n1, n2]] →
  (∀ b : Nat, (Pre_root [[n]] ∧
  (∀ n3 : Int, 0 ≤ n3 → n3 ≤ 18446744073709551615 →
  (Post_root [[n]] [[n3]] →
  (((4294967295 < n3) →
    Post_lbetween [[n], [n1, n2]] [[b2i false]]) ∧
   (¬ (4294967295 < n3) →
    (((n < (IntKind.wrap .u64 (n3 * n3))) →
      Post_lbetween [[n], [n1, n2]] [[b2i false]]) ∧
     (¬ (n < (IntKind.wrap .u64 (n3 * n3))) →
      ((((IntKind.wrap .u64 (2 * n3)) < (IntKind.wrap .u64 (n - (IntKind.wrap .u64 (n3 * n3))))) →
        Post_lbetween [[n], [n1, n2]] [[b2i false]]) ∧
       (¬ ((IntKind.wrap .u64 (2 * n3)) < (IntKind.wrap .u64 (n - (IntKind.wrap .u64 (n3 * n3))))) →
        (Pre_rootWide [[n1, n2]] ∧
        (∀ n4 : Int, 0 ≤ n4 → n4 ≤ 18446744073709551615 →
        (∀ n5 : Int, (-9223372036854775808) ≤ n5 → n5 ≤ 9223372036854775807 →
        (Post_rootWide [[n1, n2]] [[n4], [n5]] →
        (((n1 < 0) →
          (((n5 = 1) →
            (((n4 = 0) →
              (Pre_lives [] ∧
              (∀ t : Bool, (Post_lives [] [[b2i t]] →
              Post_lbetween [[n], [n1, n2]] [[b2i t]])))) ∧
             (¬ (n4 = 0) →
              Post_lbetween [[n], [n1, n2]] [[b2i false]]))) ∧
           (¬ (n5 = 1) →
            Post_lbetween [[n], [n1, n2]] [[b2i false]]))) ∧
         (¬ (n1 < 0) →
          (Pre_lproduct [[n4], [n4]] ∧
          (∀ n6 : Int, 0 ≤ n6 → n6 ≤ 18446744073709551615 →
          (∀ n7 : Int, 0 ≤ n7 → n7 ≤ 18446744073709551615 →
          (Post_lproduct [[n4], [n4]] [[n6], [n7]] →
          (((¬ (n5 = 0)) →
            Post_lbetween [[n], [n1, n2]] [[b2i false]]) ∧
           (¬ (¬ (n5 = 0)) →
            ((((IntKind.wrap .u64 n1) < n6) →
              Post_lbetween [[n], [n1, n2]] [[b2i false]]) ∧
             (¬ ((IntKind.wrap .u64 n1) < n6) →
              (((n6 = (IntKind.wrap .u64 n1)) →
                (((n2 < n7) →
                  Post_lbetween [[n], [n1, n2]] [[b2i false]]) ∧
                 (¬ (n2 < n7) →
                  (∀ n8 : Int, n8 = (IntKind.wrap .u64 ((IntKind.wrap .u64 n1) - n6)) → 0 ≤ n8 → n8 ≤ 18446744073709551615 →
                  (((n2 < n7) →
                    (∀ n9 : Int, n9 = (IntKind.wrap .u64 (n8 - 1)) → 0 ≤ n9 → n9 ≤ 18446744073709551615 →
                    (∀ n10 : Int, n10 = (IntKind.wrap .u64 (n2 - n7)) → 0 ≤ n10 → n10 ≤ 18446744073709551615 →
                    (((n9 = 0) →
                      (((9223372036854775807 < n4) →
                        (Pre_lives [] ∧
                        (∀ t : Bool, (Post_lives [] [[b2i t]] →
                        Post_lbetween [[n], [n1, n2]] [[b2i t]])))) ∧
                       (¬ (9223372036854775807 < n4) →
                        (((n10 ≤ (IntKind.wrap .u64 (2 * n4))) →
                          (Pre_lives [] ∧
                          (∀ t : Bool, (Post_lives [] [[b2i t]] →
                          Post_lbetween [[n], [n1, n2]] [[b2i t]])))) ∧
                         (¬ (n10 ≤ (IntKind.wrap .u64 (2 * n4))) →
                          (((n9 = 1) →
                            (((9223372036854775807 < n4) →
                              (((n10 ≤ (IntKind.wrap .u64 (2 * n4))) →
                                (Pre_lives [] ∧
                                (∀ t : Bool, (Post_lives [] [[b2i t]] →
                                Post_lbetween [[n], [n1, n2]] [[b2i t]])))) ∧
                               (¬ (n10 ≤ (IntKind.wrap .u64 (2 * n4))) →
                                Post_lbetween [[n], [n1, n2]] [[b2i false]]))) ∧
                             (¬ (9223372036854775807 < n4) →
                              Post_lbetween [[n], [n1, n2]] [[b2i false]]))) ∧
                           (¬ (n9 = 1) →
                            Post_lbetween [[n], [n1, n2]] [[b2i false]]))))))) ∧
                     (¬ (n9 = 0) →
                      (((n9 = 1) →
                        (((9223372036854775807 < n4) →
                          (((n10 ≤ (IntKind.wrap .u64 (2 * n4))) →
                            (Pre_lives [] ∧
                            (∀ t : Bool, (Post_lives [] [[b2i t]] →
                            Post_lbetween [[n], [n1, n2]] [[b2i t]])))) ∧
                           (¬ (n10 ≤ (IntKind.wrap .u64 (2 * n4))) →
                            Post_lbetween [[n], [n1, n2]] [[b2i false]]))) ∧
                         (¬ (9223372036854775807 < n4) →
                          Post_lbetween [[n], [n1, n2]] [[b2i false]]))) ∧
                       (¬ (n9 = 1) →
                        Post_lbetween [[n], [n1, n2]] [[b2i false]]))))))) ∧
                   (¬ (n2 < n7) →
                    (∀ n9 : Int, n9 = (IntKind.wrap .u64 (n2 - n7)) → 0 ≤ n9 → n9 ≤ 18446744073709551615 →
                    (((n8 = 0) →
                      (((9223372036854775807 < n4) →
                        (Pre_lives [] ∧
                        (∀ t : Bool, (Post_lives [] [[b2i t]] →
                        Post_lbetween [[n], [n1, n2]] [[b2i t]])))) ∧
                       (¬ (9223372036854775807 < n4) →
                        (((n9 ≤ (IntKind.wrap .u64 (2 * n4))) →
                          (Pre_lives [] ∧
                          (∀ t : Bool, (Post_lives [] [[b2i t]] →
                          Post_lbetween [[n], [n1, n2]] [[b2i t]])))) ∧
                         (¬ (n9 ≤ (IntKind.wrap .u64 (2 * n4))) →
                          (((n8 = 1) →
                            (((9223372036854775807 < n4) →
                              (((n9 ≤ (IntKind.wrap .u64 (2 * n4))) →
                                (Pre_lives [] ∧
                                (∀ t : Bool, (Post_lives [] [[b2i t]] →
                                Post_lbetween [[n], [n1, n2]] [[b2i t]])))) ∧
                               (¬ (n9 ≤ (IntKind.wrap .u64 (2 * n4))) →
                                Post_lbetween [[n], [n1, n2]] [[b2i false]]))) ∧
                             (¬ (9223372036854775807 < n4) →
                              Post_lbetween [[n], [n1, n2]] [[b2i false]]))) ∧
                           (¬ (n8 = 1) →
                            Post_lbetween [[n], [n1, n2]] [[b2i false]]))))))) ∧
                     (¬ (n8 = 0) →
                      (((n8 = 1) →
                        (((9223372036854775807 < n4) →
                          (((n9 ≤ (IntKind.wrap .u64 (2 * n4))) →
                            (Pre_lives [] ∧
                            (∀ t : Bool, (Post_lives [] [[b2i t]] →
                            Post_lbetween [[n], [n1, n2]] [[b2i t]])))) ∧
                           (¬ (n9 ≤ (IntKind.wrap .u64 (2 * n4))) →
                            Post_lbetween [[n], [n1, n2]] [[b2i false]]))) ∧
                         (¬ (9223372036854775807 < n4) →
                          Post_lbetween [[n], [n1, n2]] [[b2i false]]))) ∧
                       (¬ (n8 = 1) →
                        Post_lbetween [[n], [n1, n2]] [[b2i false]]))))))))))) ∧
               (¬ (n6 = (IntKind.wrap .u64 n1)) →
                (∀ n8 : Int, n8 = (IntKind.wrap .u64 ((IntKind.wrap .u64 n1) - n6)) → 0 ≤ n8 → n8 ≤ 18446744073709551615 →
                (((n2 < n7) →
                  (∀ n9 : Int, n9 = (IntKind.wrap .u64 (n8 - 1)) → 0 ≤ n9 → n9 ≤ 18446744073709551615 →
                  (∀ n10 : Int, n10 = (IntKind.wrap .u64 (n2 - n7)) → 0 ≤ n10 → n10 ≤ 18446744073709551615 →
                  (((n9 = 0) →
                    (((9223372036854775807 < n4) →
                      (Pre_lives [] ∧
                      (∀ t : Bool, (Post_lives [] [[b2i t]] →
                      Post_lbetween [[n], [n1, n2]] [[b2i t]])))) ∧
                     (¬ (9223372036854775807 < n4) →
                      (((n10 ≤ (IntKind.wrap .u64 (2 * n4))) →
                        (Pre_lives [] ∧
                        (∀ t : Bool, (Post_lives [] [[b2i t]] →
                        Post_lbetween [[n], [n1, n2]] [[b2i t]])))) ∧
                       (¬ (n10 ≤ (IntKind.wrap .u64 (2 * n4))) →
                        (((n9 = 1) →
                          (((9223372036854775807 < n4) →
                            (((n10 ≤ (IntKind.wrap .u64 (2 * n4))) →
                              (Pre_lives [] ∧
                              (∀ t : Bool, (Post_lives [] [[b2i t]] →
                              Post_lbetween [[n], [n1, n2]] [[b2i t]])))) ∧
                             (¬ (n10 ≤ (IntKind.wrap .u64 (2 * n4))) →
                              Post_lbetween [[n], [n1, n2]] [[b2i false]]))) ∧
                           (¬ (9223372036854775807 < n4) →
                            Post_lbetween [[n], [n1, n2]] [[b2i false]]))) ∧
                         (¬ (n9 = 1) →
                          Post_lbetween [[n], [n1, n2]] [[b2i false]]))))))) ∧
                   (¬ (n9 = 0) →
                    (((n9 = 1) →
                      (((9223372036854775807 < n4) →
                        (((n10 ≤ (IntKind.wrap .u64 (2 * n4))) →
                          (Pre_lives [] ∧
                          (∀ t : Bool, (Post_lives [] [[b2i t]] →
                          Post_lbetween [[n], [n1, n2]] [[b2i t]])))) ∧
                         (¬ (n10 ≤ (IntKind.wrap .u64 (2 * n4))) →
                          Post_lbetween [[n], [n1, n2]] [[b2i false]]))) ∧
                       (¬ (9223372036854775807 < n4) →
                        Post_lbetween [[n], [n1, n2]] [[b2i false]]))) ∧
                     (¬ (n9 = 1) →
                      Post_lbetween [[n], [n1, n2]] [[b2i false]]))))))) ∧
                 (¬ (n2 < n7) →
                  (∀ n9 : Int, n9 = (IntKind.wrap .u64 (n2 - n7)) → 0 ≤ n9 → n9 ≤ 18446744073709551615 →
                  (((n8 = 0) →
                    (((9223372036854775807 < n4) →
                      (Pre_lives [] ∧
                      (∀ t : Bool, (Post_lives [] [[b2i t]] →
                      Post_lbetween [[n], [n1, n2]] [[b2i t]])))) ∧
                     (¬ (9223372036854775807 < n4) →
                      (((n9 ≤ (IntKind.wrap .u64 (2 * n4))) →
                        (Pre_lives [] ∧
                        (∀ t : Bool, (Post_lives [] [[b2i t]] →
                        Post_lbetween [[n], [n1, n2]] [[b2i t]])))) ∧
                       (¬ (n9 ≤ (IntKind.wrap .u64 (2 * n4))) →
                        (((n8 = 1) →
                          (((9223372036854775807 < n4) →
                            (((n9 ≤ (IntKind.wrap .u64 (2 * n4))) →
                              (Pre_lives [] ∧
                              (∀ t : Bool, (Post_lives [] [[b2i t]] →
                              Post_lbetween [[n], [n1, n2]] [[b2i t]])))) ∧
                             (¬ (n9 ≤ (IntKind.wrap .u64 (2 * n4))) →
                              Post_lbetween [[n], [n1, n2]] [[b2i false]]))) ∧
                           (¬ (9223372036854775807 < n4) →
                            Post_lbetween [[n], [n1, n2]] [[b2i false]]))) ∧
                         (¬ (n8 = 1) →
                          Post_lbetween [[n], [n1, n2]] [[b2i false]]))))))) ∧
                   (¬ (n8 = 0) →
                    (((n8 = 1) →
                      (((9223372036854775807 < n4) →
                        (((n9 ≤ (IntKind.wrap .u64 (2 * n4))) →
                          (Pre_lives [] ∧
                          (∀ t : Bool, (Post_lives [] [[b2i t]] →
                          Post_lbetween [[n], [n1, n2]] [[b2i t]])))) ∧
                         (¬ (n9 ≤ (IntKind.wrap .u64 (2 * n4))) →
                          Post_lbetween [[n], [n1, n2]] [[b2i false]]))) ∧
                       (¬ (9223372036854775807 < n4) →
                        Post_lbetween [[n], [n1, n2]] [[b2i false]]))) ∧
                     (¬ (n8 = 1) →
                      Post_lbetween [[n], [n1, n2]] [[b2i false]]))))))))))))))))))))))))))))))))))))))
theorem c_lbetween : canCall Try.prog 4 = true := by kernel_rfl
theorem s_lbetween : P_lbetween = sat E (symTop Try.prog tab34 2000 4 ash_lbetween sh_lbetween) := by kernel_rfl
theorem pure_lbetween (hV : Valid Try.prog tab34 E) (h : P_lbetween) (args : List Value) (ha : shaFits ash_lbetween args) (hp : E.pre 4 (args.map vints)) : Pure Try.prog 4 args.toArray fun v => sh_lbetween.fits v ∧ E.post 4 (args.map vints) (vres v) := @top_sat Try.prog tab34 E hV 2000 4 ash_lbetween sh_lbetween (@Eq.mp _ _ s_lbetween h) args ha hp
/-- gouache/gouachelaw03.RootsSquares -/
def P_lsquares : Prop :=
  (∀ n : Int, 0 ≤ n → n ≤ 4294967295 →
  (∀ n1 : Int, 0 ≤ n1 → n1 ≤ 18446744073709551615 →
  (Pre_lsquares [[n], [n1]] →
  (∀ n2 : Int, n2 = (n * n) → 0 ≤ n2 → n2 ≤ 18446744065119617025 →
  (Pre_root [[n2]] ∧
  (∀ n3 : Int, 0 ≤ n3 → n3 ≤ 18446744073709551615 →
  (Post_root [[n2]] [[n3]] →
  (((¬ (n3 = n)) →
    Post_lsquares [[n], [n1]] [[b2i false]]) ∧
   (¬ (¬ (n3 = n)) →
    (((0 < n) →
      (∀ n4 : Int, n4 = (IntKind.wrap .u64 (n2 - 1)) → 0 ≤ n4 → n4 ≤ 18446744073709551615 →
      (Pre_root [[n4]] ∧
      (∀ n5 : Int, 0 ≤ n5 → n5 ≤ 18446744073709551615 →
      (Post_root [[n4]] [[n5]] →
      (((¬ (n5 = (IntKind.wrap .u64 (n - 1)))) →
        Post_lsquares [[n], [n1]] [[b2i false]]) ∧
       (¬ (¬ (n5 = (IntKind.wrap .u64 (n - 1)))) →
        (∀ n6 : Int, n6 = (n1 % 13043817825332782213) → 0 ≤ n6 → n6 ≤ 13043817825332782212 →
        (Pre_lproduct [[n6], [n6]] ∧
        (∀ n7 : Int, 0 ≤ n7 → n7 ≤ 18446744073709551615 →
        (∀ n8 : Int, 0 ≤ n8 → n8 ≤ 18446744073709551615 →
        (Post_lproduct [[n6], [n6]] [[n7], [n8]] →
        (∀ n9 : Int, n9 = (IntKind.wrap .i64 n7) → (-9223372036854775808) ≤ n9 → n9 ≤ 9223372036854775807 →
        (Pre_rootWide [[n9, n8]] ∧
        (∀ n10 : Int, 0 ≤ n10 → n10 ≤ 18446744073709551615 →
        (∀ n11 : Int, (-9223372036854775808) ≤ n11 → n11 ≤ 9223372036854775807 →
        (Post_rootWide [[n9, n8]] [[n10], [n11]] →
        (((¬ (n10 = n6)) →
          (((n6 = 0) →
            (((n10 = 0) →
              (((n11 = 0) →
                (Pre_lives [] ∧
                (∀ t : Bool, (Post_lives [] [[b2i t]] →
                Post_lsquares [[n], [n1]] [[b2i t]])))) ∧
               (¬ (n11 = 0) →
                Post_lsquares [[n], [n1]] [[b2i false]]))) ∧
             (¬ (n10 = 0) →
              Post_lsquares [[n], [n1]] [[b2i false]]))) ∧
           (¬ (n6 = 0) →
            Post_lsquares [[n], [n1]] [[b2i false]]))) ∧
         (¬ (¬ (n10 = n6)) →
          (((¬ (n11 = 0)) →
            (((n6 = 0) →
              (((n10 = 0) →
                (((n11 = 0) →
                  (Pre_lives [] ∧
                  (∀ t : Bool, (Post_lives [] [[b2i t]] →
                  Post_lsquares [[n], [n1]] [[b2i t]])))) ∧
                 (¬ (n11 = 0) →
                  Post_lsquares [[n], [n1]] [[b2i false]]))) ∧
               (¬ (n10 = 0) →
                Post_lsquares [[n], [n1]] [[b2i false]]))) ∧
             (¬ (n6 = 0) →
              Post_lsquares [[n], [n1]] [[b2i false]]))) ∧
           (¬ (¬ (n11 = 0)) →
            (((n6 = 0) →
              (((n6 = 0) →
                (((n10 = 0) →
                  (((n11 = 0) →
                    (Pre_lives [] ∧
                    (∀ t : Bool, (Post_lives [] [[b2i t]] →
                    Post_lsquares [[n], [n1]] [[b2i t]])))) ∧
                   (¬ (n11 = 0) →
                    Post_lsquares [[n], [n1]] [[b2i false]]))) ∧
                 (¬ (n10 = 0) →
                  Post_lsquares [[n], [n1]] [[b2i false]]))) ∧
               (¬ (n6 = 0) →
                Post_lsquares [[n], [n1]] [[b2i false]]))) ∧
             (¬ (n6 = 0) →
              (((n8 = 0) →
                (∀ n12 : Int, n12 = (IntKind.wrap .u64 (n7 - 1)) → 0 ≤ n12 → n12 ≤ 18446744073709551615 →
                (∀ n13 : Int, n13 = (IntKind.wrap .i64 n12) → (-9223372036854775808) ≤ n13 → n13 ≤ 9223372036854775807 →
                (∀ n14 : Int, n14 = (IntKind.wrap .u64 (n8 - 1)) → 0 ≤ n14 → n14 ≤ 18446744073709551615 →
                (Pre_rootWide [[n13, n14]] ∧
                (∀ n15 : Int, 0 ≤ n15 → n15 ≤ 18446744073709551615 →
                (∀ n16 : Int, (-9223372036854775808) ≤ n16 → n16 ≤ 9223372036854775807 →
                (Post_rootWide [[n13, n14]] [[n15], [n16]] →
                (((n15 = (IntKind.wrap .u64 (n6 - 1))) →
                  (((n16 = 0) →
                    (Pre_lives [] ∧
                    (∀ t : Bool, (Post_lives [] [[b2i t]] →
                    Post_lsquares [[n], [n1]] [[b2i t]])))) ∧
                   (¬ (n16 = 0) →
                    Post_lsquares [[n], [n1]] [[b2i false]]))) ∧
                 (¬ (n15 = (IntKind.wrap .u64 (n6 - 1))) →
                  Post_lsquares [[n], [n1]] [[b2i false]])))))))))) ∧
               (¬ (n8 = 0) →
                (∀ n12 : Int, n12 = (IntKind.wrap .i64 n7) → (-9223372036854775808) ≤ n12 → n12 ≤ 9223372036854775807 →
                (∀ n13 : Int, n13 = (IntKind.wrap .u64 (n8 - 1)) → 0 ≤ n13 → n13 ≤ 18446744073709551615 →
                (Pre_rootWide [[n12, n13]] ∧
                (∀ n14 : Int, 0 ≤ n14 → n14 ≤ 18446744073709551615 →
                (∀ n15 : Int, (-9223372036854775808) ≤ n15 → n15 ≤ 9223372036854775807 →
                (Post_rootWide [[n12, n13]] [[n14], [n15]] →
                (((n14 = (IntKind.wrap .u64 (n6 - 1))) →
                  (((n15 = 0) →
                    (Pre_lives [] ∧
                    (∀ t : Bool, (Post_lives [] [[b2i t]] →
                    Post_lsquares [[n], [n1]] [[b2i t]])))) ∧
                   (¬ (n15 = 0) →
                    Post_lsquares [[n], [n1]] [[b2i false]]))) ∧
                 (¬ (n14 = (IntKind.wrap .u64 (n6 - 1))) →
                  Post_lsquares [[n], [n1]] [[b2i false]]))))))))))))))))))))))))))))))))) ∧
     (¬ (0 < n) →
      (∀ n4 : Int, n4 = (n1 % 13043817825332782213) → 0 ≤ n4 → n4 ≤ 13043817825332782212 →
      (Pre_lproduct [[n4], [n4]] ∧
      (∀ n5 : Int, 0 ≤ n5 → n5 ≤ 18446744073709551615 →
      (∀ n6 : Int, 0 ≤ n6 → n6 ≤ 18446744073709551615 →
      (Post_lproduct [[n4], [n4]] [[n5], [n6]] →
      (∀ n7 : Int, n7 = (IntKind.wrap .i64 n5) → (-9223372036854775808) ≤ n7 → n7 ≤ 9223372036854775807 →
      (Pre_rootWide [[n7, n6]] ∧
      (∀ n8 : Int, 0 ≤ n8 → n8 ≤ 18446744073709551615 →
      (∀ n9 : Int, (-9223372036854775808) ≤ n9 → n9 ≤ 9223372036854775807 →
      (Post_rootWide [[n7, n6]] [[n8], [n9]] →
      (((¬ (n8 = n4)) →
        (((n4 = 0) →
          (((n8 = 0) →
            (((n9 = 0) →
              (Pre_lives [] ∧
              (∀ t : Bool, (Post_lives [] [[b2i t]] →
              Post_lsquares [[n], [n1]] [[b2i t]])))) ∧
             (¬ (n9 = 0) →
              Post_lsquares [[n], [n1]] [[b2i false]]))) ∧
           (¬ (n8 = 0) →
            Post_lsquares [[n], [n1]] [[b2i false]]))) ∧
         (¬ (n4 = 0) →
          Post_lsquares [[n], [n1]] [[b2i false]]))) ∧
       (¬ (¬ (n8 = n4)) →
        (((¬ (n9 = 0)) →
          (((n4 = 0) →
            (((n8 = 0) →
              (((n9 = 0) →
                (Pre_lives [] ∧
                (∀ t : Bool, (Post_lives [] [[b2i t]] →
                Post_lsquares [[n], [n1]] [[b2i t]])))) ∧
               (¬ (n9 = 0) →
                Post_lsquares [[n], [n1]] [[b2i false]]))) ∧
             (¬ (n8 = 0) →
              Post_lsquares [[n], [n1]] [[b2i false]]))) ∧
           (¬ (n4 = 0) →
            Post_lsquares [[n], [n1]] [[b2i false]]))) ∧
         (¬ (¬ (n9 = 0)) →
          (((n4 = 0) →
            (((n4 = 0) →
              (((n8 = 0) →
                (((n9 = 0) →
                  (Pre_lives [] ∧
                  (∀ t : Bool, (Post_lives [] [[b2i t]] →
                  Post_lsquares [[n], [n1]] [[b2i t]])))) ∧
                 (¬ (n9 = 0) →
                  Post_lsquares [[n], [n1]] [[b2i false]]))) ∧
               (¬ (n8 = 0) →
                Post_lsquares [[n], [n1]] [[b2i false]]))) ∧
             (¬ (n4 = 0) →
              Post_lsquares [[n], [n1]] [[b2i false]]))) ∧
           (¬ (n4 = 0) →
            (((n6 = 0) →
              (∀ n10 : Int, n10 = (IntKind.wrap .u64 (n5 - 1)) → 0 ≤ n10 → n10 ≤ 18446744073709551615 →
              (∀ n11 : Int, n11 = (IntKind.wrap .i64 n10) → (-9223372036854775808) ≤ n11 → n11 ≤ 9223372036854775807 →
              (∀ n12 : Int, n12 = (IntKind.wrap .u64 (n6 - 1)) → 0 ≤ n12 → n12 ≤ 18446744073709551615 →
              (Pre_rootWide [[n11, n12]] ∧
              (∀ n13 : Int, 0 ≤ n13 → n13 ≤ 18446744073709551615 →
              (∀ n14 : Int, (-9223372036854775808) ≤ n14 → n14 ≤ 9223372036854775807 →
              (Post_rootWide [[n11, n12]] [[n13], [n14]] →
              (((n13 = (IntKind.wrap .u64 (n4 - 1))) →
                (((n14 = 0) →
                  (Pre_lives [] ∧
                  (∀ t : Bool, (Post_lives [] [[b2i t]] →
                  Post_lsquares [[n], [n1]] [[b2i t]])))) ∧
                 (¬ (n14 = 0) →
                  Post_lsquares [[n], [n1]] [[b2i false]]))) ∧
               (¬ (n13 = (IntKind.wrap .u64 (n4 - 1))) →
                Post_lsquares [[n], [n1]] [[b2i false]])))))))))) ∧
             (¬ (n6 = 0) →
              (∀ n10 : Int, n10 = (IntKind.wrap .i64 n5) → (-9223372036854775808) ≤ n10 → n10 ≤ 9223372036854775807 →
              (∀ n11 : Int, n11 = (IntKind.wrap .u64 (n6 - 1)) → 0 ≤ n11 → n11 ≤ 18446744073709551615 →
              (Pre_rootWide [[n10, n11]] ∧
              (∀ n12 : Int, 0 ≤ n12 → n12 ≤ 18446744073709551615 →
              (∀ n13 : Int, (-9223372036854775808) ≤ n13 → n13 ≤ 9223372036854775807 →
              (Post_rootWide [[n10, n11]] [[n12], [n13]] →
              (((n12 = (IntKind.wrap .u64 (n4 - 1))) →
                (((n13 = 0) →
                  (Pre_lives [] ∧
                  (∀ t : Bool, (Post_lives [] [[b2i t]] →
                  Post_lsquares [[n], [n1]] [[b2i t]])))) ∧
                 (¬ (n13 = 0) →
                  Post_lsquares [[n], [n1]] [[b2i false]]))) ∧
               (¬ (n12 = (IntKind.wrap .u64 (n4 - 1))) →
                Post_lsquares [[n], [n1]] [[b2i false]])))))))))))))))))))))))))))))))))))))
theorem c_lsquares : canCall Try.prog 5 = true := by kernel_rfl
theorem s_lsquares : P_lsquares = sat E (symTop Try.prog tab34 2000 5 ash_lsquares sh_lsquares) := by kernel_rfl
theorem pure_lsquares (hV : Valid Try.prog tab34 E) (h : P_lsquares) (args : List Value) (ha : shaFits ash_lsquares args) (hp : E.pre 5 (args.map vints)) : Pure Try.prog 5 args.toArray fun v => sh_lsquares.fits v ∧ E.post 5 (args.map vints) (vres v) := @top_sat Try.prog tab34 E hV 2000 5 ash_lsquares sh_lsquares (@Eq.mp _ _ s_lsquares h) args ha hp
/-- gouache/gouachelaw03.RootsRise -/
def P_lrise : Prop :=
  (∀ n : Int, 0 ≤ n → n ≤ 18446744073709551615 →
  (∀ n1 : Int, 0 ≤ n1 → n1 ≤ 18446744073709551615 →
  (Pre_lrise [[n], [n1]] →
  (Pre_rootWide [[0, n]] ∧
  (∀ n2 : Int, 0 ≤ n2 → n2 ≤ 18446744073709551615 →
  (∀ n3 : Int, (-9223372036854775808) ≤ n3 → n3 ≤ 9223372036854775807 →
  (Post_rootWide [[0, n]] [[n2], [n3]] →
  (Pre_root [[n]] ∧
  (∀ n4 : Int, 0 ≤ n4 → n4 ≤ 18446744073709551615 →
  (Post_root [[n]] [[n4]] →
  (((¬ (n2 = n4)) →
    Post_lrise [[n], [n1]] [[b2i false]]) ∧
   (¬ (¬ (n2 = n4)) →
    (((¬ (n3 = 0)) →
      Post_lrise [[n], [n1]] [[b2i false]]) ∧
     (¬ (¬ (n3 = 0)) →
      (∀ n5 : Int, n5 = (min n n1) → 0 ≤ n5 → n5 ≤ 18446744073709551615 →
      (Pre_root [[n5]] ∧
      (∀ n6 : Int, 0 ≤ n6 → n6 ≤ 18446744073709551615 →
      (Post_root [[n5]] [[n6]] →
      (∀ n7 : Int, n7 = (max n n1) → 0 ≤ n7 → n7 ≤ 18446744073709551615 →
      (Pre_root [[n7]] ∧
      (∀ n8 : Int, 0 ≤ n8 → n8 ≤ 18446744073709551615 →
      (Post_root [[n7]] [[n8]] →
      (((n8 < n6) →
        Post_lrise [[n], [n1]] [[b2i false]]) ∧
       (¬ (n8 < n6) →
        (((0 < (n / 4611686018427387904)) →
          (Pre_lives [] ∧
          (∀ t : Bool, (Post_lives [] [[b2i t]] →
          Post_lrise [[n], [n1]] [[b2i t]])))) ∧
         (¬ (0 < (n / 4611686018427387904)) →
          (∀ n9 : Int, n9 = (IntKind.wrap .u64 (4 * n)) → 0 ≤ n9 → n9 ≤ 18446744073709551615 →
          (Pre_root [[n9]] ∧
          (∀ n10 : Int, 0 ≤ n10 → n10 ≤ 18446744073709551615 →
          (Post_root [[n9]] [[n10]] →
          (((n10 = (IntKind.wrap .u64 (2 * n2))) →
            (Pre_lives [] ∧
            (∀ t : Bool, (Post_lives [] [[b2i t]] →
            Post_lrise [[n], [n1]] [[b2i t]])))) ∧
           (¬ (n10 = (IntKind.wrap .u64 (2 * n2))) →
            (((n10 = (IntKind.wrap .u64 ((IntKind.wrap .u64 (2 * n2)) + 1))) →
              (Pre_lives [] ∧
              (∀ t : Bool, (Post_lives [] [[b2i t]] →
              Post_lrise [[n], [n1]] [[b2i t]])))) ∧
             (¬ (n10 = (IntKind.wrap .u64 ((IntKind.wrap .u64 (2 * n2)) + 1))) →
              Post_lrise [[n], [n1]] [[b2i false]]))))))))))))))))))))))))))))))))))
theorem c_lrise : canCall Try.prog 6 = true := by kernel_rfl
theorem s_lrise : P_lrise = sat E (symTop Try.prog tab34 2000 6 ash_lrise sh_lrise) := by kernel_rfl
theorem pure_lrise (hV : Valid Try.prog tab34 E) (h : P_lrise) (args : List Value) (ha : shaFits ash_lrise args) (hp : E.pre 6 (args.map vints)) : Pure Try.prog 6 args.toArray fun v => sh_lrise.fits v ∧ E.post 6 (args.map vints) (vres v) := @top_sat Try.prog tab34 E hV 2000 6 ash_lrise sh_lrise (@Eq.mp _ _ s_lrise h) args ha hp
/-- gouache/gouachelaw03.RootsFix -/
def P_lfix : Prop :=
  (∀ n : Int, (-2147483648) ≤ n → n ≤ 2147483647 →
  (Pre_lfix [[n]] →
  (Pre_sqrt [[n]] ∧
  (∀ n1 : Int, (-2147483648) ≤ n1 → n1 ≤ 2147483647 →
  (∀ n2 : Int, (-9223372036854775808) ≤ n2 → n2 ≤ 9223372036854775807 →
  (Post_sqrt [[n]] [[n1], [n2]] →
  (((n < 0) →
    (((n2 = 1) →
      (((n1 = 0) →
        (Pre_lives [] ∧
        (∀ t : Bool, (Post_lives [] [[b2i t]] →
        Post_lfix [[n]] [[b2i t]])))) ∧
       (¬ (n1 = 0) →
        Post_lfix [[n]] [[b2i false]]))) ∧
     (¬ (n2 = 1) →
      Post_lfix [[n]] [[b2i false]]))) ∧
   (¬ (n < 0) →
    (∀ n3 : Int, n3 = (n * 65536) → (-140737488355328) ≤ n3 → n3 ≤ 140737488289792 →
    (((¬ (n2 = 0)) →
      Post_lfix [[n]] [[b2i false]]) ∧
     (¬ (¬ (n2 = 0)) →
      (((n1 < 0) →
        Post_lfix [[n]] [[b2i false]]) ∧
       (¬ (n1 < 0) →
        (((n3 < (n1 * n1)) →
          Post_lfix [[n]] [[b2i false]]) ∧
         (¬ (n3 < (n1 * n1)) →
          (((((n1 + 1) * (n1 + 1)) ≤ n3) →
            Post_lfix [[n]] [[b2i false]]) ∧
           (¬ (((n1 + 1) * (n1 + 1)) ≤ n3) →
            (∀ n4 : Int, n4 = (n.tmod 181) → (-2147483648) ≤ n4 → n4 ≤ 2147483647 →
            (∀ n5 : Int, n5 = (IntKind.wrap .i32 (IntKind.wrap .i64 ((n4 * n4) * 65536))) → (-2147483648) ≤ n5 → n5 ≤ 2147483647 →
            (Pre_sqrt [[n5]] ∧
            (∀ n6 : Int, (-2147483648) ≤ n6 → n6 ≤ 2147483647 →
            (∀ n7 : Int, (-9223372036854775808) ≤ n7 → n7 ≤ 9223372036854775807 →
            (Post_sqrt [[n5]] [[n6], [n7]] →
            (((n6 = (IntKind.wrap .i32 (n4 * 65536))) →
              (((n7 = 0) →
                (((n < 65536) →
                  (((65536 < n) →
                    (Pre_lives [] ∧
                    (∀ t : Bool, (Post_lives [] [[b2i t]] →
                    Post_lfix [[n]] [[b2i t]])))) ∧
                   (¬ (65536 < n) →
                    (((n ≤ n1) →
                      (Pre_lives [] ∧
                      (∀ t : Bool, (Post_lives [] [[b2i t]] →
                      Post_lfix [[n]] [[b2i t]])))) ∧
                     (¬ (n ≤ n1) →
                      Post_lfix [[n]] [[b2i false]]))))) ∧
                 (¬ (n < 65536) →
                  (((n1 ≤ n) →
                    (((65536 < n) →
                      (Pre_lives [] ∧
                      (∀ t : Bool, (Post_lives [] [[b2i t]] →
                      Post_lfix [[n]] [[b2i t]])))) ∧
                     (¬ (65536 < n) →
                      (((n ≤ n1) →
                        (Pre_lives [] ∧
                        (∀ t : Bool, (Post_lives [] [[b2i t]] →
                        Post_lfix [[n]] [[b2i t]])))) ∧
                       (¬ (n ≤ n1) →
                        Post_lfix [[n]] [[b2i false]]))))) ∧
                   (¬ (n1 ≤ n) →
                    Post_lfix [[n]] [[b2i false]]))))) ∧
               (¬ (n7 = 0) →
                Post_lfix [[n]] [[b2i false]]))) ∧
             (¬ (n6 = (IntKind.wrap .i32 (n4 * 65536))) →
              Post_lfix [[n]] [[b2i false]])))))))))))))))))))))))))
theorem c_lfix : canCall Try.prog 7 = true := by kernel_rfl
theorem s_lfix : P_lfix = sat E (symTop Try.prog tab34 2000 7 ash_lfix sh_lfix) := by kernel_rfl
theorem pure_lfix (hV : Valid Try.prog tab34 E) (h : P_lfix) (args : List Value) (ha : shaFits ash_lfix args) (hp : E.pre 7 (args.map vints)) : Pure Try.prog 7 args.toArray fun v => sh_lfix.fits v ∧ E.post 7 (args.map vints) (vres v) := @top_sat Try.prog tab34 E hV 2000 7 ash_lfix sh_lfix (@Eq.mp _ _ s_lfix h) args ha hp
/-- gouache/gouachelaw03.RootsLog -/
def P_llog : Prop :=
  (∀ n : Int, 0 ≤ n → n ≤ 4294967295 →
  (∀ n1 : Int, 0 ≤ n1 → n1 ≤ 4294967295 →
  (∀ n2 : Int, 0 ≤ n2 → n2 ≤ 18446744073709551615 →
  (Pre_llog [[n], [n1], [n2]] →
  (Pre_log [[n2]] ∧
  (∀ n3 : Int, (-9223372036854775808) ≤ n3 → n3 ≤ 9223372036854775807 →
  (Post_log [[n2]] [[n3]] →
  (((n2 = 0) →
    (((¬ (n3 = (-1))) →
      Post_llog [[n], [n1], [n2]] [[b2i false]]) ∧
     (¬ (¬ (n3 = (-1))) →
      (((0 < n2) →
        (((n3 < 0) →
          Post_llog [[n], [n1], [n2]] [[b2i false]]) ∧
         (¬ (n3 < 0) →
          (((63 < n3) →
            Post_llog [[n], [n1], [n2]] [[b2i false]]) ∧
           (¬ (63 < n3) →
            ((0 ≤ n3) ∧
            (∀ n4 : Int, n4 = n3 → 0 ≤ n4 → n4 ≤ 9223372036854775807 →
            (((¬ ((shI .shr .u64 n2 n4) = 1)) →
              Post_llog [[n], [n1], [n2]] [[b2i false]]) ∧
             (¬ (¬ ((shI .shr .u64 n2 n4) = 1)) →
              (((n = 0) →
                (Pre_lives [] ∧
                (∀ t : Bool, (Post_lives [] [[b2i t]] →
                Post_llog [[n], [n1], [n2]] [[b2i t]])))) ∧
               (¬ (n = 0) →
                (((n1 = 0) →
                  (Pre_lives [] ∧
                  (∀ t : Bool, (Post_lives [] [[b2i t]] →
                  Post_llog [[n], [n1], [n2]] [[b2i t]])))) ∧
                 (¬ (n1 = 0) →
                  (∀ n5 : Int, n5 = (n * n1) → 0 ≤ n5 → n5 ≤ 18446744065119617025 →
                  (Pre_log [[n5]] ∧
                  (∀ n6 : Int, (-9223372036854775808) ≤ n6 → n6 ≤ 9223372036854775807 →
                  (Post_log [[n5]] [[n6]] →
                  (Pre_log [[n]] ∧
                  (∀ n7 : Int, (-9223372036854775808) ≤ n7 → n7 ≤ 9223372036854775807 →
                  (Post_log [[n]] [[n7]] →
                  (Pre_log [[n1]] ∧
                  (∀ n8 : Int, (-9223372036854775808) ≤ n8 → n8 ≤ 9223372036854775807 →
                  (Post_log [[n1]] [[n8]] →
                  (∀ n9 : Int, n9 = (IntKind.wrap .i64 (n7 + n8)) → (-9223372036854775808) ≤ n9 → n9 ≤ 9223372036854775807 →
                  (((n6 = n9) →
                    (Pre_lives [] ∧
                    (∀ t : Bool, (Post_lives [] [[b2i t]] →
                    Post_llog [[n], [n1], [n2]] [[b2i t]])))) ∧
                   (¬ (n6 = n9) →
                    (((n6 = (IntKind.wrap .i64 (n9 + 1))) →
                      (Pre_lives [] ∧
                      (∀ t : Bool, (Post_lives [] [[b2i t]] →
                      Post_llog [[n], [n1], [n2]] [[b2i t]])))) ∧
                     (¬ (n6 = (IntKind.wrap .i64 (n9 + 1))) →
                      Post_llog [[n], [n1], [n2]] [[b2i false]])))))))))))))))))))))))))))) ∧
       (¬ (0 < n2) →
        (((n = 0) →
          (Pre_lives [] ∧
          (∀ t : Bool, (Post_lives [] [[b2i t]] →
          Post_llog [[n], [n1], [n2]] [[b2i t]])))) ∧
         (¬ (n = 0) →
          (((n1 = 0) →
            (Pre_lives [] ∧
            (∀ t : Bool, (Post_lives [] [[b2i t]] →
            Post_llog [[n], [n1], [n2]] [[b2i t]])))) ∧
           (¬ (n1 = 0) →
            (∀ n4 : Int, n4 = (n * n1) → 0 ≤ n4 → n4 ≤ 18446744065119617025 →
            (Pre_log [[n4]] ∧
            (∀ n5 : Int, (-9223372036854775808) ≤ n5 → n5 ≤ 9223372036854775807 →
            (Post_log [[n4]] [[n5]] →
            (Pre_log [[n]] ∧
            (∀ n6 : Int, (-9223372036854775808) ≤ n6 → n6 ≤ 9223372036854775807 →
            (Post_log [[n]] [[n6]] →
            (Pre_log [[n1]] ∧
            (∀ n7 : Int, (-9223372036854775808) ≤ n7 → n7 ≤ 9223372036854775807 →
            (Post_log [[n1]] [[n7]] →
            (∀ n8 : Int, n8 = (IntKind.wrap .i64 (n6 + n7)) → (-9223372036854775808) ≤ n8 → n8 ≤ 9223372036854775807 →
            (((n5 = n8) →
              (Pre_lives [] ∧
              (∀ t : Bool, (Post_lives [] [[b2i t]] →
              Post_llog [[n], [n1], [n2]] [[b2i t]])))) ∧
             (¬ (n5 = n8) →
              (((n5 = (IntKind.wrap .i64 (n8 + 1))) →
                (Pre_lives [] ∧
                (∀ t : Bool, (Post_lives [] [[b2i t]] →
                Post_llog [[n], [n1], [n2]] [[b2i t]])))) ∧
               (¬ (n5 = (IntKind.wrap .i64 (n8 + 1))) →
                Post_llog [[n], [n1], [n2]] [[b2i false]])))))))))))))))))))))))) ∧
   (¬ (n2 = 0) →
    (((0 < n2) →
      (((n3 < 0) →
        Post_llog [[n], [n1], [n2]] [[b2i false]]) ∧
       (¬ (n3 < 0) →
        (((63 < n3) →
          Post_llog [[n], [n1], [n2]] [[b2i false]]) ∧
         (¬ (63 < n3) →
          ((0 ≤ n3) ∧
          (∀ n4 : Int, n4 = n3 → 0 ≤ n4 → n4 ≤ 9223372036854775807 →
          (((¬ ((shI .shr .u64 n2 n4) = 1)) →
            Post_llog [[n], [n1], [n2]] [[b2i false]]) ∧
           (¬ (¬ ((shI .shr .u64 n2 n4) = 1)) →
            (((n = 0) →
              (Pre_lives [] ∧
              (∀ t : Bool, (Post_lives [] [[b2i t]] →
              Post_llog [[n], [n1], [n2]] [[b2i t]])))) ∧
             (¬ (n = 0) →
              (((n1 = 0) →
                (Pre_lives [] ∧
                (∀ t : Bool, (Post_lives [] [[b2i t]] →
                Post_llog [[n], [n1], [n2]] [[b2i t]])))) ∧
               (¬ (n1 = 0) →
                (∀ n5 : Int, n5 = (n * n1) → 0 ≤ n5 → n5 ≤ 18446744065119617025 →
                (Pre_log [[n5]] ∧
                (∀ n6 : Int, (-9223372036854775808) ≤ n6 → n6 ≤ 9223372036854775807 →
                (Post_log [[n5]] [[n6]] →
                (Pre_log [[n]] ∧
                (∀ n7 : Int, (-9223372036854775808) ≤ n7 → n7 ≤ 9223372036854775807 →
                (Post_log [[n]] [[n7]] →
                (Pre_log [[n1]] ∧
                (∀ n8 : Int, (-9223372036854775808) ≤ n8 → n8 ≤ 9223372036854775807 →
                (Post_log [[n1]] [[n8]] →
                (∀ n9 : Int, n9 = (IntKind.wrap .i64 (n7 + n8)) → (-9223372036854775808) ≤ n9 → n9 ≤ 9223372036854775807 →
                (((n6 = n9) →
                  (Pre_lives [] ∧
                  (∀ t : Bool, (Post_lives [] [[b2i t]] →
                  Post_llog [[n], [n1], [n2]] [[b2i t]])))) ∧
                 (¬ (n6 = n9) →
                  (((n6 = (IntKind.wrap .i64 (n9 + 1))) →
                    (Pre_lives [] ∧
                    (∀ t : Bool, (Post_lives [] [[b2i t]] →
                    Post_llog [[n], [n1], [n2]] [[b2i t]])))) ∧
                   (¬ (n6 = (IntKind.wrap .i64 (n9 + 1))) →
                    Post_llog [[n], [n1], [n2]] [[b2i false]])))))))))))))))))))))))))))) ∧
     (¬ (0 < n2) →
      (((n = 0) →
        (Pre_lives [] ∧
        (∀ t : Bool, (Post_lives [] [[b2i t]] →
        Post_llog [[n], [n1], [n2]] [[b2i t]])))) ∧
       (¬ (n = 0) →
        (((n1 = 0) →
          (Pre_lives [] ∧
          (∀ t : Bool, (Post_lives [] [[b2i t]] →
          Post_llog [[n], [n1], [n2]] [[b2i t]])))) ∧
         (¬ (n1 = 0) →
          (∀ n4 : Int, n4 = (n * n1) → 0 ≤ n4 → n4 ≤ 18446744065119617025 →
          (Pre_log [[n4]] ∧
          (∀ n5 : Int, (-9223372036854775808) ≤ n5 → n5 ≤ 9223372036854775807 →
          (Post_log [[n4]] [[n5]] →
          (Pre_log [[n]] ∧
          (∀ n6 : Int, (-9223372036854775808) ≤ n6 → n6 ≤ 9223372036854775807 →
          (Post_log [[n]] [[n6]] →
          (Pre_log [[n1]] ∧
          (∀ n7 : Int, (-9223372036854775808) ≤ n7 → n7 ≤ 9223372036854775807 →
          (Post_log [[n1]] [[n7]] →
          (∀ n8 : Int, n8 = (IntKind.wrap .i64 (n6 + n7)) → (-9223372036854775808) ≤ n8 → n8 ≤ 9223372036854775807 →
          (((n5 = n8) →
            (Pre_lives [] ∧
            (∀ t : Bool, (Post_lives [] [[b2i t]] →
            Post_llog [[n], [n1], [n2]] [[b2i t]])))) ∧
           (¬ (n5 = n8) →
            (((n5 = (IntKind.wrap .i64 (n8 + 1))) →
              (Pre_lives [] ∧
              (∀ t : Bool, (Post_lives [] [[b2i t]] →
              Post_llog [[n], [n1], [n2]] [[b2i t]])))) ∧
             (¬ (n5 = (IntKind.wrap .i64 (n8 + 1))) →
              Post_llog [[n], [n1], [n2]] [[b2i false]]))))))))))))))))))))))))))))))
theorem c_llog : canCall Try.prog 8 = true := by kernel_rfl
theorem s_llog : P_llog = sat E (symTop Try.prog tab34 2000 8 ash_llog sh_llog) := by kernel_rfl
theorem pure_llog (hV : Valid Try.prog tab34 E) (h : P_llog) (args : List Value) (ha : shaFits ash_llog args) (hp : E.pre 8 (args.map vints)) : Pure Try.prog 8 args.toArray fun v => sh_llog.fits v ∧ E.post 8 (args.map vints) (vres v) := @top_sat Try.prog tab34 E hV 2000 8 ash_llog sh_llog (@Eq.mp _ _ s_llog h) args ha hp
theorem v0 : Valid Try.prog tab0 E := by
  refine Valid.nil fun f kind h => ?_
  cases h

end Go.Proofs.Ytakpbbponhamaaa.Sx
