/-
  Machines: operators with truths, walked.
-/
import Derived.Test.YtcjllibeaiofpaaGreatDoorGa
import Derived.Test.YtcjllibeaiofpaaGreatDoorGh
set_option linter.all false
set_option maxRecDepth 100000
namespace Go.Proofs.YtcjllibeaiofpaaGreatDoor
open Go.RowKit Mach
theorem wrap_i32 (x : Int) : IntKind.wrap .i32 x = (x + 2147483648) % 4294967296 - 2147483648 := by
 unfold IntKind.wrap; simp [IntKind.signed, IntKind.bits, IntKind.min, IntKind.max]; try omega
theorem bits_not {n : Int} (h0 : -2147483648 <= n) (h1 : n <= 2147483647) : Go.bits .xor .i32 (-1) n = -n - 1 := by
 have e : Go.bits .xor .i32 (-1) n = IntKind.wrap .i32 (((BitVec.ofInt 32 (-1) ^^^ BitVec.ofInt 32 n).toNat : Nat) : Int) := rfl
 have e2 : BitVec.ofInt 32 (-1) ^^^ BitVec.ofInt 32 n = ~~~ (BitVec.ofInt 32 n) := by
  rw [show BitVec.ofInt 32 (-1) = BitVec.allOnes 32 by decide, BitVec.allOnes_xor]
 rw [e, e2, BitVec.toNat_not, BitVec.toNat_ofInt, wrap_i32]
 omega
theorem bits_and (a b : Int) : Go.bits .and .i32 a b = (BitVec.ofInt 32 a &&& BitVec.ofInt 32 b).toInt := by
 have e : Go.bits .and .i32 a b = IntKind.wrap .i32 (((BitVec.ofInt 32 a &&& BitVec.ofInt 32 b).toNat : Nat) : Int) := rfl
 rw [e, wrap_i32, BitVec.toInt_eq_toNat_cond]
 have := BitVec.isLt (BitVec.ofInt 32 a &&& BitVec.ofInt 32 b)
 split <;> omega
theorem opP_fin {N : Num} {cl : Nat} {c : Cod} {L cs cs' : List Cel} {b base : Nat} {v : Value} {w W w' : World} (h : does N cl c L cs = .ok cs') (hB : Below w.heap.size w W)
  (hs : ∃ v', (v'.ownBlock = v.ownBlock \/ ∃ g, v'.ownBlock = some g /\ W.heap.size <= g) /\ Stk w' b base v' cs') (hk : Kept W w' b v) : OpP N cl c L cs b base v w (.returned (.tuple #[])) w' := by
 refine opP_ok h ?_ ((Kept.of hB b v).trans hk (.inl rfl))
 obtain ⟨v', hv, hS⟩ := hs
 refine ⟨v', ?_, hS⟩
 rcases hv with e | ⟨g, e, hg⟩
 ·exact .inl e
 ·exact .inr ⟨g, e, Nat.le_trans hB.size hg⟩
section
variable {N : Num}
set_option maxHeartbeats 4000000 in
theorem sign_any (c : Cod) (k n : Int) (kn : Bool) (bl ol cl b base : Nat) (v : Value) (cs : List Cel) (w : World) (h : OpH w b base v cs bl ol [⟨k, n, kn⟩]) :
  Calls Tryz.prog 47 #[.pointer (some ⟨b, 0, none⟩), cd c, .slice (some ⟨bl, ol, none⟩) 1 cl] w (OpP N 3 c [⟨k, n, kn⟩] cs b base v w) := by
 obtain ⟨op, cn⟩ := c
 have hA := (Below.refl w.heap.size w).alloc (Nat.le_refl _) (.cells #[.int .u8 op, .int .i32 cn] 41)
 obtain ⟨c0, c1, c2⟩ := cel_at (h.ce.on hA) (i := 0) (a := ⟨k, n, kn⟩) rfl
 simp only [Nat.zero_mul, Nat.add_zero] at c0 c1 c2
 have hj := (h.gl ⟨k, n, kn⟩ (List.mem_cons_self ..)).r
 unfold J32 at hj
 dsimp only at hj
 have hsz : cs.length + 1 <= 1000 := by have := h.sz; omega
 have H := Lib.hid h
 clear h
 by_cases hk : k = 2
 ·subst hk
  go_enter Tryz.func47, Tryz.ntmps47
  simp only [cd]
  go_wp2_with (first
   | (go_at_call 55; refine (must_no _ _).mono ?_; rintro e w' ⟨rfl, rfl⟩))
  exact ⟨rfl, opP_err (by simp [does]) (Kept.of hA _ _)⟩
 have hkb : (k == 2) = false := by simpa using hk
 have hkc : (k != 2) = true := by simpa using hk
 by_cases q0 : op = 32
 ·subst q0
  by_cases k0 : k = 0
  ·subst k0
   go_enter Tryz.func47, Tryz.ntmps47
   simp only [cd]
   go_wp2_with (first
    | (go_at_call 55; refine (must_ok _ _).mono ?_; rintro e w' ⟨rfl, rfl⟩)
    | (go_at_call 66; refine (whole_any (-n) _).mono ?_; rintro e w2 ⟨rfl, hB2⟩; unfold cv; have hA2 := hA.trans (hB2.mono hA.size))
    | (go_at_call 65; refine (puts_any b base v cs [whole (-n)] _ 1 1 _ (H.out.st.on (hA2.alloc hA2.size _)) (cels_new _ (whole (-n)) _) rfl (fun q => by cases q) hsz).mono ?_; rintro e w3 ⟨rfl, hS3, hK3⟩))
   all_goals (try (exfalso; omega; done))
   first
    | refine bodyPost_end (v := .tuple #[]) (by simp [results, Tryz.f47]) rfl ?_
    | refine bodyPost_ret (v := .tuple #[]) (by simp [results, Tryz.f47]) rfl ?_
   exact opP_fin (by simp [does, signF]) (hA2.alloc hA2.size _) hS3 hK3
  ·have k0b : (k == 0) = false := by simpa using k0
   go_enter Tryz.func47, Tryz.ntmps47
   simp only [cd]
   go_wp2_with (first
    | (go_at_call 55; refine (must_ok _ _).mono ?_; rintro e w' ⟨rfl, rfl⟩)
    | (go_at_call 32; refine (sat_any _ _).mono ?_; rintro e w' ⟨rfl, rfl⟩)
    | (go_at_call 28; refine (real_any (clp (-n)) _).mono ?_; rintro e w2 ⟨rfl, hB2⟩; unfold cv; have hA2 := hA.trans (hB2.mono hA.size))
    | (go_at_call 65; refine (puts_any b base v cs [real (clp (-n))] _ 1 1 _ (H.out.st.on (hA2.alloc hA2.size _)) (cels_new _ (real (clp (-n))) _) rfl (fun q => by cases q) hsz).mono ?_; rintro e w3 ⟨rfl, hS3, hK3⟩))
   all_goals (try (exfalso; omega; done))
   first
    | refine bodyPost_end (v := .tuple #[]) (by simp [results, Tryz.f47]) rfl ?_
    | refine bodyPost_ret (v := .tuple #[]) (by simp [results, Tryz.f47]) rfl ?_
   exact opP_fin (by simp [does, signF, hk, k0]) (hA2.alloc hA2.size _) hS3 hK3
 by_cases q1 : n < 0
 ·have q1 := q1
  have qb1 : (op == 32) = false := by simpa using q0
  by_cases k0 : k = 0
  ·subst k0
   go_enter Tryz.func47, Tryz.ntmps47
   simp only [cd]
   go_wp2_with (first
    | (go_at_call 55; refine (must_ok _ _).mono ?_; rintro e w' ⟨rfl, rfl⟩)
    | (go_at_call 66; refine (whole_any (-n) _).mono ?_; rintro e w2 ⟨rfl, hB2⟩; unfold cv; have hA2 := hA.trans (hB2.mono hA.size))
    | (go_at_call 65; refine (puts_any b base v cs [whole (-n)] _ 1 1 _ (H.out.st.on (hA2.alloc hA2.size _)) (cels_new _ (whole (-n)) _) rfl (fun q => by cases q) hsz).mono ?_; rintro e w3 ⟨rfl, hS3, hK3⟩))
   all_goals (try (exfalso; omega; done))
   first
    | refine bodyPost_end (v := .tuple #[]) (by simp [results, Tryz.f47]) rfl ?_
    | refine bodyPost_ret (v := .tuple #[]) (by simp [results, Tryz.f47]) rfl ?_
   exact opP_fin (by simp [does, signF, q0, q1]) (hA2.alloc hA2.size _) hS3 hK3
  ·have k0b : (k == 0) = false := by simpa using k0
   go_enter Tryz.func47, Tryz.ntmps47
   simp only [cd]
   go_wp2_with (first
    | (go_at_call 55; refine (must_ok _ _).mono ?_; rintro e w' ⟨rfl, rfl⟩)
    | (go_at_call 32; refine (sat_any _ _).mono ?_; rintro e w' ⟨rfl, rfl⟩)
    | (go_at_call 28; refine (real_any (clp (-n)) _).mono ?_; rintro e w2 ⟨rfl, hB2⟩; unfold cv; have hA2 := hA.trans (hB2.mono hA.size))
    | (go_at_call 65; refine (puts_any b base v cs [real (clp (-n))] _ 1 1 _ (H.out.st.on (hA2.alloc hA2.size _)) (cels_new _ (real (clp (-n))) _) rfl (fun q => by cases q) hsz).mono ?_; rintro e w3 ⟨rfl, hS3, hK3⟩))
   all_goals (try (exfalso; omega; done))
   first
    | refine bodyPost_end (v := .tuple #[]) (by simp [results, Tryz.f47]) rfl ?_
    | refine bodyPost_ret (v := .tuple #[]) (by simp [results, Tryz.f47]) rfl ?_
   exact opP_fin (by simp [does, signF, hk, k0, q0, q1]) (hA2.alloc hA2.size _) hS3 hK3
 have qb2 : (op == 32) = false := by simpa using q0
 by_cases k0 : k = 0
 ·subst k0
  go_enter Tryz.func47, Tryz.ntmps47
  simp only [cd]
  go_wp2_with (first
   | (go_at_call 55; refine (must_ok _ _).mono ?_; rintro e w' ⟨rfl, rfl⟩)
   | (go_at_call 66; refine (whole_any (n) _).mono ?_; rintro e w2 ⟨rfl, hB2⟩; unfold cv; have hA2 := hA.trans (hB2.mono hA.size))
   | (go_at_call 65; refine (puts_any b base v cs [whole (n)] _ 1 1 _ (H.out.st.on (hA2.alloc hA2.size _)) (cels_new _ (whole (n)) _) rfl (fun q => by cases q) hsz).mono ?_; rintro e w3 ⟨rfl, hS3, hK3⟩))
  all_goals (try (exfalso; omega; done))
  first
   | refine bodyPost_end (v := .tuple #[]) (by simp [results, Tryz.f47]) rfl ?_
   | refine bodyPost_ret (v := .tuple #[]) (by simp [results, Tryz.f47]) rfl ?_
  exact opP_fin (by simp [does, signF, q0] <;> rw [if_neg (by omega)]) (hA2.alloc hA2.size _) hS3 hK3
 ·have k0b : (k == 0) = false := by simpa using k0
  go_enter Tryz.func47, Tryz.ntmps47
  simp only [cd]
  go_wp2_with (first
   | (go_at_call 55; refine (must_ok _ _).mono ?_; rintro e w' ⟨rfl, rfl⟩)
   | (go_at_call 32; refine (sat_any _ _).mono ?_; rintro e w' ⟨rfl, rfl⟩)
   | (go_at_call 28; refine (real_any (clp (n)) _).mono ?_; rintro e w2 ⟨rfl, hB2⟩; unfold cv; have hA2 := hA.trans (hB2.mono hA.size))
   | (go_at_call 65; refine (puts_any b base v cs [real (clp (n))] _ 1 1 _ (H.out.st.on (hA2.alloc hA2.size _)) (cels_new _ (real (clp (n))) _) rfl (fun q => by cases q) hsz).mono ?_; rintro e w3 ⟨rfl, hS3, hK3⟩))
  all_goals (try (exfalso; omega; done))
  first
   | refine bodyPost_end (v := .tuple #[]) (by simp [results, Tryz.f47]) rfl ?_
   | refine bodyPost_ret (v := .tuple #[]) (by simp [results, Tryz.f47]) rfl ?_
  exact opP_fin (by simp [does, signF, hk, k0, q0] <;> rw [if_neg (by omega)]) (hA2.alloc hA2.size _) hS3 hK3
set_option maxHeartbeats 4000000 in
theorem cvi_any (c : Cod) (k n : Int) (kn : Bool) (bl ol cl b base : Nat) (v : Value) (cs : List Cel) (w : World) (h : OpH w b base v cs bl ol [⟨k, n, kn⟩]) :
  Calls Tryz.prog 38 #[.pointer (some ⟨b, 0, none⟩), cd c, .slice (some ⟨bl, ol, none⟩) 1 cl] w (OpP N 6 c [⟨k, n, kn⟩] cs b base v w) := by
 obtain ⟨op, cn⟩ := c
 have hA := (Below.refl w.heap.size w).alloc (Nat.le_refl _) (.cells #[.int .u8 op, .int .i32 cn] 41)
 obtain ⟨c0, c1, c2⟩ := cel_at (h.ce.on hA) (i := 0) (a := ⟨k, n, kn⟩) rfl
 simp only [Nat.zero_mul, Nat.add_zero] at c0 c1 c2
 have hj := (h.gl ⟨k, n, kn⟩ (List.mem_cons_self ..)).r
 unfold J32 at hj
 dsimp only at hj
 have hsz : cs.length + 1 <= 1000 := by have := h.sz; omega
 have H := Lib.hid h
 clear h
 by_cases hk : k = 2
 ·subst hk
  go_enter Tryz.func38, Tryz.ntmps38
  simp only [cd]
  go_wp2_with (first
   | (go_at_call 55; refine (must_no _ _).mono ?_; rintro e w' ⟨rfl, rfl⟩))
  exact ⟨rfl, opP_err (by simp [does]) (Kept.of hA _ _)⟩
 have hkb : (k == 2) = false := by simpa using hk
 have hkc : (k != 2) = true := by simpa using hk
 by_cases k1 : k = 1
 ·subst k1
  go_enter Tryz.func38, Tryz.ntmps38
  simp only [cd]
  go_wp2_with (first
   | (go_at_call 55; refine (must_ok _ _).mono ?_; rintro e w' ⟨rfl, rfl⟩)
   | (go_at_call 66; refine (whole_any (n.tdiv 65536) _).mono ?_; rintro e w2 ⟨rfl, hB2⟩; unfold cv; have hA2 := hA.trans (hB2.mono hA.size))
   | (go_at_call 65; refine (puts_any b base v cs [whole (n.tdiv 65536)] _ 1 1 _ (H.out.st.on (hA2.alloc hA2.size _)) (cels_new _ (whole (n.tdiv 65536)) _) rfl (fun q => by cases q) hsz).mono ?_; rintro e w3 ⟨rfl, hS3, hK3⟩))
  all_goals (try (exfalso; omega; done))
  first
   | refine bodyPost_end (v := .tuple #[]) (by simp [results, Tryz.f38]) rfl ?_
   | refine bodyPost_ret (v := .tuple #[]) (by simp [results, Tryz.f38]) rfl ?_
  exact opP_fin (by simp [does, cviF]) (hA2.alloc hA2.size _) hS3 hK3
 ·have k1b : (k == 1) = false := by simpa using k1
  go_enter Tryz.func38, Tryz.ntmps38
  simp only [cd]
  go_wp2_with (first
   | (go_at_call 55; refine (must_ok _ _).mono ?_; rintro e w' ⟨rfl, rfl⟩)
   | (go_at_call 66; refine (whole_any (n) _).mono ?_; rintro e w2 ⟨rfl, hB2⟩; unfold cv; have hA2 := hA.trans (hB2.mono hA.size))
   | (go_at_call 65; refine (puts_any b base v cs [whole n] _ 1 1 _ (H.out.st.on (hA2.alloc hA2.size _)) (cels_new _ (whole n) _) rfl (fun q => by cases q) hsz).mono ?_; rintro e w3 ⟨rfl, hS3, hK3⟩))
  all_goals (try (exfalso; omega; done))
  first
   | refine bodyPost_end (v := .tuple #[]) (by simp [results, Tryz.f38]) rfl ?_
   | refine bodyPost_ret (v := .tuple #[]) (by simp [results, Tryz.f38]) rfl ?_
  exact opP_fin (by simp [does, cviF, hk, k1]) (hA2.alloc hA2.size _) hS3 hK3
set_option maxHeartbeats 4000000 in
theorem not_any (c : Cod) (k n : Int) (kn : Bool) (bl ol cl b base : Nat) (v : Value) (cs : List Cel) (w : World) (h : OpH w b base v cs bl ol [⟨k, n, kn⟩]) :
  Calls Tryz.prog 39 #[.pointer (some ⟨b, 0, none⟩), cd c, .slice (some ⟨bl, ol, none⟩) 1 cl] w (OpP N 12 c [⟨k, n, kn⟩] cs b base v w) := by
 obtain ⟨op, cn⟩ := c
 have hA := (Below.refl w.heap.size w).alloc (Nat.le_refl _) (.cells #[.int .u8 op, .int .i32 cn] 41)
 obtain ⟨c0, c1, c2⟩ := cel_at (h.ce.on hA) (i := 0) (a := ⟨k, n, kn⟩) rfl
 simp only [Nat.zero_mul, Nat.add_zero] at c0 c1 c2
 have hj := (h.gl ⟨k, n, kn⟩ (List.mem_cons_self ..)).r
 unfold J32 at hj
 dsimp only at hj
 have hsz : cs.length + 1 <= 1000 := by have := h.sz; omega
 have H := Lib.hid h
 clear h
 replace hA := hA.alloc hA.size (.cells #[.int .u8 k, .int .i32 n, .bool kn] 72)
 by_cases hk : k = 1
 ·subst hk
  go_enter Tryz.func39, Tryz.ntmps39
  simp only [cd]
  go_wp2_with (first
   | (go_at_call 55; refine (must_no _ _).mono ?_; rintro e w' ⟨rfl, rfl⟩))
  exact ⟨rfl, opP_err (by simp [does]) (Kept.of hA _ _)⟩
 have hkb : (k == 1) = false := by simpa using hk
 have hkc : (k != 1) = true := by simpa using hk
 by_cases k2 : k = 2
 ·subst k2
  go_enter Tryz.func39, Tryz.ntmps39
  simp only [cd]
  go_wp2_with (first
   | (go_at_call 55; refine (must_ok _ _).mono ?_; rintro e w' ⟨rfl, rfl⟩)
   | (go_at_call 67; refine (truth_any (n == 0) _).mono ?_; rintro e w2 ⟨rfl, hB2⟩; unfold cv; have hA2 := hA.trans (hB2.mono hA.size))
   | (go_at_call 65; refine (puts_any b base v cs [truth (n == 0)] _ 1 1 _ (H.out.st.on (hA2.alloc hA2.size _)) (cels_new _ (truth (n == 0)) _) rfl (fun q => by cases q) hsz).mono ?_; rintro e w3 ⟨rfl, hS3, hK3⟩))
  all_goals (try (exfalso; omega; done))
  first
   | refine bodyPost_end (v := .tuple #[]) (by simp [results, Tryz.f39]) rfl ?_
   | refine bodyPost_ret (v := .tuple #[]) (by simp [results, Tryz.f39]) rfl ?_
  exact opP_fin (by simp [does]; try rfl) (hA2.alloc hA2.size _) hS3 hK3
 ·have k2b : (k == 2) = false := by simpa using k2
  have HB := Lib.hid (show wrap64 (Go.bits .xor .i32 (-1) n) = -n - 1 by rw [bits_not hj.1 hj.2]; unfold wrap64; omega)
  go_enter Tryz.func39, Tryz.ntmps39
  simp only [cd]
  go_wp2_with (first
   | (go_at_call 55; refine (must_ok _ _).mono ?_; rintro e w' ⟨rfl, rfl⟩)
   | (go_at_call 66; rw [HB.out]; refine (whole_any (-n - 1) _).mono ?_; rintro e w2 ⟨rfl, hB2⟩; unfold cv; have hA2 := hA.trans (hB2.mono hA.size))
   | (go_at_call 65; refine (puts_any b base v cs [whole (-n - 1)] _ 1 1 _ (H.out.st.on (hA2.alloc hA2.size _)) (cels_new _ (whole (-n - 1)) _) rfl (fun q => by cases q) hsz).mono ?_; rintro e w3 ⟨rfl, hS3, hK3⟩))
  all_goals (try (exfalso; omega; done))
  first
   | refine bodyPost_end (v := .tuple #[]) (by simp [results, Tryz.f39]) rfl ?_
   | refine bodyPost_ret (v := .tuple #[]) (by simp [results, Tryz.f39]) rfl ?_
  exact opP_fin (by simp [does, hk, k2]) (hA2.alloc hA2.size _) hS3 hK3
end
theorem cels_at (w : World) (a : Cel) (t : TypeId) (p : Nat) (hp : p = w.heap.size) : Cels (w.alloc (.cells #[.int .u8 a.k, .int .i32 a.n, .bool a.kn] t)).heap.size (w.alloc (.cells #[.int .u8 a.k, .int .i32 a.n, .bool a.kn] t)) (some ⟨p, 0, none⟩) [a] := hp ▸ cels_new w a t
section
variable {N : Num}
set_option maxHeartbeats 4000000 in
theorem constant_any (c : Cod) (ho : c.op = 0 \/ c.op = 1 \/ c.op = 2) (L : List Cel) (lv : Value) (b base : Nat) (v : Value) (cs : List Cel) (w : World) (hS : Stk w b base v cs) (hs : cs.length <= 100) :
  Calls Tryz.prog 46 #[.pointer (some ⟨b, 0, none⟩), cd c, lv] w (OpP N 0 c L cs b base v w) := by
 obtain ⟨op, cn⟩ := c
 have hsz : cs.length + 1 <= 1000 := by omega
 have hd : does N 0 ⟨op, cn⟩ L cs = .ok (cs ++ [const ⟨op, cn⟩]) := by cases L <;> rfl
 have HD := Lib.hid hd
 have HS := Lib.hid hS
 clear hd hS
 dsimp only at ho
 rcases ho with rfl | rfl | rfl
 ·have hA := (((Below.refl w.heap.size w).alloc (Nat.le_refl _) (.cells #[.int .u8 0, .int .i32 cn] 41)).alloc (by simp) (.cells #[.int .u8 0, .int .i32 cn, .bool true] 72)).alloc (by simp; omega) (.cells #[.int .u8 0, .int .i32 cn, .bool true] 72)
  have hcel := cels_at ((w.alloc (.cells #[.int .u8 0, .int .i32 cn] 41)).alloc (.cells #[.int .u8 0, .int .i32 cn, .bool true] 72)) ⟨0, cn, true⟩ 72 (w.heap.size + 1 + 1) (by simp)
  have HCEL := Lib.hid hcel
  clear hcel
  go_enter Tryz.func46, Tryz.ntmps46
  simp only [cd]
  go_wp2_with (go_at_call 65; go_loud (refine (puts_any b base v cs [⟨0, cn, true⟩] _ 1 1 _ (HS.out.on hA) HCEL.out rfl (fun q => by cases q) hsz).mono ?_); rintro e w3 ⟨rfl, hS3, hK3⟩)
  refine bodyPost_end (v := .tuple #[]) (by simp [results, Tryz.f46]) rfl ?_
  exact opP_fin HD.out hA (by simpa [const] using hS3) hK3
 ·have hA := (((Below.refl w.heap.size w).alloc (Nat.le_refl _) (.cells #[.int .u8 1, .int .i32 cn] 41)).alloc (by simp) (.cells #[.int .u8 1, .int .i32 cn, .bool false] 72)).alloc (by simp; omega) (.cells #[.int .u8 1, .int .i32 cn, .bool false] 72)
  have hcel := cels_at ((w.alloc (.cells #[.int .u8 1, .int .i32 cn] 41)).alloc (.cells #[.int .u8 1, .int .i32 cn, .bool false] 72)) ⟨1, cn, false⟩ 72 (w.heap.size + 1 + 1) (by simp)
  have HCEL := Lib.hid hcel
  clear hcel
  go_enter Tryz.func46, Tryz.ntmps46
  simp only [cd]
  go_wp2_with (go_at_call 65; go_loud (refine (puts_any b base v cs [⟨1, cn, false⟩] _ 1 1 _ (HS.out.on hA) HCEL.out rfl (fun q => by cases q) hsz).mono ?_); rintro e w3 ⟨rfl, hS3, hK3⟩)
  refine bodyPost_end (v := .tuple #[]) (by simp [results, Tryz.f46]) rfl ?_
  exact opP_fin HD.out hA (by simpa [const] using hS3) hK3
 ·have hA := ((Below.refl w.heap.size w).alloc (Nat.le_refl _) (.cells #[.int .u8 2, .int .i32 cn] 41)).alloc (by simp) (.cells #[.int .u8 2, .int .i32 cn, .bool false] 72)
  go_enter Tryz.func46, Tryz.ntmps46
  simp only [cd]
  go_wp2_with (first
   | (go_at_call 67; refine (truth_any (cn != 0) _).mono ?_; rintro e w2 ⟨rfl, hB2⟩; unfold cv; have hA2 := hA.trans (hB2.mono hA.size); have q0 : w2.cell? ⟨w.heap.size + 1, 0, none⟩ = some (.int .u8 2) := (by rw [hB2.cell (p := ⟨w.heap.size + 1, 0, none⟩) (by simp)]; simp [go_sem]); have q1 : w2.cell? ⟨w.heap.size + 1, 1, none⟩ = some (.int .i32 cn) := (by rw [hB2.cell (p := ⟨w.heap.size + 1, 1, none⟩) (by simp)]; simp [go_sem]); have q2 : w2.cell? ⟨w.heap.size + 1, 2, none⟩ = some (.bool false) := (by rw [hB2.cell (p := ⟨w.heap.size + 1, 2, none⟩) (by simp)]; simp [go_sem]); have z0 : w2.frozen? ⟨w.heap.size + 1, 0, none⟩ = false := (by rw [hB2.frozen (p := ⟨w.heap.size + 1, 0, none⟩) (by simp)]; simp [go_sem]); have z1 : w2.frozen? ⟨w.heap.size + 1, 1, none⟩ = false := (by rw [hB2.frozen (p := ⟨w.heap.size + 1, 1, none⟩) (by simp)]; simp [go_sem]); have z2 : w2.frozen? ⟨w.heap.size + 1, 2, none⟩ = false := (by rw [hB2.frozen (p := ⟨w.heap.size + 1, 2, none⟩) (by simp)]; simp [go_sem]); have hA3 := ((hA2.setCell (p := ⟨w.heap.size + 1, 0, none⟩) (Nat.le_succ _) (.int .u8 (truth (cn != 0)).k)).setCell (p := ⟨w.heap.size + 1, 1, none⟩) (Nat.le_succ _) (.int .i32 (truth (cn != 0)).n)).setCell (p := ⟨w.heap.size + 1, 2, none⟩) (Nat.le_succ _) (.bool (truth (cn != 0)).kn); have hcel := cels_at (((w2.setCell ⟨w.heap.size + 1, 0, none⟩ (.int .u8 (truth (cn != 0)).k)).setCell ⟨w.heap.size + 1, 1, none⟩ (.int .i32 (truth (cn != 0)).n)).setCell ⟨w.heap.size + 1, 2, none⟩ (.bool (truth (cn != 0)).kn)) (truth (cn != 0)) 72 w2.heap.size (by simp); have HCEL := Lib.hid hcel; clear hcel)
   | (go_at_call 65; refine (puts_any b base v cs [truth (cn != 0)] _ 1 1 _ (HS.out.on (hA3.alloc hA3.size _)) HCEL.out rfl (fun q => by cases q) hsz).mono ?_; rintro e w3 ⟨rfl, hS3, hK3⟩))
  refine bodyPost_end (v := .tuple #[]) (by simp [results, Tryz.f46]) rfl ?_
  exact opP_fin HD.out (hA3.alloc hA3.size _) (by rw [show const ⟨2, cn⟩ = truth (cn != 0) by (unfold const; rw [if_pos rfl]; congr 1; by_cases h : cn = 0 <;> simp [h])]; exact hS3) hK3
end
theorem below_drewN {B : Nat} {w W : World} (h : Below B w W) (n : Nat) : Below B w (W.drewN n) := ⟨h.os, h.tape, h.output, h.size, h.block⟩
theorem tdiv_in {n m : Int} (h0 : -2147483648 <= n) (h1 : n <= 2147483647) : -2147483648 <= n.tdiv m /\ n.tdiv m <= 2147483648 := by
 have := Int.natAbs_tdiv_le_natAbs n m
 omega
theorem tmod_in {n m : Int} (h0 : -2147483648 <= n) (h1 : n <= 2147483647) : -2147483648 <= n.tmod m /\ n.tmod m <= 2147483648 := by
 have h := Int.natAbs_tmod n m
 have h2 : n.natAbs % m.natAbs <= n.natAbs := Nat.mod_le _ _
 omega
theorem w32_eq (x : Int) : Go.RowKit.wrap32 x = Mach.wrap32 x := by unfold Go.RowKit.wrap32 Mach.wrap32; omega
theorem w32_in (x : Int) : -2147483648 <= Mach.wrap32 x /\ Mach.wrap32 x <= 2147483647 := by unfold Mach.wrap32; omega
theorem w64_32 (x : Int) : wrap64 (Mach.wrap32 x) = Mach.wrap32 x := by
 have := w32_in x
 unfold wrap64
 omega
theorem shr_eq (n s : Int) (hs : 0 < s) : wrap64 (Go.RowKit.wrap32 (n % 4294967296 / 2 ^ min s.toNat 64 % 4294967296)) = shiftF n (-s) := by
 rw [w32_eq, w64_32]
 unfold shiftF
 rw [if_pos (by omega), show (-(-s)).toNat = s.toNat by omega]
 have h0 := Int.emod_nonneg n (b := 4294967296) (by decide)
 have h1 := Int.emod_lt_of_pos n (b := 4294967296) (by decide)
 by_cases c : s.toNat <= 64
 ·rw [Nat.min_eq_left c]
  have h2 : 0 <= n % 4294967296 / 2 ^ s.toNat := Int.ediv_nonneg h0 (Int.le_of_lt (Int.pow_pos (by decide)))
  have h3 : n % 4294967296 / 2 ^ s.toNat <= n % 4294967296 := Int.ediv_le_self _ h0
  rw [Int.emod_eq_of_lt h2 (by omega)]
 ·rw [Nat.min_eq_right (by omega)]
  have h2 : n % 4294967296 / 2 ^ 64 = 0 := Int.ediv_eq_zero_of_lt h0 (by omega)
  have h3 : n % 4294967296 / 2 ^ s.toNat = 0 := by
   refine Int.ediv_eq_zero_of_lt h0 (Int.lt_of_lt_of_le (b := 2 ^ 64) (by omega) ?_)
   have := Nat.pow_le_pow_right (n := 2) (by decide) (show 64 <= s.toNat by omega)
   exact_mod_cast this
  rw [h2, h3]; rfl
theorem shl_eq (n s : Int) (hs : 0 <= s) : wrap64 (Go.RowKit.wrap32 (IntKind.u64.wrap (n % 4294967296 * 2 ^ min s.toNat 64) % 4294967296)) = shiftF n s := by
 rw [w32_eq, w64_32]
 unfold shiftF
 rw [if_neg (by omega)]
 have hu : ∀ y : Int, IntKind.u64.wrap y = y % 18446744073709551616 := fun y => by unfold IntKind.wrap; simp [IntKind.signed, IntKind.bits]
 have hm : ∀ y : Int, Mach.wrap32 (y % 18446744073709551616 % 4294967296) = Mach.wrap32 y := fun y => by unfold Mach.wrap32; omega
 rw [hu, hm]
 by_cases c : s.toNat <= 64
 ·rw [Nat.min_eq_left c]
 ·rw [Nat.min_eq_right (by omega)]
  have key : ∀ k : Nat, 32 <= k -> ∀ x : Int, Mach.wrap32 (x * 2 ^ k) = 0 := by
   intro k hk x
   have e : (2 : Int) ^ k = 4294967296 * 2 ^ (k - 32) := by
    rw [show (4294967296 : Int) = 2 ^ 32 by decide, <- Int.pow_add]
    congr 1; omega
   unfold Mach.wrap32
   rw [e, Int.mul_left_comm]
   generalize x * 2 ^ (k - 32) = z
   omega
  rw [key 64 (by omega), key s.toNat (by omega)]
section
variable {N : Num}
set_option maxHeartbeats 4000000 in
theorem wholes_any (c : Cod) (k n : Int) (kn : Bool) (k2 n2 : Int) (kn2 : Bool) (bl ol cl b base : Nat) (v : Value) (cs : List Cel) (w : World) (h : OpH w b base v cs bl ol [⟨k, n, kn⟩, ⟨k2, n2, kn2⟩]) :
  Calls Tryz.prog 52 #[.pointer (some ⟨b, 0, none⟩), cd c, .slice (some ⟨bl, ol, none⟩) 2 cl] w (OpP N 9 c [⟨k, n, kn⟩, ⟨k2, n2, kn2⟩] cs b base v w) := by
 obtain ⟨op, cn⟩ := c
 have hA := (Below.refl w.heap.size w).alloc (Nat.le_refl _) (.cells #[.int .u8 op, .int .i32 cn] 41)
 obtain ⟨c0, c1, c2⟩ := cel_at (h.ce.on hA) (i := 0) (a := ⟨k, n, kn⟩) rfl
 simp only [Nat.zero_mul, Nat.add_zero] at c0 c1 c2
 have hj := (h.gl ⟨k, n, kn⟩ (List.mem_cons_self ..)).r
 unfold J32 at hj
 dsimp only at hj
 obtain ⟨d0, d1, d2⟩ := cel_at (h.ce.on hA) (i := 1) (a := ⟨k2, n2, kn2⟩) rfl
 simp only [Nat.one_mul] at d0 d1 d2
 have hj2 := (h.gl ⟨k2, n2, kn2⟩ (List.mem_cons_of_mem _ (List.mem_cons_self ..))).r
 unfold J32 at hj2
 dsimp only at hj2
 have hsz : cs.length + 1 <= 1000 := by have := h.sz; omega
 have H := Lib.hid h
 clear h
 by_cases hk : k = 0
 case neg =>
  have hkb : (k == 0) = false := by simpa using hk
  go_enter Tryz.func52, Tryz.ntmps52
  simp only [cd]
  go_wp2_with (first
   | (go_at_call 55; refine (must_no _ _).mono ?_; rintro e w' ⟨rfl, rfl⟩))
  exact ⟨rfl, opP_err (by simp [does, hk]) (Kept.of hA _ _)⟩
 subst hk
 by_cases hk2 : k2 = 0
 case neg =>
  have hkb : (k2 == 0) = false := by simpa using hk2
  go_enter Tryz.func52, Tryz.ntmps52
  simp only [cd]
  go_wp2_with (first
   | (go_at_call 55; refine (must_no _ _).mono ?_; rintro e w' ⟨rfl, rfl⟩))
  exact ⟨rfl, opP_err (by simp [does, hk2]) (Kept.of hA _ _)⟩
 subst hk2
 by_cases h9 : op = 9
 ·subst h9
  by_cases hneg : n2 < 0
  ·obtain ⟨s, rfl⟩ : ∃ s : Int, n2 = -s := ⟨-n2, by omega⟩
   have h0s : 0 <= s := by omega
   have HB := Lib.hid (shr_eq n s (by omega))
   go_enter Tryz.func52, Tryz.ntmps52
   simp only [cd]
   go_wp2_with (go_at_call 55; refine (must_ok _ _).mono ?_; rintro e w' ⟨rfl, rfl⟩)
   go_quiet (fail)
   have hAq := fun q => below_drewN hA q
   go_wp2_with (first
    | (go_at_call 66; rw [HB.out]; refine (whole_any (shiftF n (-s)) _).mono ?_; rintro e w2 ⟨rfl, hB2⟩; unfold cv; have hA2 := (hAq _).trans (hB2.mono (hAq _).size))
    | (go_at_call 65; refine (puts_any b base v cs [whole (shiftF n (-s))] _ 1 1 _ (H.out.st.on (hA2.alloc hA2.size _)) (cels_new _ (whole (shiftF n (-s))) _) rfl (fun q => by cases q) hsz).mono ?_; rintro e w3 ⟨rfl, hS3, hK3⟩))
   refine bodyPost_end (v := .tuple #[]) (by simp [results, Tryz.f52]) rfl ?_
   exact opP_fin (by simp [does, wholesF]) (hA2.alloc hA2.size _) hS3 hK3
  ·have h0s : 0 <= n2 := by omega
   have HB := Lib.hid (shl_eq n n2 h0s)
   go_enter Tryz.func52, Tryz.ntmps52
   simp only [cd]
   go_wp2_with (go_at_call 55; refine (must_ok _ _).mono ?_; rintro e w' ⟨rfl, rfl⟩)
   go_quiet (fail)
   have hAq := fun q => below_drewN hA q
   go_wp2_with (first
    | (go_at_call 66; rw [HB.out]; refine (whole_any (shiftF n n2) _).mono ?_; rintro e w2 ⟨rfl, hB2⟩; unfold cv; have hA2 := (hAq _).trans (hB2.mono (hAq _).size))
    | (go_at_call 65; refine (puts_any b base v cs [whole (shiftF n n2)] _ 1 1 _ (H.out.st.on (hA2.alloc hA2.size _)) (cels_new _ (whole (shiftF n n2)) _) rfl (fun q => by cases q) hsz).mono ?_; rintro e w3 ⟨rfl, hS3, hK3⟩))
   refine bodyPost_end (v := .tuple #[]) (by simp [results, Tryz.f52]) rfl ?_
   exact opP_fin (by simp [does, wholesF]) (hA2.alloc hA2.size _) hS3 hK3
 have h9b : (op == 9) = false := by simpa using h9
 by_cases hz : n2 = 0
 ·subst hz
  go_enter Tryz.func52, Tryz.ntmps52
  simp only [cd]
  go_wp2_with (go_at_call 55; refine (must_ok _ _).mono ?_; rintro e w' ⟨rfl, rfl⟩)
  go_quiet (fail)
  have hAq := fun q => below_drewN hA q
  go_wp2_with (first
   | (go_at_call 66; refine (whole_any (0) _).mono ?_; rintro e w2 ⟨rfl, hB2⟩; unfold cv; have hA2 := (hAq _).trans (hB2.mono (hAq _).size))
   | (go_at_call 65; refine (puts_any b base v cs [whole (0)] _ 1 1 _ (H.out.st.on (hA2.alloc hA2.size _)) (cels_new _ (whole (0)) _) rfl (fun q => by cases q) hsz).mono ?_; rintro e w3 ⟨rfl, hS3, hK3⟩))
  refine bodyPost_end (v := .tuple #[]) (by simp [results, Tryz.f52]) rfl ?_
  exact opP_fin (by simp [does, wholesF, h9]) (hA2.alloc hA2.size _) hS3 hK3
 have hzb : (n2 == 0) = false := by simpa using hz
 have hq := tdiv_in (m := n2) hj.1 hj.2
 have hr := tmod_in (m := n2) hj.1 hj.2
 by_cases h23 : op = 23
 ·subst h23
  go_enter Tryz.func52, Tryz.ntmps52
  simp only [cd]
  go_wp2_with (go_at_call 55; refine (must_ok _ _).mono ?_; rintro e w' ⟨rfl, rfl⟩)
  go_quiet (fail)
  have hAq := fun q => below_drewN hA q
  go_wp2_with (first
   | (go_at_call 66; refine (whole_any (n.tdiv n2) _).mono ?_; rintro e w2 ⟨rfl, hB2⟩; unfold cv; have hA2 := (hAq _).trans (hB2.mono (hAq _).size))
   | (go_at_call 65; refine (puts_any b base v cs [whole (n.tdiv n2)] _ 1 1 _ (H.out.st.on (hA2.alloc hA2.size _)) (cels_new _ (whole (n.tdiv n2)) _) rfl (fun q => by cases q) hsz).mono ?_; rintro e w3 ⟨rfl, hS3, hK3⟩))
  refine bodyPost_end (v := .tuple #[]) (by simp [results, Tryz.f52]) rfl ?_
  exact opP_fin (by simp [does, wholesF, hz]) (hA2.alloc hA2.size _) hS3 hK3
 ·have h23b : (op == 23) = false := by simpa using h23
  go_enter Tryz.func52, Tryz.ntmps52
  simp only [cd]
  go_wp2_with (go_at_call 55; refine (must_ok _ _).mono ?_; rintro e w' ⟨rfl, rfl⟩)
  go_quiet (fail)
  have hAq := fun q => below_drewN hA q
  go_wp2_with (first
   | (go_at_call 66; refine (whole_any (n.tmod n2) _).mono ?_; rintro e w2 ⟨rfl, hB2⟩; unfold cv; have hA2 := (hAq _).trans (hB2.mono (hAq _).size))
   | (go_at_call 65; refine (puts_any b base v cs [whole (n.tmod n2)] _ 1 1 _ (H.out.st.on (hA2.alloc hA2.size _)) (cels_new _ (whole (n.tmod n2)) _) rfl (fun q => by cases q) hsz).mono ?_; rintro e w3 ⟨rfl, hS3, hK3⟩))
  refine bodyPost_end (v := .tuple #[]) (by simp [results, Tryz.f52]) rfl ?_
  exact opP_fin (by simp [does, wholesF, h9, hz, h23]) (hA2.alloc hA2.size _) hS3 hK3
end
end Go.Proofs.YtcjllibeaiofpaaGreatDoor
