/-
  Machines: cut, one, sum, reals, walked.
-/
import Derived.Test.YtcjllibeaiofpaaGreatDoorGx
import Derived.Test.YtcjllibeaiofpaaGreatDoorGm
import Derived.Shelf.Abstract
set_option linter.all false
set_option maxRecDepth 100000
namespace Go.Proofs.YtcjllibeaiofpaaGreatDoor
open Go.RowKit Mach
theorem bstep {w V V' : World} (h : Below w.heap.size w V) (k : Below V.heap.size V V') : Below w.heap.size w V' := h.trans (k.mono h.size)
theorem below_upd {w W W' : World} {mb : Nat} (h : Below w.heap.size w W) (hm : w.heap.size <= mb) (g : W.grownBy W' (some mb)) : Below w.heap.size w W' :=
 ⟨g.os.trans h.os, g.tape.trans h.tape, g.output.trans h.output, Nat.le_trans h.size g.size, fun k hk => (g.block k (Nat.lt_of_lt_of_le hk h.size) (by simp; omega)).trans (h.block k hk)⟩
theorem mul_in {n m : Int} (h : J32 n) (k : J32 m) : -4611686018427387904 <= n * m /\ n * m <= 4611686018427387904 := by
 unfold J32 at h k
 have h1 : n.natAbs <= 2147483648 := by omega
 have h2 : m.natAbs <= 2147483648 := by omega
 have h3 := Nat.mul_le_mul h1 h2
 rw [<- Int.natAbs_mul] at h3
 omega
theorem or_eq {x e r : Int} (h : (if e = 0 then x else 0) = r) (w : World) : Calls Tryz.prog 75 #[.int .i32 x, .int .i64 e] w fun e' w' => e' = .returned (.int .i32 r) /\ w' = w := by
 rw [<- h]; exact or_any x e w
structure SF (w1 : World) (b : Nat) (v : Value) (cb mb : Nat) (t : TypeId) (op : Int) (F : Value) : Prop where
 cl : cb < w1.heap.size
 cn : cb ≠ b
 cv : some cb ≠ v.ownBlock
 ml : mb < w1.heap.size
 mn : mb ≠ b
 mv : some mb ≠ v.ownBlock
 zl : 0 < w1.heap.size
 zn : 0 ≠ b
 zv : some 0 ≠ v.ownBlock
 lk : ∀ V, V.heap[mb]? = w1.heap[mb]? -> (Instr.lookup t (.map (some mb)) (.int .u8 op) false).run Tryz.prog V = .ok F V
def SM (C : World -> Prop) (w1 : World) (cb mb : Nat) (t : TypeId) (op : Int) (F : Value) (V : World) : Prop :=
 C V /\ (V.cell? ⟨cb, 0, none⟩ = some (.int .u8 op) /\ (Instr.lookup t (.map (some mb)) (.int .u8 op) false).run Tryz.prog V = .ok F V) /\ V.heap[mb]? = w1.heap[mb]? /\ w1.heap.size <= V.heap.size
section
variable {C : World -> Prop} {w1 V V' : World} {b : Nat} {v : Value} {cb mb : Nat} {t : TypeId} {op : Int} {F : Value}
theorem SM.kB (f : SF w1 b v cb mb t op F) (hC : C V -> C V') (s : SM C w1 cb mb t op F V) (h : Below V.heap.size V V') : SM C w1 cb mb t op F V' := by
 obtain ⟨s1, ⟨s2, s3⟩, s4, s5⟩ := s
 have e : V'.heap[mb]? = w1.heap[mb]? := (h.block mb (Nat.lt_of_lt_of_le f.ml s5)).trans s4
 exact ⟨hC s1, ⟨(h.cell (p := ⟨cb, 0, none⟩) (Nat.lt_of_lt_of_le f.cl s5)).trans s2, f.lk _ e⟩, e, Nat.le_trans s5 h.size⟩
theorem SM.kK (f : SF w1 b v cb mb t op F) (hC : C V -> C V') (s : SM C w1 cb mb t op F V) (h : Kept V V' b v) : SM C w1 cb mb t op F V' := by
 obtain ⟨s1, ⟨s2, s3⟩, s4, s5⟩ := s
 have e : V'.heap[mb]? = w1.heap[mb]? := (h.block mb (Nat.lt_of_lt_of_le f.ml s5) f.mn f.mv).trans s4
 have c := h.block cb (Nat.lt_of_lt_of_le f.cl s5) f.cn f.cv
 exact ⟨hC s1, ⟨(World.cell?_of_block (w := V) (a := ⟨cb, 0, none⟩) c).trans s2, f.lk _ e⟩, e, Nat.le_trans s5 h.size⟩
end
theorem grow_cell {W W' : World} {cb mb : Nat} {u : Value} (g : W.grownBy W' (some mb)) (hne : cb ≠ mb) (h : W.cell? ⟨cb, 0, none⟩ = some u) : W'.cell? ⟨cb, 0, none⟩ = some u := by
 have hl : cb < W.heap.size := by
  by_cases c : cb < W.heap.size
  ·exact c
  ·have : W.heap[cb]? = none := Array.getElem?_eq_none (by omega)
   simp [World.cell?, this] at h
 exact (World.cell?_of_block (w := W) (a := ⟨cb, 0, none⟩) (g.block cb hl (by simp; exact hne))).trans h
theorem cl_of {w W : World} {b base bl ol : Nat} {v : Value} {cs : List Cel} {k n : Int} {kn : Bool} (h : OpH w b base v cs bl ol [⟨k, n, kn⟩]) (hB : Below w.heap.size w W) : CL bl ol k n kn W b v W := by
 obtain ⟨c0, c1, c2⟩ := cel_at (h.ce.on hB) (i := 0) (a := ⟨k, n, kn⟩) rfl
 simp only [Nat.zero_mul, Nat.add_zero] at c0 c1 c2
 exact ⟨⟨c0, c1, c2⟩, Kept.refl _ _ _, Nat.lt_of_lt_of_le h.bw hB.size, h.nb, h.nv, fun g hg => Nat.lt_of_lt_of_le (own_lt h.st.o g hg).1 hB.size⟩
theorem cl2_of {w W : World} {b base bl ol : Nat} {v : Value} {cs : List Cel} {k n k2 n2 : Int} {kn kn2 : Bool} (h : OpH w b base v cs bl ol [⟨k, n, kn⟩, ⟨k2, n2, kn2⟩]) (hB : Below w.heap.size w W) : CL2 bl ol k n kn k2 n2 kn2 W b v W := by
 obtain ⟨c0, c1, c2⟩ := cel_at (h.ce.on hB) (i := 0) (a := ⟨k, n, kn⟩) rfl
 simp only [Nat.zero_mul, Nat.add_zero] at c0 c1 c2
 obtain ⟨d0, d1, d2⟩ := cel_at (h.ce.on hB) (i := 1) (a := ⟨k2, n2, kn2⟩) rfl
 simp only [Nat.one_mul] at d0 d1 d2
 have hr : bl < W.heap.size /\ bl ≠ b /\ some bl ≠ v.ownBlock /\ ∀ g, v.ownBlock = some g -> g < W.heap.size := ⟨Nat.lt_of_lt_of_le h.bw hB.size, h.nb, h.nv, fun g hg => Nat.lt_of_lt_of_le (own_lt h.st.o g hg).1 hB.size⟩
 exact ⟨⟨⟨c0, c1, c2⟩, Kept.refl _ _ _, hr⟩, ⟨d0, d1, d2⟩, Kept.refl _ _ _, hr⟩
theorem sf_of {w W : World} {b base bl ol : Nat} {v : Value} {cs L : List Cel} {t e : TypeId} {op : Int} {f m : Nat} {g : Int -> Option DW} (h : OpH w b base v cs bl ol L) (hb0 : 0 < base) (hs : w.heap.size + 2 <= W.heap.size) (hM : MapO fRd W (w.heap.size + 1) m g)
  (ht : Tryz.prog.underlying t = some (.map KT e)) (hz : ∀ w, (zeroValue e).run Tryz.prog w = .ok .nilFunc w) (hk : g op = some (.lit (.int .i64 f))) (h0 : 0 <= op) (h1 : op <= 255) : SF W b v w.heap.size (w.heap.size + 1) t op (.func (.func f) #[] #[]) := by
 have hl := h.st.l
 have ho := own_lt h.st.o
 have hs2 := h.st.s
 refine ⟨by omega, by omega, fun q => ?_, by omega, by omega, fun q => ?_, by omega, by omega, fun q => ?_, fun V e => ?_⟩
 ·have := (ho _ q.symm).1; omega
 ·have := (ho _ q.symm).1; omega
 ·have := (ho _ q.symm).2; omega
 ·obtain ⟨u, ps, r1, r2⟩ := mapO_look (mapO_of hM e) ht hz (zp := []) rfl h0 h1
  rw [hk] at r2
  obtain rfl := fRd_inv r2
  exact r1
abbrev SM1 (bl ol : Nat) (k n : Int) (kn : Bool) (w1 : World) (b : Nat) (v : Value) := SM (CL bl ol k n kn w1 b v) w1
abbrev SM2 (bl ol : Nat) (k n : Int) (kn : Bool) (k2 n2 : Int) (kn2 : Bool) (w1 : World) (b : Nat) (v : Value) := SM (CL2 bl ol k n kn k2 n2 kn2 w1 b v) w1
section
variable {bl ol : Nat} {k n k2 n2 : Int} {kn kn2 : Bool} {w1 V V' : World} {b : Nat} {v : Value} {cb mb : Nat} {t : TypeId} {op : Int} {F : Value}
theorem SM1.kB (f : SF w1 b v cb mb t op F) (s : SM1 bl ol k n kn w1 b v cb mb t op F V) (h : Below V.heap.size V V') : SM1 bl ol k n kn w1 b v cb mb t op F V' := SM.kB f (fun c => c.kB h) s h
theorem SM1.kK (f : SF w1 b v cb mb t op F) (s : SM1 bl ol k n kn w1 b v cb mb t op F V) (h : Kept V V' b v) : SM1 bl ol k n kn w1 b v cb mb t op F V' := SM.kK f (fun c => c.kK h) s h
theorem SM1.kA (f : SF w1 b v cb mb t op F) (o : Obj) (s : SM1 bl ol k n kn w1 b v cb mb t op F V) : SM1 bl ol k n kn w1 b v cb mb t op F (V.alloc o) := SM1.kB f s ((Below.refl _ _).alloc (Nat.le_refl _) _)
theorem SM1.kD (f : SF w1 b v cb mb t op F) (s : SM1 bl ol k n kn w1 b v cb mb t op F V) : SM1 bl ol k n kn w1 b v cb mb t op F V.drew := SM1.kB f s (Below.refl _ _).drew
theorem SM2.kB (f : SF w1 b v cb mb t op F) (s : SM2 bl ol k n kn k2 n2 kn2 w1 b v cb mb t op F V) (h : Below V.heap.size V V') : SM2 bl ol k n kn k2 n2 kn2 w1 b v cb mb t op F V' := SM.kB f (fun c => c.kB h) s h
theorem SM2.kK (f : SF w1 b v cb mb t op F) (s : SM2 bl ol k n kn k2 n2 kn2 w1 b v cb mb t op F V) (h : Kept V V' b v) : SM2 bl ol k n kn k2 n2 kn2 w1 b v cb mb t op F V' := SM.kK f (fun c => c.kK h) s h
theorem SM2.kA (f : SF w1 b v cb mb t op F) (o : Obj) (s : SM2 bl ol k n kn k2 n2 kn2 w1 b v cb mb t op F V) : SM2 bl ol k n kn k2 n2 kn2 w1 b v cb mb t op F (V.alloc o) := SM2.kB f s ((Below.refl _ _).alloc (Nat.le_refl _) _)
theorem SM2.kD (f : SF w1 b v cb mb t op F) (s : SM2 bl ol k n kn k2 n2 kn2 w1 b v cb mb t op F V) : SM2 bl ol k n kn k2 n2 kn2 w1 b v cb mb t op F V.drew := SM2.kB f s (Below.refl _ _).drew
end
theorem cut_fn {op : Int} {f : Nat} (ho : (op = 10 /\ f = 69) \/ (op = 20 /\ f = 21) \/ (op = 37 /\ f = 70) \/ (op = 41 /\ f = 71)) : (0 <= op /\ op <= 255) /\ (∀ (args : Array Value) (w : World), (callFunc f args).run Tryz.prog w = .ok (.enter f args) w) /\ ∀ x, J32 x -> ∀ w, Sx.J w -> Calls Tryz.prog f #[.int .i32 x] w fun e w' => e = .returned (.int .i32 (unR op x)) /\ J32 (unR op x) /\ Below w.heap.size w w' := by
 rcases ho with ⟨rfl, rfl⟩ | ⟨rfl, rfl⟩ | ⟨rfl, rfl⟩ | ⟨rfl, rfl⟩
 ·exact ⟨by decide, enters_of Tryz.func69 (by kernel_rfl) rfl, fun x hx w hj => by have h := ceil_any x hx w hj; unfold I1 at h; simpa [unR] using h⟩
 ·exact ⟨by decide, enters_of Tryz.func21 (by kernel_rfl) rfl, fun x hx w hj => by have h := floor_any x hx w hj; unfold I1 at h; simpa [unR] using h⟩
 ·exact ⟨by decide, enters_of Tryz.func70 (by kernel_rfl) rfl, fun x hx w hj => by have h := round_any x hx w hj; unfold I1 at h; simpa [unR] using h⟩
 ·exact ⟨by decide, enters_of Tryz.func71 (by kernel_rfl) rfl, fun x hx w hj => by have h := trunc_any x hx w hj; unfold I1 at h; simpa [unR] using h⟩
theorem sum_fn {op : Int} {f : Nat} (ho : (op = 6 /\ f = 18) \/ (op = 40 /\ f = 19) \/ (op = 30 /\ f = 20)) : (0 <= op /\ op <= 255) /\ (∀ (args : Array Value) (w : World), (callFunc f args).run Tryz.prog w = .ok (.enter f args) w) /\ ∀ x y, J32 x -> J32 y -> ∀ w, Sx.J w -> Calls Tryz.prog f #[.int .i32 x, .int .i32 y] w fun e w' => e = .returned (.int .i32 (clp (binR op x y))) /\ J32 (clp (binR op x y)) /\ Below w.heap.size w w' := by
 rcases ho with ⟨rfl, rfl⟩ | ⟨rfl, rfl⟩ | ⟨rfl, rfl⟩
 ·refine ⟨by decide, enters_of Tryz.func18 (by kernel_rfl) rfl, fun x y hx hy w hj => ?_⟩
  have h := add_any x y hx hy w hj
  unfold I2 at h
  simpa [binR] using h
 ·refine ⟨by decide, enters_of Tryz.func19 (by kernel_rfl) rfl, fun x y hx hy w hj => ?_⟩
  have h := sub_any x y hx hy w hj
  unfold I2 at h
  simpa [binR] using h
 ·refine ⟨by decide, enters_of Tryz.func20 (by kernel_rfl) rfl, fun x y hx hy w hj => ?_⟩
  have h := mul_any x y hx hy w hj
  unfold I2 at h
  exact h.mono fun e w2 ⟨q1, q2, q3⟩ => by rw [show clp (binR 30 x y) = mulR x y by simp [binR, clp_id q2]]; exact ⟨q1, q2, q3⟩
theorem reals_fn {op : Int} {f : Nat} (ho : (op = 15 /\ f = 78) \/ (op = 19 /\ f = 79) \/ (op = 8 /\ f = 80)) : (0 <= op /\ op <= 255) /\ (∀ (args : Array Value) (w : World), (callFunc f args).run Tryz.prog w = .ok (.enter f args) w) /\ ∀ x y, J32 x -> J32 y -> ∀ w, Sx.J w -> Calls Tryz.prog f #[.int .i32 x, .int .i32 y] w fun e w' => (∃ v, e = .returned v /\ Two v (binR op x y)) /\ Below w.heap.size w w' := by
 rcases ho with ⟨rfl, rfl⟩ | ⟨rfl, rfl⟩ | ⟨rfl, rfl⟩
 ·exact ⟨by decide, enters_of Tryz.func78 (by kernel_rfl) rfl, fun x y hx hy w hj => by have h := div_any x y hx hy w hj; simpa [binR] using h⟩
 ·exact ⟨by decide, enters_of Tryz.func79 (by kernel_rfl) rfl, fun x y hx hy w hj => by have h := pow_any x y hx hy w hj; simpa [binR] using h⟩
 ·exact ⟨by decide, enters_of Tryz.func80 (by kernel_rfl) rfl, fun x y hx hy w hj => by have h := atan_any x y hx hy w hj; simpa [binR] using h⟩
set_option maxHeartbeats 4000000 in
theorem one_r (op cn k n : Int) (kn : Bool) (ho : (op = 38 /\ (op == 38) = true /\ (op == 12) = false /\ (op == 39) = false /\ (op == 26) = false /\ (op == 27) = false) \/ (op = 12 /\ (op == 38) = false /\ (op == 12) = true /\ (op == 39) = false /\ (op == 26) = false /\ (op == 27) = false) \/ (op = 39 /\ (op == 38) = false /\ (op == 12) = false /\ (op == 39) = true /\ (op == 26) = false /\ (op == 27) = false) \/ (op = 26 /\ (op == 38) = false /\ (op == 12) = false /\ (op == 39) = false /\ (op == 26) = true /\ (op == 27) = false) \/ (op = 27 /\ (op == 38) = false /\ (op == 12) = false /\ (op == 39) = false /\ (op == 26) = false /\ (op == 27) = true) \/ (op = 14 /\ (op == 38) = false /\ (op == 12) = false /\ (op == 39) = false /\ (op == 26) = false /\ (op == 27) = false)) (hk2 : ¬ k = 2) (hk2b : (k == 2) = false) (hk2c : (k != 2) = true) (hjn : J32 n) (hjx : J32 (fixOf ⟨k, n, kn⟩)) (bl ol cl b base : Nat) (v : Value) (cs : List Cel) (w : World) (h : OpH w b base v cs bl ol [⟨k, n, kn⟩]) (hj : Sx.J w) (hb0 : 0 < base) :
  Calls Tryz.prog 49 #[.pointer (some ⟨b, 0, none⟩), cd ⟨op, cn⟩, .slice (some ⟨bl, ol, none⟩) 1 cl] w (OpP NN 5 ⟨op, cn⟩ [⟨k, n, kn⟩] cs b base v w) := by
 have hA := (Below.refl w.heap.size w).alloc (Nat.le_refl _) (.cells #[.int .u8 op, .int .i32 cn] 41)
 obtain ⟨c0, c1, c2⟩ := cel_at (h.ce.on hA) (i := 0) (a := ⟨k, n, kn⟩) rfl
 simp only [Nat.zero_mul, Nat.add_zero] at c0 c1 c2
 have hsz : cs.length + 1 <= 1000 := by have := h.sz; omega
 have H := Lib.hid h
 clear h
 rcases ho with ⟨ho, q1, q2, q3, q4, q5⟩ | ⟨ho, q1, q2, q3, q4, q5⟩ | ⟨ho, q1, q2, q3, q4, q5⟩ | ⟨ho, q1, q2, q3, q4, q5⟩ | ⟨ho, q1, q2, q3, q4, q5⟩ | ⟨ho, q1, q2, q3, q4, q5⟩
 all_goals
  have HOP := Lib.hid ho
  clear ho
  go_enter Tryz.func49, Tryz.ntmps49
  simp only [cd]
  go_wp2_with (first
   | (go_at_call 55; refine (must_ok _ _).mono ?_; rintro e w' ⟨rfl, rfl⟩)
   | (go_at_call 72; refine (fix_ex _ _ _ hjn _).mono ?_; rintro e w8 ⟨rfl, hB8⟩; have hN8 := bstep hA hB8; have hJ8 := Sx.J_kept hN8 hj; have q0 : w8.cell? ⟨w.heap.size, 0, none⟩ = some (.int .u8 op) := (hB8.cell (p := ⟨w.heap.size, 0, none⟩) (by simp)).trans (by simp [go_sem]))
   | (go_at_call 73; refine (sin_any _ hjx _ hJ8).mono ?_; rintro e w9 ⟨rfl, hx9, hB9⟩; have hN9 := bstep hN8 hB9)
   | (go_at_call 74; refine (cos_any _ hjx _ hJ8).mono ?_; rintro e w9 ⟨rfl, hx9, hB9⟩; have hN9 := bstep hN8 hB9)
   | (go_at_call 76; refine (sqrt_any _ hjx _ hJ8).mono ?_; rintro e w9 ⟨⟨_, rfl, x9, e9, rfl, he9, hx9⟩, hB9⟩; have hN9 := bstep hN8 hB9; have hJ9 := Sx.J_kept hN9 hj)
   | (go_at_call 77; refine (log_any _ hjx _ hJ8).mono ?_; rintro e w9 ⟨⟨_, rfl, x9, e9, rfl, he9, hx9⟩, hB9⟩; have hN9 := bstep hN8 hB9; have hJ9 := Sx.J_kept hN9 hj)
   | (go_at_call 75; refine (or_eq he9 _).mono ?_; rintro e' w' ⟨rfl, rfl⟩)
   | (go_at_call 20; refine (mul_any _ _ hx9 ⟨by decide, by decide⟩ _ hJ9).mono ?_; rintro e w10 ⟨rfl, hx10, hB10⟩; have hN10 := bstep hN9 hB10)
   | (go_at_call 28; refine (real_any _ _).mono ?_; rintro e w2 ⟨rfl, hB2⟩; unfold cv; have hN2 := bstep (by assumption) hB2)
   | (go_at_call 65; refine (puts_any b base v cs [real _] _ 1 1 _ (H.out.st.on (hN2.alloc hN2.size _)) (cels_new _ (real _) _) rfl (fun q => by cases q) hsz).mono ?_; rintro e w3 ⟨rfl, hS3, hK3⟩))
  refine bodyPost_end (v := .tuple #[]) (by simp [results, Tryz.f49]) rfl ?_
  exact opP_fin (by first | simp [does, hk2, NN, unR, HOP.out, clp_id hx10] | simp [does, hk2, NN, unR, HOP.out, clp_id hx9] | simp [does, hk2, NN, unR, HOP.out, clp_id hjx]) (hN2.alloc hN2.size _) hS3 hK3
set_option maxHeartbeats 4000000 in
theorem one_no (op cn n : Int) (kn : Bool)  (bl ol cl b base : Nat) (v : Value) (cs : List Cel) (w : World) (h : OpH w b base v cs bl ol [⟨2, n, kn⟩]) (hj : Sx.J w) (hb0 : 0 < base) :
  Calls Tryz.prog 49 #[.pointer (some ⟨b, 0, none⟩), cd ⟨op, cn⟩, .slice (some ⟨bl, ol, none⟩) 1 cl] w (OpP NN 5 ⟨op, cn⟩ [⟨2, n, kn⟩] cs b base v w) := by
 have hA := (Below.refl w.heap.size w).alloc (Nat.le_refl _) (.cells #[.int .u8 op, .int .i32 cn] 41)
 obtain ⟨c0, c1, c2⟩ := cel_at (h.ce.on hA) (i := 0) (a := ⟨2, n, kn⟩) rfl
 simp only [Nat.zero_mul, Nat.add_zero] at c0 c1 c2
 have hsz : cs.length + 1 <= 1000 := by have := h.sz; omega
 have H := Lib.hid h
 clear h
 go_enter Tryz.func49, Tryz.ntmps49
 simp only [cd]
 go_wp2_with (go_at_call 55; refine (must_no _ _).mono ?_; rintro e w' ⟨rfl, rfl⟩)
 exact ⟨rfl, opP_err (by simp [does]) (Kept.of hA _ _)⟩
set_option maxHeartbeats 4000000 in
theorem cut_r (op cn k n : Int) (kn : Bool) (f : Nat) (ho : (op = 10 /\ f = 69) \/ (op = 20 /\ f = 21) \/ (op = 37 /\ f = 70) \/ (op = 41 /\ f = 71)) (hk2 : ¬ k = 2) (hk2b : (k == 2) = false) (hk2c : (k != 2) = true) (hk0 : ¬ k = 0) (hk0b : (k == 0) = false) (hjn : J32 n) (hjx : J32 (fixOf ⟨k, n, kn⟩)) (bl ol cl b base : Nat) (v : Value) (cs : List Cel) (w : World) (h : OpH w b base v cs bl ol [⟨k, n, kn⟩]) (hj : Sx.J w) (hb0 : 0 < base) :
  Calls Tryz.prog 48 #[.pointer (some ⟨b, 0, none⟩), cd ⟨op, cn⟩, .slice (some ⟨bl, ol, none⟩) 1 cl] w (OpP NN 4 ⟨op, cn⟩ [⟨k, n, kn⟩] cs b base v w) := by
 have hA := (Below.refl w.heap.size w).alloc (Nat.le_refl _) (.cells #[.int .u8 op, .int .i32 cn] 41)
 obtain ⟨c0, c1, c2⟩ := cel_at (h.ce.on hA) (i := 0) (a := ⟨k, n, kn⟩) rfl
 simp only [Nat.zero_mul, Nat.add_zero] at c0 c1 c2
 have hsz : cs.length + 1 <= 1000 := by have := h.sz; omega
 have H := Lib.hid h
 clear h
 obtain ⟨⟨ho0, ho1⟩, hent, hcon⟩ := cut_fn ho
 have HCON := Lib.hid hcon
 have HOP := Lib.hid ho
 clear hcon ho
 have hmm := @run_makeMap Tryz.prog
 have hM0 := Lib.hid (show MapO fRd ((w.alloc (.cells #[.int .u8 op, .int .i32 cn] 41)).alloc (.map #[] 0)) (w.heap.size + 1) 0 (fun _ => none) by have := mapO_made (w.alloc (.cells #[.int .u8 op, .int .i32 cn] 41)) fRd; simpa using this)
 have hG0 : Below w.heap.size w ((w.alloc (.cells #[.int .u8 op, .int .i32 cn] 41)).alloc (.map #[] 0)) := by exact hA.alloc hA.size _
 have hC0 := Lib.hid (show ((w.alloc (.cells #[.int .u8 op, .int .i32 cn] 41)).alloc (.map #[] 0)).cell? ⟨w.heap.size, 0, none⟩ = some (.int .u8 op) by simp [go_sem])
 have hZ0 : ((w.alloc (.cells #[.int .u8 op, .int .i32 cn] 41)).alloc (.map #[] 0)).heap.size = w.heap.size + 2 := by simp
 go_enter Tryz.func48, Tryz.ntmps48
 simp only [cd]
 go_wp2_with (first
  | (go_at_call 55; refine (must_ok _ _).mono ?_; rintro e w' ⟨rfl, rfl⟩)
  | (refine wpList_insert_o (R := fRd) _ rfl _ _ _ 113 rfl 58 Tryz.underlying113 (w.heap.size + 1) 0 _ 10 rfl (hM0.out) (by unfold maxLen; omega) rfl (by decide) (by decide) _ rfl _ [] (fRd_fn 69) ?_; intro wm1 hm1 hg1 hz1; have hM1 := Lib.hid hm1; clear hm1; have hG1 := below_upd (hG0) (by omega) hg1; have hC1 := Lib.hid (grow_cell hg1 (by omega) (hC0.out)); have hZ1 := hz1.trans (hZ0))
  | (refine wpList_insert_o (R := fRd) _ rfl _ _ _ 113 rfl 58 Tryz.underlying113 (w.heap.size + 1) 1 _ 20 rfl (hM1.out) (by unfold maxLen; omega) rfl (by decide) (by decide) _ rfl _ [] (fRd_fn 21) ?_; intro wm2 hm2 hg2 hz2; have hM2 := Lib.hid hm2; clear hm2; have hG2 := below_upd (hG1) (by omega) hg2; have hC2 := Lib.hid (grow_cell hg2 (by omega) (hC1.out)); have hZ2 := hz2.trans (hZ1))
  | (refine wpList_insert_o (R := fRd) _ rfl _ _ _ 113 rfl 58 Tryz.underlying113 (w.heap.size + 1) 2 _ 37 rfl (hM2.out) (by unfold maxLen; omega) rfl (by decide) (by decide) _ rfl _ [] (fRd_fn 70) ?_; intro wm3 hm3 hg3 hz3; have hM3 := Lib.hid hm3; clear hm3; have hG3 := below_upd (hG2) (by omega) hg3; have hC3 := Lib.hid (grow_cell hg3 (by omega) (hC2.out)); have hZ3 := hz3.trans (hZ2))
  | (refine wpList_insert_o (R := fRd) _ rfl _ _ _ 113 rfl 58 Tryz.underlying113 (w.heap.size + 1) 3 _ 41 rfl (hM3.out) (by unfold maxLen; omega) rfl (by decide) (by decide) _ rfl _ [] (fRd_fn 71) ?_; intro wm4 hm4 hg4 hz4; have hM4 := Lib.hid hm4; clear hm4; have hG4 := below_upd (hG3) (by omega) hg4; have hC4 := Lib.hid (grow_cell hg4 (by omega) (hC3.out)); have hZ4 := hz4.trans (hZ3)))
 have sf := sf_of (t := 113) (e := 58) (op := op) (f := f) H.out hb0 (by omega) (hM4.out) Tryz.underlying113 (fun _ => rfl) (by rcases HOP.out with ⟨rfl, rfl⟩ | ⟨rfl, rfl⟩ | ⟨rfl, rfl⟩ | ⟨rfl, rfl⟩ <;> simp) ho0 ho1
 have s0 : SM1 bl ol k n kn wm4 b v w.heap.size (w.heap.size + 1) 113 op (.func (.func f) #[] #[]) wm4 := ⟨cl_of H.out hG4, ⟨hC4.out, sf.lk _ rfl⟩, rfl, Nat.le_refl _⟩
 have hGd := hG4.drew
 have hJd := Sx.J_kept hGd hj
 go_region_held3 (fun V => ((V.cell? ⟨bl, ol, none⟩ = some (.int .u8 k) /\ V.cell? ⟨bl, ol + 1, none⟩ = some (.int .i32 n) /\ V.cell? ⟨bl, ol + 2, none⟩ = some (.bool kn)) /\ Kept wm4 V b v /\ bl < wm4.heap.size /\ bl ≠ b /\ some bl ≠ v.ownBlock /\ ∀ g, v.ownBlock = some g -> g < wm4.heap.size) /\ (V.cell? ⟨w.heap.size, 0, none⟩ = some (.int .u8 op) /\ (Instr.lookup 113 (.map (some (w.heap.size + 1))) (.int .u8 op) false).run Tryz.prog V = .ok (.func (.func f) #[] #[]) V) /\ V.heap[w.heap.size + 1]? = wm4.heap[w.heap.size + 1]? /\ wm4.heap.size <= V.heap.size)
  (first | exact s0 | exact SM1.kD sf s0 | assumption | exact SM1.kB sf (by assumption) (by assumption) | exact SM1.kK sf (by assumption) (by assumption) | exact SM1.kA sf _ (by assumption) | exact SM1.kD sf (by assumption))
  (first
   | (go_at_call 72; refine (fix_ex _ _ _ (by assumption) _).mono ?_; rintro e w8 ⟨rfl, hB8⟩; have hN8 := bstep (by assumption) hB8; have hJ8 := Sx.J_kept hN8 hj)
   | (go_at_call 28; refine (real_any _ _).mono ?_; rintro e w2 ⟨rfl, hB2⟩; unfold cv; have hN2 := bstep hN9 hB2)
   | (go_at_call 65; refine (puts_any b base v cs [real _] _ 1 1 _ (H.out.st.on (hN2.alloc hN2.size _)) (cels_new _ (real _) _) rfl (fun q => by cases q) hsz).mono ?_; rintro e w3 ⟨rfl, hS3, hK3⟩)
   | ((with_reducible refine (HCON.out _ hjx _ (by assumption)).mono ?_); rintro e w9 ⟨rfl, hx9, hB9⟩; have hN9 := bstep (by assumption) hB9))
 all_goals refine bodyPost_end (v := .tuple #[]) (by simp [results, Tryz.f48]) rfl ?_
 all_goals exact opP_fin (by simp [does, cutF, hk2, hk0, NN, clp_id hx9]) (hN2.alloc hN2.size _) hS3 hK3
set_option maxHeartbeats 4000000 in
theorem cut_no (op cn n : Int) (kn : Bool)  (bl ol cl b base : Nat) (v : Value) (cs : List Cel) (w : World) (h : OpH w b base v cs bl ol [⟨2, n, kn⟩]) (hj : Sx.J w) (hb0 : 0 < base) :
  Calls Tryz.prog 48 #[.pointer (some ⟨b, 0, none⟩), cd ⟨op, cn⟩, .slice (some ⟨bl, ol, none⟩) 1 cl] w (OpP NN 4 ⟨op, cn⟩ [⟨2, n, kn⟩] cs b base v w) := by
 have hA := (Below.refl w.heap.size w).alloc (Nat.le_refl _) (.cells #[.int .u8 op, .int .i32 cn] 41)
 obtain ⟨c0, c1, c2⟩ := cel_at (h.ce.on hA) (i := 0) (a := ⟨2, n, kn⟩) rfl
 simp only [Nat.zero_mul, Nat.add_zero] at c0 c1 c2
 have hsz : cs.length + 1 <= 1000 := by have := h.sz; omega
 have H := Lib.hid h
 clear h
 go_enter Tryz.func48, Tryz.ntmps48
 simp only [cd]
 go_wp2_with (go_at_call 55; refine (must_no _ _).mono ?_; rintro e w' ⟨rfl, rfl⟩)
 exact ⟨rfl, opP_err (by simp [does]) (Kept.of hA _ _)⟩
set_option maxHeartbeats 4000000 in
theorem cut_w (op cn n : Int) (kn : Bool) (hjn : J32 n) (bl ol cl b base : Nat) (v : Value) (cs : List Cel) (w : World) (h : OpH w b base v cs bl ol [⟨0, n, kn⟩]) (hj : Sx.J w) (hb0 : 0 < base) :
  Calls Tryz.prog 48 #[.pointer (some ⟨b, 0, none⟩), cd ⟨op, cn⟩, .slice (some ⟨bl, ol, none⟩) 1 cl] w (OpP NN 4 ⟨op, cn⟩ [⟨0, n, kn⟩] cs b base v w) := by
 have hA := (Below.refl w.heap.size w).alloc (Nat.le_refl _) (.cells #[.int .u8 op, .int .i32 cn] 41)
 obtain ⟨c0, c1, c2⟩ := cel_at (h.ce.on hA) (i := 0) (a := ⟨0, n, kn⟩) rfl
 simp only [Nat.zero_mul, Nat.add_zero] at c0 c1 c2
 have hsz : cs.length + 1 <= 1000 := by have := h.sz; omega
 have H := Lib.hid h
 clear h
 obtain ⟨j1, j2⟩ := hjn
 go_enter Tryz.func48, Tryz.ntmps48
 simp only [cd]
 go_wp2_with (first
  | (go_at_call 55; refine (must_ok _ _).mono ?_; rintro e w' ⟨rfl, rfl⟩)
  | (go_at_call 66; refine (whole_any (n) _).mono ?_; rintro e w2 ⟨rfl, hB2⟩; unfold cv; have hN2 := bstep hA hB2)
  | (go_at_call 65; refine (puts_any b base v cs [whole n] _ 1 1 _ (H.out.st.on (hN2.alloc hN2.size _)) (cels_new _ (whole n) _) rfl (fun q => by cases q) hsz).mono ?_; rintro e w3 ⟨rfl, hS3, hK3⟩))
 refine bodyPost_ret (v := .tuple #[]) (by simp [results, Tryz.f48]) rfl ?_
 exact opP_fin (by simp [does, cutF]) (hN2.alloc hN2.size _) hS3 hK3
set_option maxHeartbeats 4000000 in
theorem sum_w6 (cn n n2 : Int) (kn kn2 : Bool) (hjn : J32 n) (hjm : J32 n2) (bl ol cl b base : Nat) (v : Value) (cs : List Cel) (w : World) (h : OpH w b base v cs bl ol [⟨0, n, kn⟩, ⟨0, n2, kn2⟩]) (hj : Sx.J w) (hb0 : 0 < base) :
  Calls Tryz.prog 50 #[.pointer (some ⟨b, 0, none⟩), cd ⟨6, cn⟩, .slice (some ⟨bl, ol, none⟩) 2 cl] w (OpP NN 7 ⟨6, cn⟩ [⟨0, n, kn⟩, ⟨0, n2, kn2⟩] cs b base v w) := by
 have hA := (Below.refl w.heap.size w).alloc (Nat.le_refl _) (.cells #[.int .u8 6, .int .i32 cn] 41)
 obtain ⟨c0, c1, c2⟩ := cel_at (h.ce.on hA) (i := 0) (a := ⟨0, n, kn⟩) rfl
 simp only [Nat.zero_mul, Nat.add_zero] at c0 c1 c2
 obtain ⟨d0, d1, d2⟩ := cel_at (h.ce.on hA) (i := 1) (a := ⟨0, n2, kn2⟩) rfl
 simp only [Nat.one_mul] at d0 d1 d2
 have hsz : cs.length + 1 <= 1000 := by have := h.sz; omega
 have H := Lib.hid h
 clear h
 obtain ⟨j1, j2⟩ := hjn
 obtain ⟨j3, j4⟩ := hjm
 have hmu := mul_in ⟨j1, j2⟩ ⟨j3, j4⟩
 obtain ⟨m1, m2⟩ := hmu
 have hAq := fun q => below_drewN hA q
 go_enter Tryz.func50, Tryz.ntmps50
 simp only [cd]
 go_wp2_with (go_at_call 55; refine (must_ok _ _).mono ?_; rintro e w' ⟨rfl, rfl⟩)
 go_quiet (fail)
 go_wp2_with (first
  | (go_at_call 66; refine (whole_any (n + n2) _).mono ?_; rintro e w2 ⟨rfl, hB2⟩; unfold cv; have hN2 := bstep (hAq _) hB2)
  | (go_at_call 65; refine (puts_any b base v cs [whole (n + n2)] _ 1 1 _ (H.out.st.on (hN2.alloc hN2.size _)) (cels_new _ (whole (n + n2)) _) rfl (fun q => by cases q) hsz).mono ?_; rintro e w3 ⟨rfl, hS3, hK3⟩))
 refine bodyPost_ret (v := .tuple #[]) (by simp [results, Tryz.f50]) rfl ?_
 exact opP_fin (by simp [does, sumF]) (hN2.alloc hN2.size _) hS3 hK3
set_option maxHeartbeats 4000000 in
theorem sum_w40 (cn n n2 : Int) (kn kn2 : Bool) (hjn : J32 n) (hjm : J32 n2) (bl ol cl b base : Nat) (v : Value) (cs : List Cel) (w : World) (h : OpH w b base v cs bl ol [⟨0, n, kn⟩, ⟨0, n2, kn2⟩]) (hj : Sx.J w) (hb0 : 0 < base) :
  Calls Tryz.prog 50 #[.pointer (some ⟨b, 0, none⟩), cd ⟨40, cn⟩, .slice (some ⟨bl, ol, none⟩) 2 cl] w (OpP NN 7 ⟨40, cn⟩ [⟨0, n, kn⟩, ⟨0, n2, kn2⟩] cs b base v w) := by
 have hA := (Below.refl w.heap.size w).alloc (Nat.le_refl _) (.cells #[.int .u8 40, .int .i32 cn] 41)
 obtain ⟨c0, c1, c2⟩ := cel_at (h.ce.on hA) (i := 0) (a := ⟨0, n, kn⟩) rfl
 simp only [Nat.zero_mul, Nat.add_zero] at c0 c1 c2
 obtain ⟨d0, d1, d2⟩ := cel_at (h.ce.on hA) (i := 1) (a := ⟨0, n2, kn2⟩) rfl
 simp only [Nat.one_mul] at d0 d1 d2
 have hsz : cs.length + 1 <= 1000 := by have := h.sz; omega
 have H := Lib.hid h
 clear h
 obtain ⟨j1, j2⟩ := hjn
 obtain ⟨j3, j4⟩ := hjm
 have hmu := mul_in ⟨j1, j2⟩ ⟨j3, j4⟩
 obtain ⟨m1, m2⟩ := hmu
 have hAq := fun q => below_drewN hA q
 go_enter Tryz.func50, Tryz.ntmps50
 simp only [cd]
 go_wp2_with (go_at_call 55; refine (must_ok _ _).mono ?_; rintro e w' ⟨rfl, rfl⟩)
 go_quiet (fail)
 go_wp2_with (first
  | (go_at_call 66; refine (whole_any (n - n2) _).mono ?_; rintro e w2 ⟨rfl, hB2⟩; unfold cv; have hN2 := bstep (hAq _) hB2)
  | (go_at_call 65; refine (puts_any b base v cs [whole (n - n2)] _ 1 1 _ (H.out.st.on (hN2.alloc hN2.size _)) (cels_new _ (whole (n - n2)) _) rfl (fun q => by cases q) hsz).mono ?_; rintro e w3 ⟨rfl, hS3, hK3⟩))
 refine bodyPost_ret (v := .tuple #[]) (by simp [results, Tryz.f50]) rfl ?_
 exact opP_fin (by simp [does, sumF]) (hN2.alloc hN2.size _) hS3 hK3
set_option maxHeartbeats 4000000 in
theorem sum_w30 (cn n n2 : Int) (kn kn2 : Bool) (hjn : J32 n) (hjm : J32 n2) (bl ol cl b base : Nat) (v : Value) (cs : List Cel) (w : World) (h : OpH w b base v cs bl ol [⟨0, n, kn⟩, ⟨0, n2, kn2⟩]) (hj : Sx.J w) (hb0 : 0 < base) :
  Calls Tryz.prog 50 #[.pointer (some ⟨b, 0, none⟩), cd ⟨30, cn⟩, .slice (some ⟨bl, ol, none⟩) 2 cl] w (OpP NN 7 ⟨30, cn⟩ [⟨0, n, kn⟩, ⟨0, n2, kn2⟩] cs b base v w) := by
 have hA := (Below.refl w.heap.size w).alloc (Nat.le_refl _) (.cells #[.int .u8 30, .int .i32 cn] 41)
 obtain ⟨c0, c1, c2⟩ := cel_at (h.ce.on hA) (i := 0) (a := ⟨0, n, kn⟩) rfl
 simp only [Nat.zero_mul, Nat.add_zero] at c0 c1 c2
 obtain ⟨d0, d1, d2⟩ := cel_at (h.ce.on hA) (i := 1) (a := ⟨0, n2, kn2⟩) rfl
 simp only [Nat.one_mul] at d0 d1 d2
 have hsz : cs.length + 1 <= 1000 := by have := h.sz; omega
 have H := Lib.hid h
 clear h
 obtain ⟨j1, j2⟩ := hjn
 obtain ⟨j3, j4⟩ := hjm
 have hmu := mul_in ⟨j1, j2⟩ ⟨j3, j4⟩
 obtain ⟨m1, m2⟩ := hmu
 have hAq := fun q => below_drewN hA q
 go_enter Tryz.func50, Tryz.ntmps50
 simp only [cd]
 go_wp2_with (go_at_call 55; refine (must_ok _ _).mono ?_; rintro e w' ⟨rfl, rfl⟩)
 go_quiet (fail)
 go_wp2_with (first
  | (go_at_call 66; refine (whole_any (n * n2) _).mono ?_; rintro e w2 ⟨rfl, hB2⟩; unfold cv; have hN2 := bstep (hAq _) hB2)
  | (go_at_call 65; refine (puts_any b base v cs [whole (n * n2)] _ 1 1 _ (H.out.st.on (hN2.alloc hN2.size _)) (cels_new _ (whole (n * n2)) _) rfl (fun q => by cases q) hsz).mono ?_; rintro e w3 ⟨rfl, hS3, hK3⟩))
 refine bodyPost_ret (v := .tuple #[]) (by simp [results, Tryz.f50]) rfl ?_
 exact opP_fin (by simp [does, sumF]) (hN2.alloc hN2.size _) hS3 hK3
set_option maxHeartbeats 4000000 in
theorem sum_r (op cn k k2 n n2 : Int) (kn kn2 : Bool) (f : Nat) (ho : (op = 6 /\ f = 18) \/ (op = 40 /\ f = 19) \/ (op = 30 /\ f = 20)) (hk2 : ¬ k = 2) (hk2b : (k == 2) = false) (hk2c : (k != 2) = true) (hk0 : ¬ k = 0) (hk0b : (k == 0) = false) (hj2 : ¬ k2 = 2) (hj2b : (k2 == 2) = false) (hj2c : (k2 != 2) = true) (hjn : J32 n) (hjm : J32 n2) (hjx : J32 (fixOf ⟨k, n, kn⟩)) (hjy : J32 (fixOf ⟨k2, n2, kn2⟩)) (bl ol cl b base : Nat) (v : Value) (cs : List Cel) (w : World) (h : OpH w b base v cs bl ol [⟨k, n, kn⟩, ⟨k2, n2, kn2⟩]) (hj : Sx.J w) (hb0 : 0 < base) :
  Calls Tryz.prog 50 #[.pointer (some ⟨b, 0, none⟩), cd ⟨op, cn⟩, .slice (some ⟨bl, ol, none⟩) 2 cl] w (OpP NN 7 ⟨op, cn⟩ [⟨k, n, kn⟩, ⟨k2, n2, kn2⟩] cs b base v w) := by
 have hA := (Below.refl w.heap.size w).alloc (Nat.le_refl _) (.cells #[.int .u8 op, .int .i32 cn] 41)
 obtain ⟨c0, c1, c2⟩ := cel_at (h.ce.on hA) (i := 0) (a := ⟨k, n, kn⟩) rfl
 simp only [Nat.zero_mul, Nat.add_zero] at c0 c1 c2
 obtain ⟨d0, d1, d2⟩ := cel_at (h.ce.on hA) (i := 1) (a := ⟨k2, n2, kn2⟩) rfl
 simp only [Nat.one_mul] at d0 d1 d2
 have hsz : cs.length + 1 <= 1000 := by have := h.sz; omega
 have H := Lib.hid h
 clear h
 obtain ⟨⟨ho0, ho1⟩, hent, hcon⟩ := sum_fn ho
 have HCON := Lib.hid hcon
 have HOP := Lib.hid ho
 clear hcon ho
 have hmm := @run_makeMap Tryz.prog
 have hM0 := Lib.hid (show ∀ q, MapO fRd (((w.alloc (.cells #[.int .u8 op, .int .i32 cn] 41)).drewN q).alloc (.map #[] 0)) (w.heap.size + 1) 0 (fun _ => none) by intro q; have := mapO_made ((w.alloc (.cells #[.int .u8 op, .int .i32 cn] 41)).drewN q) fRd; simpa using this)
 have hG0 : ∀ q, Below w.heap.size w (((w.alloc (.cells #[.int .u8 op, .int .i32 cn] 41)).drewN q).alloc (.map #[] 0)) := by intro q; exact (below_drewN hA q).alloc (below_drewN hA q).size _
 have hC0 := Lib.hid (show ∀ q, (((w.alloc (.cells #[.int .u8 op, .int .i32 cn] 41)).drewN q).alloc (.map #[] 0)).cell? ⟨w.heap.size, 0, none⟩ = some (.int .u8 op) by intro q; simp [go_sem])
 have hZ0 : ∀ q, (((w.alloc (.cells #[.int .u8 op, .int .i32 cn] 41)).drewN q).alloc (.map #[] 0)).heap.size = w.heap.size + 2 := by intro q; simp
 go_enter Tryz.func50, Tryz.ntmps50
 simp only [cd]
 go_wp2_with (go_at_call 55; refine (must_ok _ _).mono ?_; rintro e w' ⟨rfl, rfl⟩)
 go_quiet (fail)
 go_wp2_with (first
  | (go_at_call 55; refine (must_ok _ _).mono ?_; rintro e w' ⟨rfl, rfl⟩)
  | (refine wpList_insert_o (R := fRd) _ rfl _ _ _ 117 rfl 57 Tryz.underlying117 (w.heap.size + 1) 0 _ 6 rfl (hM0.out _) (by unfold maxLen; omega) rfl (by decide) (by decide) _ rfl _ [] (fRd_fn 18) ?_; intro wm1 hm1 hg1 hz1; have hM1 := Lib.hid hm1; clear hm1; have hG1 := below_upd (hG0 _) (by omega) hg1; have hC1 := Lib.hid (grow_cell hg1 (by omega) (hC0.out _)); have hZ1 := hz1.trans (hZ0 _))
  | (refine wpList_insert_o (R := fRd) _ rfl _ _ _ 117 rfl 57 Tryz.underlying117 (w.heap.size + 1) 1 _ 40 rfl (hM1.out) (by unfold maxLen; omega) rfl (by decide) (by decide) _ rfl _ [] (fRd_fn 19) ?_; intro wm2 hm2 hg2 hz2; have hM2 := Lib.hid hm2; clear hm2; have hG2 := below_upd (hG1) (by omega) hg2; have hC2 := Lib.hid (grow_cell hg2 (by omega) (hC1.out)); have hZ2 := hz2.trans (hZ1))
  | (refine wpList_insert_o (R := fRd) _ rfl _ _ _ 117 rfl 57 Tryz.underlying117 (w.heap.size + 1) 2 _ 30 rfl (hM2.out) (by unfold maxLen; omega) rfl (by decide) (by decide) _ rfl _ [] (fRd_fn 20) ?_; intro wm3 hm3 hg3 hz3; have hM3 := Lib.hid hm3; clear hm3; have hG3 := below_upd (hG2) (by omega) hg3; have hC3 := Lib.hid (grow_cell hg3 (by omega) (hC2.out)); have hZ3 := hz3.trans (hZ2)))
 have sf := sf_of (t := 117) (e := 57) (op := op) (f := f) H.out hb0 (by omega) (hM3.out) Tryz.underlying117 (fun _ => rfl) (by rcases HOP.out with ⟨rfl, rfl⟩ | ⟨rfl, rfl⟩ | ⟨rfl, rfl⟩ <;> simp) ho0 ho1
 have s0 : SM2 bl ol k n kn k2 n2 kn2 wm3 b v w.heap.size (w.heap.size + 1) 117 op (.func (.func f) #[] #[]) wm3 := ⟨cl2_of H.out hG3, ⟨hC3.out, sf.lk _ rfl⟩, rfl, Nat.le_refl _⟩
 have hGd := hG3.drew
 have hJd := Sx.J_kept hGd hj
 go_region_held3 (fun V => (((V.cell? ⟨bl, ol, none⟩ = some (.int .u8 k) /\ V.cell? ⟨bl, ol + 1, none⟩ = some (.int .i32 n) /\ V.cell? ⟨bl, ol + 2, none⟩ = some (.bool kn)) /\ Kept wm3 V b v /\ bl < wm3.heap.size /\ bl ≠ b /\ some bl ≠ v.ownBlock /\ ∀ g, v.ownBlock = some g -> g < wm3.heap.size) /\ ((V.cell? ⟨bl, ol + 3, none⟩ = some (.int .u8 k2) /\ V.cell? ⟨bl, ol + 3 + 1, none⟩ = some (.int .i32 n2) /\ V.cell? ⟨bl, ol + 3 + 2, none⟩ = some (.bool kn2)) /\ Kept wm3 V b v /\ bl < wm3.heap.size /\ bl ≠ b /\ some bl ≠ v.ownBlock /\ ∀ g, v.ownBlock = some g -> g < wm3.heap.size)) /\ (V.cell? ⟨w.heap.size, 0, none⟩ = some (.int .u8 op) /\ (Instr.lookup 117 (.map (some (w.heap.size + 1))) (.int .u8 op) false).run Tryz.prog V = .ok (.func (.func f) #[] #[]) V) /\ V.heap[w.heap.size + 1]? = wm3.heap[w.heap.size + 1]? /\ wm3.heap.size <= V.heap.size)
  (first | exact s0 | exact SM2.kD sf s0 | assumption | exact SM2.kB sf (by assumption) (by assumption) | exact SM2.kK sf (by assumption) (by assumption) | exact SM2.kA sf _ (by assumption) | exact SM2.kD sf (by assumption))
  (first
   | (go_at_call 72; refine (fix_ex _ _ _ (by assumption) _).mono ?_; rintro e w8 ⟨rfl, hB8⟩; have hN8 := bstep (by assumption) hB8; have hJ8 := Sx.J_kept hN8 hj)
   | (go_at_call 28; refine (real_any _ _).mono ?_; rintro e w2 ⟨rfl, hB2⟩; unfold cv; have hN2 := bstep hN9 hB2)
   | (go_at_call 65; refine (puts_any b base v cs [real _] _ 1 1 _ (H.out.st.on (hN2.alloc hN2.size _)) (cels_new _ (real _) _) rfl (fun q => by cases q) hsz).mono ?_; rintro e w3 ⟨rfl, hS3, hK3⟩)
   | ((with_reducible refine (HCON.out _ _ hjx hjy _ (by assumption)).mono ?_); rintro e w9 ⟨rfl, hx9, hB9⟩; have hN9 := bstep (by assumption) hB9))
 all_goals refine bodyPost_end (v := .tuple #[]) (by simp [results, Tryz.f50]) rfl ?_
 all_goals exact opP_fin (by simp [does, sumF, hk2, hj2, hk0, NN]) (hN2.alloc hN2.size _) hS3 hK3
set_option maxHeartbeats 4000000 in
theorem sum_s (op cn k2 n n2 : Int) (kn kn2 : Bool) (f : Nat) (ho : (op = 6 /\ f = 18) \/ (op = 40 /\ f = 19) \/ (op = 30 /\ f = 20)) (hj2 : ¬ k2 = 2) (hj2b : (k2 == 2) = false) (hj2c : (k2 != 2) = true) (hm0 : ¬ k2 = 0) (hm0b : (k2 == 0) = false) (hjn : J32 n) (hjm : J32 n2) (hjx : J32 (fixOf ⟨0, n, kn⟩)) (hjy : J32 (fixOf ⟨k2, n2, kn2⟩)) (bl ol cl b base : Nat) (v : Value) (cs : List Cel) (w : World) (h : OpH w b base v cs bl ol [⟨0, n, kn⟩, ⟨k2, n2, kn2⟩]) (hj : Sx.J w) (hb0 : 0 < base) :
  Calls Tryz.prog 50 #[.pointer (some ⟨b, 0, none⟩), cd ⟨op, cn⟩, .slice (some ⟨bl, ol, none⟩) 2 cl] w (OpP NN 7 ⟨op, cn⟩ [⟨0, n, kn⟩, ⟨k2, n2, kn2⟩] cs b base v w) := by
 have hA := (Below.refl w.heap.size w).alloc (Nat.le_refl _) (.cells #[.int .u8 op, .int .i32 cn] 41)
 obtain ⟨c0, c1, c2⟩ := cel_at (h.ce.on hA) (i := 0) (a := ⟨0, n, kn⟩) rfl
 simp only [Nat.zero_mul, Nat.add_zero] at c0 c1 c2
 obtain ⟨d0, d1, d2⟩ := cel_at (h.ce.on hA) (i := 1) (a := ⟨k2, n2, kn2⟩) rfl
 simp only [Nat.one_mul] at d0 d1 d2
 have hsz : cs.length + 1 <= 1000 := by have := h.sz; omega
 have H := Lib.hid h
 clear h
 obtain ⟨⟨ho0, ho1⟩, hent, hcon⟩ := sum_fn ho
 have HCON := Lib.hid hcon
 have HOP := Lib.hid ho
 clear hcon ho
 have hmm := @run_makeMap Tryz.prog
 have hM0 := Lib.hid (show ∀ q, MapO fRd (((w.alloc (.cells #[.int .u8 op, .int .i32 cn] 41)).drewN q).alloc (.map #[] 0)) (w.heap.size + 1) 0 (fun _ => none) by intro q; have := mapO_made ((w.alloc (.cells #[.int .u8 op, .int .i32 cn] 41)).drewN q) fRd; simpa using this)
 have hG0 : ∀ q, Below w.heap.size w (((w.alloc (.cells #[.int .u8 op, .int .i32 cn] 41)).drewN q).alloc (.map #[] 0)) := by intro q; exact (below_drewN hA q).alloc (below_drewN hA q).size _
 have hC0 := Lib.hid (show ∀ q, (((w.alloc (.cells #[.int .u8 op, .int .i32 cn] 41)).drewN q).alloc (.map #[] 0)).cell? ⟨w.heap.size, 0, none⟩ = some (.int .u8 op) by intro q; simp [go_sem])
 have hZ0 : ∀ q, (((w.alloc (.cells #[.int .u8 op, .int .i32 cn] 41)).drewN q).alloc (.map #[] 0)).heap.size = w.heap.size + 2 := by intro q; simp
 go_enter Tryz.func50, Tryz.ntmps50
 simp only [cd]
 go_wp2_with (go_at_call 55; refine (must_ok _ _).mono ?_; rintro e w' ⟨rfl, rfl⟩)
 go_quiet (fail)
 go_wp2_with (first
  | (go_at_call 55; refine (must_ok _ _).mono ?_; rintro e w' ⟨rfl, rfl⟩)
  | (refine wpList_insert_o (R := fRd) _ rfl _ _ _ 117 rfl 57 Tryz.underlying117 (w.heap.size + 1) 0 _ 6 rfl (hM0.out _) (by unfold maxLen; omega) rfl (by decide) (by decide) _ rfl _ [] (fRd_fn 18) ?_; intro wm1 hm1 hg1 hz1; have hM1 := Lib.hid hm1; clear hm1; have hG1 := below_upd (hG0 _) (by omega) hg1; have hC1 := Lib.hid (grow_cell hg1 (by omega) (hC0.out _)); have hZ1 := hz1.trans (hZ0 _))
  | (refine wpList_insert_o (R := fRd) _ rfl _ _ _ 117 rfl 57 Tryz.underlying117 (w.heap.size + 1) 1 _ 40 rfl (hM1.out) (by unfold maxLen; omega) rfl (by decide) (by decide) _ rfl _ [] (fRd_fn 19) ?_; intro wm2 hm2 hg2 hz2; have hM2 := Lib.hid hm2; clear hm2; have hG2 := below_upd (hG1) (by omega) hg2; have hC2 := Lib.hid (grow_cell hg2 (by omega) (hC1.out)); have hZ2 := hz2.trans (hZ1))
  | (refine wpList_insert_o (R := fRd) _ rfl _ _ _ 117 rfl 57 Tryz.underlying117 (w.heap.size + 1) 2 _ 30 rfl (hM2.out) (by unfold maxLen; omega) rfl (by decide) (by decide) _ rfl _ [] (fRd_fn 20) ?_; intro wm3 hm3 hg3 hz3; have hM3 := Lib.hid hm3; clear hm3; have hG3 := below_upd (hG2) (by omega) hg3; have hC3 := Lib.hid (grow_cell hg3 (by omega) (hC2.out)); have hZ3 := hz3.trans (hZ2)))
 have sf := sf_of (t := 117) (e := 57) (op := op) (f := f) H.out hb0 (by omega) (hM3.out) Tryz.underlying117 (fun _ => rfl) (by rcases HOP.out with ⟨rfl, rfl⟩ | ⟨rfl, rfl⟩ | ⟨rfl, rfl⟩ <;> simp) ho0 ho1
 have s0 : SM2 bl ol 0 n kn k2 n2 kn2 wm3 b v w.heap.size (w.heap.size + 1) 117 op (.func (.func f) #[] #[]) wm3 := ⟨cl2_of H.out hG3, ⟨hC3.out, sf.lk _ rfl⟩, rfl, Nat.le_refl _⟩
 have hGd := hG3.drew
 have hJd := Sx.J_kept hGd hj
 go_region_held3 (fun V => (((V.cell? ⟨bl, ol, none⟩ = some (.int .u8 0) /\ V.cell? ⟨bl, ol + 1, none⟩ = some (.int .i32 n) /\ V.cell? ⟨bl, ol + 2, none⟩ = some (.bool kn)) /\ Kept wm3 V b v /\ bl < wm3.heap.size /\ bl ≠ b /\ some bl ≠ v.ownBlock /\ ∀ g, v.ownBlock = some g -> g < wm3.heap.size) /\ ((V.cell? ⟨bl, ol + 3, none⟩ = some (.int .u8 k2) /\ V.cell? ⟨bl, ol + 3 + 1, none⟩ = some (.int .i32 n2) /\ V.cell? ⟨bl, ol + 3 + 2, none⟩ = some (.bool kn2)) /\ Kept wm3 V b v /\ bl < wm3.heap.size /\ bl ≠ b /\ some bl ≠ v.ownBlock /\ ∀ g, v.ownBlock = some g -> g < wm3.heap.size)) /\ (V.cell? ⟨w.heap.size, 0, none⟩ = some (.int .u8 op) /\ (Instr.lookup 117 (.map (some (w.heap.size + 1))) (.int .u8 op) false).run Tryz.prog V = .ok (.func (.func f) #[] #[]) V) /\ V.heap[w.heap.size + 1]? = wm3.heap[w.heap.size + 1]? /\ wm3.heap.size <= V.heap.size)
  (first | exact s0 | exact SM2.kD sf s0 | assumption | exact SM2.kB sf (by assumption) (by assumption) | exact SM2.kK sf (by assumption) (by assumption) | exact SM2.kA sf _ (by assumption) | exact SM2.kD sf (by assumption))
  (first
   | (go_at_call 72; refine (fix_ex _ _ _ (by assumption) _).mono ?_; rintro e w8 ⟨rfl, hB8⟩; have hN8 := bstep (by assumption) hB8; have hJ8 := Sx.J_kept hN8 hj)
   | (go_at_call 28; refine (real_any _ _).mono ?_; rintro e w2 ⟨rfl, hB2⟩; unfold cv; have hN2 := bstep hN9 hB2)
   | (go_at_call 65; refine (puts_any b base v cs [real _] _ 1 1 _ (H.out.st.on (hN2.alloc hN2.size _)) (cels_new _ (real _) _) rfl (fun q => by cases q) hsz).mono ?_; rintro e w3 ⟨rfl, hS3, hK3⟩)
   | ((with_reducible refine (HCON.out _ _ hjx hjy _ (by assumption)).mono ?_); rintro e w9 ⟨rfl, hx9, hB9⟩; have hN9 := bstep (by assumption) hB9))
 all_goals refine bodyPost_end (v := .tuple #[]) (by simp [results, Tryz.f50]) rfl ?_
 all_goals exact opP_fin (by simp [does, sumF, hj2, hm0, NN]) (hN2.alloc hN2.size _) hS3 hK3
set_option maxHeartbeats 4000000 in
theorem sum_n1 (op cn k2 n n2 : Int) (kn kn2 : Bool)  (bl ol cl b base : Nat) (v : Value) (cs : List Cel) (w : World) (h : OpH w b base v cs bl ol [⟨2, n, kn⟩, ⟨k2, n2, kn2⟩]) (hj : Sx.J w) (hb0 : 0 < base) :
  Calls Tryz.prog 50 #[.pointer (some ⟨b, 0, none⟩), cd ⟨op, cn⟩, .slice (some ⟨bl, ol, none⟩) 2 cl] w (OpP NN 7 ⟨op, cn⟩ [⟨2, n, kn⟩, ⟨k2, n2, kn2⟩] cs b base v w) := by
 have hA := (Below.refl w.heap.size w).alloc (Nat.le_refl _) (.cells #[.int .u8 op, .int .i32 cn] 41)
 obtain ⟨c0, c1, c2⟩ := cel_at (h.ce.on hA) (i := 0) (a := ⟨2, n, kn⟩) rfl
 simp only [Nat.zero_mul, Nat.add_zero] at c0 c1 c2
 obtain ⟨d0, d1, d2⟩ := cel_at (h.ce.on hA) (i := 1) (a := ⟨k2, n2, kn2⟩) rfl
 simp only [Nat.one_mul] at d0 d1 d2
 have hsz : cs.length + 1 <= 1000 := by have := h.sz; omega
 have H := Lib.hid h
 clear h
 go_enter Tryz.func50, Tryz.ntmps50
 simp only [cd]
 go_wp2_with (go_at_call 55; refine (must_no _ _).mono ?_; rintro e w' ⟨rfl, rfl⟩)
 exact ⟨rfl, opP_err (by simp [does]) (Kept.of hA _ _)⟩
set_option maxHeartbeats 4000000 in
theorem sum_n2 (op cn k n n2 : Int) (kn kn2 : Bool) (hk2 : ¬ k = 2) (hk2b : (k == 2) = false) (hk2c : (k != 2) = true) (bl ol cl b base : Nat) (v : Value) (cs : List Cel) (w : World) (h : OpH w b base v cs bl ol [⟨k, n, kn⟩, ⟨2, n2, kn2⟩]) (hj : Sx.J w) (hb0 : 0 < base) :
  Calls Tryz.prog 50 #[.pointer (some ⟨b, 0, none⟩), cd ⟨op, cn⟩, .slice (some ⟨bl, ol, none⟩) 2 cl] w (OpP NN 7 ⟨op, cn⟩ [⟨k, n, kn⟩, ⟨2, n2, kn2⟩] cs b base v w) := by
 have hA := (Below.refl w.heap.size w).alloc (Nat.le_refl _) (.cells #[.int .u8 op, .int .i32 cn] 41)
 obtain ⟨c0, c1, c2⟩ := cel_at (h.ce.on hA) (i := 0) (a := ⟨k, n, kn⟩) rfl
 simp only [Nat.zero_mul, Nat.add_zero] at c0 c1 c2
 obtain ⟨d0, d1, d2⟩ := cel_at (h.ce.on hA) (i := 1) (a := ⟨2, n2, kn2⟩) rfl
 simp only [Nat.one_mul] at d0 d1 d2
 have hsz : cs.length + 1 <= 1000 := by have := h.sz; omega
 have H := Lib.hid h
 clear h
 go_enter Tryz.func50, Tryz.ntmps50
 simp only [cd]
 go_wp2_with (go_at_call 55; refine (must_no _ _).mono ?_; rintro e w' ⟨rfl, rfl⟩)
 exact ⟨rfl, opP_err (by simp [does]) (Kept.of hA _ _)⟩
set_option maxHeartbeats 4000000 in
theorem reals_r (op cn k k2 n n2 : Int) (kn kn2 : Bool) (f : Nat) (ho : (op = 15 /\ f = 78) \/ (op = 19 /\ f = 79) \/ (op = 8 /\ f = 80)) (hk2 : ¬ k = 2) (hk2b : (k == 2) = false) (hk2c : (k != 2) = true) (hj2 : ¬ k2 = 2) (hj2b : (k2 == 2) = false) (hj2c : (k2 != 2) = true) (hjn : J32 n) (hjm : J32 n2) (hjx : J32 (fixOf ⟨k, n, kn⟩)) (hjy : J32 (fixOf ⟨k2, n2, kn2⟩)) (bl ol cl b base : Nat) (v : Value) (cs : List Cel) (w : World) (h : OpH w b base v cs bl ol [⟨k, n, kn⟩, ⟨k2, n2, kn2⟩]) (hj : Sx.J w) (hb0 : 0 < base) :
  Calls Tryz.prog 51 #[.pointer (some ⟨b, 0, none⟩), cd ⟨op, cn⟩, .slice (some ⟨bl, ol, none⟩) 2 cl] w (OpP NN 8 ⟨op, cn⟩ [⟨k, n, kn⟩, ⟨k2, n2, kn2⟩] cs b base v w) := by
 have hA := (Below.refl w.heap.size w).alloc (Nat.le_refl _) (.cells #[.int .u8 op, .int .i32 cn] 41)
 obtain ⟨c0, c1, c2⟩ := cel_at (h.ce.on hA) (i := 0) (a := ⟨k, n, kn⟩) rfl
 simp only [Nat.zero_mul, Nat.add_zero] at c0 c1 c2
 obtain ⟨d0, d1, d2⟩ := cel_at (h.ce.on hA) (i := 1) (a := ⟨k2, n2, kn2⟩) rfl
 simp only [Nat.one_mul] at d0 d1 d2
 have hsz : cs.length + 1 <= 1000 := by have := h.sz; omega
 have H := Lib.hid h
 clear h
 obtain ⟨⟨ho0, ho1⟩, hent, hcon⟩ := reals_fn ho
 have HCON := Lib.hid hcon
 have HOP := Lib.hid ho
 clear hcon ho
 have hmm := @run_makeMap Tryz.prog
 have hM0 := Lib.hid (show MapO fRd ((w.alloc (.cells #[.int .u8 op, .int .i32 cn] 41)).alloc (.map #[] 0)) (w.heap.size + 1) 0 (fun _ => none) by have := mapO_made (w.alloc (.cells #[.int .u8 op, .int .i32 cn] 41)) fRd; simpa using this)
 have hG0 : Below w.heap.size w ((w.alloc (.cells #[.int .u8 op, .int .i32 cn] 41)).alloc (.map #[] 0)) := by exact hA.alloc hA.size _
 have hC0 := Lib.hid (show ((w.alloc (.cells #[.int .u8 op, .int .i32 cn] 41)).alloc (.map #[] 0)).cell? ⟨w.heap.size, 0, none⟩ = some (.int .u8 op) by simp [go_sem])
 have hZ0 : ((w.alloc (.cells #[.int .u8 op, .int .i32 cn] 41)).alloc (.map #[] 0)).heap.size = w.heap.size + 2 := by simp
 go_enter Tryz.func51, Tryz.ntmps51
 simp only [cd]
 go_wp2_with (first
  | (go_at_call 55; refine (must_ok _ _).mono ?_; rintro e w' ⟨rfl, rfl⟩)
  | (refine wpList_insert_o (R := fRd) _ rfl _ _ _ 119 rfl 118 Tryz.underlying119 (w.heap.size + 1) 0 _ 15 rfl (hM0.out) (by unfold maxLen; omega) rfl (by decide) (by decide) _ rfl _ [] (fRd_fn 78) ?_; intro wm1 hm1 hg1 hz1; have hM1 := Lib.hid hm1; clear hm1; have hG1 := below_upd (hG0) (by omega) hg1; have hC1 := Lib.hid (grow_cell hg1 (by omega) (hC0.out)); have hZ1 := hz1.trans (hZ0))
  | (refine wpList_insert_o (R := fRd) _ rfl _ _ _ 119 rfl 118 Tryz.underlying119 (w.heap.size + 1) 1 _ 19 rfl (hM1.out) (by unfold maxLen; omega) rfl (by decide) (by decide) _ rfl _ [] (fRd_fn 79) ?_; intro wm2 hm2 hg2 hz2; have hM2 := Lib.hid hm2; clear hm2; have hG2 := below_upd (hG1) (by omega) hg2; have hC2 := Lib.hid (grow_cell hg2 (by omega) (hC1.out)); have hZ2 := hz2.trans (hZ1))
  | (refine wpList_insert_o (R := fRd) _ rfl _ _ _ 119 rfl 118 Tryz.underlying119 (w.heap.size + 1) 2 _ 8 rfl (hM2.out) (by unfold maxLen; omega) rfl (by decide) (by decide) _ rfl _ [] (fRd_fn 80) ?_; intro wm3 hm3 hg3 hz3; have hM3 := Lib.hid hm3; clear hm3; have hG3 := below_upd (hG2) (by omega) hg3; have hC3 := Lib.hid (grow_cell hg3 (by omega) (hC2.out)); have hZ3 := hz3.trans (hZ2)))
 have sf := sf_of (t := 119) (e := 118) (op := op) (f := f) H.out hb0 (by omega) (hM3.out) Tryz.underlying119 (fun _ => rfl) (by rcases HOP.out with ⟨rfl, rfl⟩ | ⟨rfl, rfl⟩ | ⟨rfl, rfl⟩ <;> simp) ho0 ho1
 have s0 : SM2 bl ol k n kn k2 n2 kn2 wm3 b v w.heap.size (w.heap.size + 1) 119 op (.func (.func f) #[] #[]) wm3 := ⟨cl2_of H.out hG3, ⟨hC3.out, sf.lk _ rfl⟩, rfl, Nat.le_refl _⟩
 have hGd := hG3.drew
 have hJd := Sx.J_kept hGd hj
 go_region_held3 (fun V => (((V.cell? ⟨bl, ol, none⟩ = some (.int .u8 k) /\ V.cell? ⟨bl, ol + 1, none⟩ = some (.int .i32 n) /\ V.cell? ⟨bl, ol + 2, none⟩ = some (.bool kn)) /\ Kept wm3 V b v /\ bl < wm3.heap.size /\ bl ≠ b /\ some bl ≠ v.ownBlock /\ ∀ g, v.ownBlock = some g -> g < wm3.heap.size) /\ ((V.cell? ⟨bl, ol + 3, none⟩ = some (.int .u8 k2) /\ V.cell? ⟨bl, ol + 3 + 1, none⟩ = some (.int .i32 n2) /\ V.cell? ⟨bl, ol + 3 + 2, none⟩ = some (.bool kn2)) /\ Kept wm3 V b v /\ bl < wm3.heap.size /\ bl ≠ b /\ some bl ≠ v.ownBlock /\ ∀ g, v.ownBlock = some g -> g < wm3.heap.size)) /\ (V.cell? ⟨w.heap.size, 0, none⟩ = some (.int .u8 op) /\ (Instr.lookup 119 (.map (some (w.heap.size + 1))) (.int .u8 op) false).run Tryz.prog V = .ok (.func (.func f) #[] #[]) V) /\ V.heap[w.heap.size + 1]? = wm3.heap[w.heap.size + 1]? /\ wm3.heap.size <= V.heap.size)
  (first | exact s0 | exact SM2.kD sf s0 | assumption | exact SM2.kB sf (by assumption) (by assumption) | exact SM2.kK sf (by assumption) (by assumption) | exact SM2.kA sf _ (by assumption) | exact SM2.kD sf (by assumption))
  (first
   | (go_at_call 72; refine (fix_ex _ _ _ (by assumption) _).mono ?_; rintro e w8 ⟨rfl, hB8⟩; have hN8 := bstep (by assumption) hB8; have hJ8 := Sx.J_kept hN8 hj)
   | (go_at_call 75; refine (or_eq he9 _).mono ?_; rintro e' w' ⟨rfl, rfl⟩)
   | (go_at_call 28; refine (real_any _ _).mono ?_; rintro e w2 ⟨rfl, hB2⟩; unfold cv; have hN2 := bstep hN9 hB2)
   | (go_at_call 65; refine (puts_any b base v cs [real _] _ 1 1 _ (H.out.st.on (hN2.alloc hN2.size _)) (cels_new _ (real _) _) rfl (fun q => by cases q) hsz).mono ?_; rintro e w3 ⟨rfl, hS3, hK3⟩)
   | ((with_reducible refine (HCON.out _ _ hjx hjy _ (by assumption)).mono ?_); rintro e w9 ⟨⟨_, rfl, x9, e9, rfl, he9, hx9⟩, hB9⟩; have hN9 := bstep (by assumption) hB9))
 all_goals refine bodyPost_end (v := .tuple #[]) (by simp [results, Tryz.f51]) rfl ?_
 all_goals exact opP_fin (by simp [does, hk2, hj2, NN, clp_id hx9]) (hN2.alloc hN2.size _) hS3 hK3
set_option maxHeartbeats 4000000 in
theorem reals_n1 (op cn k2 n n2 : Int) (kn kn2 : Bool)  (bl ol cl b base : Nat) (v : Value) (cs : List Cel) (w : World) (h : OpH w b base v cs bl ol [⟨2, n, kn⟩, ⟨k2, n2, kn2⟩]) (hj : Sx.J w) (hb0 : 0 < base) :
  Calls Tryz.prog 51 #[.pointer (some ⟨b, 0, none⟩), cd ⟨op, cn⟩, .slice (some ⟨bl, ol, none⟩) 2 cl] w (OpP NN 8 ⟨op, cn⟩ [⟨2, n, kn⟩, ⟨k2, n2, kn2⟩] cs b base v w) := by
 have hA := (Below.refl w.heap.size w).alloc (Nat.le_refl _) (.cells #[.int .u8 op, .int .i32 cn] 41)
 obtain ⟨c0, c1, c2⟩ := cel_at (h.ce.on hA) (i := 0) (a := ⟨2, n, kn⟩) rfl
 simp only [Nat.zero_mul, Nat.add_zero] at c0 c1 c2
 obtain ⟨d0, d1, d2⟩ := cel_at (h.ce.on hA) (i := 1) (a := ⟨k2, n2, kn2⟩) rfl
 simp only [Nat.one_mul] at d0 d1 d2
 have hsz : cs.length + 1 <= 1000 := by have := h.sz; omega
 have H := Lib.hid h
 clear h
 go_enter Tryz.func51, Tryz.ntmps51
 simp only [cd]
 go_wp2_with (go_at_call 55; refine (must_no _ _).mono ?_; rintro e w' ⟨rfl, rfl⟩)
 exact ⟨rfl, opP_err (by simp [does]) (Kept.of hA _ _)⟩
set_option maxHeartbeats 4000000 in
theorem reals_n2 (op cn k n n2 : Int) (kn kn2 : Bool) (hk2 : ¬ k = 2) (hk2b : (k == 2) = false) (hk2c : (k != 2) = true) (bl ol cl b base : Nat) (v : Value) (cs : List Cel) (w : World) (h : OpH w b base v cs bl ol [⟨k, n, kn⟩, ⟨2, n2, kn2⟩]) (hj : Sx.J w) (hb0 : 0 < base) :
  Calls Tryz.prog 51 #[.pointer (some ⟨b, 0, none⟩), cd ⟨op, cn⟩, .slice (some ⟨bl, ol, none⟩) 2 cl] w (OpP NN 8 ⟨op, cn⟩ [⟨k, n, kn⟩, ⟨2, n2, kn2⟩] cs b base v w) := by
 have hA := (Below.refl w.heap.size w).alloc (Nat.le_refl _) (.cells #[.int .u8 op, .int .i32 cn] 41)
 obtain ⟨c0, c1, c2⟩ := cel_at (h.ce.on hA) (i := 0) (a := ⟨k, n, kn⟩) rfl
 simp only [Nat.zero_mul, Nat.add_zero] at c0 c1 c2
 obtain ⟨d0, d1, d2⟩ := cel_at (h.ce.on hA) (i := 1) (a := ⟨2, n2, kn2⟩) rfl
 simp only [Nat.one_mul] at d0 d1 d2
 have hsz : cs.length + 1 <= 1000 := by have := h.sz; omega
 have H := Lib.hid h
 clear h
 go_enter Tryz.func51, Tryz.ntmps51
 simp only [cd]
 go_wp2_with (go_at_call 55; refine (must_no _ _).mono ?_; rintro e w' ⟨rfl, rfl⟩)
 exact ⟨rfl, opP_err (by simp [does]) (Kept.of hA _ _)⟩
theorem cut_any (c : Cod) (ho : c.op = 10 \/ c.op = 20 \/ c.op = 37 \/ c.op = 41) (k n : Int) (kn : Bool) (bl ol cl b base : Nat) (v : Value) (cs : List Cel) (w : World) (h : OpH w b base v cs bl ol [⟨k, n, kn⟩]) (hj : Sx.J w) (hb0 : 0 < base) :
  Calls Tryz.prog 48 #[.pointer (some ⟨b, 0, none⟩), cd c, .slice (some ⟨bl, ol, none⟩) 1 cl] w (OpP NN 4 c [⟨k, n, kn⟩] cs b base v w) := by
 obtain ⟨op, cn⟩ := c
 dsimp only at ho
 have e1 : ∀ {a b : Int}, ¬ a = b -> (a == b) = false := fun h => by simpa using h
 have e2 : ∀ {a b : Int}, ¬ a = b -> (a != b) = true := fun h => by simpa using h
 have ga := h.gl ⟨k, n, kn⟩ (List.mem_cons_self ..)
 have hjn : J32 n := ga.r
 have hjx : J32 (fixOf ⟨k, n, kn⟩) := j_fix ga
 by_cases hk2 : k = 2
 ·subst hk2; exact cut_no op cn n kn bl ol cl b base v cs w h hj hb0
 by_cases hk0 : k = 0
 ·subst hk0; exact cut_w op cn n kn hjn bl ol cl b base v cs w h hj hb0
 rcases ho with rfl | rfl | rfl | rfl
 ·exact cut_r 10 cn k n kn 69 (by simp) hk2 (e1 hk2) (e2 hk2) hk0 (e1 hk0) hjn hjx bl ol cl b base v cs w h hj hb0
 ·exact cut_r 20 cn k n kn 21 (by simp) hk2 (e1 hk2) (e2 hk2) hk0 (e1 hk0) hjn hjx bl ol cl b base v cs w h hj hb0
 ·exact cut_r 37 cn k n kn 70 (by simp) hk2 (e1 hk2) (e2 hk2) hk0 (e1 hk0) hjn hjx bl ol cl b base v cs w h hj hb0
 ·exact cut_r 41 cn k n kn 71 (by simp) hk2 (e1 hk2) (e2 hk2) hk0 (e1 hk0) hjn hjx bl ol cl b base v cs w h hj hb0
theorem one_any (c : Cod) (ho : c.op = 38 \/ c.op = 12 \/ c.op = 39 \/ c.op = 26 \/ c.op = 27 \/ c.op = 14) (k n : Int) (kn : Bool) (bl ol cl b base : Nat) (v : Value) (cs : List Cel) (w : World) (h : OpH w b base v cs bl ol [⟨k, n, kn⟩]) (hj : Sx.J w) (hb0 : 0 < base) :
  Calls Tryz.prog 49 #[.pointer (some ⟨b, 0, none⟩), cd c, .slice (some ⟨bl, ol, none⟩) 1 cl] w (OpP NN 5 c [⟨k, n, kn⟩] cs b base v w) := by
 obtain ⟨op, cn⟩ := c
 dsimp only at ho
 have e1 : ∀ {a b : Int}, ¬ a = b -> (a == b) = false := fun h => by simpa using h
 have e2 : ∀ {a b : Int}, ¬ a = b -> (a != b) = true := fun h => by simpa using h
 have ga := h.gl ⟨k, n, kn⟩ (List.mem_cons_self ..)
 have hjn : J32 n := ga.r
 have hjx : J32 (fixOf ⟨k, n, kn⟩) := j_fix ga
 by_cases hk2 : k = 2
 ·subst hk2; exact one_no op cn n kn bl ol cl b base v cs w h hj hb0
 rcases ho with rfl | rfl | rfl | rfl | rfl | rfl
 ·exact one_r 38 cn k n kn (by simp) hk2 (e1 hk2) (e2 hk2) hjn hjx bl ol cl b base v cs w h hj hb0
 ·exact one_r 12 cn k n kn (by simp) hk2 (e1 hk2) (e2 hk2) hjn hjx bl ol cl b base v cs w h hj hb0
 ·exact one_r 39 cn k n kn (by simp) hk2 (e1 hk2) (e2 hk2) hjn hjx bl ol cl b base v cs w h hj hb0
 ·exact one_r 26 cn k n kn (by simp) hk2 (e1 hk2) (e2 hk2) hjn hjx bl ol cl b base v cs w h hj hb0
 ·exact one_r 27 cn k n kn (by simp) hk2 (e1 hk2) (e2 hk2) hjn hjx bl ol cl b base v cs w h hj hb0
 ·exact one_r 14 cn k n kn (by simp) hk2 (e1 hk2) (e2 hk2) hjn hjx bl ol cl b base v cs w h hj hb0
theorem sum_any (c : Cod) (ho : c.op = 6 \/ c.op = 40 \/ c.op = 30) (k n : Int) (kn : Bool) (k2 n2 : Int) (kn2 : Bool) (bl ol cl b base : Nat) (v : Value) (cs : List Cel) (w : World) (h : OpH w b base v cs bl ol [⟨k, n, kn⟩, ⟨k2, n2, kn2⟩]) (hj : Sx.J w) (hb0 : 0 < base) :
  Calls Tryz.prog 50 #[.pointer (some ⟨b, 0, none⟩), cd c, .slice (some ⟨bl, ol, none⟩) 2 cl] w (OpP NN 7 c [⟨k, n, kn⟩, ⟨k2, n2, kn2⟩] cs b base v w) := by
 obtain ⟨op, cn⟩ := c
 dsimp only at ho
 have e1 : ∀ {a b : Int}, ¬ a = b -> (a == b) = false := fun h => by simpa using h
 have e2 : ∀ {a b : Int}, ¬ a = b -> (a != b) = true := fun h => by simpa using h
 have ga := h.gl ⟨k, n, kn⟩ (List.mem_cons_self ..)
 have hjn : J32 n := ga.r
 have hjx : J32 (fixOf ⟨k, n, kn⟩) := j_fix ga
 have gb := h.gl ⟨k2, n2, kn2⟩ (List.mem_cons_of_mem _ (List.mem_cons_self ..))
 have hjm : J32 n2 := gb.r
 have hjy : J32 (fixOf ⟨k2, n2, kn2⟩) := j_fix gb
 by_cases hk2 : k = 2
 ·subst hk2; exact sum_n1 op cn k2 n n2 kn kn2 bl ol cl b base v cs w h hj hb0
 by_cases hj2 : k2 = 2
 ·subst hj2; exact sum_n2 op cn k n n2 kn kn2 hk2 (e1 hk2) (e2 hk2) bl ol cl b base v cs w h hj hb0
 by_cases hk0 : k = 0
 ·subst hk0
  by_cases hm0 : k2 = 0
  ·subst hm0
   rcases ho with rfl | rfl | rfl
   ·exact sum_w6 cn n n2 kn kn2 hjn hjm bl ol cl b base v cs w h hj hb0
   ·exact sum_w40 cn n n2 kn kn2 hjn hjm bl ol cl b base v cs w h hj hb0
   ·exact sum_w30 cn n n2 kn kn2 hjn hjm bl ol cl b base v cs w h hj hb0
  rcases ho with rfl | rfl | rfl
  ·exact sum_s 6 cn k2 n n2 kn kn2 18 (by simp) hj2 (e1 hj2) (e2 hj2) hm0 (e1 hm0) hjn hjm hjx hjy bl ol cl b base v cs w h hj hb0
  ·exact sum_s 40 cn k2 n n2 kn kn2 19 (by simp) hj2 (e1 hj2) (e2 hj2) hm0 (e1 hm0) hjn hjm hjx hjy bl ol cl b base v cs w h hj hb0
  ·exact sum_s 30 cn k2 n n2 kn kn2 20 (by simp) hj2 (e1 hj2) (e2 hj2) hm0 (e1 hm0) hjn hjm hjx hjy bl ol cl b base v cs w h hj hb0
 rcases ho with rfl | rfl | rfl
 ·exact sum_r 6 cn k k2 n n2 kn kn2 18 (by simp) hk2 (e1 hk2) (e2 hk2) hk0 (e1 hk0) hj2 (e1 hj2) (e2 hj2) hjn hjm hjx hjy bl ol cl b base v cs w h hj hb0
 ·exact sum_r 40 cn k k2 n n2 kn kn2 19 (by simp) hk2 (e1 hk2) (e2 hk2) hk0 (e1 hk0) hj2 (e1 hj2) (e2 hj2) hjn hjm hjx hjy bl ol cl b base v cs w h hj hb0
 ·exact sum_r 30 cn k k2 n n2 kn kn2 20 (by simp) hk2 (e1 hk2) (e2 hk2) hk0 (e1 hk0) hj2 (e1 hj2) (e2 hj2) hjn hjm hjx hjy bl ol cl b base v cs w h hj hb0
theorem reals_any (c : Cod) (ho : c.op = 15 \/ c.op = 19 \/ c.op = 8) (k n : Int) (kn : Bool) (k2 n2 : Int) (kn2 : Bool) (bl ol cl b base : Nat) (v : Value) (cs : List Cel) (w : World) (h : OpH w b base v cs bl ol [⟨k, n, kn⟩, ⟨k2, n2, kn2⟩]) (hj : Sx.J w) (hb0 : 0 < base) :
  Calls Tryz.prog 51 #[.pointer (some ⟨b, 0, none⟩), cd c, .slice (some ⟨bl, ol, none⟩) 2 cl] w (OpP NN 8 c [⟨k, n, kn⟩, ⟨k2, n2, kn2⟩] cs b base v w) := by
 obtain ⟨op, cn⟩ := c
 dsimp only at ho
 have e1 : ∀ {a b : Int}, ¬ a = b -> (a == b) = false := fun h => by simpa using h
 have e2 : ∀ {a b : Int}, ¬ a = b -> (a != b) = true := fun h => by simpa using h
 have ga := h.gl ⟨k, n, kn⟩ (List.mem_cons_self ..)
 have hjn : J32 n := ga.r
 have hjx : J32 (fixOf ⟨k, n, kn⟩) := j_fix ga
 have gb := h.gl ⟨k2, n2, kn2⟩ (List.mem_cons_of_mem _ (List.mem_cons_self ..))
 have hjm : J32 n2 := gb.r
 have hjy : J32 (fixOf ⟨k2, n2, kn2⟩) := j_fix gb
 by_cases hk2 : k = 2
 ·subst hk2; exact reals_n1 op cn k2 n n2 kn kn2 bl ol cl b base v cs w h hj hb0
 by_cases hj2 : k2 = 2
 ·subst hj2; exact reals_n2 op cn k n n2 kn kn2 hk2 (e1 hk2) (e2 hk2) bl ol cl b base v cs w h hj hb0
 rcases ho with rfl | rfl | rfl
 ·exact reals_r 15 cn k k2 n n2 kn kn2 78 (by simp) hk2 (e1 hk2) (e2 hk2) hj2 (e1 hj2) (e2 hj2) hjn hjm hjx hjy bl ol cl b base v cs w h hj hb0
 ·exact reals_r 19 cn k k2 n n2 kn kn2 79 (by simp) hk2 (e1 hk2) (e2 hk2) hj2 (e1 hj2) (e2 hj2) hjn hjm hjx hjy bl ol cl b base v cs w h hj hb0
 ·exact reals_r 8 cn k k2 n n2 kn kn2 80 (by simp) hk2 (e1 hk2) (e2 hk2) hj2 (e1 hj2) (e2 hj2) hjn hjm hjx hjy bl ol cl b base v cs w h hj hb0
end Go.Proofs.YtcjllibeaiofpaaGreatDoor
