/-
  Machines: a step, walked.
-/
import Derived.Test.YtcjllibeaiofpaaGreatDoorGq
import Derived.Test.YtcjllibeaiofpaaGreatDoorGx
import Derived.Test.YtcjllibeaiofpaaGreatDoorGs
import Derived.Test.YtcjllibeaiofpaaGreatDoorGy
import Derived.Shelf.Abstract
set_option linter.all false
set_option maxRecDepth 100000
namespace Go.Proofs.YtcjllibeaiofpaaGreatDoor
open Go.RowKit Mach
theorem one_of {L : List Cel} (h : L.length = 1) : ∃ k n kn, L = [⟨k, n, kn⟩] := by
 match L, h with
 | [⟨k, n, kn⟩], _ => exact ⟨k, n, kn, rfl⟩
theorem two_of {L : List Cel} (h : L.length = 2) : ∃ k n kn k2 n2 kn2, L = [⟨k, n, kn⟩, ⟨k2, n2, kn2⟩] := by
 match L, h with
 | [⟨k, n, kn⟩, ⟨k2, n2, kn2⟩], _ => exact ⟨k, n, kn, k2, n2, kn2, rfl⟩
theorem does_any (c : Cod) (t cl : Nat) (ho : opTab c.op = some (t, cl)) (L : List Cel) (hL : L.length = t) (lv : Value) (b base : Nat) (v : Value) (cs : List Cel) (w : World) (hS : Stk w b base v cs) (hs : cs.length <= 100)
  (hl : 0 < t -> ∃ bl ol cap, lv = .slice (some ⟨bl, ol, none⟩) t cap /\ OpH w b base v cs bl ol L) (hj : Sx.J w) (hb0 : 0 < base) :
  Calls Tryz.prog (fnOf cl) #[.pointer (some ⟨b, 0, none⟩), cd c, lv] w (OpP NN cl c L cs b base v w) := by
 unfold opTab at ho
 by_cases q0 : c.op = 0 \/ c.op = 1 \/ c.op = 2
 ·rw [if_pos q0] at ho
  cases ho
  exact constant_any c q0 L lv b base v cs w hS hs
 rw [if_neg q0] at ho
 by_cases q1 : c.op = 3
 ·rw [if_pos q1] at ho
  cases ho
  exact rest_any c L lv b base v cs w hS
 rw [if_neg q1] at ho
 by_cases q2 : c.op = 35
 ·rw [if_pos q2] at ho
  cases ho
  exact rest_any c L lv b base v cs w hS
 rw [if_neg q2] at ho
 by_cases q3 : c.op = 4
 ·rw [if_pos q3] at ho
  cases ho
  obtain ⟨bl, ol, cap, rfl, hO⟩ := hl (by decide)
  obtain ⟨k, n, kn, rfl⟩ := one_of hL
  exact unless_any c ⟨k, n, kn⟩ bl ol cap b base v cs w hO
 rw [if_neg q3] at ho
 by_cases q4 : c.op = 5 \/ c.op = 32
 ·rw [if_pos q4] at ho
  cases ho
  obtain ⟨bl, ol, cap, rfl, hO⟩ := hl (by decide)
  obtain ⟨k, n, kn, rfl⟩ := one_of hL
  exact sign_any c k n kn bl ol cap b base v cs w hO
 rw [if_neg q4] at ho
 by_cases q5 : c.op = 10 \/ c.op = 20 \/ c.op = 37 \/ c.op = 41
 ·rw [if_pos q5] at ho
  cases ho
  obtain ⟨bl, ol, cap, rfl, hO⟩ := hl (by decide)
  obtain ⟨k, n, kn, rfl⟩ := one_of hL
  exact cut_any c q5 k n kn bl ol cap b base v cs w hO hj hb0
 rw [if_neg q5] at ho
 by_cases q6 : c.op = 38 \/ c.op = 12 \/ c.op = 39 \/ c.op = 26 \/ c.op = 27 \/ c.op = 14
 ·rw [if_pos q6] at ho
  cases ho
  obtain ⟨bl, ol, cap, rfl, hO⟩ := hl (by decide)
  obtain ⟨k, n, kn, rfl⟩ := one_of hL
  exact one_any c q6 k n kn bl ol cap b base v cs w hO hj hb0
 rw [if_neg q6] at ho
 by_cases q7 : c.op = 13
 ·rw [if_pos q7] at ho
  cases ho
  obtain ⟨bl, ol, cap, rfl, hO⟩ := hl (by decide)
  obtain ⟨k, n, kn, rfl⟩ := one_of hL
  exact cvi_any c k n kn bl ol cap b base v cs w hO
 rw [if_neg q7] at ho
 by_cases q8 : c.op = 6 \/ c.op = 40 \/ c.op = 30
 ·rw [if_pos q8] at ho
  cases ho
  obtain ⟨bl, ol, cap, rfl, hO⟩ := hl (by decide)
  obtain ⟨k, n, kn, k2, n2, kn2, rfl⟩ := two_of hL
  exact sum_any c q8 k n kn k2 n2 kn2 bl ol cap b base v cs w hO hj hb0
 rw [if_neg q8] at ho
 by_cases q9 : c.op = 15 \/ c.op = 19 \/ c.op = 8
 ·rw [if_pos q9] at ho
  cases ho
  obtain ⟨bl, ol, cap, rfl, hO⟩ := hl (by decide)
  obtain ⟨k, n, kn, k2, n2, kn2, rfl⟩ := two_of hL
  exact reals_any c q9 k n kn k2 n2 kn2 bl ol cap b base v cs w hO hj hb0
 rw [if_neg q9] at ho
 by_cases q10 : c.op = 23 \/ c.op = 29 \/ c.op = 9
 ·rw [if_pos q10] at ho
  cases ho
  obtain ⟨bl, ol, cap, rfl, hO⟩ := hl (by decide)
  obtain ⟨k, n, kn, k2, n2, kn2, rfl⟩ := two_of hL
  exact wholes_any c k n kn k2 n2 kn2 bl ol cap b base v cs w hO
 rw [if_neg q10] at ho
 by_cases q11 : c.op = 7 \/ c.op = 34 \/ c.op = 42
 ·rw [if_pos q11] at ho
  cases ho
  obtain ⟨bl, ol, cap, rfl, hO⟩ := hl (by decide)
  obtain ⟨k, n, kn, k2, n2, kn2, rfl⟩ := two_of hL
  exact bits_any c k n kn k2 n2 kn2 bl ol cap b base v cs w hO
 rw [if_neg q11] at ho
 by_cases q12 : c.op = 17 \/ c.op = 31 \/ c.op = 28 \/ c.op = 25 \/ c.op = 22 \/ c.op = 21
 ·rw [if_pos q12] at ho
  cases ho
  obtain ⟨bl, ol, cap, rfl, hO⟩ := hl (by decide)
  obtain ⟨k, n, kn, k2, n2, kn2, rfl⟩ := two_of hL
  exact compares_any c k n kn k2 n2 kn2 bl ol cap b base v cs w hO
 rw [if_neg q12] at ho
 by_cases q13 : c.op = 33
 ·rw [if_pos q13] at ho
  cases ho
  obtain ⟨bl, ol, cap, rfl, hO⟩ := hl (by decide)
  obtain ⟨k, n, kn, rfl⟩ := one_of hL
  exact not_any c k n kn bl ol cap b base v cs w hO
 rw [if_neg q13] at ho
 by_cases q14 : c.op = 16
 ·rw [if_pos q14] at ho
  cases ho
  obtain ⟨bl, ol, cap, rfl, hO⟩ := hl (by decide)
  obtain ⟨k, n, kn, rfl⟩ := one_of hL
  exact dup_any c k n kn bl ol cap b base v cs w hO
 rw [if_neg q14] at ho
 by_cases q15 : c.op = 18
 ·rw [if_pos q15] at ho
  cases ho
  obtain ⟨bl, ol, cap, rfl, hO⟩ := hl (by decide)
  obtain ⟨k, n, kn, k2, n2, kn2, rfl⟩ := two_of hL
  exact exch_any c k n kn k2 n2 kn2 bl ol cap b base v cs w hO
 rw [if_neg q15] at ho
 by_cases q16 : c.op = 11
 ·rw [if_pos q16] at ho
  cases ho
  obtain ⟨bl, ol, cap, rfl, hO⟩ := hl (by decide)
  obtain ⟨k, n, kn, rfl⟩ := one_of hL
  exact copy_any c k n kn bl ol cap b base v cs w hO
 rw [if_neg q16] at ho
 by_cases q17 : c.op = 24
 ·rw [if_pos q17] at ho
  cases ho
  obtain ⟨bl, ol, cap, rfl, hO⟩ := hl (by decide)
  obtain ⟨k, n, kn, rfl⟩ := one_of hL
  exact index_any c k n kn bl ol cap b base v cs w hO
 rw [if_neg q17] at ho
 by_cases q18 : c.op = 36
 ·rw [if_pos q18] at ho
  cases ho
  obtain ⟨bl, ol, cap, rfl, hO⟩ := hl (by decide)
  obtain ⟨k, n, kn, k2, n2, kn2, rfl⟩ := two_of hL
  exact roll_any c k n kn k2 n2 kn2 bl ol cap b base v cs w hO
 rw [if_neg q18] at ho
 cases ho
def SA (w : World) (t : Int) (f : Nat) (op n : Int) (V : World) : Prop :=
 ((V.cell? ⟨w.heap.size, 0, none⟩ = some (.int .i64 t) /\ V.cell? ⟨w.heap.size, 1, none⟩ = some (.func (.func f) #[] #[])) /\ V.cell? ⟨w.heap.size + 1, 0, none⟩ = some (.int .u8 op) /\ V.cell? ⟨w.heap.size + 1, 1, none⟩ = some (.int .i32 n)) /\ w.heap.size + 1 < V.heap.size
section
variable {w V V' : World} {t : Int} {f : Nat} {op n : Int} {b : Nat} {v : Value}
theorem SA.kE (s : SA w t f op n V) (h0 : V'.heap[w.heap.size]? = V.heap[w.heap.size]?) (h1 : V'.heap[w.heap.size + 1]? = V.heap[w.heap.size + 1]?) (hs : V.heap.size <= V'.heap.size) : SA w t f op n V' := by
 obtain ⟨⟨⟨a1, a2⟩, a3, a4⟩, a5⟩ := s
 exact ⟨⟨⟨(World.cell?_of_block (w := V) (a := ⟨w.heap.size, 0, none⟩) h0).trans a1, (World.cell?_of_block (w := V) (a := ⟨w.heap.size, 1, none⟩) h0).trans a2⟩, (World.cell?_of_block (w := V) (a := ⟨w.heap.size + 1, 0, none⟩) h1).trans a3, (World.cell?_of_block (w := V) (a := ⟨w.heap.size + 1, 1, none⟩) h1).trans a4⟩, Nat.lt_of_lt_of_le a5 hs⟩
theorem SA.kB (s : SA w t f op n V) (h : Below V.heap.size V V') : SA w t f op n V' := s.kE (h.block _ (by have := s.2; omega)) (h.block _ s.2) h.size
theorem SA.kD (s : SA w t f op n V) : SA w t f op n V.drew := s.kB (Below.refl _ _).drew
theorem SA.kK (s : SA w t f op n V) (hb : w.heap.size + 2 <= b) (hv : ∀ g, v.ownBlock = some g -> w.heap.size + 2 <= g) (h : Kept V V' b v) : SA w t f op n V' :=
 s.kE (h.block _ (by have := s.2; omega) (by omega) (fun q => by have := hv _ q.symm; omega)) (h.block _ s.2 (by omega) (fun q => by have := hv _ q.symm; omega)) h.size
end
theorem row_base {W : World} {base base' e s n : Nat} {v : Value} {xs : List Value} (h : W.ownsRow base e s v n xs) (hb : base' <= base) : W.ownsRow base' e s v n xs := by
 obtain ⟨h1, h2 | ⟨g, cap, cur, e1, e2, e3⟩⟩ := h
 ·exact ⟨h1, .inl h2⟩
 ·exact ⟨h1, .inr ⟨g, cap, cur, e1, Nat.le_trans hb e2, e3⟩⟩
theorem stk_new {W : World} {base cap n : Nat} {a : Option Addr} {cs : List Cel} (ty : TypeId) (h : W.ownsRow base 72 3 (.slice a n cap) n (fl cs)) (hn : n = cs.length) (hb : base <= W.heap.size) (hl : cs.length <= 1000) :
  Stk (W.alloc (.cells #[.slice a n cap] ty)) W.heap.size base (.slice a n cap) cs := by
 subst hn
 refine ⟨by simp [go_sem], by simp [go_sem], row_keep h (fun g hg => (World.grownBy_alloc W _ none).block g (own_lt h g hg).1 (by simp)), fun e => ?_, by simp, hb, hl⟩
 have := (own_lt h _ e).1
 omega
theorem oph_of {w W : World} {b base t a : Nat} {v x : Value} {cs : List Cel} (hS : Stk W b base v (cs.take a)) (hx : W.ownsRow w.heap.size 72 3 x t (fl (cs.drop a))) (hbl : b < w.heap.size) (hv : ∀ g, v.ownBlock = some g -> g < w.heap.size)
  (hl : cs.length = a + t) (h0 : 0 < t) (hA : All cs) (h100 : cs.length <= 100) : ∃ bl ol cap, x = .slice (some ⟨bl, ol, none⟩) t cap /\ OpH W b base v (cs.take a) bl ol (cs.drop a) := by
 obtain ⟨_, ⟨rfl, e0⟩ | ⟨g, cap, cur, rfl, hb, hg, hcc, hm, hs, ht⟩⟩ := hx
 ·omega
 ·refine ⟨g, 0, cap, rfl, hS, .inr ⟨g, 0, rfl, (Array.getElem?_eq_some_iff.1 hg).1, fun j u hu => ?_⟩, by omega, fun e => ?_, (Array.getElem?_eq_some_iff.1 hg).1, hA.drop a, hA.take a, by rw [List.length_take]; omega⟩
  ·have hj := (List.getElem?_eq_some_iff.1 hu).1
   rw [<- ht] at hu
   rw [List.getElem?_take] at hu
   split at hu
   ·rw [Nat.zero_add]
    simp [World.cell?, hg]
    rw [<- Array.getElem?_toList]
    exact hu
   ·cases hu
  ·have := hv g e.symm
   omega
def AftP (c : Cod) (cs : List Cel) (w : World) (e : Ending) (w' : World) : Prop :=
 (∀ s', aft NN c cs = .ok s' -> ∃ v, e = .returned v /\ w'.ownsRow w.heap.size 72 3 v s'.length (fl s') /\ Below w.heap.size w w') /\ ∀ er, aft NN c cs = .error er -> e = Pan er /\ Below w.heap.size w w'
theorem aft_eq {op cn : Int} {t cl : Nat} (ho : opTab op = some (t, cl)) (cs : List Cel) :
  aft NN ⟨op, cn⟩ cs = if t <= cs.length then (does NN cl ⟨op, cn⟩ (cs.drop (cs.length - t)) (cs.take (cs.length - t))).bind (fun s => if s.length <= 100 then .ok s else .error 15) else .error 15 := by
 unfold aft takes
 simp only [ho]
 by_cases h : t <= cs.length
 ·simp only [if_pos h, bind, Except.bind]
 ·simp only [if_neg h, bind, Except.bind]
theorem opTab_lt {op : Int} {t cl : Nat} (h : opTab op = some (t, cl)) : t <= 2 /\ cl < 18 := by
 unfold opTab at h
 by_cases q0 : op = 0 \/ op = 1 \/ op = 2
 ·rw [if_pos q0] at h; cases h; decide
 rw [if_neg q0] at h
 by_cases q1 : op = 3
 ·rw [if_pos q1] at h; cases h; decide
 rw [if_neg q1] at h
 by_cases q2 : op = 35
 ·rw [if_pos q2] at h; cases h; decide
 rw [if_neg q2] at h
 by_cases q3 : op = 4
 ·rw [if_pos q3] at h; cases h; decide
 rw [if_neg q3] at h
 by_cases q4 : op = 5 \/ op = 32
 ·rw [if_pos q4] at h; cases h; decide
 rw [if_neg q4] at h
 by_cases q5 : op = 10 \/ op = 20 \/ op = 37 \/ op = 41
 ·rw [if_pos q5] at h; cases h; decide
 rw [if_neg q5] at h
 by_cases q6 : op = 38 \/ op = 12 \/ op = 39 \/ op = 26 \/ op = 27 \/ op = 14
 ·rw [if_pos q6] at h; cases h; decide
 rw [if_neg q6] at h
 by_cases q7 : op = 13
 ·rw [if_pos q7] at h; cases h; decide
 rw [if_neg q7] at h
 by_cases q8 : op = 6 \/ op = 40 \/ op = 30
 ·rw [if_pos q8] at h; cases h; decide
 rw [if_neg q8] at h
 by_cases q9 : op = 15 \/ op = 19 \/ op = 8
 ·rw [if_pos q9] at h; cases h; decide
 rw [if_neg q9] at h
 by_cases q10 : op = 23 \/ op = 29 \/ op = 9
 ·rw [if_pos q10] at h; cases h; decide
 rw [if_neg q10] at h
 by_cases q11 : op = 7 \/ op = 34 \/ op = 42
 ·rw [if_pos q11] at h; cases h; decide
 rw [if_neg q11] at h
 by_cases q12 : op = 17 \/ op = 31 \/ op = 28 \/ op = 25 \/ op = 22 \/ op = 21
 ·rw [if_pos q12] at h; cases h; decide
 rw [if_neg q12] at h
 by_cases q13 : op = 33
 ·rw [if_pos q13] at h; cases h; decide
 rw [if_neg q13] at h
 by_cases q14 : op = 16
 ·rw [if_pos q14] at h; cases h; decide
 rw [if_neg q14] at h
 by_cases q15 : op = 18
 ·rw [if_pos q15] at h; cases h; decide
 rw [if_neg q15] at h
 by_cases q16 : op = 11
 ·rw [if_pos q16] at h; cases h; decide
 rw [if_neg q16] at h
 by_cases q17 : op = 24
 ·rw [if_pos q17] at h; cases h; decide
 rw [if_neg q17] at h
 by_cases q18 : op = 36
 ·rw [if_pos q18] at h; cases h; decide
 rw [if_neg q18] at h
 cases h
theorem fn_enters : ∀ cl : Nat, cl < 18 -> ∀ (args : Array Value) (w : World), (callFunc (fnOf cl) args).run Tryz.prog w = .ok (.enter (fnOf cl) args) w
 | 0, _ => enters_of Tryz.func46 (by kernel_rfl) rfl
 | 1, _ => enters_of Tryz.func36 (by kernel_rfl) rfl
 | 2, _ => enters_of Tryz.func37 (by kernel_rfl) rfl
 | 3, _ => enters_of Tryz.func47 (by kernel_rfl) rfl
 | 4, _ => enters_of Tryz.func48 (by kernel_rfl) rfl
 | 5, _ => enters_of Tryz.func49 (by kernel_rfl) rfl
 | 6, _ => enters_of Tryz.func38 (by kernel_rfl) rfl
 | 7, _ => enters_of Tryz.func50 (by kernel_rfl) rfl
 | 8, _ => enters_of Tryz.func51 (by kernel_rfl) rfl
 | 9, _ => enters_of Tryz.func52 (by kernel_rfl) rfl
 | 10, _ => enters_of Tryz.func53 (by kernel_rfl) rfl
 | 11, _ => enters_of Tryz.func54 (by kernel_rfl) rfl
 | 12, _ => enters_of Tryz.func39 (by kernel_rfl) rfl
 | 13, _ => enters_of Tryz.func40 (by kernel_rfl) rfl
 | 14, _ => enters_of Tryz.func41 (by kernel_rfl) rfl
 | 15, _ => enters_of Tryz.func42 (by kernel_rfl) rfl
 | 16, _ => enters_of Tryz.func43 (by kernel_rfl) rfl
 | 17, _ => enters_of Tryz.func44 (by kernel_rfl) rfl
 | n + 18, h => absurd h (by omega)
theorem aftP_ok {c : Cod} {cs s' : List Cel} {w w' : World} {v : Value} (h : aft NN c cs = .ok s') (hr : w'.ownsRow w.heap.size 72 3 v s'.length (fl s')) (hB : Below w.heap.size w w') : AftP c cs w (.returned v) w' :=
 ⟨fun s2 e => by rw [h] at e; cases e; exact ⟨v, rfl, hr, hB⟩, fun er e => by rw [h] at e; cases e⟩
theorem aftP_err {c : Cod} {cs : List Cel} {w w' : World} {er : Int} (h : aft NN c cs = .error er) (hB : Below w.heap.size w w') : AftP c cs w (Pan er) w' :=
 ⟨fun s2 e => (by rw [h] at e; cases e), fun er' e => by rw [h] at e; cases e; exact ⟨rfl, hB⟩⟩
set_option maxHeartbeats 4000000 in
theorem after_t (op cn : Int) (t cl : Nat) (ho : opTab op = some (t, cl)) (ad : Option Addr) (m cap : Nat) (cs : List Cel) (w : World) (hm : m = cs.length) (hc : Cels w.heap.size w ad cs) (hn : ad = none -> m = 0 /\ cap = 0) (hA : All cs) (h100 : cs.length <= 100) (hj : Sx.J w) (htn : ¬ t <= cs.length) :
  Calls Tryz.prog 29 #[.agg #[.int .i64 t, .func (.func (fnOf cl)) #[] #[]], cd ⟨op, cn⟩, .slice ad m cap] w (AftP ⟨op, cn⟩ cs w) := by
 have hA1 := ((Below.refl w.heap.size w).alloc (Nat.le_refl _) (.cells #[.int .i64 t, .func (.func (fnOf cl)) #[] #[]] 76)).alloc (by simp) (.cells #[.int .u8 op, .int .i32 cn] 41)
 have s1 : SA w t (fnOf cl) op cn ((w.alloc (.cells #[.int .i64 t, .func (.func (fnOf cl)) #[] #[]] 76)).alloc (.cells #[.int .u8 op, .int .i32 cn] 41)) := ⟨⟨⟨by simp [go_sem], by simp [go_sem]⟩, by simp [go_sem], by simp [go_sem]⟩, by simp⟩
 have t2 := (opTab_lt ho).1
 have hent := fn_enters cl (opTab_lt ho).2
 have HC := Lib.hid hc
 have HN := Lib.hid hn
 have HM := Lib.hid hm
 have HAL := Lib.hid hA
 have HO := Lib.hid ho
 have HAF := Lib.hid (show aft NN ⟨op, cn⟩ cs = .error 15 by rw [aft_eq ho, if_neg htn])
 generalize hfe : fnOf cl = F at s1 hA1 hent ⊢
 have HFE := Lib.hid hfe
 clear hc hn hm hA ho hfe
 go_enter Tryz.func29, Tryz.ntmps29
 simp only [cd]
 go_wp2_with (go_at_call 58; refine (clone_any ad m cap cs _ HM.out (HC.out.on hA1) HN.out (by have := HM.out; omega)).mono ?_; rintro e w2 ⟨v2, rfl, hr2, hB2⟩; obtain ⟨a2, c2, rfl, _, _, _⟩ := row_shape hr2)
 have hb2 := bstep hA1 hB2
 have s2 := ((s1.kB hB2).kB ((Below.refl w2.heap.size w2).alloc (Nat.le_refl _) (.cells #[.slice a2 m c2] 101))).kD
 have hw2 : w.heap.size + 2 <= w2.heap.size := by have := hB2.size; simp at this; omega
 have stk := stk_new (base := w.heap.size + 2) 101 (row_base hr2 (by simp)) HM.out hw2 (by omega)
 have stkd := stk.on (Below.refl _ _).drew
 have hb3 : Below w.heap.size w (w2.alloc (.cells #[.slice a2 m c2] 101)).drew := (hb2.alloc hb2.size _).drew
 have hJ3 := Sx.J_kept hb3 hj
 have hown : ∀ g, (Value.slice a2 m c2).ownBlock = some g -> w.heap.size + 2 <= g := fun g hg => (own_lt stk.o g hg).2
 have hown2 : ∀ g, (Value.slice a2 m c2).ownBlock = some g -> g < w2.heap.size := fun g hg => (own_lt hr2 g hg).1
 clear s1 hA1
 refine wp_region_held_drew (S := (fun V => ((V.cell? ⟨w.heap.size, 0, none⟩ = some (.int .i64 t) /\ V.cell? ⟨w.heap.size, 1, none⟩ = some (.func (.func F) #[] #[])) /\ V.cell? ⟨w.heap.size + 1, 0, none⟩ = some (.int .u8 op) /\ V.cell? ⟨w.heap.size + 1, 1, none⟩ = some (.int .i32 cn)) /\ w.heap.size + 1 < V.heap.size)) (by kernel_rfl) (s2) (fun hHeld => ?_)
 refine wpAnyH_take (i := 0) (oi := _) (v := ?_) rfl (by kernel_rfl) (by kernel_rfl) (by kernel_rfl) (fun _ _ _ h => h) (Or.inl ⟨by rfl, ?_⟩) (by assumption) ?_
 rotate_left
 ·intro w hSw; (try dsimp only at hSw); go_simp; (try with_reducible rfl)
 try simp only [Act.put, List.setIfInBounds_toArray, List.set_cons_zero, List.set_cons_succ]
 refine wpAnyH_take (i := 1) (oi := _) (v := ?_) rfl (by kernel_rfl) (by kernel_rfl) (by kernel_rfl) (fun _ _ _ h => h) (Or.inl ⟨by rfl, ?_⟩) (by assumption) ?_
 rotate_left
 ·intro w hSw; (try dsimp only at hSw); go_simp; (try with_reducible rfl)
 try simp only [Act.put, List.setIfInBounds_toArray, List.set_cons_zero, List.set_cons_succ]
 refine wpAnyH_take (i := 2) (oi := _) (v := ?_) rfl (by kernel_rfl) (by kernel_rfl) (by kernel_rfl) (fun _ _ _ h => h) (Or.inl ⟨by rfl, ?_⟩) (by assumption) ?_
 rotate_left
 ·intro w hSw; (try dsimp only at hSw); go_simp; (try with_reducible rfl)
 try simp only [Act.put, List.setIfInBounds_toArray, List.set_cons_zero, List.set_cons_succ]
 refine wpAnyH_take (i := 3) (oi := _) (v := ?_) rfl (by kernel_rfl) (by kernel_rfl) (by kernel_rfl) (fun _ _ _ h => h) (Or.inl ⟨by rfl, ?_⟩) (by assumption) ?_
 rotate_left
 ·intro w hSw; (try dsimp only at hSw); go_simp; (try with_reducible rfl)
 try simp only [Act.put, List.setIfInBounds_toArray, List.set_cons_zero, List.set_cons_succ]
 refine wpAnyH_take (i := 4) (oi := _) (v := ?_) rfl (by kernel_rfl) (by kernel_rfl) (by kernel_rfl) (fun _ _ _ h => h) (Or.inl ⟨by rfl, ?_⟩) (by assumption) ?_
 rotate_left
 ·intro w hSw; (try dsimp only at hSw); go_simp; (try with_reducible rfl)
 try simp only [Act.put, List.setIfInBounds_toArray, List.set_cons_zero, List.set_cons_succ]
 refine wpAnyH_take (i := 5) (oi := _) (v := ?_) rfl (by kernel_rfl) (by kernel_rfl) (by kernel_rfl) (fun _ _ _ h => h) (Or.inl ⟨by rfl, ?_⟩) (by assumption) ?_
 rotate_left
 ·intro w hSw; (try dsimp only at hSw); go_simp; (try with_reducible rfl)
 try simp only [Act.put, List.setIfInBounds_toArray, List.set_cons_zero, List.set_cons_succ]
 refine wpAnyH_take (i := 6) (oi := _) (v := ?_) rfl (by kernel_rfl) (by kernel_rfl) (by kernel_rfl) (fun _ _ _ h => h) (Or.inl ⟨by rfl, ?_⟩) (by assumption) ?_
 rotate_left
 ·intro w hSw; (try dsimp only at hSw); go_simp; (try with_reducible rfl)
 try simp only [Act.put, List.setIfInBounds_toArray, List.set_cons_zero, List.set_cons_succ]
 refine wpAnyH_ready (rs := [7]) (by kernel_rfl) (by simp) ?_
 refine AllReadyH.cons (o := _) rfl (fun K hK => ?_) AllReadyH.nil
 go_simp
 go_at_call 60; refine (takes_no w2.heap.size (w.heap.size + 2) t _ cs _ stkd htn (by omega)).mono ?_; rintro e w3 ⟨rfl, rfl⟩; exact ⟨rfl, aftP_err HAF.out hb3⟩
set_option maxHeartbeats 4000000 in
theorem after_e (op cn : Int) (t cl : Nat) (ho : opTab op = some (t, cl)) (ad : Option Addr) (m cap : Nat) (cs : List Cel) (w : World) (hm : m = cs.length) (hc : Cels w.heap.size w ad cs) (hn : ad = none -> m = 0 /\ cap = 0) (hA : All cs) (h100 : cs.length <= 100) (hj : Sx.J w) (a : Nat) (hta : cs.length = a + t) (er : Int) (hd : does NN cl ⟨op, cn⟩ (cs.drop a) (cs.take a) = .error er) :
  Calls Tryz.prog 29 #[.agg #[.int .i64 t, .func (.func (fnOf cl)) #[] #[]], cd ⟨op, cn⟩, .slice ad m cap] w (AftP ⟨op, cn⟩ cs w) := by
 have hA1 := ((Below.refl w.heap.size w).alloc (Nat.le_refl _) (.cells #[.int .i64 t, .func (.func (fnOf cl)) #[] #[]] 76)).alloc (by simp) (.cells #[.int .u8 op, .int .i32 cn] 41)
 have s1 : SA w t (fnOf cl) op cn ((w.alloc (.cells #[.int .i64 t, .func (.func (fnOf cl)) #[] #[]] 76)).alloc (.cells #[.int .u8 op, .int .i32 cn] 41)) := ⟨⟨⟨by simp [go_sem], by simp [go_sem]⟩, by simp [go_sem], by simp [go_sem]⟩, by simp⟩
 have t2 := (opTab_lt ho).1
 have hent := fn_enters cl (opTab_lt ho).2
 have HC := Lib.hid hc
 have HN := Lib.hid hn
 have HM := Lib.hid hm
 have HAL := Lib.hid hA
 have HO := Lib.hid ho
 have hlen : cs.length = a + t := by omega
 have hdl : (cs.drop a).length = t := by rw [List.length_drop]; omega
 have htl : (cs.take a).length <= 100 := by rw [List.length_take]; omega
 have hae : aft NN ⟨op, cn⟩ cs = (does NN cl ⟨op, cn⟩ (cs.drop a) (cs.take a)).bind (fun s => if s.length <= 100 then .ok s else .error 15) := by
  rw [aft_eq ho, if_pos (by omega), show cs.length - t = a by omega]
 have HAF := Lib.hid (show aft NN ⟨op, cn⟩ cs = .error er by rw [hae, hd]; rfl)
 have HD := Lib.hid hd
 clear hae hd
 generalize hfe : fnOf cl = F at s1 hA1 hent ⊢
 have HFE := Lib.hid hfe
 clear hc hn hm hA ho hfe
 go_enter Tryz.func29, Tryz.ntmps29
 simp only [cd]
 go_wp2_with (go_at_call 58; refine (clone_any ad m cap cs _ HM.out (HC.out.on hA1) HN.out (by have := HM.out; omega)).mono ?_; rintro e w2 ⟨v2, rfl, hr2, hB2⟩; obtain ⟨a2, c2, rfl, _, _, _⟩ := row_shape hr2)
 have hb2 := bstep hA1 hB2
 have s2 := ((s1.kB hB2).kB ((Below.refl w2.heap.size w2).alloc (Nat.le_refl _) (.cells #[.slice a2 m c2] 101))).kD
 have hw2 : w.heap.size + 2 <= w2.heap.size := by have := hB2.size; simp at this; omega
 have stk := stk_new (base := w.heap.size + 2) 101 (row_base hr2 (by simp)) HM.out hw2 (by omega)
 have stkd := stk.on (Below.refl _ _).drew
 have hb3 : Below w.heap.size w (w2.alloc (.cells #[.slice a2 m c2] 101)).drew := (hb2.alloc hb2.size _).drew
 have hJ3 := Sx.J_kept hb3 hj
 have hown : ∀ g, (Value.slice a2 m c2).ownBlock = some g -> w.heap.size + 2 <= g := fun g hg => (own_lt stk.o g hg).2
 have hown2 : ∀ g, (Value.slice a2 m c2).ownBlock = some g -> g < w2.heap.size := fun g hg => (own_lt hr2 g hg).1
 clear s1 hA1
 refine wp_region_held_drew (S := (fun V => ((V.cell? ⟨w.heap.size, 0, none⟩ = some (.int .i64 t) /\ V.cell? ⟨w.heap.size, 1, none⟩ = some (.func (.func F) #[] #[])) /\ V.cell? ⟨w.heap.size + 1, 0, none⟩ = some (.int .u8 op) /\ V.cell? ⟨w.heap.size + 1, 1, none⟩ = some (.int .i32 cn)) /\ w.heap.size + 1 < V.heap.size)) (by kernel_rfl) (s2) (fun hHeld => ?_)
 refine wpAnyH_take (i := 0) (oi := _) (v := ?_) rfl (by kernel_rfl) (by kernel_rfl) (by kernel_rfl) (fun _ _ _ h => h) (Or.inl ⟨by rfl, ?_⟩) (by assumption) ?_
 rotate_left
 ·intro w hSw; (try dsimp only at hSw); go_simp; (try with_reducible rfl)
 try simp only [Act.put, List.setIfInBounds_toArray, List.set_cons_zero, List.set_cons_succ]
 refine wpAnyH_take (i := 1) (oi := _) (v := ?_) rfl (by kernel_rfl) (by kernel_rfl) (by kernel_rfl) (fun _ _ _ h => h) (Or.inl ⟨by rfl, ?_⟩) (by assumption) ?_
 rotate_left
 ·intro w hSw; (try dsimp only at hSw); go_simp; (try with_reducible rfl)
 try simp only [Act.put, List.setIfInBounds_toArray, List.set_cons_zero, List.set_cons_succ]
 refine wpAnyH_take (i := 2) (oi := _) (v := ?_) rfl (by kernel_rfl) (by kernel_rfl) (by kernel_rfl) (fun _ _ _ h => h) (Or.inl ⟨by rfl, ?_⟩) (by assumption) ?_
 rotate_left
 ·intro w hSw; (try dsimp only at hSw); go_simp; (try with_reducible rfl)
 try simp only [Act.put, List.setIfInBounds_toArray, List.set_cons_zero, List.set_cons_succ]
 refine wpAnyH_take (i := 3) (oi := _) (v := ?_) rfl (by kernel_rfl) (by kernel_rfl) (by kernel_rfl) (fun _ _ _ h => h) (Or.inl ⟨by rfl, ?_⟩) (by assumption) ?_
 rotate_left
 ·intro w hSw; (try dsimp only at hSw); go_simp; (try with_reducible rfl)
 try simp only [Act.put, List.setIfInBounds_toArray, List.set_cons_zero, List.set_cons_succ]
 refine wpAnyH_take (i := 4) (oi := _) (v := ?_) rfl (by kernel_rfl) (by kernel_rfl) (by kernel_rfl) (fun _ _ _ h => h) (Or.inl ⟨by rfl, ?_⟩) (by assumption) ?_
 rotate_left
 ·intro w hSw; (try dsimp only at hSw); go_simp; (try with_reducible rfl)
 try simp only [Act.put, List.setIfInBounds_toArray, List.set_cons_zero, List.set_cons_succ]
 refine wpAnyH_take (i := 5) (oi := _) (v := ?_) rfl (by kernel_rfl) (by kernel_rfl) (by kernel_rfl) (fun _ _ _ h => h) (Or.inl ⟨by rfl, ?_⟩) (by assumption) ?_
 rotate_left
 ·intro w hSw; (try dsimp only at hSw); go_simp; (try with_reducible rfl)
 try simp only [Act.put, List.setIfInBounds_toArray, List.set_cons_zero, List.set_cons_succ]
 refine wpAnyH_take (i := 6) (oi := _) (v := ?_) rfl (by kernel_rfl) (by kernel_rfl) (by kernel_rfl) (fun _ _ _ h => h) (Or.inl ⟨by rfl, ?_⟩) (by assumption) ?_
 rotate_left
 ·intro w hSw; (try dsimp only at hSw); go_simp; (try with_reducible rfl)
 try simp only [Act.put, List.setIfInBounds_toArray, List.set_cons_zero, List.set_cons_succ]
 refine wpAnyH_ready (rs := [7]) (by kernel_rfl) (by simp) ?_
 refine AllReadyH.cons (o := _) rfl (fun K hK => ?_) AllReadyH.nil
 go_simp
 go_at_call 60; refine (takes_ok w2.heap.size (w.heap.size + 2) t a _ cs _ stkd hlen).mono ?_; rintro e w3 ⟨⟨x, rfl, hx⟩, ⟨v3, hv3, hS3⟩, hK3⟩; have hb4 : Below w.heap.size w w3 := hb3.trans (Kept.below hK3 (show w.heap.size <= w2.heap.size by omega) (row_base stkd.o (by omega)) hb3.size); have hJ4 := Sx.J_kept hb4 hj
 refine hK.out _ _ (by exact SA.kK (by assumption) hw2 hown hK3) (fun hHeld => ?_)
 clear hK K
 try simp only [Act.put, List.setIfInBounds_toArray, List.set_cons_zero, List.set_cons_succ]
 refine wpAnyH_ready (rs := [8]) (by kernel_rfl) (by simp) ?_
 refine AllReadyH.cons (o := _) rfl (fun K hK => ?_) AllReadyH.nil
 go_simp
 have HFE2 := HFE.out; subst HFE2; refine (does_any ⟨op, cn⟩ t cl HO.out (cs.drop a) hdl x w2.heap.size (w.heap.size + 2) v3 (cs.take a) _ hS3 htl (fun h0 => oph_of hS3 hx (by simp) (fun g hg => by rw [hv3] at hg; have := hown2 g hg; simp; omega) hlen h0 HAL.out h100) hJ4 (by omega)).mono ?_; rintro e w4 hP; obtain ⟨rfl, hK4⟩ := hP.2 _ HD.out; have hb5 : Below w.heap.size w w4 := hb4.trans (Kept.below hK4 (show w.heap.size <= w2.heap.size by omega) (row_base hS3.o (by omega)) hb4.size); exact ⟨rfl, aftP_err HAF.out hb5⟩
set_option maxHeartbeats 4000000 in
theorem after_l (op cn : Int) (t cl : Nat) (ho : opTab op = some (t, cl)) (ad : Option Addr) (m cap : Nat) (cs : List Cel) (w : World) (hm : m = cs.length) (hc : Cels w.heap.size w ad cs) (hn : ad = none -> m = 0 /\ cap = 0) (hA : All cs) (h100 : cs.length <= 100) (hj : Sx.J w) (a : Nat) (hta : cs.length = a + t) (sR : List Cel) (hd : does NN cl ⟨op, cn⟩ (cs.drop a) (cs.take a) = .ok sR) (hsl : ¬ sR.length <= 100) :
  Calls Tryz.prog 29 #[.agg #[.int .i64 t, .func (.func (fnOf cl)) #[] #[]], cd ⟨op, cn⟩, .slice ad m cap] w (AftP ⟨op, cn⟩ cs w) := by
 have hA1 := ((Below.refl w.heap.size w).alloc (Nat.le_refl _) (.cells #[.int .i64 t, .func (.func (fnOf cl)) #[] #[]] 76)).alloc (by simp) (.cells #[.int .u8 op, .int .i32 cn] 41)
 have s1 : SA w t (fnOf cl) op cn ((w.alloc (.cells #[.int .i64 t, .func (.func (fnOf cl)) #[] #[]] 76)).alloc (.cells #[.int .u8 op, .int .i32 cn] 41)) := ⟨⟨⟨by simp [go_sem], by simp [go_sem]⟩, by simp [go_sem], by simp [go_sem]⟩, by simp⟩
 have t2 := (opTab_lt ho).1
 have hent := fn_enters cl (opTab_lt ho).2
 have HC := Lib.hid hc
 have HN := Lib.hid hn
 have HM := Lib.hid hm
 have HAL := Lib.hid hA
 have HO := Lib.hid ho
 have hlen : cs.length = a + t := by omega
 have hdl : (cs.drop a).length = t := by rw [List.length_drop]; omega
 have htl : (cs.take a).length <= 100 := by rw [List.length_take]; omega
 have hae : aft NN ⟨op, cn⟩ cs = (does NN cl ⟨op, cn⟩ (cs.drop a) (cs.take a)).bind (fun s => if s.length <= 100 then .ok s else .error 15) := by
  rw [aft_eq ho, if_pos (by omega), show cs.length - t = a by omega]
 have HAF := Lib.hid (show aft NN ⟨op, cn⟩ cs = .error 15 by rw [hae, hd]; exact if_neg hsl)
 have HD := Lib.hid hd
 have hsl' : ¬ ((sR.length : Int) <= 100) := by omega
 have hsl2 : (100 : Int) < sR.length := by omega
 have hsl3 : decide ((sR.length : Int) <= 100) = false := by simp; omega
 clear hae hd
 generalize hfe : fnOf cl = F at s1 hA1 hent ⊢
 have HFE := Lib.hid hfe
 clear hc hn hm hA ho hfe
 go_enter Tryz.func29, Tryz.ntmps29
 simp only [cd]
 go_wp2_with (go_at_call 58; refine (clone_any ad m cap cs _ HM.out (HC.out.on hA1) HN.out (by have := HM.out; omega)).mono ?_; rintro e w2 ⟨v2, rfl, hr2, hB2⟩; obtain ⟨a2, c2, rfl, _, _, _⟩ := row_shape hr2)
 have hb2 := bstep hA1 hB2
 have s2 := ((s1.kB hB2).kB ((Below.refl w2.heap.size w2).alloc (Nat.le_refl _) (.cells #[.slice a2 m c2] 101))).kD
 have hw2 : w.heap.size + 2 <= w2.heap.size := by have := hB2.size; simp at this; omega
 have stk := stk_new (base := w.heap.size + 2) 101 (row_base hr2 (by simp)) HM.out hw2 (by omega)
 have stkd := stk.on (Below.refl _ _).drew
 have hb3 : Below w.heap.size w (w2.alloc (.cells #[.slice a2 m c2] 101)).drew := (hb2.alloc hb2.size _).drew
 have hJ3 := Sx.J_kept hb3 hj
 have hown : ∀ g, (Value.slice a2 m c2).ownBlock = some g -> w.heap.size + 2 <= g := fun g hg => (own_lt stk.o g hg).2
 have hown2 : ∀ g, (Value.slice a2 m c2).ownBlock = some g -> g < w2.heap.size := fun g hg => (own_lt hr2 g hg).1
 clear s1 hA1
 refine wp_region_held_drew (S := (fun V => ((V.cell? ⟨w.heap.size, 0, none⟩ = some (.int .i64 t) /\ V.cell? ⟨w.heap.size, 1, none⟩ = some (.func (.func F) #[] #[])) /\ V.cell? ⟨w.heap.size + 1, 0, none⟩ = some (.int .u8 op) /\ V.cell? ⟨w.heap.size + 1, 1, none⟩ = some (.int .i32 cn)) /\ w.heap.size + 1 < V.heap.size)) (by kernel_rfl) (s2) (fun hHeld => ?_)
 refine wpAnyH_take (i := 0) (oi := _) (v := ?_) rfl (by kernel_rfl) (by kernel_rfl) (by kernel_rfl) (fun _ _ _ h => h) (Or.inl ⟨by rfl, ?_⟩) (by assumption) ?_
 rotate_left
 ·intro w hSw; (try dsimp only at hSw); go_simp; (try with_reducible rfl)
 try simp only [Act.put, List.setIfInBounds_toArray, List.set_cons_zero, List.set_cons_succ]
 refine wpAnyH_take (i := 1) (oi := _) (v := ?_) rfl (by kernel_rfl) (by kernel_rfl) (by kernel_rfl) (fun _ _ _ h => h) (Or.inl ⟨by rfl, ?_⟩) (by assumption) ?_
 rotate_left
 ·intro w hSw; (try dsimp only at hSw); go_simp; (try with_reducible rfl)
 try simp only [Act.put, List.setIfInBounds_toArray, List.set_cons_zero, List.set_cons_succ]
 refine wpAnyH_take (i := 2) (oi := _) (v := ?_) rfl (by kernel_rfl) (by kernel_rfl) (by kernel_rfl) (fun _ _ _ h => h) (Or.inl ⟨by rfl, ?_⟩) (by assumption) ?_
 rotate_left
 ·intro w hSw; (try dsimp only at hSw); go_simp; (try with_reducible rfl)
 try simp only [Act.put, List.setIfInBounds_toArray, List.set_cons_zero, List.set_cons_succ]
 refine wpAnyH_take (i := 3) (oi := _) (v := ?_) rfl (by kernel_rfl) (by kernel_rfl) (by kernel_rfl) (fun _ _ _ h => h) (Or.inl ⟨by rfl, ?_⟩) (by assumption) ?_
 rotate_left
 ·intro w hSw; (try dsimp only at hSw); go_simp; (try with_reducible rfl)
 try simp only [Act.put, List.setIfInBounds_toArray, List.set_cons_zero, List.set_cons_succ]
 refine wpAnyH_take (i := 4) (oi := _) (v := ?_) rfl (by kernel_rfl) (by kernel_rfl) (by kernel_rfl) (fun _ _ _ h => h) (Or.inl ⟨by rfl, ?_⟩) (by assumption) ?_
 rotate_left
 ·intro w hSw; (try dsimp only at hSw); go_simp; (try with_reducible rfl)
 try simp only [Act.put, List.setIfInBounds_toArray, List.set_cons_zero, List.set_cons_succ]
 refine wpAnyH_take (i := 5) (oi := _) (v := ?_) rfl (by kernel_rfl) (by kernel_rfl) (by kernel_rfl) (fun _ _ _ h => h) (Or.inl ⟨by rfl, ?_⟩) (by assumption) ?_
 rotate_left
 ·intro w hSw; (try dsimp only at hSw); go_simp; (try with_reducible rfl)
 try simp only [Act.put, List.setIfInBounds_toArray, List.set_cons_zero, List.set_cons_succ]
 refine wpAnyH_take (i := 6) (oi := _) (v := ?_) rfl (by kernel_rfl) (by kernel_rfl) (by kernel_rfl) (fun _ _ _ h => h) (Or.inl ⟨by rfl, ?_⟩) (by assumption) ?_
 rotate_left
 ·intro w hSw; (try dsimp only at hSw); go_simp; (try with_reducible rfl)
 try simp only [Act.put, List.setIfInBounds_toArray, List.set_cons_zero, List.set_cons_succ]
 refine wpAnyH_ready (rs := [7]) (by kernel_rfl) (by simp) ?_
 refine AllReadyH.cons (o := _) rfl (fun K hK => ?_) AllReadyH.nil
 go_simp
 go_at_call 60; refine (takes_ok w2.heap.size (w.heap.size + 2) t a _ cs _ stkd hlen).mono ?_; rintro e w3 ⟨⟨x, rfl, hx⟩, ⟨v3, hv3, hS3⟩, hK3⟩; have hb4 : Below w.heap.size w w3 := hb3.trans (Kept.below hK3 (show w.heap.size <= w2.heap.size by omega) (row_base stkd.o (by omega)) hb3.size); have hJ4 := Sx.J_kept hb4 hj
 refine hK.out _ _ (by exact SA.kK (by assumption) hw2 hown hK3) (fun hHeld => ?_)
 clear hK K
 try simp only [Act.put, List.setIfInBounds_toArray, List.set_cons_zero, List.set_cons_succ]
 refine wpAnyH_ready (rs := [8]) (by kernel_rfl) (by simp) ?_
 refine AllReadyH.cons (o := _) rfl (fun K hK => ?_) AllReadyH.nil
 go_simp
 have HFE2 := HFE.out; subst HFE2; refine (does_any ⟨op, cn⟩ t cl HO.out (cs.drop a) hdl x w2.heap.size (w.heap.size + 2) v3 (cs.take a) _ hS3 htl (fun h0 => oph_of hS3 hx (by simp) (fun g hg => by rw [hv3] at hg; have := hown2 g hg; simp; omega) hlen h0 HAL.out h100) hJ4 (by omega)).mono ?_; rintro e w4 hP; obtain ⟨rfl, ⟨v4, hv4, hS4⟩, hK4⟩ := hP.1 _ HD.out; have hb5 : Below w.heap.size w w4 := hb4.trans (Kept.below hK4 (show w.heap.size <= w2.heap.size by omega) (row_base hS3.o (by omega)) hb4.size)
 refine hK.out _ _ (by exact SA.kK (by assumption) hw2 (fun g hg => hown g (by rw [<- hv3]; exact hg)) hK4) (fun hHeld => ?_)
 clear hK K
 try simp only [Act.put, List.setIfInBounds_toArray, List.set_cons_zero, List.set_cons_succ]
 refine wpAnyH_done (by kernel_rfl) ?_ _
 clear hHeld
 obtain ⟨a4, c4, rfl, _, _, _⟩ := row_shape hS4.o
 have q4 := hS4.c
 go_wp2_with (go_at_call 55; refine (must_no _ _).mono ?_; rintro e w5 ⟨rfl, rfl⟩)
 exact ⟨rfl, aftP_err HAF.out hb5⟩
set_option maxHeartbeats 4000000 in
theorem after_o (op cn : Int) (t cl : Nat) (ho : opTab op = some (t, cl)) (ad : Option Addr) (m cap : Nat) (cs : List Cel) (w : World) (hm : m = cs.length) (hc : Cels w.heap.size w ad cs) (hn : ad = none -> m = 0 /\ cap = 0) (hA : All cs) (h100 : cs.length <= 100) (hj : Sx.J w) (a : Nat) (hta : cs.length = a + t) (sR : List Cel) (hd : does NN cl ⟨op, cn⟩ (cs.drop a) (cs.take a) = .ok sR) (hsl : sR.length <= 100) :
  Calls Tryz.prog 29 #[.agg #[.int .i64 t, .func (.func (fnOf cl)) #[] #[]], cd ⟨op, cn⟩, .slice ad m cap] w (AftP ⟨op, cn⟩ cs w) := by
 have hA1 := ((Below.refl w.heap.size w).alloc (Nat.le_refl _) (.cells #[.int .i64 t, .func (.func (fnOf cl)) #[] #[]] 76)).alloc (by simp) (.cells #[.int .u8 op, .int .i32 cn] 41)
 have s1 : SA w t (fnOf cl) op cn ((w.alloc (.cells #[.int .i64 t, .func (.func (fnOf cl)) #[] #[]] 76)).alloc (.cells #[.int .u8 op, .int .i32 cn] 41)) := ⟨⟨⟨by simp [go_sem], by simp [go_sem]⟩, by simp [go_sem], by simp [go_sem]⟩, by simp⟩
 have t2 := (opTab_lt ho).1
 have hent := fn_enters cl (opTab_lt ho).2
 have HC := Lib.hid hc
 have HN := Lib.hid hn
 have HM := Lib.hid hm
 have HAL := Lib.hid hA
 have HO := Lib.hid ho
 have hlen : cs.length = a + t := by omega
 have hdl : (cs.drop a).length = t := by rw [List.length_drop]; omega
 have htl : (cs.take a).length <= 100 := by rw [List.length_take]; omega
 have hae : aft NN ⟨op, cn⟩ cs = (does NN cl ⟨op, cn⟩ (cs.drop a) (cs.take a)).bind (fun s => if s.length <= 100 then .ok s else .error 15) := by
  rw [aft_eq ho, if_pos (by omega), show cs.length - t = a by omega]
 have HAF := Lib.hid (show aft NN ⟨op, cn⟩ cs = .ok sR by rw [hae, hd]; exact if_pos hsl)
 have HD := Lib.hid hd
 have hsl' : ((sR.length : Int) <= 100) := by omega
 clear hae hd hsl
 generalize hfe : fnOf cl = F at s1 hA1 hent ⊢
 have HFE := Lib.hid hfe
 clear hc hn hm hA ho hfe
 go_enter Tryz.func29, Tryz.ntmps29
 simp only [cd]
 go_wp2_with (go_at_call 58; refine (clone_any ad m cap cs _ HM.out (HC.out.on hA1) HN.out (by have := HM.out; omega)).mono ?_; rintro e w2 ⟨v2, rfl, hr2, hB2⟩; obtain ⟨a2, c2, rfl, _, _, _⟩ := row_shape hr2)
 have hb2 := bstep hA1 hB2
 have s2 := ((s1.kB hB2).kB ((Below.refl w2.heap.size w2).alloc (Nat.le_refl _) (.cells #[.slice a2 m c2] 101))).kD
 have hw2 : w.heap.size + 2 <= w2.heap.size := by have := hB2.size; simp at this; omega
 have stk := stk_new (base := w.heap.size + 2) 101 (row_base hr2 (by simp)) HM.out hw2 (by omega)
 have stkd := stk.on (Below.refl _ _).drew
 have hb3 : Below w.heap.size w (w2.alloc (.cells #[.slice a2 m c2] 101)).drew := (hb2.alloc hb2.size _).drew
 have hJ3 := Sx.J_kept hb3 hj
 have hown : ∀ g, (Value.slice a2 m c2).ownBlock = some g -> w.heap.size + 2 <= g := fun g hg => (own_lt stk.o g hg).2
 have hown2 : ∀ g, (Value.slice a2 m c2).ownBlock = some g -> g < w2.heap.size := fun g hg => (own_lt hr2 g hg).1
 clear s1 hA1
 refine wp_region_held_drew (S := (fun V => ((V.cell? ⟨w.heap.size, 0, none⟩ = some (.int .i64 t) /\ V.cell? ⟨w.heap.size, 1, none⟩ = some (.func (.func F) #[] #[])) /\ V.cell? ⟨w.heap.size + 1, 0, none⟩ = some (.int .u8 op) /\ V.cell? ⟨w.heap.size + 1, 1, none⟩ = some (.int .i32 cn)) /\ w.heap.size + 1 < V.heap.size)) (by kernel_rfl) (s2) (fun hHeld => ?_)
 refine wpAnyH_take (i := 0) (oi := _) (v := ?_) rfl (by kernel_rfl) (by kernel_rfl) (by kernel_rfl) (fun _ _ _ h => h) (Or.inl ⟨by rfl, ?_⟩) (by assumption) ?_
 rotate_left
 ·intro w hSw; (try dsimp only at hSw); go_simp; (try with_reducible rfl)
 try simp only [Act.put, List.setIfInBounds_toArray, List.set_cons_zero, List.set_cons_succ]
 refine wpAnyH_take (i := 1) (oi := _) (v := ?_) rfl (by kernel_rfl) (by kernel_rfl) (by kernel_rfl) (fun _ _ _ h => h) (Or.inl ⟨by rfl, ?_⟩) (by assumption) ?_
 rotate_left
 ·intro w hSw; (try dsimp only at hSw); go_simp; (try with_reducible rfl)
 try simp only [Act.put, List.setIfInBounds_toArray, List.set_cons_zero, List.set_cons_succ]
 refine wpAnyH_take (i := 2) (oi := _) (v := ?_) rfl (by kernel_rfl) (by kernel_rfl) (by kernel_rfl) (fun _ _ _ h => h) (Or.inl ⟨by rfl, ?_⟩) (by assumption) ?_
 rotate_left
 ·intro w hSw; (try dsimp only at hSw); go_simp; (try with_reducible rfl)
 try simp only [Act.put, List.setIfInBounds_toArray, List.set_cons_zero, List.set_cons_succ]
 refine wpAnyH_take (i := 3) (oi := _) (v := ?_) rfl (by kernel_rfl) (by kernel_rfl) (by kernel_rfl) (fun _ _ _ h => h) (Or.inl ⟨by rfl, ?_⟩) (by assumption) ?_
 rotate_left
 ·intro w hSw; (try dsimp only at hSw); go_simp; (try with_reducible rfl)
 try simp only [Act.put, List.setIfInBounds_toArray, List.set_cons_zero, List.set_cons_succ]
 refine wpAnyH_take (i := 4) (oi := _) (v := ?_) rfl (by kernel_rfl) (by kernel_rfl) (by kernel_rfl) (fun _ _ _ h => h) (Or.inl ⟨by rfl, ?_⟩) (by assumption) ?_
 rotate_left
 ·intro w hSw; (try dsimp only at hSw); go_simp; (try with_reducible rfl)
 try simp only [Act.put, List.setIfInBounds_toArray, List.set_cons_zero, List.set_cons_succ]
 refine wpAnyH_take (i := 5) (oi := _) (v := ?_) rfl (by kernel_rfl) (by kernel_rfl) (by kernel_rfl) (fun _ _ _ h => h) (Or.inl ⟨by rfl, ?_⟩) (by assumption) ?_
 rotate_left
 ·intro w hSw; (try dsimp only at hSw); go_simp; (try with_reducible rfl)
 try simp only [Act.put, List.setIfInBounds_toArray, List.set_cons_zero, List.set_cons_succ]
 refine wpAnyH_take (i := 6) (oi := _) (v := ?_) rfl (by kernel_rfl) (by kernel_rfl) (by kernel_rfl) (fun _ _ _ h => h) (Or.inl ⟨by rfl, ?_⟩) (by assumption) ?_
 rotate_left
 ·intro w hSw; (try dsimp only at hSw); go_simp; (try with_reducible rfl)
 try simp only [Act.put, List.setIfInBounds_toArray, List.set_cons_zero, List.set_cons_succ]
 refine wpAnyH_ready (rs := [7]) (by kernel_rfl) (by simp) ?_
 refine AllReadyH.cons (o := _) rfl (fun K hK => ?_) AllReadyH.nil
 go_simp
 go_at_call 60; refine (takes_ok w2.heap.size (w.heap.size + 2) t a _ cs _ stkd hlen).mono ?_; rintro e w3 ⟨⟨x, rfl, hx⟩, ⟨v3, hv3, hS3⟩, hK3⟩; have hb4 : Below w.heap.size w w3 := hb3.trans (Kept.below hK3 (show w.heap.size <= w2.heap.size by omega) (row_base stkd.o (by omega)) hb3.size); have hJ4 := Sx.J_kept hb4 hj
 refine hK.out _ _ (by exact SA.kK (by assumption) hw2 hown hK3) (fun hHeld => ?_)
 clear hK K
 try simp only [Act.put, List.setIfInBounds_toArray, List.set_cons_zero, List.set_cons_succ]
 refine wpAnyH_ready (rs := [8]) (by kernel_rfl) (by simp) ?_
 refine AllReadyH.cons (o := _) rfl (fun K hK => ?_) AllReadyH.nil
 go_simp
 have HFE2 := HFE.out; subst HFE2; refine (does_any ⟨op, cn⟩ t cl HO.out (cs.drop a) hdl x w2.heap.size (w.heap.size + 2) v3 (cs.take a) _ hS3 htl (fun h0 => oph_of hS3 hx (by simp) (fun g hg => by rw [hv3] at hg; have := hown2 g hg; simp; omega) hlen h0 HAL.out h100) hJ4 (by omega)).mono ?_; rintro e w4 hP; obtain ⟨rfl, ⟨v4, hv4, hS4⟩, hK4⟩ := hP.1 _ HD.out; have hb5 : Below w.heap.size w w4 := hb4.trans (Kept.below hK4 (show w.heap.size <= w2.heap.size by omega) (row_base hS3.o (by omega)) hb4.size)
 refine hK.out _ _ (by exact SA.kK (by assumption) hw2 (fun g hg => hown g (by rw [<- hv3]; exact hg)) hK4) (fun hHeld => ?_)
 clear hK K
 try simp only [Act.put, List.setIfInBounds_toArray, List.set_cons_zero, List.set_cons_succ]
 refine wpAnyH_done (by kernel_rfl) ?_ _
 clear hHeld
 obtain ⟨a4, c4, rfl, _, _, _⟩ := row_shape hS4.o
 have q4 := hS4.c
 go_wp2_with (go_at_call 55; refine (must_ok _ _).mono ?_; rintro e w5 ⟨rfl, rfl⟩)
 go_ret
 exact aftP_ok HAF.out (row_base hS4.o (by omega)) hb5
theorem after_any (op cn : Int) (t cl : Nat) (ho : opTab op = some (t, cl)) (ad : Option Addr) (m cap : Nat) (cs : List Cel) (w : World) (hm : m = cs.length) (hc : Cels w.heap.size w ad cs) (hn : ad = none -> m = 0 /\ cap = 0) (hA : All cs) (h100 : cs.length <= 100) (hj : Sx.J w) :
  Calls Tryz.prog 29 #[.agg #[.int .i64 t, .func (.func (fnOf cl)) #[] #[]], cd ⟨op, cn⟩, .slice ad m cap] w (AftP ⟨op, cn⟩ cs w) := by
 by_cases h : t <= cs.length
 ·obtain ⟨a, ha⟩ : ∃ a, cs.length = a + t := ⟨cs.length - t, by omega⟩
  match hd : does NN cl ⟨op, cn⟩ (cs.drop a) (cs.take a) with
  | .error er => exact after_e op cn t cl ho ad m cap cs w hm hc hn hA h100 hj a ha er hd
  | .ok s =>
   by_cases hs : s.length <= 100
   ·exact after_o op cn t cl ho ad m cap cs w hm hc hn hA h100 hj a ha s hd hs
   ·exact after_l op cn t cl ho ad m cap cs w hm hc hn hA h100 hj a ha s hd hs
 ·exact after_t op cn t cl ho ad m cap cs w hm hc hn hA h100 hj h
end Go.Proofs.YtcjllibeaiofpaaGreatDoor
