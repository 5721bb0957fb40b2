/-
  Machines: small functions and rows, walked.
-/
import Derived.Test.YtcjllibeaiofpaaGreatDoorMx
import Derived.WalkKit
import Derived.WalkSpells
import Derived.WalkLawsBesides
import Derived.Deep.QuietTactic
import Derived.BigQuiet
import Derived.Lib.Hide
import Derived.Deep.RegionHeld3
import Derived.IntWalk
import Derived.Maps.AppendAt
import Derived.ArgAppend
import Derived.Laws.AppendOwnNone
import Derived.Lib.SliceRun
set_option linter.all false
set_option maxRecDepth 100000
namespace Go.Proofs.YtcjllibeaiofpaaGreatDoor
open Go.RowKit Mach
def Pan (e : Int) : Ending := .panicked [{ v := .iface 26 (.int .i64 e), recovered := false }]
theorem ret_int {k : IntKind} {a b : Int} (h : a = b) : Ending.returned (.int k a) = .returned (.int k b) := by rw [h]
theorem must_ok (e : Int) (w : World) : Calls Tryz.prog 55 #[.bool true, .int .i64 e] w fun e' w' => e' = .returned (.tuple #[]) /\ w' = w := by
 go_enter Tryz.func55, Tryz.ntmps55
 go_wp2
 refine bodyPost_end (v := .tuple #[]) (by simp [results, Tryz.f55]) rfl ?_
 exact ⟨rfl, rfl⟩
theorem must_no (e : Int) (w : World) : Calls Tryz.prog 55 #[.bool false, .int .i64 e] w fun e' w' => e' = .panicked [{ v := .iface 26 (.int .i64 e), recovered := false }] /\ w' = w := by
 go_enter Tryz.func55, Tryz.ntmps55
 go_wp2
 exact ⟨rfl, rfl, rfl⟩
def cv (a : Cel) : Value := .agg #[.int .u8 a.k, .int .i32 a.n, .bool a.kn]
theorem real_any (x : Int) (w : World) : Calls Tryz.prog 28 #[.int .i32 x] w fun e w' => e = .returned (cv (real x)) /\ Below w.heap.size w w' := by
 go_enter Tryz.func28, Tryz.ntmps28
 go_wp2
 refine bodyPost_ret (v := cv (real x)) (by simp [results, Tryz.f28, go_sem, cv, real]) rfl ?_
 exact ⟨rfl, (Below.refl _ w).alloc (Nat.le_refl _) _⟩
theorem whole_any (x : Int) (w : World) : Calls Tryz.prog 66 #[.int .i64 x] w fun e w' => e = .returned (cv (whole x)) /\ Below w.heap.size w w' := by
 go_enter Tryz.func66, Tryz.ntmps66
 go_wp2
 all_goals (
  refine bodyPost_ret (v := cv (whole x)) (by simp [results, Tryz.f66, go_sem, cv, whole, clp]; try omega) rfl ?_
  exact ⟨rfl, (Below.refl _ w).alloc (Nat.le_refl _) _⟩)
theorem truth_any (b : Bool) (w : World) : Calls Tryz.prog 67 #[.bool b] w fun e w' => e = .returned (cv (truth b)) /\ Below w.heap.size w w' := by
 cases b
 ·go_enter Tryz.func67, Tryz.ntmps67
  go_wp2
  refine bodyPost_ret (v := cv (truth false)) (by simp [results, Tryz.f67, go_sem, cv, truth]) rfl ?_
  exact ⟨rfl, ((Below.refl _ w).alloc (Nat.le_refl _) _).alloc (by simp) _⟩
 ·go_enter Tryz.func67, Tryz.ntmps67
  go_wp2
  refine bodyPost_ret (v := cv (truth true)) (by simp [results, Tryz.f67, go_sem, cv, truth]) rfl ?_
  exact ⟨rfl, ((Below.refl _ w).alloc (Nat.le_refl _) _).alloc (by simp) _⟩
theorem or_any (x e : Int) (w : World) : Calls Tryz.prog 75 #[.int .i32 x, .int .i64 e] w fun e' w' => e' = .returned (.int .i32 (if e = 0 then x else 0)) /\ w' = w := by
 by_cases h : e = 0
 ·subst h
  go_enter Tryz.func75, Tryz.ntmps75
  go_wp2
  go_ret
  exact ⟨rfl, rfl⟩
 ·have hb : (e == 0) = false := by simpa using h
  rw [if_neg h]
  go_enter Tryz.func75, Tryz.ntmps75
  go_wp2
  go_ret
  exact ⟨rfl, rfl⟩
theorem nan32 (x : Int) (w : World) : Calls Tryz.prog 102 #[.int .i32 x] w fun e' w' => e' = .returned (.bool false) /\ w' = w := by
 go_enter Tryz.func102, Tryz.ntmps102
 go_wp2
 go_ret
 exact ⟨by simp, rfl⟩
theorem nanF (x : Int) (w : World) : Calls Tryz.prog 103 #[.int .i32 x] w fun e' w' => e' = .returned (.bool false) /\ w' = w := by
 go_enter Tryz.func103, Tryz.ntmps103
 go_wp2
 go_ret
 exact ⟨by simp, rfl⟩
def cmpI (a b : Int) : Int := if a < b then -1 else if b < a then 1 else 0
theorem cmp32 (a b : Int) (w : World) : Calls Tryz.prog 81 #[.int .i32 a, .int .i32 b] w fun e' w' => e' = .returned (.int .i64 (cmpI a b)) /\ w' = w := by
 go_enter Tryz.func81, Tryz.ntmps81
 go_wp2_with (go_at_call 102; refine (nan32 _ _).mono ?_; rintro e w' ⟨rfl, rfl⟩)
 all_goals (go_ret; exact ⟨ret_int (by unfold cmpI; (repeat' split) <;> omega), rfl⟩)
theorem cmpFx (a b : Int) (w : World) : Calls Tryz.prog 82 #[.int .i32 a, .int .i32 b] w fun e' w' => e' = .returned (.int .i64 (cmpI a b)) /\ w' = w := by
 go_enter Tryz.func82, Tryz.ntmps82
 go_wp2_with (go_at_call 103; refine (nanF _ _).mono ?_; rintro e w' ⟨rfl, rfl⟩)
 all_goals (go_ret; exact ⟨ret_int (by unfold cmpI; (repeat' split) <;> omega), rfl⟩)
theorem sat_any (a : Int) (w : World) :
  Calls Tryz.prog 32 #[.int .i64 a] w fun e w' => e = .returned (.int .i32 (clp a)) /\ w' = w := by
 go_enter Tryz.func32, Tryz.ntmps32
 go_wp2
 all_goals (go_ret; refine ⟨ret_int ?_, rfl⟩)
 all_goals (try unfold clp)
 all_goals (try omega)
theorem fix_any (a : Cel) (ha : J32 a.n) (w : World) : Calls Tryz.prog 72 #[cv a] w fun e w' => e = .returned (.int .i32 (fixOf a)) /\ Below w.heap.size w w' := by
 obtain ⟨k, n, kn⟩ := a
 unfold J32 at ha
 simp only at ha
 by_cases h : k = 0
 ·subst h
  go_enter Tryz.func72, Tryz.ntmps72
  simp only [cv]
  go_wp2_with (go_at_call 32; refine (sat_any _ _).mono ?_; rintro e w' ⟨rfl, rfl⟩)
  go_ret
  exact ⟨rfl, (Below.refl _ w).alloc (Nat.le_refl _) _⟩
 ·have hb : (k == 0) = false := by simpa using h
  go_enter Tryz.func72, Tryz.ntmps72
  simp only [cv]
  go_wp2
  go_ret
  exact ⟨by simp [fixOf, h], (Below.refl _ w).alloc (Nat.le_refl _) _⟩
theorem count_ok (a : Cel) (m : Nat) (h : count a = .ok m) (hj : J32 a.n) (w : World) : Calls Tryz.prog 68 #[cv a] w fun e w' => e = .returned (.int .i64 m) /\ Below w.heap.size w w' := by
 obtain ⟨k, n, kn⟩ := a
 unfold count at h
 simp only at h
 by_cases c : k = 0 /\ kn = true /\ 0 <= n
 ·rw [if_pos c] at h
  have hm : n.toNat = m := Except.ok.inj h
  obtain ⟨rfl, rfl, h0⟩ := c
  obtain rfl : n = (m : Int) := by omega
  unfold J32 at hj
  simp only at hj
  clear h hm
  go_enter Tryz.func68, Tryz.ntmps68
  simp only [cv]
  go_wp2_with (go_at_call 55; refine (must_ok _ _).mono ?_; rintro e w' ⟨rfl, rfl⟩)
  go_ret
  exact ⟨rfl, (Below.refl _ w).alloc (Nat.le_refl _) _⟩
 ·rw [if_neg c] at h; cases h
theorem count_no (a : Cel) (h : count a = .error 10) (w : World) : Calls Tryz.prog 68 #[cv a] w fun e w' => e = Pan 10 /\ Below w.heap.size w w' := by
 obtain ⟨k, n, kn⟩ := a
 unfold count at h
 simp only at h
 by_cases c : k = 0 /\ kn = true /\ 0 <= n
 ·rw [if_pos c] at h; cases h
 clear h
 by_cases h1 : k = 0
 ·subst h1
  cases kn
  ·go_enter Tryz.func68, Tryz.ntmps68
   simp only [cv]
   go_wp2_with (go_at_call 55; refine (must_no _ _).mono ?_; rintro e w' ⟨rfl, rfl⟩)
   exact ⟨rfl, rfl, (Below.refl _ w).alloc (Nat.le_refl _) _⟩
  ·have h2 : ¬ (0 <= n) := fun q => c ⟨rfl, rfl, q⟩
   go_enter Tryz.func68, Tryz.ntmps68
   simp only [cv]
   go_wp2_with (go_at_call 55; refine (must_no _ _).mono ?_; rintro e w' ⟨rfl, rfl⟩)
   exact ⟨rfl, rfl, (Below.refl _ w).alloc (Nat.le_refl _) _⟩
 ·have hb : (k == 0) = false := by simpa using h1
  go_enter Tryz.func68, Tryz.ntmps68
  simp only [cv]
  go_wp2_with (go_at_call 55; refine (must_no _ _).mono ?_; rintro e w' ⟨rfl, rfl⟩)
  exact ⟨rfl, rfl, (Below.refl _ w).alloc (Nat.le_refl _) _⟩
theorem info72 : (Tryz.prog.info? 72).map (fun i => (i.zero, i.size, i.bytes)) = some (some (.agg #[.int .u8 0, .int .i32 0, .bool false]), 3, 12) := by kernel_rfl
def fl : List Cel -> List Value
 | [] => []
 | a :: s => .int .u8 a.k :: .int .i32 a.n :: .bool a.kn :: fl s
theorem fl_app (s t : List Cel) : fl (s ++ t) = fl s ++ fl t := by
 induction s with
 | nil => rfl
 | cons a s ih => simp [fl, ih]
theorem fl_len (s : List Cel) : (fl s).length = s.length * 3 := by
 induction s with
 | nil => rfl
 | cons a s ih => simp [fl, ih]; omega
theorem fl_drop (s : List Cel) : ∀ n, fl (s.drop n) = (fl s).drop (n * 3) := by
 induction s with
 | nil => intro n; simp [fl]
 | cons a s ih =>
  intro n
  cases n with
  | zero => simp
  | succ n => rw [List.drop_succ_cons, ih, show (n + 1) * 3 = n * 3 + 1 + 1 + 1 by omega]; simp [fl]
theorem fl_take (s : List Cel) : ∀ n, fl (s.take n) = (fl s).take (n * 3) := by
 induction s with
 | nil => intro n; simp [fl]
 | cons a s ih =>
  intro n
  cases n with
  | zero => simp [fl]
  | succ n => rw [List.take_succ_cons, show (n + 1) * 3 = n * 3 + 1 + 1 + 1 by omega]; simp [fl, ih]
theorem fl_one (s : List Cel) : ∀ u ∈ fl s, u.oneCell' = true := by
 induction s with
 | nil => intro u hu; cases hu
 | cons a s ih =>
  intro u hu
  simp only [fl, List.mem_cons] at hu
  rcases hu with rfl | rfl | rfl | hu
  ·rfl
  ·rfl
  ·rfl
  ·exact ih u hu
def Cels (n₀ : Nat) (W : World) (ad : Option Addr) (cs : List Cel) : Prop := cs = [] \/ ∃ b off, ad = some ⟨b, off, none⟩ /\ b < n₀ /\ ∀ j u, (fl cs)[j]? = some u -> W.cell? ⟨b, off + j, none⟩ = some u
theorem Cels.hc {n₀ : Nat} {W : World} {p : Addr} {cs : List Cel} (h : Cels n₀ W (some p) cs) : ∀ j u, (fl cs)[j]? = some u -> W.cell? (p.add j) = some u := by
 intro j u hu
 rcases h with rfl | ⟨b, off, e, _, hc⟩
 ·simp [fl] at hu
 ·cases e
  rw [Addr.add_lit]; exact hc j u hu
theorem Cels.on {w W : World} {ad : Option Addr} {cs : List Cel} (h : Cels w.heap.size w ad cs) (hB : Below w.heap.size w W) : Cels W.heap.size W ad cs := by
 rcases h with rfl | ⟨b, off, e, hb, hc⟩
 ·exact .inl rfl
 ·exact .inr ⟨b, off, e, Nat.lt_of_lt_of_le hb hB.size, fun j u hu => (hB.cell (p := ⟨b, off + j, none⟩) hb).trans (hc j u hu)⟩
theorem new_empty (w : World) : (w.alloc (.cells #[] 72)).ownsRow w.heap.size 72 3 (.slice (some ⟨w.heap.size, 0, none⟩) 0 0) 0 (fl []) := by
 refine ⟨rfl, .inr ⟨w.heap.size, 0, #[], rfl, Nat.le_refl _, ?_, Nat.le_refl _, Nat.zero_le _, rfl, rfl⟩⟩
 exact Array.getElem?_push_size
set_option maxHeartbeats 1000000 in
theorem clone_any (ad : Option Addr) (m c : Nat) (cs : List Cel) (w : World) (hm : m = cs.length) (h : Cels w.heap.size w ad cs) (hn : ad = none -> m = 0 /\ c = 0) (h8 : m <= 2000) :
  Calls Tryz.prog 58 #[.slice ad m c] w fun e w' => ∃ v, e = .returned v /\ w'.ownsRow w.heap.size 72 3 v m (fl cs) /\ Below w.heap.size w w' := by
 have qT : ∀ (w : World) (a : Option Addr) (n c n' c' : Nat), (binOp .eql 66 (.slice a n c) (.slice none n' c')).run Tryz.prog w = .ok (.bool a.isNone) w := fun w a n c n' c' => Lib.run_eql_slice_nil w _ _ a n c n' c' Tryz.underlying66
 cases ad with
 | none =>
  obtain ⟨h0, rfl⟩ := hn rfl
  have hcs : cs = [] := List.eq_nil_of_length_eq_zero (by omega)
  subst hcs h0
  clear h hn hm h8
  go_enter Tryz.func58, Tryz.ntmps58
  go_wp2
  go_ret
  exact ⟨_, rfl, ⟨rfl, .inl ⟨rfl, rfl⟩⟩, Below.refl _ _⟩
 | some p =>
  have HC := Lib.hid h
  have HM := Lib.hid hm
  clear h hn hm
  obtain ⟨i0, hin, hz0, hz1, hz2⟩ := info_parts info72
  go_enter Tryz.func58, Tryz.ntmps58
  have hc2 : ∀ (o : Obj) (j : Nat) (u : Value), (fl cs)[j]? = some u -> (w.alloc o).cell? (p.add j) = some u := fun o => (HC.out.on ((Below.refl _ w).alloc (Nat.le_refl _) o)).hc
  have HC2 := Lib.hid hc2
  have HL := Lib.hid (show (fl cs).length = m * 3 by rw [fl_len, HM.out])
  have hzc : (Value.agg #[.int .u8 0, .int .i32 0, .bool false]).cells.size = 3 := rfl
  clear hc2
  go_wp2_with (at_builtin; go_loud (refine wpList_append_own _ rfl _ _ 66 rfl w.heap.size 72 i0 _ 3 12 Tryz.underlying66 hin hz0 hz1 hz2 hzc (by decide) _ 0 (fl []) rfl (new_empty _) p m c (fl cs) rfl HL.out (HC2.out _) (fl_one cs) (by unfold maxLen; omega) (by omega) (by simp) ?_); intro v' w6 hown6 hgrow6 hnil6)
  go_ret
  have hg : (w.alloc (Obj.cells #[] 72)).grownBy w6 (some w.heap.size) := hgrow6
  rw [Nat.zero_add] at hown6
  exact ⟨v', rfl, hown6, ((Below.refl _ w).alloc (Nat.le_refl _) _).grown hg (by simp) (by simp)⟩
theorem row_shape {W : World} {base e s n : Nat} {v : Value} {xs : List Value} (h : W.ownsRow base e s v n xs) : ∃ ad cap, v = .slice ad n cap /\ (ad = none -> n = 0 /\ cap = 0) /\ n <= cap /\ cap <= maxLen := by
 obtain ⟨_, ⟨rfl, rfl⟩ | ⟨g, cap, cur, rfl, _, _, h1, h2, _⟩⟩ := h
 ·exact ⟨none, 0, rfl, fun _ => ⟨rfl, rfl⟩, Nat.le_refl _, Nat.zero_le _⟩
 ·exact ⟨_, cap, rfl, (fun q => by cases q), h1, h2⟩
theorem row_cut {W : World} {base e g n cap : Nat} {cs : List Cel} (h : W.ownsRow base e 3 (.slice (some ⟨g, 0, none⟩) n cap) n (fl cs)) (hn : n = cs.length) {k : Nat} (hk : k <= n) : W.ownsRow base e 3 (.slice (some ⟨g, 0, none⟩) k cap) k (fl (cs.take k)) := by
 obtain ⟨h1, ⟨h2, _⟩ | ⟨g2, cap2, cur, h2, hb, hg, hc, hm, hs, ht⟩⟩ := h
 ·cases h2
 ·cases h2
  refine ⟨by rw [fl_len, List.length_take]; congr 1; omega, .inr ⟨g, cap, cur, rfl, hb, hg, by omega, hm, hs, ?_⟩⟩
  rw [fl_take, <- ht, List.take_take]
  congr 1
  omega
theorem row_cels {W : World} {base g n cap : Nat} {e : TypeId} {cs : List Cel} (h : W.ownsRow base e 3 (.slice (some ⟨g, 0, none⟩) n cap) n (fl cs)) : g < W.heap.size /\ ∀ j u, (fl cs)[j]? = some u -> W.cell? ⟨g, j, none⟩ = some u := by
 obtain ⟨h1, ⟨h2, _⟩ | ⟨g2, cap2, cur, h2, hb, hg, hc, hm, hs, ht⟩⟩ := h
 ·cases h2
 ·cases h2
  refine ⟨(Array.getElem?_eq_some_iff.1 hg).1, fun j u hu => ?_⟩
  have hj := (List.getElem?_eq_some_iff.1 hu).1
  rw [<- ht] at hu
  rw [List.getElem?_take] at hu
  split at hu
  ·simp [World.cell?, hg]
   rw [<- Array.getElem?_toList]
   exact hu
  ·cases hu
structure Stk (W : World) (b base : Nat) (v : Value) (cs : List Cel) : Prop where
 c : W.cell? ⟨b, 0, none⟩ = some v
 z : W.frozen? ⟨b, 0, none⟩ = false
 o : W.ownsRow base 72 3 v cs.length (fl cs)
 n : v.ownBlock ≠ some b
 l : b < W.heap.size
 s : base <= b
 m : cs.length <= 1000
structure Kept (w W : World) (b : Nat) (v : Value) : Prop where
 os : W.os = w.os
 tape : W.tape = w.tape
 output : W.output = w.output
 size : w.heap.size <= W.heap.size
 block : ∀ k, k < w.heap.size -> k ≠ b -> some k ≠ v.ownBlock -> W.heap[k]? = w.heap[k]?
theorem Kept.refl (w : World) (b : Nat) (v : Value) : Kept w w b v := ⟨rfl, rfl, rfl, Nat.le_refl _, fun _ _ _ _ => rfl⟩
theorem Kept.of {w W : World} (h : Below w.heap.size w W) (b : Nat) (v : Value) : Kept w W b v := ⟨h.os, h.tape, h.output, h.size, fun k hk _ _ => h.block k hk⟩
theorem Kept.trans {w W V : World} {b : Nat} {v v' : Value} (h : Kept w W b v) (k : Kept W V b v') (hv : v'.ownBlock = v.ownBlock \/ ∃ g, v'.ownBlock = some g /\ w.heap.size <= g) : Kept w V b v := by
 refine ⟨k.os.trans h.os, k.tape.trans h.tape, k.output.trans h.output, Nat.le_trans h.size k.size, fun i hi h1 h2 => (k.block i (Nat.lt_of_lt_of_le hi h.size) h1 ?_).trans (h.block i hi h1 h2)⟩
 rcases hv with e | ⟨g, e, hg⟩
 ·rw [e]; exact h2
 ·rw [e]; intro q; cases q; omega
theorem Kept.below {w W : World} {b base : Nat} {v : Value} {n : Nat} {xs : List Value} {e s : Nat} (h : Kept w W b v) (hb : base <= b) (ho : w.ownsRow base e s v n xs) (hl : base <= w.heap.size) : Below base w W := by
 refine ⟨h.os, h.tape, h.output, h.size, fun k hk => h.block k (by omega) (by omega) ?_⟩
 obtain ⟨_, ⟨rfl, _⟩ | ⟨g, cap, cur, rfl, hg, _⟩⟩ := ho
 ·simp [Value.ownBlock]
 ·simp only [Value.ownBlock]; intro q; cases q; omega
theorem row_keep {W W' : World} {base e s n : Nat} {v : Value} {xs : List Value} (h : W.ownsRow base e s v n xs) (hk : ∀ g, v.ownBlock = some g -> W'.heap[g]? = W.heap[g]?) : W'.ownsRow base e s v n xs := by
 obtain ⟨h1, h2 | ⟨g, cap, cur, e1, e2, e3, e4⟩⟩ := h
 ·exact ⟨h1, .inl h2⟩
 ·exact ⟨h1, .inr ⟨g, cap, cur, e1, e2, (hk g (by rw [e1]; rfl)).trans e3, e4⟩⟩
theorem own_lt {W : World} {base e s n : Nat} {v : Value} {xs : List Value} (h : W.ownsRow base e s v n xs) : ∀ g, v.ownBlock = some g -> g < W.heap.size /\ base <= g := by
 intro g hg
 obtain ⟨_, ⟨rfl, _⟩ | ⟨g2, cap, cur, rfl, hb, hh, _⟩⟩ := h
 ·simp [Value.ownBlock] at hg
 ·obtain rfl : g2 = g := by simpa [Value.ownBlock] using hg
  exact ⟨(Array.getElem?_eq_some_iff.1 hh).1, hb⟩
theorem stk_set {w W : World} {b base : Nat} {v v' : Value} {cs ds : List Cel} (hS : Stk w b base v cs) (hK : Kept w W b v) (hc : ∃ u, W.cell? ⟨b, 0, none⟩ = some u) (hz : W.frozen? ⟨b, 0, none⟩ = false) (ho : W.ownsRow base 72 3 v' ds.length (fl ds)) (hn : v'.ownBlock ≠ some b) (hl : ds.length <= 1000) :
  Stk (W.setCell ⟨b, 0, none⟩ v') b base v' ds /\ Kept w (W.setCell ⟨b, 0, none⟩ v') b v := by
 obtain ⟨u, hu⟩ := hc
 have hoth : ∀ g, g ≠ b -> (W.setCell ⟨b, 0, none⟩ v').heap[g]? = W.heap[g]? := fun g hg => Below.heap_setCell _ _ _ g hg
 refine ⟨⟨World.cell?_setCell_same' _ _ _ (by rw [hu]; rfl), ?_, row_keep ho (fun g hg => hoth g (fun e => hn (e ▸ hg))), hn, ?_, hS.s, hl⟩, ⟨hK.os, hK.tape, hK.output, ?_, fun k h1 h2 h3 => (hoth k h2).trans (hK.block k h1 h2 h3)⟩⟩
 ·simp [hz]
 ·simp; exact Nat.lt_of_lt_of_le hS.l hK.size
 ·simp; exact hK.size
set_option maxHeartbeats 1000000 in
theorem takes_no (b base n : Nat) (v : Value) (cs : List Cel) (w : World) (hS : Stk w b base v cs) (h : ¬ n <= cs.length) (hn : n <= 2147483648) :
  Calls Tryz.prog 60 #[.pointer (some ⟨b, 0, none⟩), .int .i64 n] w fun e w' => e = Pan 15 /\ w' = w := by
 obtain ⟨ad, cap, rfl, _, _, _⟩ := row_shape hS.o
 have hc := hS.c
 have hm := hS.m
 have h2 : ¬ ((n : Int) <= cs.length) := by omega
 clear h hS
 go_enter Tryz.func60, Tryz.ntmps60
 go_wp2_with (go_at_call 55; refine (must_no _ _).mono ?_; rintro e w' ⟨rfl, rfl⟩)
 exact ⟨rfl, rfl, rfl⟩
set_option maxHeartbeats 1000000 in
theorem takes_ok (b base n a : Nat) (v : Value) (cs : List Cel) (w : World) (hS : Stk w b base v cs) (h : cs.length = a + n) :
  Calls Tryz.prog 60 #[.pointer (some ⟨b, 0, none⟩), .int .i64 n] w fun e w' =>
   (∃ x, e = .returned x /\ w'.ownsRow w.heap.size 72 3 x n (fl (cs.drop a))) /\ (∃ v', v'.ownBlock = v.ownBlock /\ Stk w' b base v' (cs.take a)) /\ Kept w w' b v := by
 obtain ⟨ad, cap, rfl, hnn, hcap, hcapm⟩ := row_shape hS.o
 have hc := hS.c
 have hz := hS.z
 have hm := hS.m
 have HS := Lib.hid hS
 have h2 : (n : Int) <= a + n := by omega
 have h2b : (0 : Int) <= a := by omega
 rw [h] at hc hcap hm
 cases ad with
 | none =>
  obtain ⟨h0, rfl⟩ := hnn rfl
  obtain rfl : a = 0 := by omega
  obtain rfl : n = 0 := by omega
  have hcs : cs = [] := List.eq_nil_of_length_eq_zero h0
  simp only [Nat.add_zero] at hc
  clear hnn hS h2 h2b h h0
  go_enter Tryz.func60, Tryz.ntmps60
  go_wp2_with (first
   | (go_at_call 55; refine (must_ok _ _).mono ?_; rintro e w' ⟨rfl, rfl⟩)
   | (go_at_call 58; refine (clone_any none 0 0 [] _ rfl (.inl rfl) (fun _ => ⟨rfl, rfl⟩) (by omega)).mono ?_; rintro e w2 ⟨x, rfl, hx, hB⟩; replace hc := (hB.cell (p := ⟨b, 0, none⟩) HS.out.l).trans hc; replace hz := (hB.frozen (p := ⟨b, 0, none⟩) HS.out.l).trans hz))
  all_goals (try (go_ret))
  subst hcs
  obtain ⟨k1, k2⟩ := stk_set (v' := .slice none 0 0) (ds := []) HS.out (Kept.of hB _ _) ⟨_, hc⟩ hz ⟨rfl, .inl ⟨rfl, rfl⟩⟩ (by simp [Value.ownBlock]) (by simp)
  refine ⟨⟨x, rfl, ?_⟩, ⟨.slice none 0 0, rfl, ?_⟩, ?_⟩
  ·exact row_keep hx (fun g hg => Below.heap_setCell _ _ _ g (fun e => by
    have h1 := (own_lt hx g hg).2
    have h2 := HS.out.l
    have h3 : g = b := e
    omega))
  ·simpa using k1
  ·simpa using k2
 | some p =>
  have hrow := hS.o
  obtain ⟨g, rfl⟩ : ∃ g, p = ⟨g, 0, none⟩ := by
   obtain ⟨_, ⟨h2, _⟩ | ⟨g, _, _, h2, _⟩⟩ := hrow
   ·cases h2
   ·cases h2; exact ⟨g, rfl⟩
  obtain ⟨hgl, hcl⟩ := row_cels hrow
  have hgb : ¬ (g = b) := by
   intro e
   exact hS.n (by rw [e]; rfl)
  have hcd : Cels w.heap.size w (some ⟨g, a * 3, none⟩) (cs.drop a) := .inr ⟨g, a * 3, rfl, hgl, fun j u hu => hcl _ _ (by
   rw [fl_drop, List.getElem?_drop] at hu
   exact hu)⟩
  have hdl : n = (cs.drop a).length := by rw [List.length_drop, h]; omega
  have HCD := Lib.hid hcd
  have HDL := Lib.hid hdl
  have HL := Lib.hid h
  have n8 : n <= 2000 := by omega
  have fin : ∀ (w2 : World) (x : Value), w2.ownsRow w.heap.size 72 3 x n (fl (cs.drop a)) -> Below w.heap.size w w2 -> ((∃ x', Ending.returned x = .returned x' /\ (w2.setCell ⟨b, 0, none⟩ (.slice (some ⟨g, 0, none⟩) a cap)).ownsRow w.heap.size 72 3 x' n (fl (cs.drop a))) /\ (∃ v', v'.ownBlock = (Value.slice (some ⟨g, 0, none⟩) cs.length cap).ownBlock /\ Stk (w2.setCell ⟨b, 0, none⟩ (.slice (some ⟨g, 0, none⟩) a cap)) b base v' (cs.take a)) /\ Kept w (w2.setCell ⟨b, 0, none⟩ (.slice (some ⟨g, 0, none⟩) a cap)) b (.slice (some ⟨g, 0, none⟩) cs.length cap)) := by
   intro w2 x hx hB
   have hcut := row_cut hrow rfl (k := a) (by omega)
   have hcut2 : w2.ownsRow base 72 3 (.slice (some ⟨g, 0, none⟩) a cap) (cs.take a).length (fl (cs.take a)) := by
    rw [show (cs.take a).length = a by rw [List.length_take]; omega]
    exact row_keep hcut (fun g' hg' => by
     obtain rfl : g = g' := by simpa [Value.ownBlock] using hg'
     exact hB.block g hgl)
   obtain ⟨k1, k2⟩ := stk_set (v' := .slice (some ⟨g, 0, none⟩) a cap) (ds := cs.take a) hS (Kept.of hB _ _) ⟨_, (hB.cell (p := ⟨b, 0, none⟩) hS.l).trans hS.c⟩ ((hB.frozen (p := ⟨b, 0, none⟩) hS.l).trans hS.z) hcut2 (by simp only [Value.ownBlock]; intro q; cases q; exact hgb rfl) (by rw [List.length_take]; omega)
   refine ⟨⟨x, rfl, ?_⟩, ⟨.slice (some ⟨g, 0, none⟩) a cap, rfl, k1⟩, k2⟩
   exact row_keep hx (fun g hg => Below.heap_setCell _ _ _ g (fun e => by
    have h1 := (own_lt hx g hg).2
    have h2 := hS.l
    have h3 : g = b := e
    omega))
  have FIN := Lib.hid fin
  clear fin hcd hdl hrow hcl hS hnn h
  by_cases hca : cap = a
  ·obtain rfl : n = 0 := by omega
   subst hca
   have hnil : cs.drop cap = [] := List.eq_nil_of_length_eq_zero HDL.out.symm
   have HNIL := Lib.hid hnil
   clear hnil
   go_enter Tryz.func60, Tryz.ntmps60
   go_wp2_with (first
    | (go_at_call 55; refine (must_ok _ _).mono ?_; rintro e w' ⟨rfl, rfl⟩)
    | (go_at_call 58; refine (clone_any _ 0 0 [] _ rfl (.inl rfl) (fun q => by cases q) (by omega)).mono ?_; rintro e w2 ⟨x, rfl, hx, hB⟩; rw [<- HNIL.out] at hx; replace hc := (hB.cell (p := ⟨b, 0, none⟩) HS.out.l).trans hc; replace hz := (hB.frozen (p := ⟨b, 0, none⟩) HS.out.l).trans hz))
   all_goals (try (go_ret))
   exact FIN.out _ _ hx hB
  ·go_enter Tryz.func60, Tryz.ntmps60
   go_wp2_with (first
    | (go_at_call 55; refine (must_ok _ _).mono ?_; rintro e w' ⟨rfl, rfl⟩)
    | (go_at_call 58; refine (clone_any (some ⟨g, a * 3, none⟩) n (cap - a) (cs.drop a) _ HDL.out HCD.out (fun q => by cases q) n8).mono ?_; rintro e w2 ⟨x, rfl, hx, hB⟩; replace hc := (hB.cell (p := ⟨b, 0, none⟩) HS.out.l).trans hc; replace hz := (hB.frozen (p := ⟨b, 0, none⟩) HS.out.l).trans hz))
   all_goals (try (go_ret))
   exact FIN.out _ _ hx hB
set_option maxHeartbeats 1000000 in
theorem puts_any (b base : Nat) (v : Value) (cs xs : List Cel) (ad : Option Addr) (m c : Nat) (w : World) (hS : Stk w b base v cs) (hx : Cels w.heap.size w ad xs) (hm : m = xs.length) (hn : ad = none -> m = 0 /\ c = 0) (hl : cs.length + xs.length <= 1000) :
  Calls Tryz.prog 65 #[.pointer (some ⟨b, 0, none⟩), .slice ad m c] w fun e w' =>
   e = .returned (.tuple #[]) /\ (∃ v', (v'.ownBlock = v.ownBlock \/ ∃ g, v'.ownBlock = some g /\ w.heap.size <= g) /\ Stk w' b base v' (cs ++ xs)) /\ Kept w w' b v := by
 obtain ⟨a0, cap, rfl, hnn, hcap, hcapm⟩ := row_shape hS.o
 have hc := hS.c
 have hz := hS.z
 have HS := Lib.hid hS
 have hbl := hS.l
 have hbw : base <= w.heap.size := Nat.le_of_lt (Nat.lt_of_le_of_lt hS.s hS.l)
 obtain ⟨i0, hin, hz0, hz1, hz2⟩ := info_parts info72
 have hzc : (Value.agg #[.int .u8 0, .int .i32 0, .bool false]).cells.size = 3 := rfl
 have hrow := Lib.hid hS.o
 cases ad with
 | none =>
  obtain ⟨rfl, rfl⟩ := hn rfl
  have hxs : xs = [] := List.eq_nil_of_length_eq_zero hm.symm
  clear hn hm hx hnn hS
  go_enter Tryz.func65, Tryz.ntmps65
  go_wp2_with (at_builtin; refine wpList_append_own_none rfl _ _ 66 rfl base 72 i0 3 Tryz.underlying66 hin _ _ _ rfl hrow.out rfl ?_)
  refine bodyPost_end (v := .tuple #[]) (by simp [results, Tryz.f65]) rfl ?_
  subst hxs
  obtain ⟨k1, k2⟩ := stk_set (v' := .slice a0 cs.length cap) (ds := cs) HS.out (Kept.refl _ _ _) ⟨_, hc⟩ hz HS.out.o HS.out.n HS.out.m
  exact ⟨rfl, ⟨_, .inl rfl, by simpa using k1⟩, k2⟩
 | some p =>
  have HX := Lib.hid hx
  have hlen : (fl xs).length = m * 3 := by rw [fl_len, hm]
  have HL := Lib.hid hlen
  have HM := Lib.hid hm
  have hb1 : cs.length + m <= 1000 := by omega
  clear hx hn hm hlen hnn hS
  go_enter Tryz.func65, Tryz.ntmps65
  go_wp2_with (at_builtin; refine wpList_append_own_at _ rfl _ _ 66 rfl base 72 i0 _ 3 12 Tryz.underlying66 hin hz0 hz1 hz2 hzc (by decide) _ cs.length (fl cs) rfl hrow.out p m c (fl xs) rfl HL.out HX.out.hc (fl_one xs) (by unfold maxLen; omega) (by omega) hbw ?_; intro v' w6 hown6 hgrow6 hnil6 hat6; have hg6 : w.grownBy w6 (Value.slice a0 cs.length cap).ownBlock := hgrow6; have hat7 : v'.ownBlock = (Value.slice a0 cs.length cap).ownBlock \/ v'.ownBlock = some w.heap.size := hat6; clear hgrow6 hnil6 hat6; obtain ⟨a6, c6, rfl, _, _, _⟩ := row_shape hown6; have hb6 := hg6.block b hbl (fun e => HS.out.n e.symm); have hc6 : w6.cell? ⟨b, 0, none⟩ = _ := (World.cell?_of_block (w := w) hb6).trans hc; have hz6 : w6.frozen? ⟨b, 0, none⟩ = _ := (World.frozen?_of_block (w := w) hb6).trans hz)
  refine bodyPost_end (v := .tuple #[]) (by simp [results, Tryz.f65]) rfl ?_
  have hk : Kept w w6 b (.slice a0 cs.length cap) := ⟨hg6.os, hg6.tape, hg6.output, hg6.size, fun k h1 _ h3 => hg6.block k h1 h3⟩
  have hnb : (Value.slice a6 (cs.length + m) c6).ownBlock ≠ some b := by
   rcases hat7 with e | e
   ·rw [e]; exact HS.out.n
   ·rw [e]; intro q; cases q; omega
  have hrow6 : w6.ownsRow base 72 3 (.slice a6 (cs.length + m) c6) (cs ++ xs).length (fl (cs ++ xs)) := by
   rw [fl_app, List.length_append, <- HM.out]; exact hown6
  obtain ⟨k1, k2⟩ := stk_set (ds := cs ++ xs) HS.out hk ⟨_, hc6⟩ hz6 hrow6 hnb (by rw [List.length_append]; omega)
  refine ⟨rfl, ⟨_, ?_, k1⟩, k2⟩
  rcases hat7 with e | e
  ·exact .inl e
  ·exact .inr ⟨_, e, Nat.le_refl _⟩
theorem Stk.on {w W : World} {b base : Nat} {v : Value} {cs : List Cel} (h : Stk w b base v cs) (hB : Below w.heap.size w W) : Stk W b base v cs :=
 ⟨(hB.cell (p := ⟨b, 0, none⟩) h.l).trans h.c, (hB.frozen (p := ⟨b, 0, none⟩) h.l).trans h.z, row_keep h.o (fun g hg => hB.block g (own_lt h.o g hg).1), h.n, Nat.lt_of_lt_of_le h.l hB.size, h.s, h.m⟩
theorem cels_new (w : World) (a : Cel) (t : TypeId) : Cels (w.alloc (.cells #[.int .u8 a.k, .int .i32 a.n, .bool a.kn] t)).heap.size (w.alloc (.cells #[.int .u8 a.k, .int .i32 a.n, .bool a.kn] t)) (some ⟨w.heap.size, 0, none⟩) [a] := by
 refine .inr ⟨w.heap.size, 0, rfl, by simp, fun j u hu => ?_⟩
 match j, hu with
 | 0, hu => simpa [fl, go_sem] using hu
 | 1, hu => simpa [fl, go_sem] using hu
 | 2, hu => simpa [fl, go_sem] using hu
def cd (c : Cod) : Value := .agg #[.int .u8 c.op, .int .i32 c.n]
structure OpH (w : World) (b base : Nat) (v : Value) (cs : List Cel) (bl ol : Nat) (L : List Cel) : Prop where
 st : Stk w b base v cs
 ce : Cels w.heap.size w (some ⟨bl, ol, none⟩) L
 nb : bl ≠ b
 nv : some bl ≠ v.ownBlock
 bw : bl < w.heap.size
 gl : All L
 gs : All cs
 sz : cs.length <= 100
def OpP (N : Num) (cl : Nat) (c : Cod) (L cs : List Cel) (b base : Nat) (v : Value) (w : World) (e : Ending) (w' : World) : Prop :=
 (∀ cs', does N cl c L cs = .ok cs' -> e = .returned (.tuple #[]) /\ (∃ v', (v'.ownBlock = v.ownBlock \/ ∃ g, v'.ownBlock = some g /\ w.heap.size <= g) /\ Stk w' b base v' cs') /\ Kept w w' b v) /\
 (∀ er, does N cl c L cs = .error er -> e = Pan er /\ Kept w w' b v)
theorem opP_ok {N : Num} {cl : Nat} {c : Cod} {L cs cs' : List Cel} {b base : Nat} {v : Value} {w w' : World} (h : does N cl c L cs = .ok cs') (hs : ∃ v', (v'.ownBlock = v.ownBlock \/ ∃ g, v'.ownBlock = some g /\ w.heap.size <= g) /\ Stk w' b base v' cs') (hk : Kept w w' b v) : OpP N cl c L cs b base v w (.returned (.tuple #[])) w' :=
 ⟨fun _ e => by rw [h] at e; cases e; exact ⟨rfl, hs, hk⟩, fun _ e => by rw [h] at e; cases e⟩
theorem opP_err {N : Num} {cl : Nat} {c : Cod} {L cs : List Cel} {b base : Nat} {v : Value} {w w' : World} {er : Int} (h : does N cl c L cs = .error er) (hk : Kept w w' b v) : OpP N cl c L cs b base v w (Pan er) w' :=
 ⟨fun _ e => (by rw [h] at e; cases e), fun _ e => by rw [h] at e; cases e; exact ⟨rfl, hk⟩⟩
theorem cel_at {w : World} {n₀ bl ol : Nat} {L : List Cel} (h : Cels n₀ w (some ⟨bl, ol, none⟩) L) {i : Nat} {a : Cel} (ha : L[i]? = some a) :
    w.cell? ⟨bl, ol + i * 3, none⟩ = some (.int .u8 a.k) /\ w.cell? ⟨bl, ol + i * 3 + 1, none⟩ = some (.int .i32 a.n) /\ w.cell? ⟨bl, ol + i * 3 + 2, none⟩ = some (.bool a.kn) := by
  rcases h with rfl | ⟨b, off, e, hb, hc⟩
  · simp at ha
  · cases e
    have key : ∀ (L : List Cel) (i : Nat), L[i]? = some a -> (fl L)[i * 3]? = some (.int .u8 a.k) /\ (fl L)[i * 3 + 1]? = some (.int .i32 a.n) /\ (fl L)[i * 3 + 2]? = some (.bool a.kn) := by
      intro L
      induction L with
      | nil => intro i h; simp at h
      | cons x L ih =>
        intro i h
        cases i with
        | zero => obtain rfl : x = a := by simpa using h
                  exact ⟨rfl, rfl, rfl⟩
        | succ i =>
          obtain ⟨h1, h2, h3⟩ := ih i (by simpa using h)
          rw [show (i + 1) * 3 = i * 3 + 1 + 1 + 1 by omega]
          exact ⟨h1, by rw [show i * 3 + 1 + 1 + 1 + 1 = i * 3 + 1 + 1 + 1 + 1 by rfl]; exact h2, h3⟩
    obtain ⟨h1, h2, h3⟩ := key L i ha
    refine ⟨hc _ _ h1, ?_, ?_⟩
    · rw [Nat.add_assoc]; exact hc _ _ h2
    · rw [Nat.add_assoc]; exact hc _ _ h3
section
variable {N : Num}
theorem rest_any (c : Cod) (L : List Cel) (lv : Value) (b base : Nat) (v : Value) (cs : List Cel) (w : World) (hS : Stk w b base v cs) :
  Calls Tryz.prog 36 #[.pointer (some ⟨b, 0, none⟩), cd c, lv] w (OpP N 1 c L cs b base v w) := by
 go_enter Tryz.func36, Tryz.ntmps36
 simp only [cd]
 go_wp2
 refine bodyPost_end (v := .tuple #[]) (by simp [results, Tryz.f36]) rfl ?_
 have hB := (Below.refl w.heap.size w).alloc (Nat.le_refl _) (.cells #[.int .u8 c.op, .int .i32 c.n] 41)
 exact opP_ok (by cases L <;> rfl) ⟨v, .inl rfl, hS.on hB⟩ (Kept.of hB _ _)
set_option maxHeartbeats 1000000 in
theorem unless_any (c : Cod) (a : Cel) (bl ol cl b base : Nat) (v : Value) (cs : List Cel) (w : World) (h : OpH w b base v cs bl ol [a]) :
  Calls Tryz.prog 37 #[.pointer (some ⟨b, 0, none⟩), cd c, .slice (some ⟨bl, ol, none⟩) 1 cl] w (OpP N 2 c [a] cs b base v w) := by
 have hB := (Below.refl w.heap.size w).alloc (Nat.le_refl _) (.cells #[.int .u8 c.op, .int .i32 c.n] 41)
 obtain ⟨c0, c1, c2⟩ := cel_at (h.ce.on hB) (i := 0) (a := a) rfl
 simp only [Nat.zero_mul, Nat.add_zero] at c0 c1 c2
 have H := Lib.hid h
 by_cases hk : a.k = 2
 ·rw [hk] at c0
  clear h
  go_enter Tryz.func37, Tryz.ntmps37
  simp only [cd]
  go_wp2_with (go_at_call 55; refine (must_ok _ _).mono ?_; rintro e w' ⟨rfl, rfl⟩)
  refine bodyPost_end (v := .tuple #[]) (by simp [results, Tryz.f37]) rfl ?_
  exact opP_ok (by simp [does, hk]) ⟨v, .inl rfl, H.out.st.on hB⟩ (Kept.of hB _ _)
 ·have hkb : (a.k == 2) = false := by simpa using hk
  clear h
  go_enter Tryz.func37, Tryz.ntmps37
  simp only [cd]
  go_wp2_with (go_at_call 55; refine (must_no _ _).mono ?_; rintro e w' ⟨rfl, rfl⟩)
  exact ⟨rfl, opP_err (by simp [does, hk]) (Kept.of hB _ _)⟩
end
end Go.Proofs.YtcjllibeaiofpaaGreatDoor
