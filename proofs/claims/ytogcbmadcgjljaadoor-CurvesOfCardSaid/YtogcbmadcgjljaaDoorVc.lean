/-
  Curves: the power that a curve asks for.
-/
import Derived.Test.YtogcbmadcgjljaaDoorVa
import Derived.Test.YtogcbmadcgjljaaDoorRv
import Derived.RangeFuncBox
import Derived.RangeFuncLeaves
import Derived.RangeFuncNested
import Derived.RangeFuncCalls
import Derived.Shelf.Abstract
import Derived.WalkKit
import Derived.OwnWalkIn
import Derived.TacticsInMore
import Derived.LoopNIn
import Derived.LoopIn
set_option linter.all false
namespace Go.Proofs.YtogcbmadcgjljaaDoor
open Go.RowKit

/-- a number to the power of another one, as the program tells it. -/
def powR (a n : Int) : Int := if n = 0 then 65536 else if a = 0 then 0 else if a < 0 ∧ n % 65536 ≠ 0 then 0 else Sx.clamp32 (Sx.powA a n)
theorem powR_of {a n v e : Int} (h : Sx.powTo a n v e) : v = powR a n := by
  obtain ⟨h0, h1, h2, h3, h4⟩ := h
  unfold powR
  by_cases n0 : n = 0
  · rw [if_pos n0]; exact (h0 n0).1
  rw [if_neg n0]
  by_cases a0 : a = 0
  · rw [if_pos a0]
    rcases Int.lt_or_gt_of_ne n0 with h | h
    · exact (h1 n0 a0 h).1
    · exact (h2 n0 a0 h).1
  rw [if_neg a0]
  by_cases hb : a < 0 ∧ n % 65536 ≠ 0
  · rw [if_pos hb]; exact (h3 n0 hb.1 hb.2).1
  · rw [if_neg hb]; exact (h4 n0 a0 hb).2
/-- whole 32 bits. -/
def I32 (x : Int) : Prop := -2147483648 ≤ x ∧ x ≤ 2147483647
theorem pow_any (a n : Int) (ha : I32 a) (hn : I32 n) (w : World) (hj : Sx.J w) :
    Calls Tryd.prog 15 #[.int .i32 a, .int .i32 n] w fun e w' => (∃ c, e = .returned (.tuple #[.int .i32 (powR a n), .int .i64 c])) ∧ I32 (powR a n) ∧ Below w.heap.size w w' := by
  refine (Sx.pure_pow (by first | exact Sx.v33 | exact Sx.v57) Sx.p_pow [.int .i32 a, .int .i32 n] ⟨_, _, rfl, ⟨a, rfl, ha⟩, _, _, rfl, ⟨n, rfl, hn⟩, rfl⟩ trivial w hj).mono ?_
  rintro e w' ⟨v, rfl, ⟨hf, hpost⟩, hs⟩
  obtain ⟨vs, rfl, hv⟩ := hf
  obtain ⟨_, _, rfl, ⟨x, rfl, hx⟩, _, _, rfl, ⟨c, rfl, hc⟩, rfl⟩ := hv
  have : Sx.powTo a n x c := hpost
  obtain rfl := powR_of this
  exact ⟨⟨c, rfl⟩, hx, hs.1⟩
end Go.Proofs.YtogcbmadcgjljaaDoor

/-
  Curves: the ends of a power, one after the other.
-/
set_option linter.all false
namespace Go.Proofs.YtogcbmadcgjljaaDoor
open Go.RowKit
attribute [local go_sem] Oper.semAt_some

/-- the fixes that a slice holds. -/
def Fixs (n₀ : Nat) (W : World) (a : Option Addr) (len : Nat) (xs : List Int) : Prop :=
  len = xs.length ∧ (xs = [] ∨ ∃ b off, a = some ⟨b, off, none⟩ ∧ b < n₀ ∧ ∀ j, j < xs.length → W.cell? ⟨b, off + j, none⟩ = some (.int .i32 (xs[j]?.getD 0)))
theorem Fixs.below {n₀ : Nat} {A B : World} (h : Below n₀ A B) {a : Option Addr} {len : Nat} {xs : List Int} (hf : Fixs n₀ A a len xs) : Fixs n₀ B a len xs := by
  obtain ⟨h1, h2 | ⟨b, off, e, hb, hc⟩⟩ := hf
  · exact ⟨h1, .inl h2⟩
  · exact ⟨h1, .inr ⟨b, off, e, hb, fun j hj => (h.cell (p := ⟨b, off + j, none⟩) hb).trans (hc j hj)⟩⟩
def upto {α : Type} (f : Nat → α) (k : Nat) : List α := (List.range k).map f
theorem upto_succ {α : Type} (f : Nat → α) (k : Nat) : upto f (k + 1) = upto f k ++ [f k] := by simp [upto, List.range_succ]
theorem upto_length {α : Type} (f : Nat → α) (k : Nat) : (upto f k).length = k := by simp [upto]

/-- what a round keeps: what lay, and the box of the function's argument. -/
def Kp (n₀ Bf : Nat) (A B : World) : Prop := Below n₀ A B ∧ B.heap[Bf]? = A.heap[Bf]?
theorem Kp.refl (n₀ Bf : Nat) (A : World) : Kp n₀ Bf A A := ⟨Below.refl _ _, rfl⟩
theorem Kp.trans {n₀ Bf : Nat} {A B C : World} (h : Kp n₀ Bf A B) (k : Kp n₀ Bf B C) : Kp n₀ Bf A C := ⟨h.1.trans k.1, k.2.trans h.2⟩
theorem Kp.cell {n₀ Bf : Nat} {A B : World} (h : Kp n₀ Bf A B) (i : Nat) : B.cell? ⟨Bf, i, none⟩ = A.cell? ⟨Bf, i, none⟩ := by
  simp [World.cell?, h.2]

/-- the pairs that come, one after the other. -/
def pr (xs ys : List Int) (j : Nat) : Int × Int := (xs[j]?.getD 0, ys[j]?.getD 0)
abbrev PI := { x : Int × Int // I32 x.1 ∧ I32 x.2 }
def prI (xs ys : List Int) (hbd : ∀ j : Nat, I32 (xs[j]?.getD 0) ∧ I32 (ys[j]?.getD 0)) (j : Nat) : PI := ⟨(xs[j]?.getD 0, ys[j]?.getD 0), hbd j⟩
theorem upto_map {α β : Type} (f : Nat → α) (g : α → β) (k : Nat) : (upto f k).map g = upto (fun j => g (f j)) k := by simp [upto]
set_option maxRecDepth 100000 in
set_option maxHeartbeats 2000000 in
theorem ends1_many (F : Fence) (n : Nat) (hF : F.fn 30) (hro : F.round = none) (hn : 1 ≤ n) (l Bf n₀ b0 o0 b1 o1 len c0 c1 : Nat) (xs ys : List Int) (h8 : len ≤ 8) (hpos : 0 < len) (hb0 : b0 < n₀) (hb1 : b1 < n₀) (hbd : ∀ j : Nat, I32 (xs[j]?.getD 0) ∧ I32 (ys[j]?.getD 0)) (J Jx : List PI → World → Prop)
    (hY : ∀ pre x W, J pre W → pre.length < len → YieldAt F (n - 1) Tryd.prog l #[.int .i32 x.1.1, .int .i32 x.1.2] W fun e W' =>
      (e = .returned (.bool true) ∧ J (pre ++ [x]) W' ∧ Kp n₀ Bf W W') ∨ (e = .returned (.bool false) ∧ Jx (pre ++ [x]) W'))
    (W : World) (hB8 : W.cell? ⟨Bf, 8, none⟩ = some (.slice (some ⟨b0, o0, none⟩) len c0)) (hB9 : W.cell? ⟨Bf, 9, none⟩ = some (.slice (some ⟨b1, o1, none⟩) len c1))
    (hx : ∀ j, j < len → W.cell? ⟨b0, o0 + j, none⟩ = some (.int .i32 (xs[j]?.getD 0))) (hy : ∀ j, j < len → W.cell? ⟨b1, o1 + j, none⟩ = some (.int .i32 (ys[j]?.getD 0))) (h0 : J [] W) :
    CallsIn F n Tryd.prog 30 #[.func (.yield l) #[] #[], .pointer (some ⟨Bf, 0, none⟩)] W fun e W' => (∃ v, e = .returned v) ∧
      ((∃ zs, zs = upto (prI xs ys hbd) len ∧ J zs W') ∨ (∃ pre, (∃ k, k ≤ len ∧ pre = upto (prI xs ys hbd) k) ∧ Jx pre W')) := by
  refine callsIn_of_wp Tryd.func30 rfl hF ?_ hro
  simp only [Tryd.ntmps30, List.size_toArray, List.length_cons, List.length_nil, Nat.reduceAdd, Nat.reduceSub, Array.replicate_succ, Array.replicate_zero, List.push_toArray, List.append_toArray, List.nil_append, List.cons_append]
  have hz : ((len : Int) + len == 0) = false := by simp; omega
  gi_wp2
  gi_loopw [18] (fun i wr => ∃ k : Nat, k ≤ len ∧ i = .int .i64 k ∧ J (upto (prI xs ys hbd) k) wr ∧ Kp n₀ Bf W wr)
    (fun i _ => len - (intOf i).toNat)
  case atStart => exact ⟨0, Nat.zero_le _, rfl, h0, Kp.refl _ _ _⟩
  case round =>
    obtain ⟨k, hk, rfl, hJs, hnx⟩ := hrel
    have hcx : k < len → wr.cell? ⟨b0, o0 + k, none⟩ = some (.int .i32 (xs[k]?.getD 0)) := fun h => (hnx.1.cell (p := ⟨b0, o0 + k, none⟩) hb0).trans (hx k h)
    have hcy : k < len → wr.cell? ⟨b1, o1 + k, none⟩ = some (.int .i32 (ys[k]?.getD 0)) := fun h => (hnx.1.cell (p := ⟨b1, o1 + k, none⟩) hb1).trans (hy k h)
    have hB9' := (hnx.cell 9).trans hB9
    by_cases hlt : k < len
    · obtain ⟨fn, tmps, assign, body, hyy, hR⟩ := hY _ (prI xs ys hbd k) wr hJs (by rw [upto_length]; exact hlt)
      dsimp only [prI] at hyy
      have hcx' := hcx hlt
      have hcy' := hcy hlt
      gi_wp2
      refine hR.mono ?_
      rintro e W3 (⟨rfl, hJ3, hk3⟩ | ⟨rfl, hJx3⟩)
      · gi_wp2
        go_roundw
        case rel => exact ⟨k + 1, by omega, by simp, by rw [upto_succ]; exact hJ3, hnx.trans hk3⟩
        case measure => simp [intOf]; omega
      · gi_wp2
        refine bodyPost_ret (results_none rfl _ _ _) rfl ?_
        exact ⟨⟨_, rfl⟩, .inr ⟨_, ⟨k + 1, by omega, (upto_succ _ _).symm⟩, hJx3⟩⟩
    · obtain rfl : k = len := by omega
      gi_wp2
      go_end0
      exact ⟨⟨_, rfl⟩, .inl ⟨_, rfl, hJs⟩⟩
def pi0 : PI := ⟨(0, 65536), by unfold I32; omega, by unfold I32; omega⟩
set_option maxRecDepth 100000 in
set_option maxHeartbeats 2000000 in
theorem ends1_none (F : Fence) (n : Nat) (hF : F.fn 30) (hro : F.round = none) (hn : 1 ≤ n) (l Bf n₀ c0 c1 : Nat) (a0 a1 : Option Addr) (J Jx : List PI → World → Prop)
    (hY : ∀ pre x W, J pre W → pre.length < 8 → YieldAt F (n - 1) Tryd.prog l #[.int .i32 x.1.1, .int .i32 x.1.2] W fun e W' =>
      (e = .returned (.bool true) ∧ J (pre ++ [x]) W' ∧ Kp n₀ Bf W W') ∨ (e = .returned (.bool false) ∧ Jx (pre ++ [x]) W'))
    (W : World) (hB8 : W.cell? ⟨Bf, 8, none⟩ = some (.slice a0 0 c0)) (hB9 : W.cell? ⟨Bf, 9, none⟩ = some (.slice a1 0 c1)) (h0 : J [] W) :
    CallsIn F n Tryd.prog 30 #[.func (.yield l) #[] #[], .pointer (some ⟨Bf, 0, none⟩)] W fun e W' => (∃ v, e = .returned v) ∧
      (J [pi0] W' ∨ Jx [pi0] W') := by
  refine callsIn_of_wp Tryd.func30 rfl hF ?_ hro
  simp only [Tryd.ntmps30, List.size_toArray, List.length_cons, List.length_nil, Nat.reduceAdd, Nat.reduceSub, Array.replicate_succ, Array.replicate_zero, List.push_toArray, List.append_toArray, List.nil_append, List.cons_append]
  obtain ⟨fn, tmps, assign, body, hyy, hR⟩ := hY [] pi0 W h0 (by decide)
  dsimp only [pi0] at hyy
  gi_wp2
  refine hR.mono ?_
  rintro e W3 (⟨rfl, hJ3, hk3⟩ | ⟨rfl, hJx3⟩)
  · gi_wp2
    refine bodyPost_ret (results_none rfl _ _ _) rfl ?_
    exact ⟨⟨_, rfl⟩, .inl hJ3⟩
  · gi_wp2
    refine bodyPost_ret (results_none rfl _ _ _) rfl ?_
    exact ⟨⟨_, rfl⟩, .inr hJx3⟩
/-- the ends of a power. -/
def endsL (xs ys : List Int) : List (Int × Int) := if xs.length + ys.length = 0 then [(0, 65536)] else upto (pr xs ys) xs.length
theorem endsL_len {xs ys : List Int} {m : Nat} (hx : m = xs.length) (hy : m = ys.length) : (endsL xs ys).length = max (max m m) 1 := by
  unfold endsL
  split
  · simp; omega
  · rw [upto_length]; omega

theorem ends1_stops (n : Nat) (hn : 1 ≤ n) (Bf n₀ p0 p1 m : Nat) (a0 a1 : Option Addr) (xs ys : List Int) (h8 : m ≤ 8) (hbd : ∀ j : Nat, I32 (xs[j]?.getD 0) ∧ I32 (ys[j]?.getD 0)) (w : World) (hBf : Bf < w.heap.size) (hn0 : n₀ ≤ w.heap.size)
    (hB8 : w.cell? ⟨Bf, 8, none⟩ = some (.slice a0 m p0)) (hB9 : w.cell? ⟨Bf, 9, none⟩ = some (.slice a1 m p1)) (h0 : Fixs n₀ w a0 m xs) (h1 : Fixs n₀ w a1 m ys) :
    SeqStopsK Fence.wide n Tryd.prog 30 #[.pointer (some ⟨Bf, 0, none⟩)] (fun x : PI => #[Value.int .i32 x.1.1, Value.int .i32 x.1.2]) (Kp n₀ Bf) (fun zs => zs.map (·.1) = endsL xs ys) (fun _ => True) 8 w := fun l J Jx W hW _ _ hY hj => by
  have hB8' := (hW.cell (p := ⟨Bf, 8, none⟩) hBf).trans hB8
  have hB9' := (hW.cell (p := ⟨Bf, 9, none⟩) hBf).trans hB9
  obtain ⟨e0, h0⟩ := h0.below (hW.mono hn0)
  obtain ⟨e1, h1⟩ := h1.below (hW.mono hn0)
  by_cases hm : m = 0
  · subst hm
    refine (ends1_none Fence.wide n trivial rfl hn l Bf n₀ p0 p1 a0 a1 J Jx hY W hB8' hB9' hj).mono ?_
    rintro e W' ⟨hv, h | h⟩
    · exact ⟨hv, .inl ⟨_, by unfold endsL; rw [if_pos (by omega)]; rfl, h⟩⟩
    · exact ⟨hv, .inr ⟨_, trivial, h⟩⟩
  · obtain ⟨b0, o0, rfl, hb0, hc0⟩ := h0.resolve_left (by rintro rfl; simp at e0; omega)
    obtain ⟨b1, o1, rfl, hb1, hc1⟩ := h1.resolve_left (by rintro rfl; simp at e1; omega)
    refine (ends1_many Fence.wide n trivial rfl hn l Bf n₀ b0 o0 b1 o1 m p0 p1 xs ys h8 (by omega) hb0 hb1 hbd J Jx (fun pre x W h hl => hY pre x W h (by omega)) W hB8' hB9' (by rw [e0]; exact hc0) (by rw [e1]; exact hc1) hj).mono ?_
    rintro e W' ⟨hv, ⟨zs, rfl, h⟩ | ⟨pre, _, h⟩⟩
    · exact ⟨hv, .inl ⟨_, by unfold endsL; rw [if_neg (by omega), ← e0]; exact upto_map _ _ _, h⟩⟩
    · exact ⟨hv, .inr ⟨_, trivial, h⟩⟩

/-- the law of a loop over a function, at the wide fence; what the assignment leaves is told by what stood there. -/
theorem range_w {P : Program} {n : Nat} {α : Type} {g : Operand} {ps : Array Tmp} {assign body : Code} {Q : Exit → Act → World → Prop} {a : Act} {w : World}
    (h1 : 1 ≤ n) {gf : Nat} {lb : Array Value} (hg : a.eval g = .func (.func gf) #[] lb) (eg : ∀ args w, (callFunc gf args).run P w = .ok (.enter gf args) w)
    {encs : α → Array Value} {Kp : World → World → Prop} {S Sp : List α → Prop} {N : Nat} {w0 : World} (hseq : SeqStopsK Fence.wide (n - 1) P gf lb encs Kp S Sp N w0)
    (hKt : ∀ {A B C : World}, Kp A B → Kp B C → Kp A C) (hKb : ∀ (W : World) (l : Nat) (o o' : Obj), w.heap.size ≤ l → W.heap[l]? = some o → o.isCells = false → o.isWalk = false → Kp W (W.putObj l o')) (hb0 : Below w0.heap.size w0 w) (hps : ∀ x, (encs x).size = ps.size)
    (I : List α → World → Prop) (hI : OwnFrom w.heap.size I) (h0 : I [] w) (A1 : Act → α → Act)
    (hassign : ∀ (l : Nat) (x : α) (W : World) (K : Act → World → Prop), K (A1 a x) W →
      assign.wpIn (Fence.wide.inRound l) (n - 1 - 1) P (Exit.then K (fun _ _ _ => False)) { tmps := (ps.zip (encs x)).foldl (fun t (p, v) => t.setIfInBounds p v) a.tmps, defers := [] } W)
    (hbody : ∀ (l : Nat) (pre : List α) (x : α) (W : World), I pre W → pre.length < N → body.wpIn (Fence.wide.inRound l) (n - 1 - 1) P (ownPostG w.heap.size Kp I (fun _ _ _ => False) (pre ++ [x]) W) (A1 a x) W)
    (hdone : ∀ (D : Nat) (xs : List α) (W : World), w.heap.size ≤ D → S xs → I xs W → W.heap[D]? = some (.deferred (some [])) → Q .normal { a with defers := { target := .collected D, args := #[] } :: a.defers } W) :
    (Code.rangeFunc g ps assign body).wp P Q a w :=
  wpIn_wide.1 (wpIn_rangeFunc_ownG (F := Fence.wide) (n := n) rfl h1 (gf := gf) (lb := lb) hg trivial eg hseq hKt hKb hb0 hps I (fun _ _ _ => False) hI (fun _ _ _ _ _ hs _ _ => hs) h0 (A1 a) hassign hbody hdone (fun _ _ _ _ _ _ h _ => h.elim))
end Go.Proofs.YtogcbmadcgjljaaDoor
