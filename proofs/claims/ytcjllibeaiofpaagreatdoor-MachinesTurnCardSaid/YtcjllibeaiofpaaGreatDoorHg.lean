/-
  Machines: Type, walked.
-/
import Derived.Test.YtcjllibeaiofpaaGreatDoorHa
set_option linter.all false
set_option maxRecDepth 100000
namespace Go.Proofs.YtcjllibeaiofpaaGreatDoor
open Go.RowKit Mach
theorem infoWay : (Tryz.prog.info? 68).map (fun i => (i.zero, i.size, i.bytes)) = some (some (.agg #[.bool false, .slice none 0 0]), 2, 32) := by kernel_rfl
structure TI (w V : World) (mb n : Nat) : Prop where
 b : Below w.heap.size w V
 kc : V.cell? ⟨w.heap.size, 0, none⟩ = some (.slice none 0 0)
 kz : V.frozen? ⟨w.heap.size, 0, none⟩ = false
 ec : V.cell? ⟨w.heap.size + 1, 0, none⟩ = some (.int .i64 0)
 ez : V.frozen? ⟨w.heap.size + 1, 0, none⟩ = false
 m : MapO oRd V mb n opG
 ml : w.heap.size + 1 < mb
 j : Sx.J V
theorem ti_of {w W V : World} {mb n : Nat} (hA : Below w.heap.size w W) (hB : Below W.heap.size W V) (kc : W.cell? ⟨w.heap.size, 0, none⟩ = some (.slice none 0 0)) (kz : W.frozen? ⟨w.heap.size, 0, none⟩ = false)
  (ec : W.cell? ⟨w.heap.size + 1, 0, none⟩ = some (.int .i64 0)) (ez : W.frozen? ⟨w.heap.size + 1, 0, none⟩ = false) (hM : MapO oRd V mb n opG) (hmb : W.heap.size <= mb) (hs : W.heap.size = w.heap.size + 1 + 1) (hj : Sx.J w) : TI w V mb n := by
 have k1 : w.heap.size < W.heap.size := by omega
 have k2 : w.heap.size + 1 < W.heap.size := by omega
 exact ⟨bstep hA hB, (hB.cell (p := ⟨w.heap.size, 0, none⟩) k1).trans kc, (hB.frozen (p := ⟨w.heap.size, 0, none⟩) k1).trans kz, (hB.cell (p := ⟨w.heap.size + 1, 0, none⟩) k2).trans ec, (hB.frozen (p := ⟨w.heap.size + 1, 0, none⟩) k2).trans ez, hM, by omega, Sx.J_kept (bstep hA hB) hj⟩
theorem TI.kB {w V V' : World} {mb n : Nat} (h : TI w V mb n) (hB : Below V.heap.size V V') : TI w V' mb n := by
 have hm := mapO_lt h.m
 have l1 := h.ml
 have k1 : w.heap.size < V.heap.size := by omega
 have k2 : w.heap.size + 1 < V.heap.size := by omega
 exact ⟨bstep h.b hB, (hB.cell (p := ⟨w.heap.size, 0, none⟩) k1).trans h.kc, (hB.frozen (p := ⟨w.heap.size, 0, none⟩) k1).trans h.kz, (hB.cell (p := ⟨w.heap.size + 1, 0, none⟩) k2).trans h.ec, (hB.frozen (p := ⟨w.heap.size + 1, 0, none⟩) k2).trans h.ez, mapO_of h.m (hB.block mb hm), l1, Sx.J_kept hB h.j⟩
theorem ti_set {w V : World} {er : Int} (hb : Below w.heap.size w V) : Below w.heap.size w ((V.setCell ⟨w.heap.size, 0, none⟩ (.slice none 0 0)).setCell ⟨w.heap.size + 1, 0, none⟩ (.int .i64 er)) :=
 (hb.setCell (p := ⟨w.heap.size, 0, none⟩) (Nat.le_refl _) _).setCell (p := ⟨w.heap.size + 1, 0, none⟩) (Nat.le_succ _) _
set_option maxHeartbeats 8000000 in
theorem type_e1 (c : List Cod) (ins : Nat) (ad : Option Addr) (cap : Nat) (w : World) (hi : ins <= 2000) (hl : c.length <= 2000) (hj : Sx.J w) (h100 : 100 < ins) :
  Calls Tryz.prog 11 #[.slice ad c.length cap, .int .i64 ins] w (TypeP c ins w) := by
 have hmf : ∀ (fn : Fn) (first cap : Array Value) (w : World), (Instr.makeFunc fn first cap).run Tryz.prog w = .ok (.func fn first cap) w := fun _ _ _ _ => rfl
 have hA := ((Below.refl w.heap.size w).alloc (Nat.le_refl _) (.cells #[.slice none 0 0] 25)).alloc (by simp) (.cells #[.int .i64 0] 26)
 have HT := Lib.hid (show typeW NN c ins = .error 1 by unfold typeW; rw [if_pos h100])
 have h1 : ¬ ((ins : Int) <= 100) := by omega
 go_enter_defers Tryz.func11, Tryz.ntmps11
 go_wp2_with (go_at_call 23; refine (ops_any _).mono ?_; rintro e w2 ⟨mb, n, rfl, hM, hB2, hmb⟩; have hT := ti_of hA hB2 (by simp [go_sem]) (by simp [go_sem]) (by simp [go_sem]) (by simp [go_sem]) hM hmb (by simp) hj; have k0 := hT.kc; have z0 := hT.kz; have k1 := hT.ec; have z1 := hT.ez; clear hM hmb)
 simp [bodyPostD, Leaves, settle, results, Tryz.results11, go_sem, k0, k1, z0, z1]
 exact typeP_err HT.out (ti_set hT.b)
set_option maxHeartbeats 8000000 in
theorem type_e2 (c : List Cod) (ins : Nat) (ad : Option Addr) (cap : Nat) (w : World) (hi : ins <= 2000) (hl : c.length <= 2000) (hj : Sx.J w) (h100 : ins <= 100) (hL : 1024 < c.length) :
  Calls Tryz.prog 11 #[.slice ad c.length cap, .int .i64 ins] w (TypeP c ins w) := by
 have hmf : ∀ (fn : Fn) (first cap : Array Value) (w : World), (Instr.makeFunc fn first cap).run Tryz.prog w = .ok (.func fn first cap) w := fun _ _ _ _ => rfl
 have hA := ((Below.refl w.heap.size w).alloc (Nat.le_refl _) (.cells #[.slice none 0 0] 25)).alloc (by simp) (.cells #[.int .i64 0] 26)
 have HT := Lib.hid (show typeW NN c ins = .error 3 by unfold typeW; rw [if_neg (by omega), if_pos hL])
 have h1 : ((ins : Int) <= 100) := by omega
 have h2 : ¬ ((c.length : Int) <= 1024) := by omega
 go_enter_defers Tryz.func11, Tryz.ntmps11
 go_wp2_with (go_at_call 23; refine (ops_any _).mono ?_; rintro e w2 ⟨mb, n, rfl, hM, hB2, hmb⟩; have hT := ti_of hA hB2 (by simp [go_sem]) (by simp [go_sem]) (by simp [go_sem]) (by simp [go_sem]) hM hmb (by simp) hj; have k0 := hT.kc; have z0 := hT.kz; have k1 := hT.ec; have z1 := hT.ez; clear hM hmb)
 simp [bodyPostD, Leaves, settle, results, Tryz.results11, go_sem, k0, k1, z0, z1]
 exact typeP_err HT.out (ti_set hT.b)
set_option maxHeartbeats 8000000 in
theorem type_e3 (c : List Cod) (ins : Nat) (ad : Option Addr) (cap : Nat) (w : World) (hi : ins <= 2000) (hl : c.length <= 2000) (hj : Sx.J w) (h100 : ins <= 100) (hL : c.length <= 1024) (hc : Cods w.heap.size w ad c) (hok : CodOk c) (hF : formed c.length 0 c = false) :
  Calls Tryz.prog 11 #[.slice ad c.length cap, .int .i64 ins] w (TypeP c ins w) := by
 have hmf : ∀ (fn : Fn) (first cap : Array Value) (w : World), (Instr.makeFunc fn first cap).run Tryz.prog w = .ok (.func fn first cap) w := fun _ _ _ _ => rfl
 have hA := ((Below.refl w.heap.size w).alloc (Nat.le_refl _) (.cells #[.slice none 0 0] 25)).alloc (by simp) (.cells #[.int .i64 0] 26)
 have HT := Lib.hid (show typeW NN c ins = .error 4 from type_unformed h100 hL hF)
 have h1 : ((ins : Int) <= 100) := by omega
 have h2 : ((c.length : Int) <= 1024) := by omega
 have HC := Lib.hid hc
 have HOK := Lib.hid hok
 clear hc hok
 go_enter_defers Tryz.func11, Tryz.ntmps11
 go_wp2_with (first | (go_at_call 23; refine (ops_any _).mono ?_; rintro e w2 ⟨mb, n, rfl, hM, hB2, hmb⟩; have hT := ti_of hA hB2 (by simp [go_sem]) (by simp [go_sem]) (by simp [go_sem]) (by simp [go_sem]) hM hmb (by simp) hj; have k0 := hT.kc; have z0 := hT.kz; have k1 := hT.ec; have z1 := hT.ez; clear hM hmb) | (go_at_call 24; refine (formed_any c ad c.length cap mb n _ rfl (HC.out.on hT.b) HOK.out hT.m hl).mono ?_; rintro e w3 ⟨rfl, hB3⟩; rw [hF]; replace hT := hT.kB hB3; replace k0 := hT.kc; replace z0 := hT.kz; replace k1 := hT.ec; replace z1 := hT.ez))
 simp [bodyPostD, Leaves, settle, results, Tryz.results11, go_sem, k0, k1, z0, z1]
 exact typeP_err HT.out (ti_set hT.b)
theorem made_way (n j : Nat) (h : j < n) : (madeCells (Value.agg #[.bool false, .slice none 0 0]).cells (n * 2))[j * 2]? = some (.bool false) /\ (madeCells (Value.agg #[.bool false, .slice none 0 0]).cells (n * 2))[j * 2 + 1]? = some (.slice none 0 0) := by
 have hc : (Value.agg #[.bool false, .slice none 0 0]).cells = #[.bool false, .slice none 0 0] := rfl
 have h0 : j * 2 < n * 2 := by omega
 have h1 : j * 2 + 1 < n * 2 := by omega
 constructor
 ·simp only [madeCells, hc]
  simp [h0]
 ·simp only [madeCells, hc]
  simp [h1]
theorem te_new {w V : World} {mb n : Nat} (h : TI w V mb n) (len : Nat) : TE w (V.alloc (.cells (madeCells (Value.agg #[.bool false, .slice none 0 0]).cells ((len + 1) * 2)) 68)) mb V.heap.size len n (fun _ => none) := by
 have hm := mapO_lt h.m
 have l1 := h.ml
 have h2 := h.kB (V' := V.alloc (.cells (madeCells (Value.agg #[.bool false, .slice none 0 0]).cells ((len + 1) * 2)) 68)) ((Below.refl _ _).alloc (Nat.le_refl _) _)
 refine ⟨h2.b, h2.kc, h2.kz, h2.ec, h2.ez, h2.m, fun j hj => ?_, fun i => by simp [go_sem], l1, hm, by simp, fun j s e => (by cases e), h2.j⟩
 obtain ⟨m1, m2⟩ := made_way (len + 1) j (by omega)
 exact ⟨by simp only [World.cell?, World.alloc]; simp [m1], by simp only [World.cell?, World.alloc]; simp [m2]⟩
theorem StkAt.lo {lo lo' : Nat} {V : World} {s : Value} {cs : List Cel} (h : StkAt lo V s cs) (hl : lo' <= lo) : StkAt lo' V s cs := by
 obtain ⟨ad, cap, e, hn, hc⟩ := h
 refine ⟨ad, cap, e, hn, ?_⟩
 rcases hc with rfl | ⟨b, off, rfl, h1, h2, h3⟩
 ·exact .inl rfl
 ·exact .inr ⟨b, off, rfl, by omega, h2, h3⟩
theorem start_set (ins : Nat) : Ways.set (fun _ => none) 0 (some (List.replicate ins (real 0))) = Mach.start ins := rfl
theorem leaves_tmps {P : Program} {fn : Func} {R : Ending -> World -> Prop} {t t' : Array Value} (h : results fn t = results fn t') : ∀ (ds : List Deferred) (u : FrameMode) (w : World), Leaves P fn t R ds u w -> Leaves P fn t' R ds u w
 | [], .returning, w, hl => by unfold Leaves at hl ⊢; rw [<- h]; exact hl
 | [], .panicking _, w, hl => hl
 | [], .run, w, hl => hl
 | d :: ds, u, w, hl => by
  obtain ⟨h1, fv, cap, f, args, h2, h3, h4⟩ := hl
  refine ⟨h1, fv, cap, f, args, h2, h3, h4.mono ?_⟩
  intro e u' w' he
  cases e with
  | returned v => exact leaves_tmps h ds _ _ he
  | panicked c => exact leaves_tmps h ds _ _ he
  | outgrown => exact he
theorem pan_put {R : Ending -> World -> Prop} {c : List PanicEntry} {a : Act} {w : World} {v : Value} {d : Nat} (h4 : d ≠ 4) (h5 : d ≠ 5) (h : bodyPostD Tryz.prog Tryz.f11 R (.panic c) (a.put (some d) v) w) : bodyPostD Tryz.prog Tryz.f11 R (.panic c) a w := by
 have e : results Tryz.f11 (a.put (some d) v).tmps = results Tryz.f11 a.tmps := by
  have g : ∀ i, d ≠ i -> (if h : i < a.tmps.size then (a.tmps.setIfInBounds d v)[i]'(by simpa using h) else undef) = (if h : i < a.tmps.size then a.tmps[i] else undef) := fun i hi => by
   by_cases c : i < a.tmps.size
   ·rw [dif_pos c, dif_pos c, Array.getElem_setIfInBounds, if_neg hi]
   ·rw [dif_neg c, dif_neg c]
  simp [results, Tryz.f11, Act.put, Array.getD]
  rw [g 4 h4, g 5 h5]
 exact leaves_tmps e _ _ _ h
structure PE (w V : World) : Prop where
 b : Below w.heap.size w V
 kc : V.cell? ⟨w.heap.size, 0, none⟩ = some (.slice none 0 0)
 kz : V.frozen? ⟨w.heap.size, 0, none⟩ = false
 ec : V.cell? ⟨w.heap.size + 1, 0, none⟩ = some (.int .i64 0)
 ez : V.frozen? ⟨w.heap.size + 1, 0, none⟩ = false
theorem TE.pe {w V V' : World} {mb wb len n p : Nat} {W : Ways} (h : TE w V mb wb len n W) (hr : Wrt V V' wb p) : PE w V' := by
 have l1 := h.ml
 have l2 := h.mw
 have l3 := h.wl
 have k1 : w.heap.size < V.heap.size := by omega
 have k2 : w.heap.size + 1 < V.heap.size := by omega
 exact ⟨⟨hr.os.trans h.b.os, hr.tape.trans h.b.tape, hr.output.trans h.b.output, Nat.le_trans h.b.size hr.size, fun k hk => (hr.block k (Nat.lt_of_lt_of_le hk h.b.size) (by omega)).trans (h.b.block k hk)⟩,
  (World.cell?_of_block (w := V) (a := ⟨w.heap.size, 0, none⟩) (hr.block _ k1 (by show w.heap.size ≠ wb; omega))).trans h.kc, (World.frozen?_of_block (w := V) (a := ⟨w.heap.size, 0, none⟩) (hr.block _ k1 (by show w.heap.size ≠ wb; omega))).trans h.kz,
  (World.cell?_of_block (w := V) (a := ⟨w.heap.size + 1, 0, none⟩) (hr.block _ k2 (by show w.heap.size + 1 ≠ wb; omega))).trans h.ec, (World.frozen?_of_block (w := V) (a := ⟨w.heap.size + 1, 0, none⟩) (hr.block _ k2 (by show w.heap.size + 1 ≠ wb; omega))).trans h.ez⟩
def RB (cb wb p mb n : Nat) (op xn : Int) (s F : Value) (V : World) : Prop :=
 ((V.cell? ⟨cb, 0, none⟩ = some (.int .u8 op) /\ V.cell? ⟨cb, 1, none⟩ = some (.int .i32 xn)) /\ V.cell? ⟨wb, p, none⟩ = some s /\ (Instr.lookup 62 (.map (some mb)) (.int .u8 op) false).run Tryz.prog V = .ok F V) /\ cb < V.heap.size /\ wb < V.heap.size /\ MapO oRd V mb n opG
theorem RB.kB {cb wb p mb n : Nat} {op xn : Int} {s F : Value} {V V' : World} (lk : ∀ V, MapO oRd V mb n opG -> (Instr.lookup 62 (.map (some mb)) (.int .u8 op) false).run Tryz.prog V = .ok F V) (h : RB cb wb p mb n op xn s F V) (hB : Below V.heap.size V V') : RB cb wb p mb n op xn s F V' := by
 obtain ⟨⟨⟨a1, a2⟩, a3, a4⟩, a5, a6, a7⟩ := h
 have m2 := mapO_of a7 (hB.block mb (mapO_lt a7))
 exact ⟨⟨⟨(hB.cell (p := ⟨cb, 0, none⟩) a5).trans a1, (hB.cell (p := ⟨cb, 1, none⟩) a5).trans a2⟩, (hB.cell (p := ⟨wb, p, none⟩) a6).trans a3, lk _ m2⟩, Nat.lt_of_lt_of_le a5 hB.size, Nat.lt_of_lt_of_le a6 hB.size, m2⟩
theorem stk_row {V : World} {base m : Nat} {v : Value} {l : List Cel} (h : V.ownsRow base 72 3 v m (fl l)) (hm : m = l.length) : ∃ a cap, v = .slice a l.length cap /\ StkAt base V (.slice a l.length cap) l := by
 obtain ⟨a, cap, rfl, hn, _, _⟩ := row_shape h
 subst hm
 refine ⟨a, cap, rfl, a, cap, rfl, hn, ?_⟩
 rcases row_form h with e | ⟨g, e, hg, hB⟩
 ·left
  exact List.eq_nil_of_length_eq_zero (hn e).1
 ·exact .inr ⟨g, 0, e, hg, hB.l, fun j u hu => by rw [Nat.zero_add]; exact hB.c j u hu⟩
theorem formed_goes {len k : Nat} {op xn : Int} (h : formedAt len k ⟨op, xn⟩ = true) (hg : op = 3 \/ op = 4) : ∃ t : Nat, xn = t /\ k < t /\ t <= len := by
 have g : goes ⟨op, xn⟩ = true := by simp [goes, hg]
 simp only [formedAt, g, Bool.not_true, Bool.false_or, Bool.and_eq_true, decide_eq_true_eq] at h
 exact ⟨xn.toNat, by omega, by omega, by omega⟩
theorem formed_tab {len k : Nat} {x : Cod} (h : formedAt len k x = true) : ∃ t cl, opTab x.op = some (t, cl) := by
 simp only [formedAt, Bool.and_eq_true] at h
 match ho : opTab x.op with
 | none => rw [ho] at h; cases h.1
 | some p => exact ⟨p.1, p.2, rfl⟩
theorem type_loop {c : List Cod} {ins : Nat} (h100 : ins <= 100) (hL : c.length <= 1024) (hF : formed c.length 0 c = true) : (∀ er, loopT NN 0 c (Mach.start ins) = .error er -> typeW NN c ins = .error er) /\ ∀ W, loopT NN 0 c (Mach.start ins) = .ok W -> ∃ s, typeW NN c ins = .ok s /\ W c.length = some s := by
 constructor
 ·intro er h; rw [type_of h100 hL hF, h]; rfl
 ·intro W h
  have ht : typeW NN c ins = .ok ((W c.length).getD []) := by rw [type_of h100 hL hF, h]; rfl
  obtain ⟨_, _, _, We, e1, e2⟩ := type_ok ht
  rw [h] at e1
  cases e1
  exact ⟨_, ht, e2⟩
theorem infoKind : (Tryz.prog.info? 32).map (fun i => (i.zero, i.size, i.bytes)) = some (some (.int .u8 0), 1, 1) := by kernel_rfl
def kvs (s : List Cel) : List Value := s.map fun a => Value.int .u8 a.k
structure KK (w Vs V : World) (wb B0 : Nat) (vk : Value) (k : Nat) (s : List Cel) : Prop where
 b : Below w.heap.size w V
 kc : V.cell? ⟨w.heap.size, 0, none⟩ = some vk
 kz : V.frozen? ⟨w.heap.size, 0, none⟩ = false
 ec : V.cell? ⟨w.heap.size + 1, 0, none⟩ = some (.int .i64 0)
 ez : V.frozen? ⟨w.heap.size + 1, 0, none⟩ = false
 o : V.ownsRow B0 32 1 vk k (kvs (s.take k))
 s : ∀ i, wb <= i -> i < B0 -> V.heap[i]? = Vs.heap[i]?
 l : B0 <= V.heap.size
 w1 : w.heap.size + 1 < wb
 w2 : wb < B0
theorem kk_new {w Vs : World} {mb wb len n : Nat} {W : Ways} {s : List Cel} (h : TE w Vs mb wb len n W) : KK w Vs Vs wb Vs.heap.size (.slice none 0 0) 0 s :=
 ⟨h.b, h.kc, h.kz, h.ec, h.ez, ⟨rfl, .inl ⟨rfl, rfl⟩⟩, fun _ _ _ => rfl, Nat.le_refl _, by have := h.ml; have := h.mw; omega, h.wl⟩
theorem kk_blk {w Vs V V1 V2 : World} {wb B0 k : Nat} {vk : Value} {s : List Cel} (h : KK w Vs V wb B0 vk k s) (hB : Below V.heap.size V V1) (hg : V1.grownBy V2 vk.ownBlock) : V2.heap[w.heap.size]? = V.heap[w.heap.size]? := by
 have w1 := h.w1
 have w2 := h.w2
 have l := h.l
 have hs1 := hB.size
 exact (hg.block _ (by omega) (fun q => by have := (own_lt h.o _ q.symm).2; omega)).trans (hB.block _ (by omega))
theorem kk_step {w Vs V V1 V2 : World} {wb B0 k : Nat} {vk v2 : Value} {s : List Cel} {a : Cel} (h : KK w Vs V wb B0 vk k s) (ha : s[k]? = some a) (hB : Below V.heap.size V V1) (ho : V2.ownsRow B0 32 1 v2 (k + 1) (kvs (s.take k) ++ [.int .u8 a.k])) (hg : V1.grownBy V2 vk.ownBlock) :
  KK w Vs (V2.setCell ⟨w.heap.size, 0, none⟩ v2) wb B0 v2 (k + 1) s := by
 have w1 := h.w1
 have w2 := h.w2
 have l := h.l
 have hs1 := hB.size
 have hs2 := hg.size
 have own : ∀ g, vk.ownBlock = some g -> B0 <= g := fun g hg => (own_lt h.o g hg).2
 have blk : ∀ i, i < B0 -> i < V.heap.size -> V2.heap[i]? = V.heap[i]? := fun i hi hi2 => (hg.block i (by omega) (fun q => by have := own i q.symm; omega)).trans (hB.block i hi2)
 have k0 : w.heap.size < V.heap.size := by omega
 have k1 : w.heap.size + 1 < V.heap.size := by omega
 have c0 : V2.cell? ⟨w.heap.size, 0, none⟩ = some vk := (World.cell?_of_block (w := V) (a := ⟨w.heap.size, 0, none⟩) (blk _ (by show w.heap.size < B0; omega) k0)).trans h.kc
 have bb : Below w.heap.size w V2 := ⟨hg.os.trans (hB.os.trans h.b.os), hg.tape.trans (hB.tape.trans h.b.tape), hg.output.trans (hB.output.trans h.b.output), by have := h.b.size; omega, fun i hi => (blk i (by omega) (by have := h.b.size; omega)).trans (h.b.block i hi)⟩
 have oth : ∀ i, i ≠ w.heap.size -> (V2.setCell ⟨w.heap.size, 0, none⟩ v2).heap[i]? = V2.heap[i]? := fun i hi => Below.heap_setCell _ _ _ i hi
 refine ⟨bb.setCell (p := ⟨w.heap.size, 0, none⟩) (Nat.le_refl _) _, World.cell?_setCell_same' _ _ _ (by rw [c0]; rfl), ?_, ?_, ?_, ?_, fun i h1 h2 => (oth i (by omega)).trans ((blk i h2 (by omega)).trans (h.s i h1 h2)), by simp; omega, w1, w2⟩
 ·have : V2.frozen? ⟨w.heap.size, 0, none⟩ = false := (World.frozen?_of_block (w := V) (a := ⟨w.heap.size, 0, none⟩) (blk _ (by show w.heap.size < B0; omega) k0)).trans h.kz
  simp [this]
 ·exact (World.cell?_of_block (w := V2) (a := ⟨w.heap.size + 1, 0, none⟩) (oth _ (by show w.heap.size + 1 ≠ w.heap.size; omega))).trans ((World.cell?_of_block (w := V) (a := ⟨w.heap.size + 1, 0, none⟩) (blk _ (by show w.heap.size + 1 < B0; omega) k1)).trans h.ec)
 ·exact (World.frozen?_of_block (w := V2) (a := ⟨w.heap.size + 1, 0, none⟩) (oth _ (by show w.heap.size + 1 ≠ w.heap.size; omega))).trans ((World.frozen?_of_block (w := V) (a := ⟨w.heap.size + 1, 0, none⟩) (blk _ (by show w.heap.size + 1 < B0; omega) k1)).trans h.ez)
 ·have e : kvs (s.take (k + 1)) = kvs (s.take k) ++ [.int .u8 a.k] := by unfold kvs; rw [List.take_succ, ha]; simp
  rw [e]
  exact row_keep ho (fun g hg2 => oth g (by have := (own_lt ho g hg2).2; omega))
theorem stk_lo {lo m cap sb so : Nat} {V : World} {s : List Cel} (h : StkAt lo V (.slice (some ⟨sb, so, none⟩) m cap) s) (hs : s ≠ []) : lo <= sb := by
 obtain ⟨ad, cap', e, _, hc⟩ := h
 simp only [Value.slice.injEq] at e
 obtain ⟨rfl, _, _⟩ := e
 rcases hc with e | ⟨b, off, e, h1, _⟩
 ·exact absurd e hs
 ·cases e; exact h1
theorem kinds_row {V : World} {base lo k cap : Nat} {ad : Option Addr} {s : List Cel} (h : V.ownsRow base 32 1 (.slice ad k cap) k (kvs s)) (hk : k = s.length) (hb : lo <= base) : KindsAt lo V (.slice ad k k) (s.map (·.k)) := by
 subst hk
 obtain ⟨_, ⟨h2, h3⟩ | ⟨g, cap2, cur, h2, hg, hh, hc, hm, hs, ht⟩⟩ := h
 ·have : s = [] := List.eq_nil_of_length_eq_zero h3
  subst this
  simp only [Value.slice.injEq] at h2
  obtain ⟨rfl, _, _⟩ := h2
  exact ⟨none, 0, by simp, fun _ => ⟨rfl, rfl⟩, .inl rfl⟩
 ·simp only [Value.slice.injEq] at h2
  obtain ⟨rfl, _, rfl⟩ := h2
  refine ⟨some ⟨g, 0, none⟩, s.length, by simp, (fun e => by cases e), .inr ⟨g, 0, rfl, by omega, (Array.getElem?_eq_some_iff.1 hh).1, fun j x hx => ?_⟩⟩
  rw [List.getElem?_map] at hx
  obtain ⟨a, ha, rfl⟩ := Option.map_eq_some_iff.1 hx
  have hu : (kvs s)[j]? = some (.int .u8 a.k) := by unfold kvs; rw [List.getElem?_map, ha]; rfl
  rw [<- ht, List.getElem?_take] at hu
  split at hu
  ·rw [Nat.zero_add]
   simp [World.cell?, hh]
   rw [<- Array.getElem?_toList]
   exact hu
  ·cases hu
set_option maxHeartbeats 8000000 in
theorem type_main (c : List Cod) (ins : Nat) (ad : Option Addr) (cap : Nat) (w : World) (hi : ins <= 2000) (hl : c.length <= 2000) (hj : Sx.J w) (h100 : ins <= 100) (hL : c.length <= 1024) (hc : Cods w.heap.size w ad c) (hok : CodOk c) (hF : formed c.length 0 c = true) :
  Calls Tryz.prog 11 #[.slice ad c.length cap, .int .i64 ins] w (TypeP c ins w) := by
 have hmf : ∀ (fn : Fn) (first cap : Array Value) (w : World), (Instr.makeFunc fn first cap).run Tryz.prog w = .ok (.func fn first cap) w := fun _ _ _ _ => rfl
 have hA := ((Below.refl w.heap.size w).alloc (Nat.le_refl _) (.cells #[.slice none 0 0] 25)).alloc (by simp) (.cells #[.int .i64 0] 26)
 have h1 : ((ins : Int) <= 100) := by omega
 have h2 : ((c.length : Int) <= 1024) := by omega
 obtain ⟨i0, hin, hz0, hz1, hz2⟩ := info_parts infoWay
 have hmk : ∀ V : World, (Instr.makeSlice 65 (.int .i64 ((c.length : Int) + 1)) (.int .i64 ((c.length : Int) + 1))).run Tryz.prog V = .ok (.slice (some ⟨V.heap.size, 0, none⟩) (c.length + 1) (c.length + 1)) (V.alloc (.cells (madeCells (Value.agg #[.bool false, .slice none 0 0]).cells ((c.length + 1) * 2)) 68)) := by
  intro V
  have := run_make (P := Tryz.prog) V 65 68 i0 _ Tryz.underlying65 hin hz0 .i64 .i64 ((c.length : Int) + 1) ((c.length : Int) + 1) (by omega) (Int.le_refl _) (by rw [hz2]; omega) (by omega)
  rw [this, hz1]
  rw [show ((c.length : Int) + 1).toNat = c.length + 1 by omega]
 have HC := Lib.hid hc
 have HOK := Lib.hid hok
 have HF := Lib.hid hF
 clear hc hok
 go_enter_defers Tryz.func11, Tryz.ntmps11
 go_wp2_with (first | (go_at_call 23; refine (ops_any _).mono ?_; rintro e w2 ⟨mb, n, rfl, hM, hB2, hmb⟩; have hT := ti_of hA hB2 (by simp [go_sem]) (by simp [go_sem]) (by simp [go_sem]) (by simp [go_sem]) hM hmb (by simp) hj; have k0 := hT.kc; have z0 := hT.kz; have k1 := hT.ec; have z1 := hT.ez; clear hM hmb) | (go_at_call 24; refine (formed_any c ad c.length cap mb n _ rfl (HC.out.on hT.b) HOK.out hT.m hl).mono ?_; rintro e w3 ⟨rfl, hB3⟩; rw [hF]; replace hT := hT.kB hB3; replace k0 := hT.kc; replace z0 := hT.kz; replace k1 := hT.ec; replace z1 := hT.ez))
 have hE := (te_new hT c.length).kB (Below.refl _ _).drew
 clear hT k0 z0 k1 z1
 go_region_held3 (fun _ => True) (trivial)
  (first
   | (go_at_call 28; refine (real_any _ _).mono ?_; rintro e w4 ⟨rfl, hB4⟩; unfold cv; replace hE := hE.kB hB4)
   | (go_at_call 27; refine (repeat_any ins _ h100 _ (by simp [go_sem, real]) (by simp [go_sem, real]) (by simp [go_sem, real]) (by simp) (Sx.J_kept ((Below.refl _ _).alloc (Nat.le_refl _) _) hE.j)).mono ?_; rintro e w5 ⟨s5, rfl, hs5, hB5⟩; replace hE := (hE.kB ((Below.refl _ _).alloc (Nat.le_refl _) _)).kB hB5; obtain ⟨a5, c5, hs5e, hs5r⟩ := hs5; have hs6 : StkAt _ w5 (.slice a5 ins c5) (List.replicate ins (real 0)) := ⟨a5, c5, by rw [List.length_replicate], hs5r⟩; rw [List.length_replicate] at hs5e; subst hs5e)
   | (go_at_call 26; refine (comes_any _ _ 0 none (List.replicate ins (real 0)) _ _ _ _ (hE.ww 0 (Nat.zero_le _)) (hE.wz 0) (hE.wz 1) (Nat.lt_succ_self _) hE.wl (hs6.lo (by have := hB4.size; simp at this ⊢; omega)) (fun v e => by cases e) (by simp; omega)).mono ?_; rintro e w6 hP; obtain ⟨rfl, hW6, hr6⟩ := hP.1 _ rfl; replace hE := TE.kW hE (i := 0) hW6 hr6 (fun s e => by cases e; exact ⟨fun a ha => by obtain rfl := List.eq_of_mem_replicate ha; exact gd_real ⟨by decide, by decide⟩, by simp; omega⟩); rw [start_set] at hE))
 clear hF
 go_wp2
 generalize w3.heap.size = wb at hE ⊢
 go_loopw [44] (fun i V => ∃ (k : Nat) (W : Ways), k <= c.length /\ i = .int .i64 k /\ loopT NN 0 (c.take k) (Mach.start ins) = .ok W /\ TE w V mb wb c.length n W) (fun i _ => c.length - (intOf i).toNat)
 case atStart => exact ⟨0, _, by omega, rfl, rfl, hE⟩
 case round =>
  obtain ⟨k, W, hk, rfl, hLP, hE⟩ := hrel
  by_cases hlt : k < c.length
  ·obtain ⟨x, hx⟩ : ∃ x, c[k]? = some x := ⟨_, List.getElem?_eq_getElem hlt⟩
   obtain ⟨⟨x0, x1⟩, xj⟩ := HOK.out x (List.mem_of_getElem? hx)
   obtain ⟨b, off, rfl, hbl, hcells⟩ : ∃ b off, ad = some ⟨b, off, none⟩ /\ b < w.heap.size /\ ∀ j x, c[j]? = some x -> w.cell? ⟨b, off + j * 2, none⟩ = some (.int .u8 x.op) /\ w.cell? ⟨b, off + j * 2 + 1, none⟩ = some (.int .i32 x.n) := by
    rcases HC.out with e | h
    ·rw [e] at hx; simp at hx
    ·exact h
   have hbr : b < wr.heap.size := Nat.lt_of_lt_of_le hbl hE.b.size
   have c0 := (hE.b.cell (p := ⟨b, off + k * 2, none⟩) hbl).trans (hcells k x hx).1
   have c1 := (hE.b.cell (p := ⟨b, off + k * 2 + 1, none⟩) hbl).trans (hcells k x hx).2
   have hfa : formedAt c.length k x = true := by have := at_formed c 0 k HF.out hx; rwa [Nat.zero_add] at this
   obtain ⟨op, xn⟩ := x
   simp only at c0 c1 x0 x1 xj
   obtain ⟨t, cl, hop⟩ := formed_tab hfa
   simp only at hop
   have lk : ∀ V, MapO oRd V mb n opG -> (Instr.lookup 62 (.map (some mb)) (.int .u8 op) false).run Tryz.prog V = .ok (.agg #[.int .i64 t, .func (.func (fnOf cl)) #[] #[]]) V := fun V hM => ((look_op hM op x0 x1).1 t cl hop).2
   have HX := Lib.hid hx
   have HLP := Lib.hid hLP
   have HFA := Lib.hid hfa
   have HOP := Lib.hid hop
   have LK := Lib.hid lk
   clear hcells hx hLP hfa hop lk
   unfold J32 at xj
   obtain ⟨xj1, xj2⟩ := xj
   have hkw := hE.ww k hk
   have hkl : k < c.length + 1 := by omega
   have hkz : (k : Int) < (c.length : Int) + 1 := by omega
   have hwl := hE.wl
   match hW : W k with
   | none =>
    rw [hW] at hkw
    obtain ⟨q0, q1⟩ := hkw
    go_wp2
    go_roundw
    case rel => exact ⟨k + 1, W, by omega, by go_num, (loop_take HX.out HLP.out).trans (step_none hW), hE.kB ((Below.refl _ _).alloc (Nat.le_refl _) _)⟩
    case measure => simp [intOf]; omega
   | some s =>
    rw [hW] at hkw
    obtain ⟨q0, sv, q1, ax, cs', rfl, hsn, hsc⟩ := hkw
    have hS : StkAt (wb + 1) wr (.slice ax s.length cs') s := ⟨ax, cs', rfl, hsn, hsc⟩
    obtain ⟨hAll, h100s⟩ := hE.gd k s hW
    have HS := Lib.hid hS
    have HAL := Lib.hid hAll
    have HW := Lib.hid hW
    clear hS hsn hsc hAll hW
    have hE1 := (hE.kB (V' := (wr.alloc (.cells #[.int .u8 op, .int .i32 xn] 41)).drew) ((Below.refl _ _).alloc (Nat.le_refl _) _).drew)
    have r1 : RB wr.heap.size wb (k * 2 + 1) mb n op xn (.slice ax s.length cs') (.agg #[.int .i64 t, .func (.func (fnOf cl)) #[] #[]]) (wr.alloc (.cells #[.int .u8 op, .int .i32 xn] 41)).drew :=
     ⟨⟨⟨by simp [go_sem], by simp [go_sem]⟩, (((Below.refl wr.heap.size wr).alloc (Nat.le_refl _) _).drew.cell (p := ⟨wb, k * 2 + 1, none⟩) hwl).trans q1, LK.out _ hE1.m⟩, by simp, hE1.wl, hE1.m⟩
    go_wp2
    have hS1 : StkAt (wb + 1) (wr.alloc (.cells #[.int .u8 op, .int .i32 xn] 41)).drew (.slice ax s.length cs') s := HS.out.on (by simp) (fun k _ hk => (World.grownBy_alloc wr _ none).block k hk (by simp))
    obtain ⟨_, hn1, hc1⟩ := hS1.cels
    clear hS1
    match haf : aft NN ⟨op, xn⟩ s with
    | .error er =>
     have HAF := Lib.hid haf
     have HT := Lib.hid (show typeW NN c ins = .error er from (type_loop h100 hL HF.out).1 er (loop_err HX.out HLP.out (step_e1 HW.out haf)))
     clear haf
     refine wp_region_held_drew (S := (fun V => ((V.cell? ⟨wr.heap.size, 0, none⟩ = some (.int .u8 op) /\ V.cell? ⟨wr.heap.size, 1, none⟩ = some (.int .i32 xn)) /\ V.cell? ⟨wb, k * 2 + 1, none⟩ = some (.slice ax s.length cs') /\ (Instr.lookup 62 (.map (some mb)) (.int .u8 op) false).run Tryz.prog V = .ok (.agg #[.int .i64 t, .func (.func (fnOf cl)) #[] #[]]) V) /\ wr.heap.size < V.heap.size /\ wb < V.heap.size /\ MapO oRd V mb n opG)) (by kernel_rfl) (r1) (fun hHeld => ?_)
     refine wpAnyH_take (i := 0) (oi := ⟨some 55, _, _, _, _, _⟩) (v := ?_) rfl (by kernel_rfl) (by kernel_rfl) (by kernel_rfl) (fun _ _ _ h => pan_put (d := 55) (by decide) (by decide) h) (Or.inl ⟨by rfl, ?_⟩) (by assumption) ?_
     rotate_left
     ·intro w hSw; (try dsimp only at hSw); go_simp; (try with_reducible rfl)
     try simp only [Act.put, List.setIfInBounds_toArray, List.set_cons_zero, List.set_cons_succ]
     refine wpAnyH_take (i := 1) (oi := ⟨some 56, _, _, _, _, _⟩) (v := ?_) rfl (by kernel_rfl) (by kernel_rfl) (by kernel_rfl) (fun _ _ _ h => pan_put (d := 56) (by decide) (by decide) h) (Or.inl ⟨by rfl, ?_⟩) (by assumption) ?_
     rotate_left
     ·intro w hSw; (try dsimp only at hSw); go_simp; (try with_reducible rfl)
     try simp only [Act.put, List.setIfInBounds_toArray, List.set_cons_zero, List.set_cons_succ]
     refine wpAnyH_take (i := 2) (oi := ⟨some 57, _, _, _, _, _⟩) (v := ?_) rfl (by kernel_rfl) (by kernel_rfl) (by kernel_rfl) (fun _ _ _ h => pan_put (d := 57) (by decide) (by decide) h) (Or.inl ⟨by rfl, ?_⟩) (by assumption) ?_
     rotate_left
     ·intro w hSw; (try dsimp only at hSw); go_simp; (try with_reducible rfl)
     try simp only [Act.put, List.setIfInBounds_toArray, List.set_cons_zero, List.set_cons_succ]
     refine wpAnyH_take (i := 4) (oi := ⟨some 59, _, _, _, _, _⟩) (v := ?_) rfl (by kernel_rfl) (by kernel_rfl) (by kernel_rfl) (fun _ _ _ h => pan_put (d := 59) (by decide) (by decide) h) (Or.inl ⟨by rfl, ?_⟩) (by assumption) ?_
     rotate_left
     ·intro w hSw; (try dsimp only at hSw); go_simp; (try with_reducible rfl)
     try simp only [Act.put, List.setIfInBounds_toArray, List.set_cons_zero, List.set_cons_succ]
     refine wpAnyH_take (i := 5) (oi := ⟨some 60, _, _, _, _, _⟩) (v := ?_) rfl (by kernel_rfl) (by kernel_rfl) (by kernel_rfl) (fun _ _ _ h => pan_put (d := 60) (by decide) (by decide) h) (Or.inl ⟨by rfl, ?_⟩) (by assumption) ?_
     rotate_left
     ·intro w hSw; (try dsimp only at hSw); go_simp; (try with_reducible rfl)
     try simp only [Act.put, List.setIfInBounds_toArray, List.set_cons_zero, List.set_cons_succ]
     refine wpAnyH_take (i := 6) (oi := ⟨some 61, _, _, _, _, _⟩) (v := ?_) rfl (by kernel_rfl) (by kernel_rfl) (by kernel_rfl) (fun _ _ _ h => pan_put (d := 61) (by decide) (by decide) h) (Or.inl ⟨by rfl, ?_⟩) (by assumption) ?_
     rotate_left
     ·intro w hSw; (try dsimp only at hSw); go_simp; (try with_reducible rfl)
     try simp only [Act.put, List.setIfInBounds_toArray, List.set_cons_zero, List.set_cons_succ]
     refine wpAnyH_take (i := 7) (oi := ⟨some 62, _, _, _, _, _⟩) (v := ?_) rfl (by kernel_rfl) (by kernel_rfl) (by kernel_rfl) (fun _ _ _ h => pan_put (d := 62) (by decide) (by decide) h) (Or.inl ⟨by rfl, ?_⟩) (by assumption) ?_
     rotate_left
     ·intro w hSw; (try dsimp only at hSw); go_simp; (try with_reducible rfl)
     try simp only [Act.put, List.setIfInBounds_toArray, List.set_cons_zero, List.set_cons_succ]
     refine wpAnyH_take (i := 8) (oi := ⟨some 63, _, _, _, _, _⟩) (v := ?_) rfl (by kernel_rfl) (by kernel_rfl) (by kernel_rfl) (fun _ _ _ h => pan_put (d := 63) (by decide) (by decide) h) (Or.inl ⟨by rfl, ?_⟩) (by assumption) ?_
     rotate_left
     ·intro w hSw; (try dsimp only at hSw); go_simp; (try with_reducible rfl)
     try simp only [Act.put, List.setIfInBounds_toArray, List.set_cons_zero, List.set_cons_succ]
     refine wpAnyH_take (i := 9) (oi := ⟨some 64, _, _, _, _, _⟩) (v := ?_) rfl (by kernel_rfl) (by kernel_rfl) (by kernel_rfl) (fun _ _ _ h => pan_put (d := 64) (by decide) (by decide) h) (Or.inl ⟨by rfl, ?_⟩) (by assumption) ?_
     rotate_left
     ·intro w hSw; (try dsimp only at hSw); go_simp; (try with_reducible rfl)
     try simp only [Act.put, List.setIfInBounds_toArray, List.set_cons_zero, List.set_cons_succ]
     refine wpAnyH_ready (rs := [3]) (by kernel_rfl) (by simp) ?_
     refine AllReadyH.cons (o := ⟨some 58, _, _, _, _, _⟩) rfl (fun K hK => ?_) AllReadyH.nil
     go_simp
     skip
     refine hK.out _ _ (by assumption) (fun hHeld => ?_)
     clear hK K
     try simp only [Act.put, List.setIfInBounds_toArray, List.set_cons_zero, List.set_cons_succ]
     refine wpAnyH_ready (rs := [10]) (by kernel_rfl) (by simp) ?_
     refine AllReadyH.cons (o := ⟨some 65, _, _, _, _, _⟩) rfl (fun K hK => ?_) AllReadyH.nil
     go_simp
     refine (after_any op xn t cl HOP.out ax s.length cs' s _ rfl hc1 hn1 HAL.out h100s hE1.j).mono ?_; rintro e w7 hP; obtain ⟨rfl, hB7⟩ := hP.2 _ HAF.out; have hE7 := hE1.kB hB7; refine leaves_cons (f := 25) (args := #[.pointer (some ⟨w.heap.size, 0, none⟩), .pointer (some ⟨w.heap.size + 1, 0, none⟩)]) (by simp) (by simp [go_sem]) ?_; refine (catch_pan ⟨w.heap.size, 0, none⟩ ⟨w.heap.size + 1, 0, none⟩ er _ _ [] _ hE7.kc hE7.kz hE7.ec hE7.ez (by simp)).mono ?_; rintro e u' w'' ⟨rfl, rfl, rfl⟩; have k0 := hE7.kc; have z0 := hE7.kz; have k1 := hE7.ec; have z1 := hE7.ez; simp [Leaves, settle, results, Tryz.results11, go_sem, k0, k1, z0, z1]; exact typeP_err HT.out (ti_set hE7.b)
    | .ok l =>
     have HAF := Lib.hid haf
     have hAl : All l := aft_all nn_ok haf HAL.out ⟨xj1, xj2⟩
     have hl100 : l.length <= 100 := by obtain ⟨_, _, _, _, _, _, h⟩ := aft_ok haf; exact h
     have HAL7 := Lib.hid hAl
     clear haf hAl
     refine wp_region_held_drew (S := (fun V => ((V.cell? ⟨wr.heap.size, 0, none⟩ = some (.int .u8 op) /\ V.cell? ⟨wr.heap.size, 1, none⟩ = some (.int .i32 xn)) /\ V.cell? ⟨wb, k * 2 + 1, none⟩ = some (.slice ax s.length cs') /\ (Instr.lookup 62 (.map (some mb)) (.int .u8 op) false).run Tryz.prog V = .ok (.agg #[.int .i64 t, .func (.func (fnOf cl)) #[] #[]]) V) /\ wr.heap.size < V.heap.size /\ wb < V.heap.size /\ MapO oRd V mb n opG)) (by kernel_rfl) (r1) (fun hHeld => ?_)
     refine wpAnyH_take (i := 0) (oi := ⟨some 55, _, _, _, _, _⟩) (v := ?_) rfl (by kernel_rfl) (by kernel_rfl) (by kernel_rfl) (fun _ _ _ h => pan_put (d := 55) (by decide) (by decide) h) (Or.inl ⟨by rfl, ?_⟩) (by assumption) ?_
     rotate_left
     ·intro w hSw; (try dsimp only at hSw); go_simp; (try with_reducible rfl)
     try simp only [Act.put, List.setIfInBounds_toArray, List.set_cons_zero, List.set_cons_succ]
     refine wpAnyH_take (i := 1) (oi := ⟨some 56, _, _, _, _, _⟩) (v := ?_) rfl (by kernel_rfl) (by kernel_rfl) (by kernel_rfl) (fun _ _ _ h => pan_put (d := 56) (by decide) (by decide) h) (Or.inl ⟨by rfl, ?_⟩) (by assumption) ?_
     rotate_left
     ·intro w hSw; (try dsimp only at hSw); go_simp; (try with_reducible rfl)
     try simp only [Act.put, List.setIfInBounds_toArray, List.set_cons_zero, List.set_cons_succ]
     refine wpAnyH_take (i := 2) (oi := ⟨some 57, _, _, _, _, _⟩) (v := ?_) rfl (by kernel_rfl) (by kernel_rfl) (by kernel_rfl) (fun _ _ _ h => pan_put (d := 57) (by decide) (by decide) h) (Or.inl ⟨by rfl, ?_⟩) (by assumption) ?_
     rotate_left
     ·intro w hSw; (try dsimp only at hSw); go_simp; (try with_reducible rfl)
     try simp only [Act.put, List.setIfInBounds_toArray, List.set_cons_zero, List.set_cons_succ]
     refine wpAnyH_take (i := 4) (oi := ⟨some 59, _, _, _, _, _⟩) (v := ?_) rfl (by kernel_rfl) (by kernel_rfl) (by kernel_rfl) (fun _ _ _ h => pan_put (d := 59) (by decide) (by decide) h) (Or.inl ⟨by rfl, ?_⟩) (by assumption) ?_
     rotate_left
     ·intro w hSw; (try dsimp only at hSw); go_simp; (try with_reducible rfl)
     try simp only [Act.put, List.setIfInBounds_toArray, List.set_cons_zero, List.set_cons_succ]
     refine wpAnyH_take (i := 5) (oi := ⟨some 60, _, _, _, _, _⟩) (v := ?_) rfl (by kernel_rfl) (by kernel_rfl) (by kernel_rfl) (fun _ _ _ h => pan_put (d := 60) (by decide) (by decide) h) (Or.inl ⟨by rfl, ?_⟩) (by assumption) ?_
     rotate_left
     ·intro w hSw; (try dsimp only at hSw); go_simp; (try with_reducible rfl)
     try simp only [Act.put, List.setIfInBounds_toArray, List.set_cons_zero, List.set_cons_succ]
     refine wpAnyH_take (i := 6) (oi := ⟨some 61, _, _, _, _, _⟩) (v := ?_) rfl (by kernel_rfl) (by kernel_rfl) (by kernel_rfl) (fun _ _ _ h => pan_put (d := 61) (by decide) (by decide) h) (Or.inl ⟨by rfl, ?_⟩) (by assumption) ?_
     rotate_left
     ·intro w hSw; (try dsimp only at hSw); go_simp; (try with_reducible rfl)
     try simp only [Act.put, List.setIfInBounds_toArray, List.set_cons_zero, List.set_cons_succ]
     refine wpAnyH_take (i := 7) (oi := ⟨some 62, _, _, _, _, _⟩) (v := ?_) rfl (by kernel_rfl) (by kernel_rfl) (by kernel_rfl) (fun _ _ _ h => pan_put (d := 62) (by decide) (by decide) h) (Or.inl ⟨by rfl, ?_⟩) (by assumption) ?_
     rotate_left
     ·intro w hSw; (try dsimp only at hSw); go_simp; (try with_reducible rfl)
     try simp only [Act.put, List.setIfInBounds_toArray, List.set_cons_zero, List.set_cons_succ]
     refine wpAnyH_take (i := 8) (oi := ⟨some 63, _, _, _, _, _⟩) (v := ?_) rfl (by kernel_rfl) (by kernel_rfl) (by kernel_rfl) (fun _ _ _ h => pan_put (d := 63) (by decide) (by decide) h) (Or.inl ⟨by rfl, ?_⟩) (by assumption) ?_
     rotate_left
     ·intro w hSw; (try dsimp only at hSw); go_simp; (try with_reducible rfl)
     try simp only [Act.put, List.setIfInBounds_toArray, List.set_cons_zero, List.set_cons_succ]
     refine wpAnyH_take (i := 9) (oi := ⟨some 64, _, _, _, _, _⟩) (v := ?_) rfl (by kernel_rfl) (by kernel_rfl) (by kernel_rfl) (fun _ _ _ h => pan_put (d := 64) (by decide) (by decide) h) (Or.inl ⟨by rfl, ?_⟩) (by assumption) ?_
     rotate_left
     ·intro w hSw; (try dsimp only at hSw); go_simp; (try with_reducible rfl)
     try simp only [Act.put, List.setIfInBounds_toArray, List.set_cons_zero, List.set_cons_succ]
     refine wpAnyH_ready (rs := [3]) (by kernel_rfl) (by simp) ?_
     refine AllReadyH.cons (o := ⟨some 58, _, _, _, _, _⟩) rfl (fun K hK => ?_) AllReadyH.nil
     go_simp
     skip
     refine hK.out _ _ (by assumption) (fun hHeld => ?_)
     clear hK K
     try simp only [Act.put, List.setIfInBounds_toArray, List.set_cons_zero, List.set_cons_succ]
     refine wpAnyH_ready (rs := [10]) (by kernel_rfl) (by simp) ?_
     refine AllReadyH.cons (o := ⟨some 65, _, _, _, _, _⟩) rfl (fun K hK => ?_) AllReadyH.nil
     go_simp
     refine (after_any op xn t cl HOP.out ax s.length cs' s _ rfl hc1 hn1 HAL.out h100s hE1.j).mono ?_; rintro e w7 hP; obtain ⟨v7, rfl, hr7, hB7⟩ := hP.1 _ HAF.out; obtain ⟨a7, c7, rfl, hS7⟩ := stk_row hr7 rfl
     refine hK.out _ _ (by exact RB.kB LK.out (by assumption) hB7) (fun hHeld => ?_)
     clear hK K
     try simp only [Act.put, List.setIfInBounds_toArray, List.set_cons_zero, List.set_cons_succ]
     refine wpAnyH_take (i := 11) (oi := ⟨some 10, _, _, _, _, _⟩) (v := ?_) rfl (by kernel_rfl) (by kernel_rfl) (by kernel_rfl) (fun _ _ _ h => pan_put (d := 10) (by decide) (by decide) h) (Or.inl ⟨by rfl, ?_⟩) (by assumption) ?_
     rotate_left
     ·intro w hSw; (try dsimp only at hSw); go_simp; (try with_reducible rfl)
     try simp only [Act.put, List.setIfInBounds_toArray, List.set_cons_zero, List.set_cons_succ]
     refine wpAnyH_done (by kernel_rfl) ?_ _
     obtain ⟨⟨⟨d0, d1⟩, _, _⟩, d2, _, _⟩ := hHeld
     clear r1
     have hE7 := hE1.kB hB7
     have hS8 := hS7.lo (show wb + 1 <= _ by simp; omega)
     have d3 : wr.heap.size ≠ wb := by omega
     clear hE1 hr7 hS7
     by_cases o3 : op = 3
     ·subst o3
      obtain ⟨tt, rfl, hkt, htl⟩ := formed_goes HFA.out (.inl rfl)
      have htz : (tt : Int) < (c.length : Int) + 1 := by omega
      match hcm : comes (W tt) l with
      | .error e2 =>
       have HT := Lib.hid (show typeW NN c ins = .error e2 from (type_loop h100 hL HF.out).1 e2 (loop_err HX.out HLP.out (step_e2 HW.out HAF.out rfl hcm)))
       have HCM := Lib.hid hcm
       clear hcm
       go_wp2_with (go_at_call 26; refine (comes_any (wb + 1) wb (tt * 2) (W tt) l a7 l.length c7 _ (hE7.ww tt (by omega)) (hE7.wz _) (hE7.wz _) (Nat.lt_succ_self _) hE7.wl hS8 (fun v e => by have := (hE7.gd _ v e).2; omega) (by omega)).mono ?_; rintro e w8 hP; obtain ⟨rfl, hr8⟩ := hP.2 _ HCM.out; unfold Pan)
       have hP8 := hE7.pe hr8
       refine leaves_cons (f := 25) (args := #[.pointer (some ⟨w.heap.size, 0, none⟩), .pointer (some ⟨w.heap.size + 1, 0, none⟩)]) (by simp) (by simp [go_sem]) ?_; refine (catch_pan ⟨w.heap.size, 0, none⟩ ⟨w.heap.size + 1, 0, none⟩ e2 _ _ [] _ hP8.kc hP8.kz hP8.ec hP8.ez (by simp)).mono ?_; rintro e u' w'' ⟨rfl, rfl, rfl⟩; have k0 := hP8.kc; have z0 := hP8.kz; have k1 := hP8.ec; have z1 := hP8.ez; simp [Leaves, settle, results, Tryz.results11, go_sem, k0, k1, z0, z1]; exact typeP_err HT.out (ti_set hP8.b)
      | .ok v =>
       have HCM := Lib.hid hcm
       clear hcm
       go_wp2_with (go_at_call 26; refine (comes_any (wb + 1) wb (tt * 2) (W tt) l a7 l.length c7 _ (hE7.ww tt (by omega)) (hE7.wz _) (hE7.wz _) (Nat.lt_succ_self _) hE7.wl hS8 (fun v e => by have := (hE7.gd _ v e).2; omega) (by omega)).mono ?_; rintro e w8 hP; obtain ⟨rfl, hW8, hr8⟩ := hP.1 _ HCM.out; have hE8 := TE.kW hE7 hW8 hr8 (comes_gd HCM.out HAL7.out hl100); have d4 := (World.cell?_of_block (w := w7) (a := ⟨wr.heap.size, 0, none⟩) (hr8.block _ d2 d3)).trans d0)
       go_roundw
       case rel => exact ⟨k + 1, _, by omega, by go_num, (loop_take HX.out HLP.out).trans (step_ok3 HW.out HAF.out (fun _ => ⟨v, HCM.out, rfl⟩) (fun q => by cases q) rfl), hE8⟩
       case measure => simp [intOf]; omega
     have o3b : (op == 3) = false := by simpa using o3
     have o3c : (op != 3) = true := by simpa using o3
     have hkp : (k : Int) + 1 < (c.length : Int) + 1 := by omega
     by_cases o4 : op = 4
     ·subst o4
      obtain ⟨tt, rfl, hkt, htl⟩ := formed_goes HFA.out (.inr rfl)
      have htz : (tt : Int) < (c.length : Int) + 1 := by omega
      match hcm : comes (W tt) l with
      | .error e2 =>
       have HT := Lib.hid (show typeW NN c ins = .error e2 from (type_loop h100 hL HF.out).1 e2 (loop_err HX.out HLP.out (step_e2 HW.out HAF.out rfl hcm)))
       have HCM := Lib.hid hcm
       clear hcm
       go_wp2_with (go_at_call 26; refine (comes_any (wb + 1) wb (tt * 2) (W tt) l a7 l.length c7 _ (hE7.ww tt (by omega)) (hE7.wz _) (hE7.wz _) (Nat.lt_succ_self _) hE7.wl hS8 (fun v e => by have := (hE7.gd _ v e).2; omega) (by omega)).mono ?_; rintro e w8 hP; obtain ⟨rfl, hr8⟩ := hP.2 _ HCM.out; unfold Pan)
       have hP8 := hE7.pe hr8
       refine leaves_cons (f := 25) (args := #[.pointer (some ⟨w.heap.size, 0, none⟩), .pointer (some ⟨w.heap.size + 1, 0, none⟩)]) (by simp) (by simp [go_sem]) ?_; refine (catch_pan ⟨w.heap.size, 0, none⟩ ⟨w.heap.size + 1, 0, none⟩ e2 _ _ [] _ hP8.kc hP8.kz hP8.ec hP8.ez (by simp)).mono ?_; rintro e u' w'' ⟨rfl, rfl, rfl⟩; have k0 := hP8.kc; have z0 := hP8.kz; have k1 := hP8.ec; have z1 := hP8.ez; simp [Leaves, settle, results, Tryz.results11, go_sem, k0, k1, z0, z1]; exact typeP_err HT.out (ti_set hP8.b)
      | .ok v =>
       have HCM := Lib.hid hcm
       clear hcm
       match hcm2 : comes ((W.set tt v) (k + 1)) l with
       | .error e2 =>
        have HT := Lib.hid (show typeW NN c ins = .error e2 from (type_loop h100 hL HF.out).1 e2 (loop_err HX.out HLP.out (step_e3 HW.out HAF.out (fun _ => ⟨v, HCM.out, rfl⟩) (fun q => by cases q) (show (4 : Int) ≠ 3 by decide) hcm2)))
        have HCM2 := Lib.hid hcm2
        clear hcm2
        go_wp2_with (first | (go_at_call 26; refine (comes_any (wb + 1) wb (tt * 2) (W tt) l a7 l.length c7 _ (hE7.ww tt (by omega)) (hE7.wz _) (hE7.wz _) (Nat.lt_succ_self _) hE7.wl hS8 (fun v e => by have := (hE7.gd _ v e).2; omega) (by omega)).mono ?_; rintro e w8 hP; obtain ⟨rfl, hW8, hr8⟩ := hP.1 _ HCM.out; have hE8 := TE.kW hE7 hW8 hr8 (comes_gd HCM.out HAL7.out hl100); have d4 := (World.cell?_of_block (w := w7) (a := ⟨wr.heap.size, 0, none⟩) (hr8.block _ d2 d3)).trans d0; have hS9 := hS8.on hr8.size (fun k hk1 hk2 => hr8.block k hk2 (by omega)); clear hE7) | (go_at_call 26; refine (comes_any (wb + 1) wb ((k + 1) * 2) ((W.set tt v) (k + 1)) l a7 l.length c7 _ (hE8.ww (k + 1) (by omega)) (hE8.wz _) (hE8.wz _) (Nat.lt_succ_self _) hE8.wl hS9 (fun v e => by have := (hE8.gd _ v e).2; omega) (by omega)).mono ?_; rintro e w9 hP9; obtain ⟨rfl, hr9⟩ := hP9.2 _ HCM2.out; unfold Pan))
        have hP8 := hE8.pe hr9
        refine leaves_cons (f := 25) (args := #[.pointer (some ⟨w.heap.size, 0, none⟩), .pointer (some ⟨w.heap.size + 1, 0, none⟩)]) (by simp) (by simp [go_sem]) ?_; refine (catch_pan ⟨w.heap.size, 0, none⟩ ⟨w.heap.size + 1, 0, none⟩ e2 _ _ [] _ hP8.kc hP8.kz hP8.ec hP8.ez (by simp)).mono ?_; rintro e u' w'' ⟨rfl, rfl, rfl⟩; have k0 := hP8.kc; have z0 := hP8.kz; have k1 := hP8.ec; have z1 := hP8.ez; simp [Leaves, settle, results, Tryz.results11, go_sem, k0, k1, z0, z1]; exact typeP_err HT.out (ti_set hP8.b)
       | .ok v2 =>
        have HCM2 := Lib.hid hcm2
        clear hcm2
        go_wp2_with (first | (go_at_call 26; refine (comes_any (wb + 1) wb (tt * 2) (W tt) l a7 l.length c7 _ (hE7.ww tt (by omega)) (hE7.wz _) (hE7.wz _) (Nat.lt_succ_self _) hE7.wl hS8 (fun v e => by have := (hE7.gd _ v e).2; omega) (by omega)).mono ?_; rintro e w8 hP; obtain ⟨rfl, hW8, hr8⟩ := hP.1 _ HCM.out; have hE8 := TE.kW hE7 hW8 hr8 (comes_gd HCM.out HAL7.out hl100); have d4 := (World.cell?_of_block (w := w7) (a := ⟨wr.heap.size, 0, none⟩) (hr8.block _ d2 d3)).trans d0; have hS9 := hS8.on hr8.size (fun k hk1 hk2 => hr8.block k hk2 (by omega)); clear hE7) | (go_at_call 26; refine (comes_any (wb + 1) wb ((k + 1) * 2) ((W.set tt v) (k + 1)) l a7 l.length c7 _ (hE8.ww (k + 1) (by omega)) (hE8.wz _) (hE8.wz _) (Nat.lt_succ_self _) hE8.wl hS9 (fun v e => by have := (hE8.gd _ v e).2; omega) (by omega)).mono ?_; rintro e w9 hP9; obtain ⟨rfl, hW9, hr9⟩ := hP9.1 _ HCM2.out; have hE9 := TE.kW hE8 hW9 hr9 (comes_gd HCM2.out HAL7.out hl100)))
        go_roundw
        case rel => exact ⟨k + 1, _, by omega, by go_num, (loop_take HX.out HLP.out).trans (step_ok HW.out HAF.out (fun _ => ⟨v, HCM.out, rfl⟩) (fun q => by cases q) (show (4 : Int) ≠ 3 by decide) HCM2.out), hE9⟩
        case measure => simp [intOf]; omega
     have o4b : (op == 4) = false := by simpa using o4
     have hgo : goes ⟨op, xn⟩ = false := by simp [goes, o3, o4]
     match hcm2 : comes (W (k + 1)) l with
     | .error e2 =>
      have HT := Lib.hid (show typeW NN c ins = .error e2 from (type_loop h100 hL HF.out).1 e2 (loop_err HX.out HLP.out (step_e3 HW.out HAF.out (fun q => by rw [hgo] at q; cases q) (fun _ => rfl) o3 hcm2)))
      have HCM2 := Lib.hid hcm2
      clear hcm2 hgo
      go_wp2_with (go_at_call 26; refine (comes_any (wb + 1) wb ((k + 1) * 2) (W (k + 1)) l a7 l.length c7 _ (hE7.ww (k + 1) (by omega)) (hE7.wz _) (hE7.wz _) (Nat.lt_succ_self _) hE7.wl hS8 (fun v e => by have := (hE7.gd _ v e).2; omega) (by omega)).mono ?_; rintro e w9 hP9; obtain ⟨rfl, hr9⟩ := hP9.2 _ HCM2.out; unfold Pan)
      have hP8 := hE7.pe hr9
      refine leaves_cons (f := 25) (args := #[.pointer (some ⟨w.heap.size, 0, none⟩), .pointer (some ⟨w.heap.size + 1, 0, none⟩)]) (by simp) (by simp [go_sem]) ?_; refine (catch_pan ⟨w.heap.size, 0, none⟩ ⟨w.heap.size + 1, 0, none⟩ e2 _ _ [] _ hP8.kc hP8.kz hP8.ec hP8.ez (by simp)).mono ?_; rintro e u' w'' ⟨rfl, rfl, rfl⟩; have k0 := hP8.kc; have z0 := hP8.kz; have k1 := hP8.ec; have z1 := hP8.ez; simp [Leaves, settle, results, Tryz.results11, go_sem, k0, k1, z0, z1]; exact typeP_err HT.out (ti_set hP8.b)
     | .ok v2 =>
      have HCM2 := Lib.hid hcm2
      have HGO := Lib.hid hgo
      clear hcm2 hgo
      go_wp2_with (go_at_call 26; refine (comes_any (wb + 1) wb ((k + 1) * 2) (W (k + 1)) l a7 l.length c7 _ (hE7.ww (k + 1) (by omega)) (hE7.wz _) (hE7.wz _) (Nat.lt_succ_self _) hE7.wl hS8 (fun v e => by have := (hE7.gd _ v e).2; omega) (by omega)).mono ?_; rintro e w9 hP9; obtain ⟨rfl, hW9, hr9⟩ := hP9.1 _ HCM2.out; have hE9 := TE.kW hE7 hW9 hr9 (comes_gd HCM2.out HAL7.out hl100))
      go_roundw
      case rel => exact ⟨k + 1, _, by omega, by go_num, (loop_take HX.out HLP.out).trans (step_ok HW.out HAF.out (fun q => by rw [HGO.out] at q; cases q) (fun _ => rfl) o3 HCM2.out), hE9⟩
      case measure => simp [intOf]; omega
  ·obtain rfl : k = c.length := by omega
   rw [List.take_length] at hLP
   obtain ⟨s, hts, hWs⟩ := (type_loop h100 hL HF.out).2 W hLP
   have hkw := hE.ww c.length (Nat.le_refl _)
   rw [hWs] at hkw
   obtain ⟨q0, sv, q1, ax, cs', rfl, hsn, hsc⟩ := hkw
   have hS : StkAt (wb + 1) wr (.slice ax s.length cs') s := ⟨ax, cs', rfl, hsn, hsc⟩
   have hs100 := (hE.gd _ s hWs).2
   have hkz : (c.length : Int) < (c.length : Int) + 1 := by omega
   have HTS := Lib.hid hts
   have HS := Lib.hid hS
   have HK := Lib.hid (kk_new (s := s) hE)
   have hwl := hE.wl
   clear hE hS hsn hsc hts hLP hWs q0
   go_wp2
   obtain ⟨iK, hKin, hKz0, hKz1, hKz2⟩ := info_parts infoKind
   have hKzc : (Value.int .u8 0).cells.size = 1 := rfl
   generalize hVs : wr = Vs at HK HS hwl ⊢
   clear q1 hVs
   go_loopw [97] (fun i V => ∃ (k : Nat) (vk : Value), k <= s.length /\ i = .int .i64 k /\ KK w Vs V wb Vs.heap.size vk k s) (fun i _ => s.length - (intOf i).toNat)
   case atStart => exact ⟨0, _, by omega, rfl, HK.out⟩
   case round =>
    obtain ⟨k, vk, hk, rfl, hK⟩ := hrel
    have kc := hK.kc
    have kz := hK.kz
    by_cases hlt : k < s.length
    ·obtain ⟨a, ha⟩ : ∃ x, s[k]? = some x := ⟨_, List.getElem?_eq_getElem hlt⟩
     obtain ⟨_, _, hC⟩ := HS.out.cels
     obtain ⟨sb, so, rfl, hsb⟩ := cels_some hC ha
     obtain ⟨p0, p1, p2⟩ := cel_at hC ha
     have hsw : wb <= sb := Nat.le_of_lt (stk_lo HS.out (fun e => by rw [e] at ha; simp at ha))
     have hbk := hK.s sb hsw hsb
     have r0 := (World.cell?_of_block (w := Vs) (a := ⟨sb, so + k * 3, none⟩) hbk).trans p0
     have r1 := (World.cell?_of_block (w := Vs) (a := ⟨sb, so + k * 3 + 1, none⟩) hbk).trans p1
     have r2 := (World.cell?_of_block (w := Vs) (a := ⟨sb, so + k * 3 + 2, none⟩) hbk).trans p2
     obtain ⟨ak, an, akn⟩ := a
     simp only at r0 r1 r2
     obtain ⟨kad, kcap, rfl, hkn, _, _⟩ := row_shape hK.o
     have HKK := Lib.hid hK
     have HA := Lib.hid ha
     have hbl := Nat.lt_of_lt_of_le hsb hK.l
     have hw0 : w.heap.size < wr.heap.size := by have := hK.w1; have := hK.w2; have := hK.l; omega
     have hbo : Vs.heap.size <= wr.heap.size := hK.l
     have hor := Lib.hid hK.o
     have hk100 : k < 101 := by omega
     clear hK ha hC p0 p1 p2 hbk
     go_wp2_with (at_builtin; go_loud (refine wpList_append_own_at _ rfl _ _ 25 rfl Vs.heap.size 32 iK _ 1 1 Tryz.underlying25 hKin hKz0 hKz1 hKz2 hKzc (by decide) _ k (kvs (s.take k)) rfl (row_keep hor.out (fun g hg => (((Below.refl _ _).alloc (Nat.le_refl _) _).alloc (by simp) _ : Below wr.heap.size wr _).block g (own_lt hor.out g hg).1)) _ 1 1 [.int .u8 ak] rfl rfl (fun j u hu => by match j, hu with | 0, hu => cases hu; simp [go_sem]) (fun u hu => by obtain rfl := List.mem_singleton.1 hu; rfl) (by unfold maxLen; omega) (by omega) (by simp; omega) ?_); intro v' w6 hown6 hgrow6 hnil6 hat6; have hKN := kk_step HKK.out HA.out ((((Below.refl wr.heap.size wr).alloc (Nat.le_refl _) _).alloc (by simp) _)) hown6 hgrow6; have kc6 := World.cell?_of_block (w := wr) (a := ⟨w.heap.size, 0, none⟩) (kk_blk HKK.out ((((Below.refl wr.heap.size wr).alloc (Nat.le_refl _) _).alloc (by simp) _)) hgrow6) |>.trans kc; have kz6 := World.frozen?_of_block (w := wr) (a := ⟨w.heap.size, 0, none⟩) (kk_blk HKK.out ((((Below.refl wr.heap.size wr).alloc (Nat.le_refl _) _).alloc (by simp) _)) hgrow6) |>.trans kz; obtain ⟨n6, c6, rfl, _, _, _⟩ := row_shape hown6; clear hnil6 hat6 hgrow6 hown6)
     go_roundw
     case rel => exact ⟨k + 1, _, by omega, by go_num, hKN⟩
     case measure => simp [intOf]; omega
    ·obtain rfl : k = s.length := by omega
     have ho := hK.o
     rw [List.take_of_length_le (Nat.le_refl _)] at ho
     obtain ⟨kad, kcap, rfl, hkn, hkcap, _⟩ := row_shape ho
     have HO := Lib.hid ho
     have HKK := Lib.hid hK
     have ec := hK.ec
     have ez := hK.ez
     clear hK ho hkn
     go_wp2_with (go_at_call 30; refine (clip_any kad s.length kcap hkcap _).mono ?_; rintro e w8 ⟨rfl, rfl⟩)
     refine leaves_cons (f := 25) (args := #[.pointer (some ⟨w.heap.size, 0, none⟩), .pointer (some ⟨w.heap.size + 1, 0, none⟩)]) (by simp) (by simp [go_sem]) ?_
     refine (catch_idle _ _ _).mono ?_
     rintro e u' w'' ⟨rfl, rfl, rfl⟩
     simp [Leaves, settle, results, Tryz.results11, go_sem, kc, ec]
     have hw1 := HKK.out.w1
     have hw2 := HKK.out.w2
     have hr9 := row_keep (W' := (w8.setCell ⟨w.heap.size, 0, none⟩ (.slice kad s.length s.length)).setCell ⟨w.heap.size + 1, 0, none⟩ (.int .i64 0)) HO.out (fun g hg => by
      have := (own_lt HO.out g hg).2
      exact (Below.heap_setCell _ _ _ g (by show g ≠ w.heap.size + 1; omega)).trans (Below.heap_setCell _ _ _ g (by show g ≠ w.heap.size; omega)))
     exact typeP_ok HTS.out (kinds_row hr9 rfl (by omega)) ((HKK.out.b.setCell (p := ⟨w.heap.size, 0, none⟩) (Nat.le_refl _) _).setCell (p := ⟨w.heap.size + 1, 0, none⟩) (Nat.le_succ _) _)
theorem type_any (c : List Cod) (ins : Nat) (ad : Option Addr) (cap : Nat) (w : World) (hi : ins <= 2000) (hl : c.length <= 2000) (hc : Cods w.heap.size w ad c) (hok : CodOk c) (hj : Sx.J w) :
  Calls Tryz.prog 11 #[.slice ad c.length cap, .int .i64 ins] w (TypeP c ins w) := by
 by_cases h100 : 100 < ins
 ·exact type_e1 c ins ad cap w hi hl hj h100
 by_cases hL : 1024 < c.length
 ·exact type_e2 c ins ad cap w hi hl hj (by omega) hL
 cases hF : formed c.length 0 c with
 | false => exact type_e3 c ins ad cap w hi hl hj (by omega) (by omega) hc hok hF
 | true => exact type_main c ins ad cap w hi hl hj (by omega) (by omega) hc hok hF
end Go.Proofs.YtcjllibeaiofpaaGreatDoor
