/-
  The document's table of turns, made by append: what the slice holds.
-/
import Derived.Test.YtihfbliipjobdaaRx
import Derived.Test.YtihfbliipjobdaaTg
import Derived.Test.YtihfbliipjobdaaRq
import Derived.OwnWalk
set_option linter.all false
set_option maxRecDepth 100000
namespace Go.Proofs.Ytihfbliipjobdaa.Sx
open Go Go.RowKit

noncomputable def tuB : Code := bodyOf Try.prog 18
noncomputable def tuHd : Code := sL (tuC Try.prog)
noncomputable def tuR4 : Code := sR (sR (tuC Try.prog))
noncomputable def tuMi : List Code := tuMids Try.prog
noncomputable def tuAp : Array Oper := tuA Try.prog
noncomputable def tuO (n : Nat) : Oper := (tuAp[n]?).getD default
noncomputable def tu0 : Array Oper := rO (sL tuB)
noncomputable def tu1 : Array Oper := rO (sL (sR tuB))
noncomputable def tu2 : Array Oper := rO (sL (tuM Try.prog))
noncomputable def tu11 : Array Oper := rO (sL (sR (sR (sR tuB))))
def opAt (ops : Array Oper) (n : Nat) : Oper := (ops[n]?).getD default

noncomputable def tuRound : Code := tuHd.seq ((Code.block 1 (seqs tuMi (.region 10 tuAp false))).seq tuR4)

theorem tu_body : Try.f18.body = some ((Code.region 0 tu0 false).seq ((Code.region 1 tu1 false).seq (((Code.region 2 tu2 false).seq (.block 0 (.loop tuRound))).seq ((Code.region 11 tu11 false).seq .ret)))) := by kernel_rfl

def kX (k : Nat) : Int := tX.getD k 0
def kY (k : Nat) : Int := tY.getD k 0
noncomputable def tuV (n : Nat) : List Value := (tuCells.take (2 * n)).map litV

theorem tu_num : ∀ k : Fin 40, 0 ≤ kX k ∧ kX k ≤ 4611686018427387904 ∧ 0 ≤ kY k ∧ kY k ≤ 4611686018427387904 ∧ 0 < kX (k + 1) ∧
    kX (k + 1) * kX (k + 1) ≤ (4611686018427387904 + kX k) * 2305843009213693952 ∧ (4611686018427387904 + kX k) * 2305843009213693952 < (kX (k + 1) + 1) * (kX (k + 1) + 1) ∧ kY k * 2305843009213693952 / kX (k + 1) = kY (k + 1) := by decide +kernel
theorem tu_take : ∀ k : Fin 41, tuCells.take (2 * (k + 1)) = tuCells.take (2 * k) ++ [(.i64, kX k), (.i64, kY k)] := by decide +kernel

theorem tuV_succ {k : Nat} (h : k < 41) : tuV (k + 1) = tuV k ++ [.int .i64 (kX k), .int .i64 (kY k)] := by
  unfold tuV
  rw [tu_take ⟨k, h⟩, List.map_append]
  rfl

theorem root_pos {n c : Int} (h : isRoot n c) : 0 ≤ c := by
  rcases Int.lt_or_le c 0 with z | z
  · obtain ⟨h1, h2⟩ := h
    obtain ⟨d, rfl⟩ : ∃ d, c = -1 - d := ⟨-1 - c, by omega⟩
    have e1 : (-1 - d) * (-1 - d) = d * d + 2 * d + 1 := by grind
    have e2 : (-1 - d + 1) * (-1 - d + 1) = d * d := by grind
    omega
  · exact z

theorem tu_next {k : Nat} (hk : k < 40) {c l : Int} (h : isRoot ((4611686018427387904 + kX k) * 2305843009213693952) c ∧ l = kY k * 2305843009213693952 / c) : c = kX (k + 1) ∧ l = kY (k + 1) := by
  obtain ⟨_, _, _, _, h5, h6, h7, h8⟩ := tu_num ⟨k, hk⟩
  have e : c = kX (k + 1) := root_uniq h.1 ⟨h6, h7⟩ (root_pos h.1) (Int.le_of_lt h5)
  refine ⟨e, ?_⟩
  rw [h.2, e]; exact h8

structure TuI (w0 : World) (a : Act) (w : World) (k : Nat) : Prop where
  d : a.defers = []
  n : a.tmps.toList.length = 63
  le : k ≤ 40
  i : a.tmps.toList[2]? = some (.int .i64 k)
  s : ∃ v, a.tmps.toList[1]? = some v ∧ w.ownsRow w0.heap.size 50 2 v (k + 1) (tuV (k + 1))
  sm : Sm w0 w

theorem tu_rng : List.range tuAp.size = 0 :: [1, 2, 3, 4, 5, 6, 7] ++ [8, 9] := by kernel_rfl
theorem tu_f1 : ((tuHd :: tuMi).flatMap dsts).contains 1 = false := by kernel_rfl
theorem tu_f2 : ((tuHd :: tuMi).flatMap dsts).contains 2 = false := by kernel_rfl
theorem tu_f3 : (dsOf tuAp [1, 2, 3, 4, 5, 6, 7]).contains 53 = false := by kernel_rfl
theorem tu_f4 : (dsOf tuAp [1, 2, 3, 4, 5, 6, 7]).contains 2 = false := by kernel_rfl
theorem tu_f7 : (dsts tuHd).contains 1 = false := by kernel_rfl
theorem tu_f8 : (dsts tuHd).contains 2 = false := by kernel_rfl
theorem tu_f5 : (dsts tuR4).contains 1 = false := by kernel_rfl
theorem tu_o0 : tuAp[0]? = some (opAt tuAp 0) := by kernel_rfl
theorem tu_o0o : (opAt tuAp 0).op = .move (.tmp 1) := by kernel_rfl
theorem tu_o0g : (opAt tuAp 0).guard = none := by kernel_rfl
theorem tu_o0d : (opAt tuAp 0).dst = some 53 := by kernel_rfl
theorem tu_o8 : tuAp[8]? = some (opAt tuAp 8) := by kernel_rfl
theorem tu_o8o : (opAt tuAp 8).op = .call { callee := .builtin .append, args := #[.tmp 53, .tmp 60], argTypes := #[47, 47] } := by kernel_rfl
theorem tu_o8g : (opAt tuAp 8).guard = none := by kernel_rfl
theorem tu_o8d : (opAt tuAp 8).dst = some 61 := by kernel_rfl
theorem tu_o9 : tuAp[9]? = some (opAt tuAp 9) := by kernel_rfl
theorem tu_o9o : (opAt tuAp 9).op = .assign (.tmp 61) := by kernel_rfl
theorem tu_o9g : (opAt tuAp 9).guard = none := by kernel_rfl
theorem tu_o9d : (opAt tuAp 9).dst = some 1 := by kernel_rfl
theorem tu_under : Try.prog.underlying 47 = some (.slice 50) := by kernel_rfl
theorem tu_info : (Try.prog.info? 50).map (fun i => (i.zero, i.size, i.bytes)) = some (some (.agg #[.int .i64 0, .int .i64 0]), 2, 16) := by kernel_rfl

theorem put_get (a : Act) (d i : Nat) (v : Value) (h : d < a.tmps.toList.length) : (a.put (some d) v).tmps.toList[i]? = if d = i then some v else a.tmps.toList[i]? := by
  simp only [Act.put, Array.toList_setIfInBounds]
  rw [List.getElem?_set]
  by_cases e : d = i
  · subst e; simp only [if_true]; rw [if_pos h]
  · simp [e]
theorem put_len (a : Act) (d : Nat) (v : Value) : (a.put (some d) v).tmps.toList.length = a.tmps.toList.length := by
  simp only [Act.put, Array.toList_setIfInBounds, List.length_set]
theorem notin {l : List Nat} {i : Nat} (h : l.contains i = false) : i ∉ l := by
  intro hm
  rw [List.contains_iff_mem.2 hm] at h
  cases h

theorem tu_round (h1 : P_tround) (h2 : P_tnext) (hV : Valid Try.prog tab68 E) {w0 : World} {a : Act} {w : World} {k : Nat} (j : J w0) (hk : k < 40) (I : TuI w0 a w k) {Q : Exit → Act → World → Prop} :
    tuRound.wp Try.prog (Exit.then (fun a' w' => TuI w0 a' w' (k + 1)) Q) a w := by
  obtain ⟨v, hv, hown⟩ := I.s
  obtain ⟨g, cap, rfl, hg⟩ := owns_slice hown (by omega)
  have jw : J w := I.sm.j j
  obtain ⟨x0, x1, y0, y1, _, _, _, _⟩ := tu_num ⟨k, hk⟩
  simp only at x0 x1 y0 y1
  have ha : actOf [] (hdT 63 a.tmps.toList [(1, .a (.s (.sl 0 g 0 (k + 1) cap))), (2, .a (.s (.int .i64 (.lit k))))]) = a := by
    refine hdT_act I.d I.n ?_
    intro p hp
    simp only [List.mem_cons, List.not_mem_nil, or_false] at hp
    rcases hp with rfl | rfl
    · exact hv
    · exact I.i
  have hT := all_tround h1 a.tmps.toList g cap k hk (kX k) x0 x1 (kY k) y0 y1 trivial
  rw [← ha]
  have hcells : ((tuCells.take (2 * k)).map litS ++ [S.int .i64 (X.v (kX k) 0 4611686018427387904), S.int .i64 (X.v (kY k) 0 4611686018427387904)]).map S.ev = tuV (k + 1) := by
    rw [tuV_succ (by omega), List.map_append, lits_ev]
    rfl
  have hH := owns_holds _ hcells hown jw
  refine seq_ok hV (w0 := w) [tuHd] (last := (Code.block 1 (seqs tuMi (.region 10 tuAp false))).seq tuR4) hT (memOk_one ?_) (hdT_ok ?_) ?_ w hH
  · intro c hc
    rcases List.mem_append.1 hc with hc | hc
    · obtain ⟨d, _, rfl⟩ := List.mem_map.1 hc
      trivial
    · simp only [List.mem_cons, List.not_mem_nil, or_false] at hc
      rcases hc with rfl | rfl <;> exact ⟨by assumption, by assumption⟩
  · intro p hp
    simp only [List.mem_cons, List.not_mem_nil, or_false] at hp
    rcases hp with rfl | rfl
    · rfl
    · trivial
  intro t1 m1 e1 f1 H1 o1 s1 w1 Hw1
  refine wp_seq (wp_block ?_)
  refine seq_ok hV (w0 := w) tuMi s1 H1 o1 ?_ w1 Hw1
  intro t2 m2 e2 f2 H2 o2 s2 w2 Hw2
  have f12 : Fr ((tuHd :: tuMi).flatMap dsts) (hdT 63 a.tmps.toList [(1, .a (.s (.sl 0 g 0 (k + 1) cap))), (2, .a (.s (.int .i64 (.lit k))))]) t2 :=
    (f1.mono fun i hi => by simpa using Or.inl hi).trans (f2.mono fun i hi => by simpa using Or.inr hi)
  have hev : (hdT 63 a.tmps.toList [(1, .a (.s (.sl 0 g 0 (k + 1) cap))), (2, .a (.s (.int .i64 (.lit k))))]).map V.ev = a.tmps.toList := by
    have := congrArg (fun a : Act => a.tmps.toList) ha
    simpa [actOf] using this
  have hs1 : (t2.map V.ev)[1]? = some (.slice (some ⟨g, 0, none⟩) (k + 1) cap) := by
    rw [f12.2 1 (notin tu_f1), hev]; exact hv
  have hs2 : (t2.map V.ev)[2]? = some (.int .i64 k) := by
    rw [f12.2 2 (notin tu_f2), hev]; exact I.i
  have hl2 : t2.length = 63 := by
    rw [f12.1]
    have := congrArg List.length hev
    rw [List.length_map, I.n] at this
    exact this
  refine pre_ok2 hV (w0 := w) [1, 2, 3, 4, 5, 6, 7] [8, 9] tu_rng tu_o0 tu_o0o tu_o0g tu_o0d s2 H2 o2 hs1 (by omega) ?_ w2 Hw2
  intro t3 m3 e3 l3 f3 g3 H3 o3 s3 w3 Hw3
  obtain ⟨b, ns, hb, hn, hpost, hnews⟩ := endT_ok H3 o3 s3
  match ns, hn with
  | [c, l], _ =>
  obtain ⟨rfl, rfl⟩ := tu_next hk (show isRoot _ c ∧ l = _ from hpost)
  have h53 : (t3.map V.ev)[53]? = some (.slice (some ⟨g, 0, none⟩) (k + 1) cap) := g3 (notin tu_f3)
  have h2' : (t3.map V.ev)[2]? = some (.int .i64 k) := by rw [f3 2 (by omega) (notin tu_f4)]; exact hs2
  obtain ⟨ti, hi, hz, hsz, hby⟩ := info_parts tu_info
  have e53 : (actOf [] t3).eval (.tmp 53) = .slice (some ⟨g, 0, none⟩) (k + 1) cap := by
    simp only [Act.eval, actOf, Array.getD_eq_getD_getElem?, List.getElem?_toArray, h53, Option.getD_some]
  refine wpOps_one tu_o8 tu_o8g ?_
  refine ap_wp (w0 := w0) (.tmp 53) (.tmp 60) 47 tu_o8o 50 ti _ 2 16 tu_under hi hz hsz hby rfl (by omega) _ (k + 1) (tuV (k + 1)) e53 (owns_sm hown Hw3.sm) (I.sm.trans Hw3.sm) ⟨b, 0, none⟩ 1 1 [.int .i64 (kX (k + 1)), .int .i64 (kY (k + 1))] hb rfl (hnews Hw3) ?_ (by omega) (by simp only [maxLen]; omega) (by omega) ?_
  · intro u hu
    simp only [List.mem_cons, List.not_mem_nil, or_false] at hu
    rcases hu with rfl | rfl <;> rfl
  intro g' cap' w4 hown4 hsm4
  rw [← tuV_succ (by omega)] at hown4
  rw [tu_o8d]
  refine wpOps_one tu_o9 tu_o9g (mv_wp (.inr tu_o9o) ?_)
  rw [tu_o9d]
  generalize hv' : Value.slice (some ⟨g', 0, none⟩) (k + 1 + 1) cap' = v' at hown4 ⊢
  have l3' : (actOf [] t3).tmps.toList.length = 63 := by simp [actOf, l3, hl2]
  have e61 : ((actOf [] t3).put (some 61) v').eval (.tmp 61) = v' := by
    have := put_get (actOf [] t3) 61 61 v' (by omega)
    rw [if_pos rfl] at this
    simp only [Act.eval, Array.getD_eq_getD_getElem?]
    rw [← Array.getElem?_toList, this]
    rfl
  rw [e61]
  generalize ha5 : ((actOf [] t3).put (some 61) v').put (some 1) v' = a5
  have n5 : a5.tmps.toList.length = 63 := by rw [← ha5, put_len, put_len, l3']
  have d5 : a5.defers = [] := by rw [← ha5]; rfl
  have s51 : a5.tmps.toList[1]? = some v' := by rw [← ha5, put_get _ _ _ _ (by rw [put_len, l3']; omega), if_pos rfl]
  have s52 : a5.tmps.toList[2]? = some (.int .i64 k) := by
    rw [← ha5, put_get _ _ _ _ (by rw [put_len, l3']; omega), if_neg (by omega), put_get _ _ _ _ (by rw [l3']; omega), if_neg (by omega)]
    simpa [actOf] using h2'
  show tuR4.wp Try.prog _ a5 w4
  have hT2 := all_tnext h2 a5.tmps.toList 0 (by omega) (k : Int) (by omega) (by omega) trivial
  have ha6 : actOf [] (hdT 63 a5.tmps.toList [(2, .a (.s (.int .i64 (.v (k : Int) 0 39))))]) = a5 := by
    refine hdT_act d5 n5 ?_
    intro p hp
    simp only [List.mem_cons, List.not_mem_nil, or_false] at hp
    subst hp
    exact s52
  have hev6 : (hdT 63 a5.tmps.toList [(2, .a (.s (.int .i64 (.v (k : Int) 0 39))))]).map V.ev = a5.tmps.toList := by
    have := congrArg (fun a : Act => a.tmps.toList) ha6
    simpa [actOf] using this
  rw [← ha6]
  refine (symCode_ok hV 2000 w4 [] 18 tuR4 _ [] _ _ hT2 memOk_nil (hdT_ok ?_) ?_ w4 (holds_nil (hsm4.j j))).1
  · intro p hp
    simp only [List.mem_cons, List.not_mem_nil, or_false] at hp
    subst hp
    exact ⟨by omega, by omega⟩
  intro ex t6 m6 e6 f6 H6 o6 s6 w6 Hw6
  cases ex with
  | exit id => exact s6.elim
  | ret => exact s6.elim
  | normal =>
    obtain ⟨n, hn6, hp6⟩ := endN_ok s6
    have hp6' : n = (k : Int) + 1 := hp6
    refine ⟨rfl, ?_, by omega, ?_, ⟨v', ?_, owns_sm hown4 Hw6.sm⟩, hsm4.trans Hw6.sm⟩
    · have := congrArg List.length hev6
      simp only [List.length_map] at this
      simp [actOf, f6.1, this, n5]
    · have : (actOf [] t6).tmps.toList[2]? = (t6.map V.ev)[2]? := by simp [actOf]
      rw [this, hn6, hp6']
      congr 2
    · have : (actOf [] t6).tmps.toList[1]? = (t6.map V.ev)[1]? := by simp [actOf]
      rw [this, f6.2 1 (notin tu_f5), hev6]
      exact s51

def tuK (ex : Ex) (tmps : List V) (mem : List SB) : T := match ex with | .exit 0 => .is (.lit true) | _ => .fail "out"
theorem tu_leave (vs : List Value) : sat E (symCode Try.prog tab68 2000 18 tuHd (hdT 63 vs [(2, .a (.s (.int .i64 (.lit 40))))]) [] tuK) = sat E (.is (.lit true)) := by kernel_rfl

theorem tu_out (hV : Valid Try.prog tab68 E) {w0 : World} {a : Act} {w : World} (j : J w0) (I : TuI w0 a w 40) {Q : Exit → Act → World → Prop} (hQ : ∀ a' w', TuI w0 a' w' 40 → Q (.exit 0) a' w') :
    tuRound.wp Try.prog Q a w := by
  obtain ⟨v, hv, hown⟩ := I.s
  have ha : actOf [] (hdT 63 a.tmps.toList [(2, .a (.s (.int .i64 (.lit 40))))]) = a := by
    refine hdT_act I.d I.n ?_
    intro p hp
    simp only [List.mem_cons, List.not_mem_nil, or_false] at hp
    subst hp
    exact I.i
  have hev : (hdT 63 a.tmps.toList [(2, .a (.s (.int .i64 (.lit 40))))]).map V.ev = a.tmps.toList := by
    have := congrArg (fun a : Act => a.tmps.toList) ha
    simpa [actOf] using this
  rw [← ha]
  refine wp_seq ?_
  refine (symCode_ok hV 2000 w [] 18 tuHd _ [] tuK _ ((tu_leave a.tmps.toList).mpr rfl) memOk_nil (hdT_ok ?_) ?_ w (holds_nil (I.sm.j j))).1
  · intro p hp
    simp only [List.mem_cons, List.not_mem_nil, or_false] at hp
    subst hp
    trivial
  intro ex t6 m6 e6 f6 H6 o6 s6 w6 Hw6
  have g1 : (t6.map V.ev)[1]? = some v := by rw [f6.2 1 (notin tu_f7), hev]; exact hv
  have g2 : (t6.map V.ev)[2]? = some (.int .i64 (40 : Nat)) := by rw [f6.2 2 (notin tu_f8), hev]; exact I.i
  match ex, s6 with
  | .exit 0, _ =>
    refine hQ _ _ ⟨rfl, ?_, by omega, ?_, ⟨v, ?_, owns_sm hown Hw6.sm⟩, I.sm.trans Hw6.sm⟩
    · have := congrArg List.length hev
      simp only [List.length_map] at this
      simp [actOf, f6.1, this, I.n]
    · simpa [actOf] using g2
    · simpa [actOf] using g1

def tuMu (a : Act) (_ : World) : Nat := match a.tmps.toList[2]? with | some (Value.int _ n) => (41 - n).toNat | _ => 0
theorem tuMu_eq {w0 : World} {a : Act} {w : World} {k : Nat} (I : TuI w0 a w k) : tuMu a w = 41 - k := by
  unfold tuMu
  rw [I.i]
  simp only
  have := I.le
  omega

theorem tu_loop (h1 : P_tround) (h2 : P_tnext) (hV : Valid Try.prog tab68 E) {w0 : World} (j : J w0) {a : Act} {w : World} (h0 : TuI w0 a w 0) {Q : Exit → Act → World → Prop} (hQ : ∀ a' w', TuI w0 a' w' 40 → Q (.exit 0) a' w') :
    (Code.loop tuRound).wp Try.prog Q a w := by
  refine wp_loop (fun a w => ∃ k, TuI w0 a w k) tuMu ⟨0, h0⟩ ?_
  rintro a w ⟨k, I⟩
  rcases Nat.lt_or_ge k 40 with hk | hk
  · refine Code.wp_mono ?_ (tu_round h1 h2 hV j hk I (Q := Q))
    intro e a' w' q
    cases e with
    | normal => exact ⟨⟨k + 1, q⟩, by rw [tuMu_eq I, tuMu_eq q]; omega⟩
    | _ => exact q
  · have e : k = 40 := Nat.le_antisymm I.le hk
    subst e
    exact tu_out hV j I hQ

theorem one_result {fn : Func} {tmps : Array Value} {t : Nat} {v : Value} (h : fn.results = #[.tmp t]) (hv : tmps.toList[t]? = some v) (w : World) : (results fn tmps).run Try.prog w = .ok v w := by
  have e : tmps[t]?.getD undef = v := by
    rw [← Array.getElem?_toList, hv]
    rfl
  unfold results
  rw [h]
  simp [e]

theorem tu_0o : (opAt tu0 0).op = .assign (.const (.slice none 0 0)) := by kernel_rfl
theorem tu_1a : (opAt tu1 0).op = .build 50 #[(0, .const (.int .i64 0)), (1, .const (.int .i64 4611686018427387904))] := by kernel_rfl
theorem tu_1b : (opAt tu1 1).op = .buildSlice 47 1 #[(0, .tmp 11)] := by kernel_rfl
theorem tu_1c : (opAt tu1 2).op = .assign (.tmp 12) := by kernel_rfl
theorem tu_2o : (opAt tu2 0).op = .assign (.const (.int .i64 0)) := by kernel_rfl
theorem tu_11a : (opAt tu11 0).op = .move (.tmp 1) := by kernel_rfl
theorem tu_11b : (opAt tu11 1).op = .assign (.tmp 62) := by kernel_rfl
theorem tu_built (a : Act) : Try.prog.built 50 ((#[(0, Operand.const (.int .i64 0)), (1, .const (.int .i64 4611686018427387904))] : Array (Nat × Operand)).map fun (i, x) => (i, a.eval x)).toList = some #[.int .i64 0, .int .i64 4611686018427387904] := by kernel_rfl

theorem tu_fill : Instr.fill (fun i => some (i * 2, 2)) (Array.map (fun x => (Value.agg #[Value.int IntKind.i64 0, Value.int IntKind.i64 0]).cells[x % (Value.agg #[Value.int IntKind.i64 0, Value.int IntKind.i64 0]).cells.size]!) (Array.range (1 * 2))) [(0, Value.agg #[Value.int IntKind.i64 0, Value.int IntKind.i64 4611686018427387904])] = some #[Value.int IntKind.i64 0, Value.int IntKind.i64 4611686018427387904] := by kernel_rfl

theorem act_get {a : Act} {t : Nat} {v : Value} (h : a.tmps.toList[t]? = some v) : a.eval (.tmp t) = v := by
  simp only [Act.eval, Array.getD_eq_getD_getElem?]
  rw [← Array.getElem?_toList, h]
  rfl

theorem turns_new (h1 : P_tround) (h2 : P_tnext) : P_turns := by
  intro hV w j
  refine calls_of_wp Try.func18 tu_body ?_
  have n0 : ((#[] : Array Value) ++ Array.replicate (Try.f18.ntmps - 0) undef).toList.length = 63 := by
    have : Try.f18.ntmps = 63 := by kernel_rfl
    simp [this]
  generalize ha0 : ({ tmps := ((new_turns.args.map litV).toArray : Array Value) ++ Array.replicate (Try.f18.ntmps - (new_turns.args.map litV).toArray.size) undef, defers := [] } : Act) = a0
  have l0 : a0.tmps.toList.length = 63 := by rw [← ha0]; exact n0
  have d0 : a0.defers = [] := by rw [← ha0]
  refine wp_seq (wp_region ?_)
  rw [show List.range tu0.size = [0] by kernel_rfl]
  refine wpOps_one (o := opAt tu0 0) (by kernel_rfl) (by kernel_rfl) (mv_wp (.inr tu_0o) ?_)
  rw [show (opAt tu0 0).dst = some 0 by kernel_rfl]
  generalize ha1 : a0.put (some 0) (a0.eval (.const (.slice none 0 0))) = a1
  have l1 : a1.tmps.toList.length = 63 := by rw [← ha1, put_len, l0]
  have d1 : a1.defers = [] := by rw [← ha1]; exact d0
  refine wp_seq (wp_region ?_)
  rw [show List.range tu1.size = [0, 1, 2] by kernel_rfl]
  refine wpOps_one (o := opAt tu1 0) (by kernel_rfl) (by kernel_rfl) (bd_wp tu_1a _ (tu_built a1) ?_)
  rw [show (opAt tu1 0).dst = some 11 by kernel_rfl]
  generalize ha2 : a1.put (some 11) (.agg #[.int .i64 0, .int .i64 4611686018427387904]) = a2
  have l2 : a2.tmps.toList.length = 63 := by rw [← ha2, put_len, l1]
  have d2 : a2.defers = [] := by rw [← ha2]; exact d1
  have e2 : a2.eval (.tmp 11) = .agg #[.int .i64 0, .int .i64 4611686018427387904] := act_get (by rw [← ha2, put_get _ _ _ _ (by omega), if_pos rfl])
  obtain ⟨ti, hi, hz, hsz, hby⟩ := info_parts tu_info
  refine wpOps_one (o := opAt tu1 1) (by kernel_rfl) (by kernel_rfl) (wp_buildSlice 47 50 1 _ tu_1b #[.int .i64 0, .int .i64 4611686018427387904] ti _ tu_under hi hz (by rw [hsz]; omega) (by rw [hsz]; omega) ?_ ?_)
  · have e : ((#[(0, Operand.tmp 11)] : Array (Nat × Operand)).map fun (i, x) => (i, a2.eval x)).toList = [(0, .agg #[.int .i64 0, .int .i64 4611686018427387904])] := by simp [e2]
    rw [e, hsz]
    exact tu_fill
  rw [show (opAt tu1 1).dst = some 12 by kernel_rfl]
  have hown := World.ownsRow_lit (base := w.heap.size) (e := 50) (size := 2) w #[.int .i64 0, .int .i64 4611686018427387904] 1 (Nat.le_refl _) (by decide) rfl
  have hsm := Sm.alloc w #[.int .i64 0, .int .i64 4611686018427387904] 50
  generalize hw1 : w.alloc (.cells #[.int .i64 0, .int .i64 4611686018427387904] 50) = w1 at hown ⊢
  replace hsm : Sm w w1 := by rw [← hw1]; exact hsm
  generalize hv1 : Value.slice (some ⟨w.heap.size, 0, none⟩) 1 1 = v1 at hown ⊢
  generalize ha3 : a2.put (some 12) v1 = a3
  have l3 : a3.tmps.toList.length = 63 := by rw [← ha3, put_len, l2]
  have d3 : a3.defers = [] := by rw [← ha3]; exact d2
  have e3 : a3.eval (.tmp 12) = v1 := act_get (by rw [← ha3, put_get _ _ _ _ (by omega), if_pos rfl])
  refine wpOps_one (o := opAt tu1 2) (by kernel_rfl) (by kernel_rfl) (mv_wp (.inr tu_1c) ?_)
  rw [show (opAt tu1 2).dst = some 1 by kernel_rfl, e3]
  generalize ha4 : a3.put (some 1) v1 = a4
  have l4 : a4.tmps.toList.length = 63 := by rw [← ha4, put_len, l3]
  have d4 : a4.defers = [] := by rw [← ha4]; exact d3
  have g4 : a4.tmps.toList[1]? = some v1 := by rw [← ha4, put_get _ _ _ _ (by omega), if_pos rfl]
  refine wp_seq (wp_seq (wp_region ?_))
  rw [show List.range tu2.size = [0] by kernel_rfl]
  refine wpOps_one (o := opAt tu2 0) (by kernel_rfl) (by kernel_rfl) (mv_wp (.inr tu_2o) ?_)
  rw [show (opAt tu2 0).dst = some 2 by kernel_rfl]
  have I : TuI w (a4.put (some 2) (a4.eval (.const (.int .i64 0)))) w1 0 := by
    refine ⟨d4, by rw [put_len, l4], by omega, by rw [put_get _ _ _ _ (by omega), if_pos rfl]; rfl, ⟨v1, ?_, hown⟩, hsm⟩
    rw [put_get _ _ _ _ (by omega), if_neg (by omega)]
    exact g4
  refine wp_block (tu_loop h1 h2 hV j I ?_)
  intro a5 w5 I5
  refine wp_seq (wp_region ?_)
  rw [show List.range tu11.size = [0, 1] by kernel_rfl]
  refine wpOps_one (o := opAt tu11 0) (by kernel_rfl) (by kernel_rfl) (mv_wp (.inl tu_11a) ?_)
  rw [show (opAt tu11 0).dst = some 62 by kernel_rfl]
  obtain ⟨v, hv, hown5⟩ := I5.s
  obtain ⟨g, cap, rfl, hg⟩ := owns_slice hown5 (by omega)
  rw [act_get hv]
  have l6 := I5.n
  refine wpOps_one (o := opAt tu11 1) (by kernel_rfl) (by kernel_rfl) (mv_wp (.inr tu_11b) ?_)
  rw [show (opAt tu11 1).dst = some 0 by kernel_rfl]
  rw [act_get (t := 62) (a := a5.put (some 62) _) (by rw [put_get _ _ _ _ (by omega), if_pos rfl])]
  refine wp_ret ⟨I5.d, _, one_result (t := 0) (by kernel_rfl) (by rw [put_get _ _ _ _ (by rw [put_len]; omega), if_pos rfl]) w5, ?_⟩
  refine ⟨g, cap, rfl, I5.sm, hg, ?_⟩
  rcases hown5.2 with ⟨h', _⟩ | ⟨g', cap', cur, q1, _, q3, _, _, _, q7⟩
  · cases h'
  · cases q1
    refine ⟨_, _, _, q3, fun i u hu => ?_⟩
    have e : tuV 41 = new_turns.cells.map litV := by
      unfold tuV
      rw [List.take_of_length_le (by decide)]
      rfl
    rw [← e, ← q7, List.getElem?_take] at hu
    split at hu
    · simpa using hu
    · cases hu

end Go.Proofs.Ytihfbliipjobdaa.Sx
