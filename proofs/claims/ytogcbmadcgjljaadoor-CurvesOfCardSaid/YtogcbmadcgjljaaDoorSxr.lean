/-
  A frame of our own for walks, part r: code in pieces, around an append that is walked by itself.
-/
import Derived.Test.YtogcbmadcgjljaaDoorSxp
import Derived.Deep.AppendLies
set_option linter.all false
namespace Go.Proofs.YtogcbmadcgjljaaDoor.Sx
open Go Go.RowKit

variable {P : Program}

/-! ### append onto a row that the call has made -/
theorem sm_alloc_drew {w0 w : World} (h : Sm w0 w) (c : Array Value) (t : TypeId) : Sm w0 (w.drew.alloc (.cells c t)) :=
  h.trans (Sm.trans (b := w.drew) ⟨⟨rfl, rfl, rfl, Nat.le_refl _, fun _ _ => rfl⟩, (Sm.refl w).2⟩ (Sm.alloc w.drew c t))

theorem sm_setRow {w0 w : World} (h : Sm w0 w) {g : Nat} {cur : Array Value} {e : TypeId} (hg : w.heap[g]? = some (.cells cur e (0, 0))) (hb : w0.heap.size ≤ g) (cs : Array Value) : Sm w0 (w.setRow g cs) := by
  refine ⟨⟨h.1.os, h.1.tape, h.1.output, ?_, fun k hk => ?_⟩, fun a ha => ?_⟩
  · have : (w.setRow g cs).heap.size = w.heap.size := by simp
    rw [this]; exact h.1.size
  · rw [setRow_other w g k _ (by omega)]
    exact h.1.block k hk
  · by_cases e : a.block = g
    · have := setRow_heap w g cur cs _ _ hg
      simp only [World.frozen?, e, this]
      simp
    · have : (w.setRow g cs).frozen? a = w.frozen? a := World.frozen?_of_block (setRow_other w g a.block _ e)
      rw [this]; exact h.2 a ha

theorem ap_run {w0 w : World} (t ty : TypeId) (e : TypeId) (i : TypeInfo) (z : Value) (size bytes : Nat) (ht : P.underlying t = some (.slice e)) (hi : P.info? e = some i) (hz : i.zero = some z)
    (hsize : i.size = size) (hby : i.bytes = bytes) (hzs : z.cells.size = size) (hsz : 0 < size)
    (v : Value) (n : Nat) (xs : List Value) (hown : w.ownsRow w0.heap.size e size v n xs) (hsm : Sm w0 w)
    (ad : Addr) (m c : Nat) (news : List Value) (hl : news.length = m * size) (hnews : ∀ j u, news[j]? = some u → w.cell? (ad.add j) = some u) (h1 : ∀ u ∈ news, u.oneCell' = true)
    (hm : 0 < m) (h63 : n + m ≤ maxLen) (hbytes : (n + m) * bytes ≤ 140737488355328) :
    ∃ g cap w', (Builtin.append_ #[t, t] ty #[v, .slice (some ad) m c]).run P w = .ok (.slice (some ⟨g, 0, none⟩) (n + m) cap) w' ∧
      w'.ownsRow w0.heap.size e size (.slice (some ⟨g, 0, none⟩) (n + m) cap) (n + m) (xs ++ news) ∧ Sm w0 w' := by
  subst hsize
  subst hby
  have hbase : w0.heap.size ≤ w.heap.size := hsm.1.size
  have hlen : (xs ++ news).length = (n + m) * i.size := by rw [List.length_append, hown.1, hl, Nat.add_mul]
  have grown : ∀ (old : Nat), old < n + m →
      (w.drew.alloc (.cells (xs.toArray ++ news.toArray ++ Builtin.zeroCells z.cells (grownCap w (n + m) old e - (n + m))) e)).ownsRow w0.heap.size e i.size
        (.slice (some ⟨w.heap.size, 0, none⟩) (n + m) (grownCap w (n + m) old e)) (n + m) (xs ++ news) ∧
      Sm w0 (w.drew.alloc (.cells (xs.toArray ++ news.toArray ++ Builtin.zeroCells z.cells (grownCap w (n + m) old e - (n + m))) e)) := by
    intro old ho
    have hge := grownCap_ge w (n + m) old e
    have hcm : grownCap w (n + m) old e ≤ maxLen := grownCap_le_maxLen w (n + m) old e h63
    refine ⟨⟨hlen, .inr ⟨w.heap.size, _, _, rfl, hbase, heap_alloc_new w.drew _, hge, hcm, ?_, ?_⟩⟩, sm_alloc_drew hsm _ _⟩
    · simp only [Array.size_append, List.size_toArray, size_zeroCells, hzs, hown.1, hl, ← Nat.add_mul]
      congr 1
      omega
    · simp only [Array.toList_append, List.append_assoc]
      rw [← List.append_assoc, ← hlen]
      exact List.take_left
  rcases hown.2 with ⟨rfl, rfl⟩ | ⟨g, cap, cur, rfl, hbg, hg, hnc, hcm, hcs, htake⟩
  · have hx : xs = [] := List.eq_nil_of_length_eq_zero (by simpa using hown.1)
    subst hx
    have hr := run_append_nil (P := P) w t ty e i z ht hi hz ad m c news hl hnews (by omega) (by simp only [maxLen] at h63; omega) (by have hb := hbytes; simp only [Nat.zero_add] at hb; omega)
    have hgr := grown 0 (by omega)
    simp only [Nat.zero_add, List.nil_append, Array.empty_append] at hgr ⊢
    exact ⟨_, _, _, hr, hgr.1, hgr.2⟩
  · by_cases hroom : n + m ≤ cap
    · have hfit : n * i.size + news.length ≤ cur.size := by rw [hl, hcs, ← Nat.add_mul]; exact Nat.mul_le_mul_right _ hroom
      have hr := run_append_room (P := P) w t ty e i ht hi g n cap cur hg ad m c news hl hnews h1 hroom hfit
      refine ⟨_, _, _, hr, ⟨hlen, .inr ⟨g, cap, _, rfl, hbg, setRow_heap w g cur _ e _ hg, hroom, hcm, ?_, ?_⟩⟩, sm_setRow hsm hg hbg _⟩
      · simp only [List.size_toArray, List.length_append, List.length_take, List.length_drop, Array.length_toList]
        omega
      · rw [htake, ← hlen]
        exact List.take_left
    · have holds : ∀ j u, xs[j]? = some u → w.cell? ((⟨g, 0, none⟩ : Addr).add j) = some u := hown.cells (g := g) rfl
      have hr := run_append_grow (P := P) w t ty e i z ht hi hz ⟨g, 0, none⟩ n cap xs hown.1 holds ad m c news hl hnews (by omega) (by simp only [maxLen] at h63; omega) (growslice_fits (by omega) hbytes)
      have hgr := grown cap (by omega)
      exact ⟨_, _, _, hr, hgr.1, hgr.2⟩

theorem ap_wp {w0 w : World} {o : Oper} {a : Act} {K : Act → World → Prop} {Q : Exit → Act → World → Prop} (s x : Operand) (t : TypeId)
    (ho : o.op = .call { callee := .builtin .append, args := #[s, x], argTypes := #[t, t] })
    (e : TypeId) (i : TypeInfo) (z : Value) (size bytes : Nat) (ht : P.underlying t = some (.slice e)) (hi : P.info? e = some i) (hz : i.zero = some z)
    (hsize : i.size = size) (hby : i.bytes = bytes) (hzs : z.cells.size = size) (hsz : 0 < size)
    (v : Value) (n : Nat) (xs : List Value) (hs : a.eval s = v) (hown : w.ownsRow w0.heap.size e size v n xs) (hsm : Sm w0 w)
    (ad : Addr) (m c : Nat) (news : List Value) (hx : a.eval x = .slice (some ad) m c) (hl : news.length = m * size) (hnews : ∀ j u, news[j]? = some u → w.cell? (ad.add j) = some u) (h1 : ∀ u ∈ news, u.oneCell' = true)
    (hm : 0 < m) (h63 : n + m ≤ maxLen) (hbytes : (n + m) * bytes ≤ 140737488355328)
    (h : ∀ g cap w', w'.ownsRow w0.heap.size e size (.slice (some ⟨g, 0, none⟩) (n + m) cap) (n + m) (xs ++ news) → Sm w0 w' → K (a.put o.dst (.slice (some ⟨g, 0, none⟩) (n + m) cap)) w') : o.wp P a w K Q := by
  obtain ⟨g, cap, w', hr, h2, h3⟩ := ap_run (P := P) t o.type e i z size bytes ht hi hz hsize hby hzs hsz v n xs hown hsm ad m c news hl hnews h1 hm h63 hbytes
  unfold Oper.wp execOp
  simp only [ho, resolve, invoke, builtin, Sem.run_bind, Sem.run_pure, Result.andThen_ok, List.map_toArray, List.map_cons, List.map_nil, hs, hx, hr]
  exact h g cap w' h2 h3

/-! ### pieces -/
def rawV (v : Value) : V := .a (.s (.raw v))
/-- a state's slots, but for those of which more is known. -/
def hdT (N : Nat) (vs : List Value) (sets : List (Nat × V)) : List V := sets.foldl (fun t p => t.set p.1 p.2) ((fillV N vs).map rawV)

theorem foldl_ev : ∀ (sets : List (Nat × V)) (t : List V), (∀ p ∈ sets, (t.map V.ev)[p.1]? = some p.2.ev) → (sets.foldl (fun t p => t.set p.1 p.2) t).map V.ev = t.map V.ev
  | [], t, _ => rfl
  | p :: ps, t, h => by
    have e : (t.set p.1 p.2).map V.ev = t.map V.ev := by
      rw [List.map_set]
      apply List.ext_getElem?
      intro i
      by_cases hi : p.1 = i
      · subst hi
        have := h p (by simp)
        have hl := (List.getElem?_eq_some_iff.1 this).1
        rw [List.getElem?_set_self hl, this]
      · rw [List.getElem?_set_ne hi]
    simp only [List.foldl_cons]
    rw [foldl_ev ps (t.set p.1 p.2) (fun q hq => by rw [e]; exact h q (by simp [hq])), e]

theorem hdT_ev {N : Nat} {vs : List Value} {sets : List (Nat × V)} (hN : vs.length = N) (h : ∀ p ∈ sets, vs[p.1]? = some p.2.ev) : (hdT N vs sets).map V.ev = vs := by
  have e : ((fillV N vs).map rawV).map V.ev = vs := by
    rw [fillV_eq N vs hN, List.map_map]
    have : V.ev ∘ rawV = id := rfl
    rw [this, List.map_id]
  unfold hdT
  rw [foldl_ev sets _ (by rw [e]; exact h), e]

theorem hdT_act {N : Nat} {a : Act} {sets : List (Nat × V)} (hd : a.defers = []) (hN : a.tmps.toList.length = N) (h : ∀ p ∈ sets, a.tmps.toList[p.1]? = some p.2.ev) : actOf [] (hdT N a.tmps.toList sets) = a := by
  unfold actOf
  rw [hdT_ev hN h, ← hd]

theorem foldl_ok {bs : List Nat} : ∀ (sets : List (Nat × V)) (t : List V), (∀ v ∈ t, v.ok bs) → (∀ p ∈ sets, p.2.ok bs) → ∀ v ∈ sets.foldl (fun t p => t.set p.1 p.2) t, v.ok bs
  | [], t, h, _ => h
  | p :: ps, t, h, k => foldl_ok ps _ (set_ok h (k p (by simp))) fun q hq => k q (by simp [hq])

theorem hdT_ok {bs : List Nat} {N : Nat} {vs : List Value} {sets : List (Nat × V)} (h : ∀ p ∈ sets, p.2.ok bs) : ∀ v ∈ hdT N vs sets, v.ok bs :=
  foldl_ok sets _ (fun v hv => by obtain ⟨x, _, rfl⟩ := List.mem_map.1 hv; trivial) h

def symSeq (P : Program) (tab : Tab) (n : Nat) (f : FuncId) : List Code → List V → List SB → (List V → List SB → T) → T
  | [], tmps, mem, K => K tmps mem
  | c :: cs, tmps, mem, K => symCode P tab n f c tmps mem fun ex tmps mem =>
    match ex with
    | .normal => symSeq P tab n f cs tmps mem K
    | _ => .fail "another way out"

def seqs (cs : List Code) (last : Code) : Code := cs.foldr Code.seq last

theorem seq_ok {tab : Tab} {E : Ctx} (hV : Valid P tab E) {n : Nat} {f : FuncId} {w0 : World} {last : Code} {Q : Exit → Act → World → Prop} {K : List V → List SB → T} : ∀ (cs : List Code) {tmps : List V} {mem : List SB},
    sat E (symSeq P tab n f cs tmps mem K) → MemOk mem → (∀ v ∈ tmps, v.ok (bsOf mem)) →
    (∀ tmps' mem', Ext mem mem' → Fr (cs.flatMap dsts) tmps tmps' → MemOk mem' → (∀ v ∈ tmps', v.ok (bsOf mem')) → sat E (K tmps' mem') → ∀ w, Holds w0 (memOf mem') w → last.wp P Q (actOf [] tmps') w) →
    ∀ w, Holds w0 (memOf mem) w → (seqs cs last).wp P Q (actOf [] tmps) w
  | [], tmps, mem, h, H, ht, hk, w, Hw => hk tmps mem (Ext.refl _) (Fr.refl _ _) H ht h w Hw
  | c :: cs, tmps, mem, h, H, ht, hk, w, Hw => by
    refine wp_seq ((symCode_ok hV n w0 [] f c tmps mem _ _ h H ht ?_ w Hw).1)
    intro ex tmps' mem' h1 hf h2 h3 h4 w' Hw'
    cases ex with
    | normal =>
      refine seq_ok hV cs h4 h2 h3 ?_ w' Hw'
      intro t m a b c' d e w'' Hw''
      exact hk t m (h1.trans a) ((hf.mono (by simp only [List.flatMap_cons, List.mem_append]; exact fun i hi => Or.inl hi)).trans (b.mono (by simp only [List.flatMap_cons, List.mem_append]; exact fun i hi => Or.inr hi))) c' d e w'' Hw''
    | exit id => exact h4.elim
    | ret => exact h4.elim

theorem opsD_pre {w0 : World} {Γ : FuncId → Array Value → Value → Prop} {g : Nat → Lv} {ops : Array Oper} {K : Act → Mem → Prop} {Q : Exit → Act → World → Prop} {l2 : List Nat} (hk : ∀ a' m' w', Holds w0 m' w' → K a' m' → wpOps P ops Q l2 a' w') :
    ∀ (l : List Nat) {a : Act} {m : Mem} {w : World}, opsD P w0 Γ g ops K l a m → Holds w0 m w → wpOps P ops Q (l ++ l2) a w
  | [], _, _, _, h, H => hk _ _ _ H h
  | i :: rest, a, m, w, h, H => by
    simp only [opsD] at h
    simp only [List.cons_append, wpOps]
    cases ho : ops[i]? with
    | none => simp only [ho] at h; exact opsD_pre hk rest h H
    | some o =>
      simp only [ho, stepD] at h
      dsimp only
      split
      · rename_i hw
        rw [if_pos hw] at h
        exact Or.inl (opD_sound h (fun a' m' w' H' h' => opsD_pre hk rest h' H') H)
      · rename_i hw
        rw [if_neg hw] at h
        exact opsD_pre hk rest h H

/-- a plain region's first operations. -/
theorem pre_ok {tab : Tab} {E : Ctx} (hV : Valid P tab E) {n : Nat} {w0 : World} {id : Nat} {ops : Array Oper} {Q : Exit → Act → World → Prop} {K : List V → List SB → T} (l1 l2 : List Nat) (hl : List.range ops.size = l1 ++ l2) {tmps : List V} {mem : List SB}
    (h : sat E (symOps P tab (symFn P (symCode P tab n)) (fun _ => .all) ops l1 tmps mem K)) (H : MemOk mem) (ht : ∀ v ∈ tmps, v.ok (bsOf mem))
    (hk : ∀ tmps' mem', Ext mem mem' → Fr (dstOps ops) tmps tmps' → MemOk mem' → (∀ v ∈ tmps', v.ok (bsOf mem')) → sat E (K tmps' mem') → ∀ w, Holds w0 (memOf mem') w → wpOps P ops Q l2 (actOf [] tmps') w)
    (w : World) (Hw : Holds w0 (memOf mem) w) : (Code.region id ops false).wp P Q (actOf [] tmps) w := by
  refine wp_region ?_
  rw [hl]
  have hops := symOps_ok (ds := []) (w0 := w0) (Kd := fun a m => ∀ w, Holds w0 m w → wpOps P ops Q l2 a w) hV (fun w => symFn_ok (symCode_ok hV n w)) l1 H ht h (fun t m a f b c d => hk t m a f b c d)
  exact opsD_pre (fun a' m' w' H' k => k w' H') l1 hops Hw

/-! ### where a piece ends: a slice of one element -/
def kindsOf : List IntKind → List S → Bool
  | [], [] => true
  | k :: ks, .int k' _ :: xs => k == k' && kindsOf ks xs
  | _, _ => false

theorem kindsOf_ok : ∀ {ks : List IntKind} {xs : List S}, kindsOf ks xs = true → xs.map S.ev = List.zipWith Value.int ks (xs.map S.i)
  | [], [], _ => rfl
  | [], _ :: _, h => by cases h
  | k :: ks, [], h => by cases h
  | k :: ks, x :: xs, h => by
    match x, h with
    | .int k' n, h =>
      simp only [kindsOf, Bool.and_eq_true, beq_iff_eq] at h
      obtain ⟨rfl, h2⟩ := h
      simp only [List.map_cons, List.zipWith_cons_cons, kindsOf_ok h2]
      rfl

def endT (f : FuncId) (ins : List A) (ks : List IntKind) (s : Nat) (tmps : List V) (mem : List SB) : T :=
  match tmps[s]? with
  | some (.a (.s (.sl id b 0 1 1))) => match mem[id]? with
    | some x => if kindsOf ks x.cells then .done f ins (.a (.agg x.cells)) else .fail "kinds"
    | none => .fail "block"
  | _ => .fail "slice"

theorem endT_ok {E : Ctx} {f : FuncId} {ins : List A} {ks : List IntKind} {s : Nat} {tmps : List V} {mem : List SB} (H : MemOk mem) (ht : ∀ v ∈ tmps, v.ok (bsOf mem)) (h : sat E (endT f ins ks s tmps mem)) :
    ∃ b ns, (actOf [] tmps).eval (.tmp s) = .slice (some ⟨b, 0, none⟩) 1 1 ∧ ns.length = ks.length ∧ E.post f (ins.map A.ints) [ns] ∧ ∀ {w0 w : World}, Holds w0 (memOf mem) w → ∀ j u, (List.zipWith Value.int ks ns)[j]? = some u → w.cell? ((⟨b, 0, none⟩ : Addr).add j) = some u := by
  unfold endT at h
  split at h
  · rename_i id b hs
    have hv : (V.a (.s (.sl id b 0 1 1))).ok (bsOf mem) := ht _ (List.mem_of_getElem? hs)
    have hv' : (bsOf mem)[id]? = some b := hv
    split at h
    · rename_i x hx
      split at h
      · rename_i hk
        have hcs := kindsOf_ok hk
        refine ⟨b, x.cells.map S.i, ?_, ?_, ?_, ?_⟩
        · rw [opv_ev]
          simp only [opv, List.getD_eq_getElem?_getD, hs]
          rfl
        · have := congrArg List.length hcs
          have hl : ∀ {ks : List IntKind} {xs : List S}, kindsOf ks xs = true → xs.length = ks.length := by
            intro ks
            induction ks with
            | nil => intro xs h; cases xs with
              | nil => rfl
              | cons => cases h
            | cons k ks ih => intro xs h; cases xs with
              | nil => cases h
              | cons x xs => cases x <;> first | (simp only [kindsOf, Bool.and_eq_true] at h; simp [ih h.2]) | (cases h)
          simp [hl hk]
        · rw [← res_agg]; exact h
        · intro w0 w Hw j u hu
          obtain ⟨h1, h2⟩ := ok_at H hv' hx
          have ha : (⟨b, 0, none⟩ : Addr).add j = ⟨b, j, none⟩ := by unfold Addr.add; split <;> simp_all
          rw [ha]
          refine Hw.cell ?_
          simp only [Mem.cell, h2]
          simp only [Option.isSome_none, Bool.false_eq_true, if_false, SB.blk, List.getElem?_toArray]
          rw [hcs]; exact hu
      · exact h.elim
    · exact h.elim
  · exact h.elim

/-- where a piece ends: a number. -/
def endN (f : FuncId) (ins : List A) (k : IntKind) (s : Nat) (tmps : List V) : T :=
  match tmps[s]? with
  | some (.a (.s (.int k' x))) => if k == k' then .done f ins (.a (.s (.int k x))) else .fail "kind"
  | _ => .fail "number"

theorem endN_ok {E : Ctx} {f : FuncId} {ins : List A} {k : IntKind} {s : Nat} {tmps : List V} (h : sat E (endN f ins k s tmps)) :
    ∃ n, (tmps.map V.ev)[s]? = some (.int k n) ∧ E.post f (ins.map A.ints) [[n]] := by
  unfold endN at h
  split at h
  · rename_i k' x hs
    split at h
    · rename_i e
      simp only [beq_iff_eq] at e
      subst e
      exact ⟨x.ev, by rw [List.getElem?_map, hs]; rfl, h⟩
    · exact h.elim
  · exact h.elim

end Go.Proofs.YtogcbmadcgjljaaDoor.Sx
