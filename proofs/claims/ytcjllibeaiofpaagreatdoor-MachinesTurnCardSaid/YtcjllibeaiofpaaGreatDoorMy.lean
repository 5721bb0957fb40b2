/-
  Machines: parts of programs; the laws, plainly.
-/
import Derived.Test.YtcjllibeaiofpaaGreatDoorMx
set_option linter.all false
namespace Go.Proofs.YtcjllibeaiofpaaGreatDoor.Mach
section
variable {N : Num}
def goesN (k : Nat) (x : Cod) : Cod := if goes x then ⟨x.op, x.n + k⟩ else x
theorem goesN_op (k : Nat) (x : Cod) : (goesN k x).op = x.op := by unfold goesN; split <;> rfl
theorem goesN_goes (k : Nat) (x : Cod) : goes (goesN k x) = goes x := by unfold goes; rw [goesN_op]
theorem goesN_n {k : Nat} {x : Cod} (h : goes x = true) : (goesN k x).n = x.n + k := by unfold goesN; rw [if_pos h]
theorem does1 (c c' : Cod) (a b : List Cel) : does N 1 c a b = does N 1 c' a b := by
 have h : ∀ c, does N 1 c a b = .ok b := fun c => by simp only [does]
 rw [h, h]
theorem does2 (c c' : Cod) (a b : List Cel) : does N 2 c a b = does N 2 c' a b := by
 match a with
 | [] => simp only [does]
 | [x] => simp only [does]
 | _ :: _ :: _ => simp only [does]
theorem tab3 : opTab 3 = some (0, 1) := by decide
theorem tab4 : opTab 4 = some (1, 2) := by decide
theorem aft_op {c c' : Cod} {m cl : Nat} (h : opTab c.op = some (m, cl)) (ho : c'.op = c.op) (hd : ∀ a b, does N cl c' a b = does N cl c a b) (s : List Cel) : aft N c' s = aft N c s := by
 unfold aft
 rw [ho, h]
 simp only [hd]
theorem aft_goesN (k : Nat) (x : Cod) (s : List Cel) : aft N (goesN k x) s = aft N x s := by
 cases g : goes x with
 | false => unfold goesN; rw [g]; rfl
 | true =>
  have ho : x.op = 3 \/ x.op = 4 := by simpa [goes] using g
  rcases ho with o | o
  ·exact aft_op (by rw [o]; exact tab3) (goesN_op k x) (fun a b => does1 _ _ a b) s
  ·exact aft_op (by rw [o]; exact tab4) (goesN_op k x) (fun a b => does2 _ _ a b) s
theorem next_goesN {len i k : Nat} {x : Cod} (h : formedAt len i x = true) (l : List Cel) : nextI (k + i) (goesN k x) l = k + nextI i x l := by
 unfold nextI
 rw [goesN_op]
 split
 ·rename_i q
  have g : goes x = true := by rcases q with q | q <;> simp [goes, q]
  simp only [formedAt, g, Bool.not_true, Bool.false_or, Bool.and_eq_true, decide_eq_true_eq] at h
  rw [goesN_n g]
  omega
 ·omega
def OA : Option (List Cel) -> Option (List Cel) -> Prop
 | none, none => True
 | some s, some t => LR Alk s t
 | _, _ => False
theorem LR.kindsA {s t : List Cel} (h : LR Alk s t) : s.map (·.k) = t.map (·.k) := by
 induction h with
 | nil => rfl
 | cons h _ ih => simp [ih, h.1]
theorem merge_alk {v v' l l' : List Cel} (h : LR Alk v v') (k : LR Alk l l') : LR Alk (merge v l) (merge v' l') := by
 induction h generalizing l l' with
 | nil => cases k <;> exact .nil
 | @cons a b s t hab _ ih => cases k with
  | nil => exact .nil
  | @cons c d u w hcd k =>
   refine .cons ⟨hcd.1, ?_, ?_⟩ (ih k)
   ·show (c.kn && a.kn && decide (a.n = c.n)) = (d.kn && b.kn && decide (b.n = d.n))
    rw [<- hcd.2.1, <- hab.2.1]
    cases h1 : c.kn
    ·simp
    ·cases h2 : a.kn
     ·simp
     ·rw [hcd.2.2 h1, hab.2.2 h2]
   ·intro q
    have q' : (c.kn && a.kn && decide (a.n = c.n)) = true := q
    simp only [Bool.and_eq_true] at q'
    exact hcd.2.2 q'.1.1
theorem comes_alk {w w' : Option (List Cel)} {l l' : List Cel} (h : OA w w') (k : LR Alk l l') : (∀ u, comes w l = .ok u -> ∃ u', comes w' l' = .ok u' /\ OA u u') /\ ∀ e, comes w l = .error e -> comes w' l' = .error e := by
 match w, w', h with
 | none, none, _ => exact ⟨fun u e => by cases e; exact ⟨_, rfl, k⟩, fun e h => by cases h⟩
 | some v, some v', h =>
  unfold comes
  have h1 := LR.kindsA h
  have h2 := LR.kindsA k
  by_cases c : v.map (·.k) = l.map (·.k)
  ·have c' : v'.map (·.k) = l'.map (·.k) := by rw [<- h1, <- h2]; exact c
   simp only [if_pos c, if_pos c']
   exact ⟨fun u e => by cases e; exact ⟨_, rfl, merge_alk h k⟩, fun e h => by cases h⟩
  ·have c' : ¬ v'.map (·.k) = l'.map (·.k) := by rw [<- h1, <- h2]; exact c
   simp only [if_neg c, if_neg c']
   exact ⟨fun u e => (by cases e), fun e h => h⟩
theorem aft_alk (c : Cod) {s t : List Cel} (h : LR Alk s t) : (∀ s', aft N c s = .ok s' -> ∃ t', aft N c t = .ok t' /\ LR Alk s' t') /\ ∀ e, aft N c s = .error e -> aft N c t = .error e := by
 obtain ⟨h1, h2⟩ := aft_rel (N := N) (E := True) alk_rl (fun _ _ _ h => h.2.1) c h
 exact ⟨h1, h2 trivial⟩
def Seg (k len : Nat) (V W : Ways) : Prop := ∀ j, j <= len -> OA (V j) (W (k + j))
theorem Seg.set {k len : Nat} {V W : Ways} (h : Seg k len V W) {i : Nat} {u u' : Option (List Cel)} (hu : OA u u') : Seg k len (V.set i u) (W.set (k + i) u') := by
 intro j hj
 unfold Ways.set
 by_cases c : j = i
 ·subst c; rw [if_pos rfl, if_pos rfl]; exact hu
 ·rw [if_neg c, if_neg (by omega)]; exact h j hj
theorem seg_step {k len i : Nat} {x : Cod} {V W : Ways} (hf : formedAt len i x = true) (hi : i < len) (h : Seg k len V W) :
  (∀ V', stepT N i x V = .ok V' -> ∃ W', stepT N (k + i) (goesN k x) W = .ok W' /\ Seg k len V' W' /\ ∀ j, j <= k + i \/ k + len < j -> W' j = W j) /\ ∀ e, stepT N i x V = .error e -> stepT N (k + i) (goesN k x) W = .error e := by
 have h0 := h i (by omega)
 unfold stepT
 match hv : V i, hw : W (k + i) with
 | none, none => exact ⟨fun V' e => by cases e; exact ⟨W, rfl, h, fun _ _ => rfl⟩, fun e h => by cases h⟩
 | none, some _ => rw [hv, hw] at h0; exact h0.elim
 | some _, none => rw [hv, hw] at h0; exact h0.elim
 | some s, some t =>
  rw [hv, hw] at h0
  have ha := aft_alk (N := N) x (s := s) (t := t) h0
  simp only [aft_goesN, goesN_goes, goesN_op]
  match hs : aft N x s with
  | .error e => rw [ha.2 e hs]; exact ⟨fun V' e => (by cases e), fun e h => h⟩
  | .ok l =>
   obtain ⟨l', hl', hal⟩ := ha.1 l hs
   rw [hl']
   simp only [ok_bind]
   have tail : ∀ V1 W1 : Ways, Seg k len V1 W1 -> (∀ j, j <= k + i \/ k + len < j -> W1 j = W j) ->
     (∀ V', (if x.op ≠ 3 then (comes (V1 (i + 1)) l).bind fun v => .ok (V1.set (i + 1) v) else .ok V1 : R Ways) = .ok V' -> ∃ W', (if x.op ≠ 3 then (comes (W1 (k + i + 1)) l').bind fun v => .ok (W1.set (k + i + 1) v) else .ok W1 : R Ways) = .ok W' /\ Seg k len V' W' /\ ∀ j, j <= k + i \/ k + len < j -> W' j = W j) /\
     ∀ e, (if x.op ≠ 3 then (comes (V1 (i + 1)) l).bind fun v => .ok (V1.set (i + 1) v) else .ok V1 : R Ways) = .error e -> (if x.op ≠ 3 then (comes (W1 (k + i + 1)) l').bind fun v => .ok (W1.set (k + i + 1) v) else .ok W1 : R Ways) = .error e := by
    intro V1 W1 hs1 ho1
    by_cases o : x.op = 3
    ·simp only [o, ne_eq, not_true_eq_false, if_false]
     exact ⟨fun V' e => by cases e; exact ⟨W1, rfl, hs1, ho1⟩, fun e h => by cases h⟩
    ·simp only [if_pos o]
     have hc := comes_alk (hs1 (i + 1) (by omega)) hal
     match hc1 : comes (V1 (i + 1)) l with
     | .error e =>
      have := hc.2 e hc1
      rw [<- Nat.add_assoc] at this
      rw [this]
      exact ⟨fun V' e => (by cases e), fun e h => h⟩
     | .ok u =>
      obtain ⟨u', e', hu⟩ := hc.1 u hc1
      rw [<- Nat.add_assoc] at e'
      rw [e']
      simp only [ok_bind]
      refine ⟨fun V' e => ?_, fun e h => by cases h⟩
      cases e
      refine ⟨_, rfl, ?_, fun j hj => ?_⟩
      ·have := hs1.set (i := i + 1) hu
       rw [<- Nat.add_assoc] at this
       exact this
      ·unfold Ways.set
       rw [if_neg (by omega)]
       exact ho1 j hj
   cases g : goes x with
   | false =>
    simp only [Bool.false_eq_true, if_false, ok_bind]
    exact tail V W h (fun _ _ => rfl)
   | true =>
    simp only [formedAt, g, Bool.not_true, Bool.false_or, Bool.and_eq_true, decide_eq_true_eq] at hf
    have en : (goesN k x).n.toNat = k + x.n.toNat := by rw [goesN_n g]; omega
    simp only [if_true, en]
    have hc := comes_alk (h x.n.toNat (by omega)) hal
    match hc1 : comes (V x.n.toNat) l with
    | .error e => rw [hc.2 e hc1]; exact ⟨fun V' e => (by cases e), fun e h => h⟩
    | .ok u =>
     obtain ⟨u', e', hu⟩ := hc.1 u hc1
     rw [e']
     simp only [ok_bind]
     refine tail _ _ (h.set hu) (fun j hj => ?_)
     unfold Ways.set
     rw [if_neg (by omega)]
theorem seg_loop {k len : Nat} : ∀ (d : List Cod) (i : Nat) (V W : Ways), formed len i d = true -> i + d.length <= len -> Seg k len V W ->
  (∀ V', loopT N i d V = .ok V' -> ∃ W', loopT N (k + i) (d.map (goesN k)) W = .ok W' /\ Seg k len V' W' /\ ∀ j, j <= k + i \/ k + len < j -> W' j = W j) /\ ∀ e, loopT N i d V = .error e -> loopT N (k + i) (d.map (goesN k)) W = .error e
 | [], i, V, W, _, _, h => ⟨fun V' e => by cases e; exact ⟨W, rfl, h, fun _ _ => rfl⟩, fun e h => by cases h⟩
 | x :: d, i, V, W, hf, hl, h => by
  obtain ⟨fa, ff⟩ := formed_at hf
  simp only [List.length_cons] at hl
  have hs := seg_step (N := N) fa (by omega) h
  simp only [List.map_cons, loopT, bind, Except.bind]
  match h1 : stepT N i x V with
  | .error e => rw [hs.2 e h1]; exact ⟨fun V' e => (by cases e), fun e h => h⟩
  | .ok V1 =>
   obtain ⟨W1, e1, s1, o1⟩ := hs.1 V1 h1
   rw [e1]
   simp only
   have ih := seg_loop d (i + 1) V1 W1 ff (by omega) s1
   rw [<- Nat.add_assoc] at ih
   refine ⟨fun V' e => ?_, ih.2⟩
   obtain ⟨W', e2, s2, o2⟩ := ih.1 V' e
   refine ⟨W', e2, s2, fun j hj => (o2 j (by omega)).trans (o1 j (by omega))⟩
theorem loop_app (d e : List Cod) : ∀ (i : Nat) (W : Ways), loopT N i (d ++ e) W = (loopT N i d W).bind fun W' => loopT N (i + d.length) e W' := by
 induction d with
 | nil => intro i W; rfl
 | cons x d ih =>
  intro i W
  simp only [List.cons_append, loopT, bind, Except.bind]
  match stepT N i x W with
  | .error e => rfl
  | .ok W1 =>
   simp only
   rw [ih, List.length_cons, show i + 1 + d.length = i + (d.length + 1) by omega]
   rfl
theorem formed_app {len : Nat} (d e : List Cod) : ∀ i, formed len i (d ++ e) = (formed len i d && formed len (i + d.length) e) := by
 induction d with
 | nil => intro i; simp [formed]
 | cons x d ih =>
  intro i
  simp only [List.cons_append, formed, ih, List.length_cons, Bool.and_assoc]
  rw [show i + 1 + d.length = i + (d.length + 1) by omega]
theorem formed_goesN {len k : Nat} : ∀ (d : List Cod) (i : Nat), formed (k + len) (k + i) (d.map (goesN k)) = formed len i d
 | [], _ => rfl
 | x :: d, i => by
  simp only [List.map_cons, formed]
  have := formed_goesN (len := len) (k := k) d (i + 1)
  rw [<- Nat.add_assoc] at this
  rw [this]
  congr 1
  unfold formedAt
  rw [goesN_goes, goesN_op]
  cases g : goes x with
  | false => simp
  | true =>
   rw [goesN_n g]
   simp only [Bool.not_true, Bool.false_or]
   congr 1
   congr 1 <;> (apply decide_eq_decide.2; omega)
theorem formed_more {len more : Nat} : ∀ (d : List Cod) (i : Nat), formed len i d = true -> formed (len + more) i d = true
 | [], _, _ => rfl
 | x :: d, i, h => by
  obtain ⟨fa, ff⟩ := formed_at h
  simp only [formed, Bool.and_eq_true]
  refine ⟨?_, formed_more d (i + 1) ff⟩
  unfold formedAt at fa ⊢
  cases g : goes x with
  | false => rw [g] at fa; simpa using fa
  | true =>
   rw [g] at fa
   simp only [Bool.not_true, Bool.false_or, Bool.and_eq_true, decide_eq_true_eq] at fa ⊢
   exact ⟨fa.1, fa.2.1, by omega⟩
inductive Steps (N : Num) (P : List Cod) : Nat -> List Cel -> Nat -> List Cel -> Prop
 | refl {i : Nat} {l : List Cel} : Steps N P i l i l
 | step {i j : Nat} {x : Cod} {l l' l'' : List Cel} : P[i]? = some x -> aft N x l = .ok l' -> Steps N P (nextI i x l) l' j l'' -> Steps N P i l j l''
theorem Steps.trans {P : List Cod} {i j m : Nat} {l l' l'' : List Cel} (h : Steps N P i l j l') (k : Steps N P j l' m l'') : Steps N P i l m l'' := by
 induction h with
 | refl => exact k
 | step h1 h2 _ ih => exact .step h1 h2 (ih k)
theorem at_formed {len : Nat} : ∀ (P : List Cod) (i j : Nat) {x : Cod}, formed len i P = true -> P[j]? = some x -> formedAt len (i + j) x = true
 | [], _, _, _, _, h => by simp at h
 | y :: P, i, 0, x, hf, h => by
  obtain ⟨fa, _⟩ := formed_at hf
  have : y = x := by simpa using h
  rw [<- this]; exact fa
 | y :: P, i, j + 1, x, hf, h => by
  obtain ⟨_, ff⟩ := formed_at hf
  have := at_formed P (i + 1) j ff (by simpa using h)
  rw [show i + (j + 1) = i + 1 + j by omega]; exact this
theorem steps_of {P : List Cod} (hf : formed P.length 0 P = true) : ∀ (f i : Nat) (l l' : List Cel), P.length - i <= f -> i <= P.length -> runL N P f i l = .ok l' -> Steps N P i l P.length l'
 | 0, i, l, l', h, hi, hr => by
  obtain rfl : i = P.length := by omega
  cases hr; exact .refl
 | f + 1, i, l, l', h, hi, hr => by
  simp only [runL] at hr
  match hx : P[i]? with
  | none =>
   simp only [hx] at hr
   cases hr
   have := List.getElem?_eq_none_iff.1 hx
   obtain rfl : i = P.length := by omega
   exact .refl
  | some x =>
   simp only [hx, bind, Except.bind] at hr
   match ha : aft N x l with
   | .error e => rw [ha] at hr; cases hr
   | .ok l1 =>
    rw [ha] at hr
    have hlt := (List.getElem?_eq_some_iff.1 hx).1
    have fa := at_formed P 0 i hf hx
    rw [Nat.zero_add] at fa
    obtain ⟨n1, n2⟩ := next_in fa hlt l
    exact .step hx ha (steps_of hf f _ _ _ (by omega) n2 hr)
theorem runL_of {P : List Cod} (hf : formed P.length 0 P = true) {i : Nat} {l l' : List Cel} {e : Nat} (h : Steps N P i l e l') : e = P.length -> ∀ f, P.length - i <= f -> runL N P f i l = .ok l' := by
 induction h with
 | refl =>
  intro he f _
  subst he
  cases f with
  | zero => rfl
  | succ f => simp [runL]
 | @step i j x l l1 l2 hx ha _ ih =>
  intro he f hle
  have hlt := (List.getElem?_eq_some_iff.1 hx).1
  have fa := at_formed P 0 i hf hx
  rw [Nat.zero_add] at fa
  obtain ⟨n1, n2⟩ := next_in fa hlt l
  match f, hle with
  | 0, hle => omega
  | f + 1, hle =>
   simp only [runL, hx, ha, bind, Except.bind]
   exact ih he f (by show P.length - nextI i x l <= f; omega)
theorem steps_in {c P : List Cod} {k : Nat} (hf : formed c.length 0 c = true) (hP : ∀ i x, c[i]? = some x -> P[k + i]? = some (goesN k x)) {i j : Nat} {l l' : List Cel} (h : Steps N c i l j l') : Steps N P (k + i) l (k + j) l' := by
 induction h with
 | refl => exact .refl
 | @step i j x l l1 l2 hx ha _ ih =>
  have fa := at_formed c 0 i hf hx
  rw [Nat.zero_add] at fa
  refine .step (hP i x hx) (by rw [aft_goesN]; exact ha) ?_
  rw [next_goesN fa]
  exact ih
end
end Go.Proofs.YtcjllibeaiofpaaGreatDoor.Mach
namespace Go.Proofs.YtcjllibeaiofpaaGreatDoor.Mach
section
variable {N : Num}
theorem goesN0 (x : Cod) : goesN 0 x = x := by
 unfold goesN
 split
 ·cases x; simp
 ·rfl
theorem map_goesN0 (d : List Cod) : d.map (goesN 0) = d := by
 have : goesN 0 = id := funext goesN0
 rw [this]; simp
theorem oa_refl (w : Option (List Cel)) : OA w w := by
 cases w with
 | none => trivial
 | some s => exact LR.refl alk_rl.same s
theorem seg_refl (len : Nat) (W : Ways) : Seg 0 len W W := fun j _ => by rw [Nat.zero_add]; exact oa_refl _
theorem loop_out {len : Nat} {d : List Cod} {W W' : Ways} (hf : formed len 0 d = true) (hl : d.length <= len) (h : loopT N 0 d W = .ok W') : ∀ j, len < j -> W' j = W j := by
 obtain ⟨h1, _⟩ := seg_loop (N := N) (k := 0) d 0 W W hf (by omega) (seg_refl len W)
 obtain ⟨W2, e, _, o⟩ := h1 W' h
 rw [map_goesN0, Nat.add_zero, h] at e
 cases e
 exact fun j hj => o j (.inr (by omega))
theorem reals_alk : ∀ (s : List Cel), (∀ a ∈ s, a.k = 1 /\ a.kn = false) -> LR Alk (List.replicate s.length (real 0)) s
 | [], _ => .nil
 | a :: s, h => by
  obtain ⟨h1, h2⟩ := h a (List.mem_cons_self ..)
  exact .cons ⟨h1.symm, h2.symm, fun q => by cases q⟩ (reals_alk s fun b hb => h b (List.mem_cons_of_mem _ hb))
theorem type_unformed {c : List Cod} {n : Nat} (h1 : n <= 100) (h2 : c.length <= 1024) (h3 : formed c.length 0 c = false) : typeW N c n = .error 4 := by
 unfold typeW
 rw [if_neg (by omega), if_neg (by omega), if_pos h3]
theorem both_type {c d : List Cod} {n : Nat} {s : List Cel} (h : typeW N c n = .ok s) (hs : ∀ a ∈ s, a.k = 1 /\ a.kn = false) (hl : c.length + d.length <= 1024) (hn : s.length <= 100) :
  (∀ t, typeW N d s.length = .ok t -> ∃ t', typeW N (c ++ d.map (goesN c.length)) n = .ok t') /\ ∀ e, typeW N d s.length = .error e -> typeW N (c ++ d.map (goesN c.length)) n = .error e := by
 obtain ⟨h1, h2, h3, We, h4, h5⟩ := type_ok h
 have hlen : (c ++ d.map (goesN c.length)).length = c.length + d.length := by simp
 have hfa : formed (c ++ d.map (goesN c.length)).length 0 (c ++ d.map (goesN c.length)) = formed d.length 0 d := by
  rw [hlen, formed_app, formed_more c 0 h3, Bool.true_and, Nat.zero_add]
  exact formed_goesN d 0
 cases hfd : formed d.length 0 d with
 | false =>
  rw [hfd] at hfa
  rw [type_unformed hn (by omega) hfd, type_unformed h1 (by omega) hfa]
  exact ⟨fun t e => (by cases e), fun e h => h⟩
 | true =>
  rw [hfd] at hfa
  rw [type_of hn (by omega) hfd, type_of h1 (by omega) hfa, loop_app, h4]
  have hseg : Seg c.length d.length (start s.length) We := by
   intro j hj
   unfold start
   by_cases c0 : j = 0
   ·subst c0; rw [if_pos rfl, Nat.add_zero, h5]; exact reals_alk s hs
   ·rw [if_neg c0, loop_out h3 (Nat.le_refl _) h4 _ (by omega)]
    unfold start
    rw [if_neg (by omega)]
    trivial
  obtain ⟨k1, k2⟩ := seg_loop (N := N) (k := c.length) d 0 (start s.length) We hfd (by omega) hseg
  rw [Nat.add_zero] at k1 k2
  show (∀ t, (loopT N 0 d (start s.length)).bind _ = _ -> ∃ t', (loopT N (0 + c.length) (d.map (goesN c.length)) We).bind _ = _) /\ ∀ e, (loopT N 0 d (start s.length)).bind _ = _ -> (loopT N (0 + c.length) (d.map (goesN c.length)) We).bind _ = _
  rw [Nat.zero_add]
  match hd : loopT N 0 d (start s.length) with
  | .error e => rw [k2 e hd]; exact ⟨fun t h => (by cases h), fun e h => h⟩
  | .ok Wd =>
   obtain ⟨W', e, _, _⟩ := k1 Wd hd
   rw [e]
   exact ⟨fun t _ => ⟨_, rfl⟩, fun e h => by cases h⟩
theorem mid_real (v : List Cel) (h : ∀ a ∈ v, a.k = 1 /\ a.kn = false) : (v.map (·.n)).map real = v := by
 induction v with
 | nil => rfl
 | cons a v ih =>
  obtain ⟨h1, h2⟩ := h a (List.mem_cons_self ..)
  rw [List.map_cons, List.map_cons, ih fun b hb => h b (List.mem_cons_of_mem _ hb)]
  congr 1
  cases a; simp only [real] at *
  rw [h1, h2]
theorem steps_run {c : List Cod} {ins : List Int} {v : List Cel} (h : runF N c ins = .ok v) : Steps N c 0 (ins.map real) c.length v := by
 obtain ⟨s, h1, _, h3⟩ := run_ok h
 exact steps_of (type_ok h1).2.2.1 _ _ _ _ (by omega) (Nat.zero_le _) h3
theorem run_steps {c : List Cod} {ins : List Int} {v s : List Cel} (h : typeW N c ins.length = .ok s) (hs : Steps N c 0 (ins.map real) c.length v) : runF N c ins = .ok v := by
 have := runL_of (type_ok h).2.2.1 hs rfl c.length (by omega)
 unfold runF
 rw [h]
 exact this
theorem reals_back {s v : List Cel} (h : LR Snd s v) (hv : ∀ a ∈ v, a.k = 1 /\ a.kn = false) : ∀ a ∈ s, a.k = 1 /\ a.kn = false := by
 induction h with
 | nil => intro a ha; cases ha
 | @cons a b s t hab _ ih =>
  obtain ⟨q1, q2⟩ := hv b (List.mem_cons_self ..)
  intro x hx
  rcases List.mem_cons.1 hx with rfl | hx
  ·refine ⟨hab.1.trans q1, ?_⟩
   cases e : x.kn with
   | false => rfl
   | true => rw [(hab.2 e).1] at q2; cases q2
  ·exact ih (fun y hy => hv y (List.mem_cons_of_mem _ hy)) x hx
theorem both_law {c d : List Cod} {ins : List Int} {v : List Cel} (h : runF N c ins = .ok v) (hv : ∀ a ∈ v, a.k = 1 /\ a.kn = false) (hl : c.length + d.length <= 1024) (hn : v.length <= 100) :
  runF N (c ++ d.map (goesN c.length)) ins = runF N d (v.map (·.n)) := by
 obtain ⟨s, h1, h2, _⟩ := run_ok h
 have hlen := h2.length
 have hs := reals_back h2 hv
 obtain ⟨b1, b2⟩ := both_type (N := N) (d := d) h1 hs hl (by omega)
 have hml : (v.map (·.n)).length = s.length := by simp [hlen]
 match hd : runF N d (v.map (·.n)) with
 | .error e =>
  have := run_err.1 hd
  rw [hml] at this
  exact (run_err.2 (b2 e this)).trans hd.symm
 | .ok w =>
  obtain ⟨t, t1, _, _⟩ := run_ok hd
  rw [hml] at t1
  obtain ⟨t', ht'⟩ := b1 t t1
  refine (run_steps ht' ?_).trans hd.symm
  have s1 := steps_run h
  have s2 := steps_run hd
  rw [mid_real v hv] at s2
  have p1 := steps_in (P := c ++ d.map (goesN c.length)) (k := 0) (type_ok h1).2.2.1 (fun i x hx => by
   rw [Nat.zero_add, goesN0, List.getElem?_append_left (List.getElem?_eq_some_iff.1 hx).1]; exact hx) s1
  have p2 := steps_in (P := c ++ d.map (goesN c.length)) (k := c.length) (type_ok t1).2.2.1 (fun i x hx => by
   rw [List.getElem?_append_right (by omega), show c.length + i - c.length = i by omega, List.getElem?_map, hx]; rfl) s2
  rw [Nat.zero_add, Nat.zero_add] at p1
  rw [Nat.add_zero] at p2
  have := p1.trans p2
  rw [show (c ++ d.map (goesN c.length)).length = c.length + d.length by simp]
  exact this
end
end Go.Proofs.YtcjllibeaiofpaaGreatDoor.Mach
namespace Go.Proofs.YtcjllibeaiofpaaGreatDoor.Mach
section
variable {N : Num}
def SegE (k len : Nat) (K : List Int) (V W : Ways) : Prop :=
 (∀ j, j < len -> OA (V j) (W (k + j))) /\ (∃ w, W (k + len) = some w /\ w.map (·.k) = K) /\ ∀ v, V len = some v -> v.map (·.k) = K
theorem merge_kinds {v l : List Cel} (h : v.map (·.k) = l.map (·.k)) : (merge v l).map (·.k) = l.map (·.k) := by
 induction v generalizing l with
 | nil => cases l with
  | nil => rfl
  | cons a l => simp at h
 | cons a v ih => cases l with
  | nil => simp at h
  | cons b l =>
   simp only [List.map_cons, List.cons.injEq] at h
   have : merge (a :: v) (b :: l) = ⟨b.k, b.n, b.kn && a.kn && decide (a.n = b.n)⟩ :: merge v l := rfl
   rw [this, List.map_cons, ih h.2]
   rfl
theorem comes_kinds {w u : Option (List Cel)} {l : List Cel} (h : comes w l = .ok u) : ∃ s, u = some s /\ s.map (·.k) = l.map (·.k) /\ ∀ v, w = some v -> v.map (·.k) = l.map (·.k) := by
 cases w with
 | none => cases h; exact ⟨l, rfl, rfl, fun v h => by cases h⟩
 | some v =>
  unfold comes at h
  by_cases c : v.map (·.k) = l.map (·.k)
  ·simp only [if_pos c] at h; cases h; exact ⟨_, rfl, merge_kinds c, fun v' h => by cases h; exact c⟩
  ·simp only [if_neg c] at h; cases h
theorem comes_ok {v l : List Cel} (h : v.map (·.k) = l.map (·.k)) : comes (some v) l = .ok (some (merge v l)) := by unfold comes; simp only [if_pos h]
theorem segE_comes {k len : Nat} {K : List Int} {V W : Ways} (h : SegE k len K V W) {j : Nat} (hj : j <= len) {l l' : List Cel} (hl : LR Alk l l') :
  (∀ u, comes (V j) l = .ok u -> (j = len -> l.map (·.k) = K) -> ∃ u', comes (W (k + j)) l' = .ok u' /\ SegE k len K (V.set j u) (W.set (k + j) u')) /\
  (∀ u', comes (W (k + j)) l' = .ok u' -> ∃ u, comes (V j) l = .ok u /\ SegE k len K (V.set j u) (W.set (k + j) u')) := by
 obtain ⟨h1, ⟨w, hw, hwk⟩, h3⟩ := h
 by_cases c : j = len
 ·subst c
  have fin : ∀ u u', (∃ s, u = some s /\ s.map (·.k) = K) -> (∃ s, u' = some s /\ s.map (·.k) = K) -> SegE k j K (V.set j u) (W.set (k + j) u') := by
   rintro u u' ⟨s, rfl, hs⟩ ⟨s', rfl, hs'⟩
   refine ⟨fun i hi => ?_, ⟨s', by unfold Ways.set; rw [if_pos rfl], hs'⟩, fun v hv => ?_⟩
   ·unfold Ways.set; rw [if_neg (by omega), if_neg (by omega)]; exact h1 i hi
   ·unfold Ways.set at hv; rw [if_pos rfl] at hv; cases hv; exact hs
  rw [hw]
  constructor
  ·intro u hu hk
   have hk := hk rfl
   have e : w.map (·.k) = l'.map (·.k) := by rw [hwk, <- hl.kindsA, hk]
   refine ⟨_, comes_ok e, fin _ _ ?_ ⟨_, rfl, by rw [merge_kinds e, <- hl.kindsA, hk]⟩⟩
   obtain ⟨s, e1, e2, _⟩ := comes_kinds hu
   exact ⟨s, e1, e2.trans hk⟩
  ·intro u' hu
   obtain ⟨s, e1, e2, e3⟩ := comes_kinds hu
   have hk : l.map (·.k) = K := by rw [hl.kindsA, <- e3 w rfl, hwk]
   match hv : V j with
   | none => exact ⟨some l, rfl, fin _ _ ⟨l, rfl, hk⟩ ⟨s, e1, by rw [e2, <- hl.kindsA, hk]⟩⟩
   | some v =>
    have e : v.map (·.k) = l.map (·.k) := by rw [h3 v hv, hk]
    exact ⟨_, comes_ok e, fin _ _ ⟨_, rfl, by rw [merge_kinds e, hk]⟩ ⟨s, e1, by rw [e2, <- hl.kindsA, hk]⟩⟩
 ·have hlt : j < len := by omega
  have fin : ∀ u u', OA u u' -> SegE k len K (V.set j u) (W.set (k + j) u') := by
   intro u u' hu
   refine ⟨fun i hi => ?_, ⟨w, by unfold Ways.set; rw [if_neg (by omega)]; exact hw, hwk⟩, fun v hv => ?_⟩
   ·unfold Ways.set
    by_cases q : i = j
    ·subst q; rw [if_pos rfl, if_pos rfl]; exact hu
    ·rw [if_neg q, if_neg (by omega)]; exact h1 i hi
   ·unfold Ways.set at hv; rw [if_neg (by omega)] at hv; exact h3 v hv
  obtain ⟨a1, a2⟩ := comes_alk (h1 j hlt) hl
  constructor
  ·intro u hu _
   obtain ⟨u', e, hu'⟩ := a1 u hu
   exact ⟨u', e, fin _ _ hu'⟩
  ·intro u' hu'
   match hc : comes (V j) l with
   | .error e => rw [a2 e hc] at hu'; cases hu'
   | .ok u =>
    obtain ⟨u2, e, hu2⟩ := a1 u hc
    rw [hu'] at e
    cases e
    exact ⟨u, rfl, fin _ _ hu2⟩
theorem step_kinds {i : Nat} {x : Cod} {W W' : Ways} (h : stepT N i x W = .ok W') {j : Nat} {v : List Cel} (hv : W j = some v) : ∃ v', W' j = some v' /\ v'.map (·.k) = v.map (·.k) := by
 have one : ∀ (A : Ways) (a : Nat) (l : List Cel) (u : Option (List Cel)) (v : List Cel), comes (A a) l = .ok u -> A j = some v -> ∃ v', (A.set a u) j = some v' /\ v'.map (·.k) = v.map (·.k) := by
  intro A a l u v hc ha
  unfold Ways.set
  by_cases q : j = a
  ·subst q
   rw [if_pos rfl]
   obtain ⟨s, e1, e2, e3⟩ := comes_kinds hc
   exact ⟨s, e1, e2.trans (e3 v ha).symm⟩
  ·rw [if_neg q]; exact ⟨v, ha, rfl⟩
 match hs : W i with
 | none =>
  unfold stepT at h
  simp only [hs] at h
  cases h; exact ⟨v, hv, rfl⟩
 | some s =>
  obtain ⟨l, W1, ha, h1, h2, h3, h4⟩ := stepT_ok hs h
  have c1 : ∃ v', W1 j = some v' /\ v'.map (·.k) = v.map (·.k) := by
   cases g : goes x with
   | true => obtain ⟨u, hu, rfl⟩ := h1 g; exact one _ _ _ _ _ hu hv
   | false => rw [h2 g]; exact ⟨v, hv, rfl⟩
  by_cases o : x.op = 3
  ·rw [h4 o]; exact c1
  ·obtain ⟨u, hu, rfl⟩ := h3 o
   obtain ⟨v', e1, e2⟩ := c1
   obtain ⟨v2, f1, f2⟩ := one _ _ _ _ _ hu e1
   exact ⟨v2, f1, f2.trans e2⟩
theorem loop_kinds : ∀ (d : List Cod) (i : Nat) (W W' : Ways), loopT N i d W = .ok W' -> ∀ j v, W j = some v -> ∃ v', W' j = some v' /\ v'.map (·.k) = v.map (·.k)
 | [], _, W, W', h, j, v, hv => by cases h; exact ⟨v, hv, rfl⟩
 | x :: d, i, W, W', h, j, v, hv => by
  simp only [loopT, bind, Except.bind] at h
  match hs : stepT N i x W with
  | .error e => rw [hs] at h; cases h
  | .ok W1 =>
   rw [hs] at h
   obtain ⟨v1, e1, e2⟩ := step_kinds hs hv
   obtain ⟨v2, f1, f2⟩ := loop_kinds d (i + 1) W1 W' h j v1 e1
   exact ⟨v2, f1, f2.trans e2⟩
theorem stepT_of {i : Nat} {x : Cod} {W W1 : Ways} {s l : List Cel} (hs : W i = some s) (ha : aft N x s = .ok l) (hg : goes x = true -> ∃ v, comes (W x.n.toNat) l = .ok v /\ W1 = W.set x.n.toNat v) (hn : goes x = false -> W1 = W) :
  stepT N i x W = if x.op ≠ 3 then (comes (W1 (i + 1)) l).bind fun v => .ok (W1.set (i + 1) v) else .ok W1 := by
 unfold stepT
 simp only [hs, ha, ok_bind]
 cases g : goes x with
 | true =>
  obtain ⟨v, e1, rfl⟩ := hg g
  simp only [if_true, e1, ok_bind]
 | false =>
  rw [hn g]
  simp only [Bool.false_eq_true, if_false, ok_bind]
theorem segE_step {k len i : Nat} {K : List Int} {x : Cod} {V W : Ways} (hf : formedAt len i x = true) (hi : i < len) (h : SegE k len K V W) :
  (∀ V', stepT N i x V = .ok V' -> (∀ v, V' len = some v -> v.map (·.k) = K) -> ∃ W', stepT N (k + i) (goesN k x) W = .ok W' /\ SegE k len K V' W') /\
  (∀ W', stepT N (k + i) (goesN k x) W = .ok W' -> ∃ V', stepT N i x V = .ok V' /\ SegE k len K V' W') := by
 have h0 := h.1 i hi
 match hv : V i, hw : W (k + i) with
 | none, none =>
  unfold stepT
  simp only [hv, hw]
  exact ⟨fun V' e _ => by cases e; exact ⟨W, rfl, h⟩, fun W' e => by cases e; exact ⟨V, rfl, h⟩⟩
 | none, some _ => rw [hv, hw] at h0; exact h0.elim
 | some _, none => rw [hv, hw] at h0; exact h0.elim
 | some s, some t =>
  rw [hv, hw] at h0
  have ha := aft_alk (N := N) x (s := s) (t := t) h0
  have gn : goes x = true -> (i : Int) < x.n /\ x.n <= len /\ (goesN k x).n.toNat = k + x.n.toNat := by
   intro g
   simp only [formedAt, g, Bool.not_true, Bool.false_or, Bool.and_eq_true, decide_eq_true_eq] at hf
   rw [goesN_n g]
   omega
  constructor
  ·intro V' hV hK
   obtain ⟨l, V1, al, h1, h2, h3, h4⟩ := stepT_ok hv hV
   obtain ⟨l', al', hll⟩ := ha.1 l al
   have kept : ∀ v, V1 len = some v -> v.map (·.k) = K := by
    intro v hv1
    by_cases o : x.op = 3
    ·rw [h4 o] at hK; exact hK v hv1
    ·obtain ⟨u, hu, rfl⟩ := h3 o
     by_cases q : len = i + 1
     ·obtain ⟨s', e1, e2, e3⟩ := comes_kinds hu
      have := hK s' (by unfold Ways.set; rw [if_pos q]; exact e1)
      rw [<- this, e2]
      exact e3 v (q ▸ hv1)
     ·exact hK v (by unfold Ways.set; rw [if_neg q]; exact hv1)
   have first : ∃ W1, (goes x = true -> ∃ v, comes (W (goesN k x).n.toNat) l' = .ok v /\ W1 = W.set (goesN k x).n.toNat v) /\ (goes x = false -> W1 = W) /\ SegE k len K V1 W1 := by
    cases g : goes x with
    | false => exact ⟨W, fun q => (by cases q), fun _ => rfl, by rw [h2 g]; exact h⟩
    | true =>
     obtain ⟨g1, g2, g3⟩ := gn g
     obtain ⟨u, hu, rfl⟩ := h1 g
     obtain ⟨u', e1, e2⟩ := (segE_comes h (by omega) hll).1 u hu (fun q => by
      obtain ⟨s', f1, f2, _⟩ := comes_kinds hu
      rw [<- f2]
      exact kept s' (by unfold Ways.set; rw [if_pos q.symm]; exact f1))
     rw [g3]
     exact ⟨_, fun _ => ⟨u', e1, rfl⟩, fun q => (by cases q), e2⟩
   obtain ⟨W1, w1, w2, w3⟩ := first
   have hst := stepT_of (N := N) (x := goesN k x) hw (by rw [aft_goesN]; exact al') (fun g => w1 (by rw [goesN_goes] at g; exact g)) (fun g => w2 (by rw [goesN_goes] at g; exact g))
   rw [hst, goesN_op]
   by_cases o : x.op = 3
   ·rw [if_neg (by simp [o]), h4 o]; exact ⟨W1, rfl, w3⟩
   ·obtain ⟨u, hu, rfl⟩ := h3 o
    obtain ⟨u', e1, e2⟩ := (segE_comes w3 (show i + 1 <= len by omega) hll).1 u hu (fun q => by
     obtain ⟨s', f1, f2, _⟩ := comes_kinds hu
     rw [<- f2]
     exact hK s' (by unfold Ways.set; rw [if_pos q.symm]; exact f1))
    rw [if_pos o, Nat.add_assoc, e1]
    exact ⟨_, rfl, e2⟩
  ·intro W' hW
   obtain ⟨l', W1, al', h1, h2, h3, h4⟩ := stepT_ok hw hW
   rw [aft_goesN] at al'
   rw [goesN_goes] at h1 h2
   rw [goesN_op] at h3 h4
   have : ∃ l, aft N x s = .ok l /\ LR Alk l l' := by
    match hs : aft N x s with
    | .error e => rw [ha.2 e hs] at al'; cases al'
    | .ok l =>
     obtain ⟨l2, e, hll⟩ := ha.1 l hs
     rw [al'] at e
     cases e
     exact ⟨l, rfl, hll⟩
   obtain ⟨l, al, hll⟩ := this
   have first : ∃ V1, (goes x = true -> ∃ v, comes (V x.n.toNat) l = .ok v /\ V1 = V.set x.n.toNat v) /\ (goes x = false -> V1 = V) /\ SegE k len K V1 W1 := by
    cases g : goes x with
    | false => exact ⟨V, fun q => (by cases q), fun _ => rfl, by rw [h2 g]; exact h⟩
    | true =>
     obtain ⟨g1, g2, g3⟩ := gn g
     obtain ⟨u', hu, rfl⟩ := h1 g
     rw [g3] at hu ⊢
     obtain ⟨u, e1, e2⟩ := (segE_comes h (show x.n.toNat <= len by omega) hll).2 u' hu
     exact ⟨_, fun _ => ⟨u, e1, rfl⟩, fun q => (by cases q), e2⟩
   obtain ⟨V1, v1, v2, v3⟩ := first
   rw [stepT_of (N := N) hv al v1 v2]
   by_cases o : x.op = 3
   ·rw [if_neg (by simp [o]), h4 o]; exact ⟨V1, rfl, v3⟩
   ·obtain ⟨u', hu, rfl⟩ := h3 o
    rw [Nat.add_assoc] at hu ⊢
    obtain ⟨u, e1, e2⟩ := (segE_comes v3 (show i + 1 <= len by omega) hll).2 u' hu
    rw [if_pos o, e1]
    exact ⟨_, rfl, e2⟩
theorem segE_loop {k len : Nat} {K : List Int} : ∀ (d : List Cod) (i : Nat) (V W : Ways), formed len i d = true -> i + d.length <= len -> SegE k len K V W ->
  (∀ V', loopT N i d V = .ok V' -> (∀ v, V' len = some v -> v.map (·.k) = K) -> ∃ W', loopT N (k + i) (d.map (goesN k)) W = .ok W' /\ SegE k len K V' W') /\
  (∀ W', loopT N (k + i) (d.map (goesN k)) W = .ok W' -> ∃ V', loopT N i d V = .ok V' /\ SegE k len K V' W')
 | [], i, V, W, _, _, h => ⟨fun V' e _ => by cases e; exact ⟨W, rfl, h⟩, fun W' e => by cases e; exact ⟨V, rfl, h⟩⟩
 | x :: d, i, V, W, hf, hl, h => by
  obtain ⟨fa, ff⟩ := formed_at hf
  simp only [List.length_cons] at hl
  obtain ⟨s1, s2⟩ := segE_step (N := N) fa (by omega) h
  simp only [List.map_cons, loopT, bind, Except.bind]
  constructor
  ·intro V' hV hK
   match h1 : stepT N i x V with
   | .error e => rw [h1] at hV; cases hV
   | .ok V1 =>
    rw [h1] at hV
    have hk1 : ∀ v, V1 len = some v -> v.map (·.k) = K := by
     intro v hv
     obtain ⟨v', e1, e2⟩ := loop_kinds d (i + 1) V1 V' hV len v hv
     rw [<- e2]; exact hK v' e1
    obtain ⟨W1, e1, e2⟩ := s1 V1 h1 hk1
    rw [e1]
    have ih := (segE_loop d (i + 1) V1 W1 ff (by omega) e2).1 V' hV hK
    rw [<- Nat.add_assoc] at ih
    exact ih
  ·intro W' hW
   match h1 : stepT N (k + i) (goesN k x) W with
   | .error e => rw [h1] at hW; cases hW
   | .ok W1 =>
    rw [h1] at hW
    obtain ⟨V1, e1, e2⟩ := s2 W1 h1
    rw [e1]
    have ih := (segE_loop d (i + 1) V1 W1 ff (by omega) e2).2
    rw [<- Nat.add_assoc] at ih
    exact ih W' hW
end
end Go.Proofs.YtcjllibeaiofpaaGreatDoor.Mach
