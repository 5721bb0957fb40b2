/-
  Machines: choices, steps without jumps; the laws, plainly.
-/
import Derived.Test.YtcjllibeaiofpaaGreatDoorMy
set_option linter.all false
namespace Go.Proofs.YtcjllibeaiofpaaGreatDoor.Mach
section
variable {N : Num}
theorem tab2 : opTab 2 = some (0, 0) := by decide
theorem takes_app {n : Nat} (st l : List Cel) (h : l.length = n) : takes n (st ++ l) = .ok (l, st) := by
 unfold takes
 rw [if_pos (by simp; omega)]
 simp [h]
theorem aft_of {c : Cod} {m cl : Nat} {st l s : List Cel} (ho : opTab c.op = some (m, cl)) (hl : l.length = m) (hd : does N cl c l st = .ok s) (h : s.length <= 100) : aft N c (st ++ l) = .ok s := by
 unfold aft
 simp only [ho, takes_app st l hl, bind, Except.bind, hd]
 rw [if_pos h]
theorem aft_bool (y : Int) (l : List Cel) (h : l.length + 1 <= 100) : aft N ⟨2, y⟩ l = .ok (l ++ [truth (decide (y ≠ 0))]) := by
 have := aft_of (N := N) (c := ⟨2, y⟩) (m := 0) (cl := 0) (st := l) (l := []) (s := l ++ [truth (decide (y ≠ 0))]) (by decide : opTab 2 = _) rfl (by simp [does, const]) (by simp; omega)
 rwa [List.append_nil] at this
theorem aft_unl (x : Int) (l : List Cel) (b : Bool) (h : l.length <= 100) : aft N ⟨4, x⟩ (l ++ [truth b]) = .ok l :=
 aft_of (m := 1) (cl := 2) (by decide : opTab 4 = _) rfl (by simp [does, truth]) h
theorem aft_jmp (x : Int) (l : List Cel) (h : l.length <= 100) : aft N ⟨3, x⟩ l = .ok l := by
 have := aft_of (N := N) (c := ⟨3, x⟩) (m := 0) (cl := 1) (st := l) (l := []) (s := l) (by decide : opTab 3 = _) rfl (by simp [does]) h
 rwa [List.append_nil] at this
def choice (y : Int) (c d : List Cod) : List Cod :=
 [⟨2, y⟩, ⟨4, c.length + 3⟩] ++ (c.map (goesN 2) ++ ([⟨3, c.length + d.length + 3⟩] ++ d.map (goesN (c.length + 3))))
theorem choice_len (y : Int) (c d : List Cod) : (choice y c d).length = c.length + d.length + 3 := by simp [choice]; omega
theorem isSome3 : (opTab 3).isSome = true := by decide
theorem isSome2 : (opTab 2).isSome = true := by decide
theorem isSome4 : (opTab 4).isSome = true := by decide
theorem formed_choice (y : Int) (c d : List Cod) : formed (choice y c d).length 0 (choice y c d) = (formed (c.length + d.length + 1) 0 c && formed d.length 0 d) := by
 rw [choice_len]
 unfold choice
 rw [formed_app, formed_app, formed_app]
 have e1 := formed_goesN (len := c.length + d.length + 1) (k := 2) c 0
 have e2 := formed_goesN (len := d.length) (k := c.length + 3) d 0
 rw [show 2 + (c.length + d.length + 1) = c.length + d.length + 3 by omega, Nat.add_zero] at e1
 rw [show c.length + 3 + d.length = c.length + d.length + 3 by omega, Nat.add_zero] at e2
 have e3 : formed (c.length + d.length + 3) 0 [⟨2, y⟩, ⟨4, (c.length : Int) + 3⟩] = true := by
  simp [formed, formedAt, goes, isSome2, isSome4]; omega
 have e4 : formed (c.length + d.length + 3) (0 + [(⟨2, y⟩ : Cod), ⟨4, (c.length : Int) + 3⟩].length + (c.map (goesN 2)).length) [⟨3, (c.length : Int) + d.length + 3⟩] = true := by
  simp [formed, formedAt, goes, isSome3]; omega
 rw [e3, e4, Bool.true_and, Bool.true_and]
 simp only [List.length_cons, List.length_nil, List.length_map, Nat.zero_add]
 rw [show 1 + 1 = 2 by rfl, e1, show 2 + c.length + 1 = c.length + 3 by omega, e2]
theorem choice_at0 (y : Int) (c d : List Cod) : (choice y c d)[0]? = some ⟨2, y⟩ := rfl
theorem choice_at1 (y : Int) (c d : List Cod) : (choice y c d)[1]? = some ⟨4, c.length + 3⟩ := rfl
theorem choice_atc (y : Int) (c d : List Cod) {i : Nat} {x : Cod} (h : c[i]? = some x) : (choice y c d)[2 + i]? = some (goesN 2 x) := by
 unfold choice
 rw [List.getElem?_append_right (by simp), List.getElem?_append_left (by have := (List.getElem?_eq_some_iff.1 h).1; simp; omega)]
 simp [h]
theorem choice_atj (y : Int) (c d : List Cod) : (choice y c d)[2 + c.length]? = some ⟨3, c.length + d.length + 3⟩ := by
 unfold choice
 rw [List.getElem?_append_right (by simp), List.getElem?_append_right (by simp)]
 simp
theorem choice_atd (y : Int) (c d : List Cod) {i : Nat} {x : Cod} (h : d[i]? = some x) : (choice y c d)[c.length + 3 + i]? = some (goesN (c.length + 3) x) := by
 unfold choice
 rw [List.getElem?_append_right (by simp; omega), List.getElem?_append_right (by simp; omega), List.getElem?_append_right (by simp; omega)]
 simp only [List.length_cons, List.length_nil, List.length_map]
 rw [show c.length + 3 + i - (0 + 1 + 1) - c.length - (0 + 1) = i by omega, List.getElem?_map, h]
 rfl
theorem type_len {c : List Cod} {k : Nat} {s : List Cel} (h : typeW N c k = .ok s) : s.length <= 100 := by
 have h0 := (type_ok h).1
 have : typeW N c (List.replicate k (0 : Int)).length = .ok s := by rw [List.length_replicate]; exact h
 obtain ⟨l, h1, h2⟩ := sound this
 obtain ⟨s', h3, h4, h5⟩ := run_ok h1
 have := run_len _ _ _ _ h5 (by simpa using h0)
 rw [h2.length]; exact this
theorem choice_head (y : Int) (n : Nat) {k : Nat} (hk : k <= 50) :
  loopT N 0 [⟨2, y⟩, ⟨4, (n : Int) + 3⟩] (start k) = .ok (((Ways.set (start k) 1 (some (List.replicate k (real 0) ++ [truth (decide (y ≠ 0))]))).set (n + 3) (some (List.replicate k (real 0)))).set 2 (some (List.replicate k (real 0)))) := by
 have g2 : goes (⟨2, y⟩ : Cod) = false := by simp [goes]
 have g4 : goes (⟨4, (n : Int) + 3⟩ : Cod) = true := by simp [goes]
 have s0 : stepT N 0 ⟨2, y⟩ (start k) = .ok (Ways.set (start k) 1 (some (List.replicate k (real 0) ++ [truth (decide (y ≠ 0))]))) := by
  rw [stepT_of (N := N) (W := start k) (W1 := start k) (s := List.replicate k (real 0)) (by simp [start]) (aft_bool y _ (by simp; omega)) (fun q => by rw [g2] at q; cases q) (fun _ => rfl)]
  simp [start, comes, ok_bind]
 have s1 : stepT N 1 ⟨4, (n : Int) + 3⟩ (Ways.set (start k) 1 (some (List.replicate k (real 0) ++ [truth (decide (y ≠ 0))]))) = .ok (((Ways.set (start k) 1 (some (List.replicate k (real 0) ++ [truth (decide (y ≠ 0))]))).set (n + 3) (some (List.replicate k (real 0)))).set 2 (some (List.replicate k (real 0)))) := by
  have hn : ((n : Int) + 3).toNat = n + 3 := by omega
  rw [stepT_of (N := N) (W1 := (Ways.set (start k) 1 (some (List.replicate k (real 0) ++ [truth (decide (y ≠ 0))]))).set (n + 3) (some (List.replicate k (real 0)))) (s := List.replicate k (real 0) ++ [truth (decide (y ≠ 0))]) (l := List.replicate k (real 0)) (by simp [Ways.set]) (aft_unl _ _ _ (by simp; omega)) (fun _ => ⟨some (List.replicate k (real 0)), by rw [hn]; simp [Ways.set, start, comes], by rw [hn]⟩) (fun q => by rw [g4] at q; cases q)]
  simp [Ways.set, start, comes, ok_bind]
 simp only [loopT, bind, Except.bind, s0, s1]
theorem formed_tight {len more : Nat} : ∀ (c : List Cod) (i : Nat), (∀ x ∈ c, goes x = true -> x.n <= len) -> formed (len + more) i c = formed len i c
 | [], _, _ => rfl
 | x :: c, i, h => by
  simp only [formed]
  rw [formed_tight c (i + 1) fun y hy => h y (List.mem_cons_of_mem _ hy)]
  congr 1
  have hx := h x (List.mem_cons_self ..)
  unfold formedAt
  cases g : goes x with
  | false => simp
  | true =>
   have h1 := hx g
   have e1 : decide (x.n <= ((len + more : Nat) : Int)) = true := by simp; omega
   have e2 : decide (x.n <= (len : Int)) = true := by simpa using h1
   rw [e1, e2]
theorem type_nil {k : Nat} (h : k <= 100) : typeW N [] k = .ok (List.replicate k (real 0)) := by
 rw [type_of h (by simp) rfl]
 simp [loopT, start, ok_bind]
theorem choice_type (y : Int) (c d : List Cod) {k : Nat} (hk : k <= 50) (hc : c.length <= 200) (hd : d.length <= 200) (hT : ∀ x ∈ c, goes x = true -> x.n <= c.length) :
  (∀ s t, typeW N c k = .ok s -> typeW N d k = .ok t -> s.map (·.k) = t.map (·.k) -> ∃ u, typeW N (choice y c d) k = .ok u) /\
  (∀ u, typeW N (choice y c d) k = .ok u -> ∃ s t, typeW N c k = .ok s /\ typeW N d k = .ok t /\ s.map (·.k) = t.map (·.k)) := by
 have hlen := choice_len y c d
 have hf := formed_choice y c d
 rw [show c.length + d.length + 1 = c.length + (d.length + 1) by omega, formed_tight c 0 hT] at hf
 cases hfc : formed c.length 0 c with
 | false =>
  rw [hfc, Bool.false_and] at hf
  rw [type_unformed (by omega) (by omega) hfc, type_unformed (by omega) (by omega) hf]
  exact ⟨fun s t h => (by cases h), fun u h => by cases h⟩
 | true =>
 cases hfd : formed d.length 0 d with
 | false =>
  rw [hfd, Bool.and_false] at hf
  rw [type_unformed (c := d) (by omega) (by omega) hfd, type_unformed (c := choice y c d) (by omega) (by omega) hf]
  exact ⟨fun s t _ h => (by cases h), fun u h => by cases h⟩
 | true =>
 rw [hfc, hfd, Bool.and_true] at hf
 rw [type_of (c := choice y c d) (by omega) (by omega) hf]
 have hall : loopT N 0 (choice y c d) (start k) = (loopT N 2 (c.map (goesN 2)) (((Ways.set (start k) 1 (some (List.replicate k (real 0) ++ [truth (decide (y ≠ 0))]))).set (c.length + 3) (some (List.replicate k (real 0)))).set 2 (some (List.replicate k (real 0))))).bind fun W3 => (stepT N (2 + c.length) ⟨3, c.length + d.length + 3⟩ W3).bind fun W4 => loopT N (c.length + 3) (d.map (goesN (c.length + 3))) W4 := by
  unfold choice
  rw [loop_app, choice_head y c.length hk, ok_bind, loop_app]
  simp only [List.length_cons, List.length_nil, List.length_map, Nat.zero_add]
  congr 1
  funext W3
  rw [loop_app]
  simp only [loopT, bind, List.length_cons, List.length_nil]
  show (Except.bind (Except.bind (stepT N (2 + c.length) _ W3) fun a => Except.ok a) _) = _
  cases stepT N (2 + c.length) ⟨3, c.length + d.length + 3⟩ W3 with
  | error e => rfl
  | ok a => rw [ok_bind, ok_bind, ok_bind]; congr 1; omega
 rw [hall]
 generalize hW2 : ((Ways.set (start k) 1 (some (List.replicate k (real 0) ++ [truth (decide (y ≠ 0))]))).set (c.length + 3) (some (List.replicate k (real 0)))).set 2 (some (List.replicate k (real 0))) = W2
 have w2a : W2 2 = some (List.replicate k (real 0)) := by rw [<- hW2]; simp [Ways.set]
 have w2b : W2 (c.length + 3) = some (List.replicate k (real 0)) := by rw [<- hW2]; simp [Ways.set]
 have w2c : ∀ j, 2 < j -> j ≠ c.length + 3 -> W2 j = none := by
  intro j h1 h2
  rw [<- hW2]
  unfold Ways.set start
  rw [if_neg (by omega), if_neg h2, if_neg (by omega), if_neg (by omega)]
 clear hW2 hall
 have hseg : Seg 2 c.length (start k) W2 := by
  intro j hj
  unfold start
  by_cases c0 : j = 0
  ·subst c0; rw [if_pos rfl, Nat.add_zero, w2a]; exact oa_refl _
  ·rw [if_neg c0, w2c _ (by omega) (by omega)]; trivial
 obtain ⟨k1, k2⟩ := seg_loop (N := N) (k := 2) c 0 (start k) W2 hfc (by omega) hseg
 match hcl : loopT N 0 c (start k) with
 | .error e =>
  rw [k2 e hcl]
  refine ⟨fun s t h => ?_, fun u h => by cases h⟩
  rw [type_of (c := c) (by omega) (by omega) hfc, hcl] at h
  cases h
 | .ok Vc =>
  obtain ⟨W3, e3, hs3, ho3⟩ := k1 Vc hcl
  rw [e3, ok_bind]
  have htc : typeW N c k = .ok ((Vc c.length).getD []) := by rw [type_of (c := c) (by omega) (by omega) hfc, hcl, ok_bind]
  obtain ⟨_, _, _, We, q1, q2⟩ := type_ok htc
  rw [hcl] at q1
  cases q1
  generalize hs : (Vc c.length).getD [] = s at htc q2
  clear hs
  have h3 := hs3 c.length (Nat.le_refl _)
  rw [q2] at h3
  match hw3 : W3 (2 + c.length) with
  | none => rw [hw3] at h3; exact h3.elim
  | some t' =>
  rw [hw3] at h3
  have hst : LR Alk s t' := h3
  have hl100 : t'.length <= 100 := by rw [<- hst.length]; exact type_len htc
  have hK : s.map (·.k) = t'.map (·.k) := hst.kindsA
  have w3b : W3 (c.length + 3) = some (List.replicate k (real 0)) := (ho3 _ (.inr (by omega))).trans w2b
  have w3c : ∀ j, c.length + 3 < j -> W3 j = none := fun j hj => (ho3 j (.inr (by omega))).trans (w2c j (by omega) (by omega))
  have hjn : ((c.length : Int) + d.length + 3).toNat = c.length + d.length + 3 := by omega
  have gj : goes (⟨3, (c.length : Int) + d.length + 3⟩ : Cod) = true := by simp [goes]
  have hstep : ∀ v, comes (W3 (c.length + d.length + 3)) t' = .ok v -> stepT N (2 + c.length) ⟨3, c.length + d.length + 3⟩ W3 = .ok (W3.set (c.length + d.length + 3) v) := by
   intro v hv
   rw [stepT_of (N := N) (W1 := W3.set (c.length + d.length + 3) v) hw3 (aft_jmp _ _ hl100) (fun _ => ⟨v, by rw [hjn]; exact hv, by rw [hjn]⟩) (fun q => by rw [gj] at q; cases q)]
   rw [if_neg (by simp)]
  match d, hd, hfd, w3c, hjn, gj, hstep with
  | [], hd, hfd, w3c, hjn, gj, hstep =>
   simp only [List.length_nil, Nat.add_zero] at hstep hjn gj ⊢
   rw [type_nil (by omega)]
   constructor
   ·intro s0 t0 h1 h2 h3
    rw [htc] at h1
    cases h1
    cases h2
    rw [hstep _ (by rw [w3b]; exact comes_ok (by rw [<- h3, hK])), ok_bind]
    exact ⟨_, rfl⟩
   ·intro u hu
    refine ⟨s, _, htc, rfl, ?_⟩
    match hst : stepT N (2 + c.length) ⟨3, (c.length : Int) + (0 : Nat) + 3⟩ W3 with
    | .error e => rw [hst] at hu; cases hu
    | .ok W4 =>
     obtain ⟨l, W1, a1, a2, _⟩ := stepT_ok hw3 hst
     rw [aft_jmp _ _ hl100] at a1
     cases a1
     obtain ⟨v, a3, _⟩ := a2 gj
     have a3 : comes (W3 ((c.length : Int) + (0 : Nat) + 3).toNat) t' = .ok v := a3
     rw [hjn] at a3
     obtain ⟨_, _, _, a4⟩ := comes_kinds a3
     rw [hK]; exact (a4 _ w3b).symm
  | x :: d', hd, hfd, w3c, hjn, gj, hstep =>
   generalize hdd : x :: d' = d at *
   have hdl : 0 < d.length := by rw [<- hdd]; simp
   have wn : W3 (c.length + d.length + 3) = none := w3c _ (by omega)
   rw [hstep (some t') (by rw [wn]; rfl), ok_bind]
   have hsegE : SegE (c.length + 3) d.length (t'.map (·.k)) (start k) (W3.set (c.length + d.length + 3) (some t')) := by
    refine ⟨fun j hj => ?_, ⟨t', by unfold Ways.set; rw [if_pos (by omega)], rfl⟩, fun v hv => ?_⟩
    ·unfold Ways.set
     rw [if_neg (by omega)]
     unfold start
     by_cases c0 : j = 0
     ·subst c0; rw [if_pos rfl, Nat.add_zero, w3b]; exact oa_refl _
     ·rw [if_neg c0, w3c _ (by omega)]; trivial
    ·unfold start at hv; rw [if_neg (by omega)] at hv; cases hv
   obtain ⟨p1, p2⟩ := segE_loop (N := N) d 0 _ _ hfd (by omega) hsegE
   rw [Nat.add_zero] at p1 p2
   constructor
   ·intro s0 t0 h1 h2 h3
    rw [htc] at h1
    cases h1
    obtain ⟨_, _, _, Wd, r1, r2⟩ := type_ok h2
    obtain ⟨W', e', _⟩ := p1 Wd r1 (fun v hv => by rw [r2] at hv; cases hv; rw [<- h3, hK])
    rw [e']
    exact ⟨_, rfl⟩
   ·intro u hu
    match hl : loopT N (c.length + 3) (d.map (goesN (c.length + 3))) (W3.set (c.length + d.length + 3) (some t')) with
    | .error e => rw [hl] at hu; cases hu
    | .ok W' =>
     obtain ⟨V', e1, e2⟩ := p2 W' hl
     have htd : typeW N d k = .ok ((V' d.length).getD []) := by rw [type_of (c := d) (by omega) (by omega) hfd, e1, ok_bind]
     obtain ⟨_, _, _, We, r1, r2⟩ := type_ok htd
     rw [e1] at r1
     cases r1
     exact ⟨s, _, htc, htd, by rw [hK]; exact (e2.2.2 _ r2).symm⟩
theorem unless_law (y : Int) (c d : List Cod) (ins : List Int) (hk : ins.length <= 50) (hc : c.length <= 200) (hd : d.length <= 200) (hT : ∀ x ∈ c, goes x = true -> x.n <= c.length) :
  (∀ a b, runF N c ins = .ok a -> runF N d ins = .ok b -> a.map (·.k) = b.map (·.k) -> runF N (choice y c d) ins = .ok (if y ≠ 0 then a else b)) /\
  (∀ u, runF N (choice y c d) ins = .ok u -> ∃ a b, runF N c ins = .ok a /\ runF N d ins = .ok b /\ a.map (·.k) = b.map (·.k)) := by
 obtain ⟨t1, t2⟩ := choice_type (N := N) y c d hk hc hd hT
 constructor
 ·intro a b ha hb hab
  obtain ⟨s, s1, s2, _⟩ := run_ok ha
  obtain ⟨t, u1, u2, _⟩ := run_ok hb
  obtain ⟨u, hu⟩ := t1 s t s1 u1 (by rw [s2.kinds, u2.kinds]; exact hab)
  refine run_steps hu ?_
  rw [choice_len]
  have r1 := steps_run ha
  have r2 := steps_run hb
  have p1 := steps_in (P := choice y c d) (k := 2) (type_ok s1).2.2.1 (fun i x hx => choice_atc y c d hx) r1
  have p2 := steps_in (P := choice y c d) (k := c.length + 3) (type_ok u1).2.2.1 (fun i x hx => choice_atd y c d hx) r2
  rw [Nat.add_zero] at p1 p2
  have hal : a.length <= 100 := by rw [<- s2.length]; exact type_len s1
  refine .step (choice_at0 y c d) (aft_bool y _ (by simp; omega)) ?_
  have n0 : nextI 0 ⟨2, y⟩ (ins.map real) = 1 := by unfold nextI; rw [if_neg (by simp)]
  rw [n0]
  refine .step (choice_at1 y c d) (aft_unl _ _ _ (by simp; omega)) ?_
  by_cases hy : y = 0
  ·have n1 : nextI 1 ⟨4, (c.length : Int) + 3⟩ (ins.map real ++ [truth (decide (y ≠ 0))]) = c.length + 3 := by
    unfold nextI
    rw [if_pos (by right; simp [truth, hy])]
    simp only; omega
   rw [n1, if_neg (by simp [hy])]
   rw [show c.length + d.length + 3 = c.length + 3 + d.length by omega]
   exact p2
  ·have n1 : nextI 1 ⟨4, (c.length : Int) + 3⟩ (ins.map real ++ [truth (decide (y ≠ 0))]) = 2 := by
    unfold nextI
    rw [if_neg (by simp [truth, hy])]
   rw [n1, if_pos hy]
   refine p1.trans (.step (choice_atj y c d) (aft_jmp _ _ hal) ?_)
   have n2 : nextI (2 + c.length) ⟨3, (c.length : Int) + d.length + 3⟩ a = c.length + d.length + 3 := by
    unfold nextI
    rw [if_pos (by simp)]
    simp only; omega
   rw [n2]
   exact .refl
 ·intro u hu
  obtain ⟨s, s1, _⟩ := run_ok hu
  obtain ⟨s2, t, h1, h2, h3⟩ := t2 s s1
  obtain ⟨a, a1, a2⟩ := sound h1
  obtain ⟨b, b1, b2⟩ := sound h2
  exact ⟨a, b, a1, b1, by rw [<- a2.kinds, <- b2.kinds]; exact h3⟩
end
end Go.Proofs.YtcjllibeaiofpaaGreatDoor.Mach
namespace Go.Proofs.YtcjllibeaiofpaaGreatDoor.Mach
section
variable {N : Num}
def seqF (N : Num) : List Cod -> List Cel -> R (List Cel)
 | [], l => .ok l
 | x :: c, l => (aft N x l).bind fun l' => seqF N c l'
theorem seq_cons {x : Cod} {c : List Cod} {l l' : List Cel} (h : aft N x l = .ok l') : seqF N (x :: c) l = seqF N c l' := by
 show (aft N x l).bind _ = _
 rw [h]; rfl
theorem seq_loop : ∀ (c : List Cod) (i : Nat) (W : Ways) (s t : List Cel), (∀ x ∈ c, goes x = false) -> W i = some s -> (∀ j, i < j -> W j = none) -> seqF N c s = .ok t -> ∃ W', loopT N i c W = .ok W' /\ W' (i + c.length) = some t
 | [], i, W, s, t, _, hs, _, h => by cases h; exact ⟨W, rfl, hs⟩
 | x :: c, i, W, s, t, hg, hs, hn, h => by
  match ha : aft N x s with
  | .error e => unfold seqF at h; rw [ha] at h; cases h
  | .ok l =>
   rw [seq_cons ha] at h
   have gx := hg x (List.mem_cons_self ..)
   have o3 : x.op ≠ 3 := by intro q; simp [goes, q] at gx
   have hst : stepT N i x W = .ok (W.set (i + 1) (some l)) := by
    rw [stepT_of (N := N) (W1 := W) hs ha (fun q => by rw [gx] at q; cases q) (fun _ => rfl), if_pos o3, hn (i + 1) (by omega)]
    rfl
   obtain ⟨W', e1, e2⟩ := seq_loop c (i + 1) (W.set (i + 1) (some l)) l t (fun y hy => hg y (List.mem_cons_of_mem _ hy)) (by simp [Ways.set]) (fun j hj => by unfold Ways.set; rw [if_neg (by omega)]; exact hn j (by omega)) h
   refine ⟨W', ?_, by rw [List.length_cons, <- e2]; congr 1; omega⟩
   simp only [loopT, bind, Except.bind, hst]
   exact e1
theorem seq_formed {len : Nat} : ∀ (c : List Cod) (i : Nat) (s t : List Cel), (∀ x ∈ c, goes x = false) -> seqF N c s = .ok t -> formed len i c = true
 | [], _, _, _, _, _ => rfl
 | x :: c, i, s, t, hg, h => by
  match ha : aft N x s with
  | .error e => unfold seqF at h; rw [ha] at h; cases h
  | .ok l =>
   rw [seq_cons ha] at h
   obtain ⟨m, cl, y, ho, _⟩ := aft_ok ha
   simp only [formed, formedAt, ho, hg x (List.mem_cons_self ..), seq_formed c (i + 1) l t (fun y hy => hg y (List.mem_cons_of_mem _ hy)) h]
   rfl
theorem seq_steps (P : List Cod) : ∀ (c : List Cod) (i : Nat) (s t : List Cel), (∀ x ∈ c, goes x = false) -> P.drop i = c -> seqF N c s = .ok t -> Steps N P i s (i + c.length) t
 | [], i, s, t, _, _, h => by cases h; exact .refl
 | x :: c, i, s, t, hg, hd, h => by
  match ha : aft N x s with
  | .error e => unfold seqF at h; rw [ha] at h; cases h
  | .ok l =>
   rw [seq_cons ha] at h
   have gx := hg x (List.mem_cons_self ..)
   have hi : P[i]? = some x := by
    have := congrArg (fun l => l[0]?) hd
    simpa using this
   have hd2 : P.drop (i + 1) = c := by
    have := congrArg List.tail hd
    simpa using this
   refine .step hi ha ?_
   have n1 : nextI i x s = i + 1 := by
    unfold nextI
    rw [if_neg]
    rintro (q | ⟨q, _⟩) <;> simp [goes, q] at gx
   rw [n1, List.length_cons, show i + (c.length + 1) = i + 1 + c.length by omega]
   exact seq_steps P c (i + 1) l t (fun y hy => hg y (List.mem_cons_of_mem _ hy)) hd2 h
theorem seq_run {c : List Cod} {ins : List Int} {t v : List Cel} (hg : ∀ x ∈ c, goes x = false) (hl : c.length <= 1024) (hi : ins.length <= 100) (ht : seqF N c (List.replicate ins.length (real 0)) = .ok t) (hv : seqF N c (ins.map real) = .ok v) : runF N c ins = .ok v := by
 obtain ⟨W', e1, e2⟩ := seq_loop c 0 (start ins.length) _ t hg (by simp [start]) (fun j hj => by unfold start; rw [if_neg (by omega)]) ht
 have htype : typeW N c ins.length = .ok ((W' c.length).getD []) := by
  rw [type_of hi hl (seq_formed c 0 _ _ hg ht), e1]; rfl
 refine run_steps htype ?_
 have := seq_steps (N := N) c c 0 _ v hg (by simp) hv
 rw [Nat.zero_add] at this
 exact this
theorem aft_num (n : Int) (l : List Cel) (h : l.length + 1 <= 100) : aft N ⟨0, n⟩ l = .ok (l ++ [⟨0, n, true⟩]) := by
 have := aft_of (N := N) (c := ⟨0, n⟩) (m := 0) (cl := 0) (st := l) (l := []) (s := l ++ [⟨0, n, true⟩]) (by decide : opTab 0 = _) rfl (by simp [does, const]) (by simp; omega)
 rwa [List.append_nil] at this
theorem aft_roll (z by' : Int) (p x : List Cel) (h : p.length + x.length <= 100) : aft N ⟨36, z⟩ (p ++ x ++ [⟨0, x.length, true⟩, ⟨0, by', true⟩]) = .ok (p ++ rolled by' x) := by
 have hr : (rolled by' x).length = x.length := by
  unfold rolled
  split
  ·rename_i q; rw [q]; rfl
  ·rw [List.length_append, List.length_drop, List.length_take]; omega
 refine aft_of (m := 2) (cl := 17) (by decide : opTab 36 = _) rfl ?_ (by rw [List.length_append, hr]; exact h)
 simp [does, must, count, takes_app p x rfl, bind, Except.bind]
theorem aft_exch (z : Int) (q : List Cel) (a b : Cel) (h : q.length + 2 <= 100) : aft N ⟨18, z⟩ (q ++ [a, b]) = .ok (q ++ [b, a]) :=
 aft_of (m := 2) (cl := 14) (by decide : opTab 18 = _) rfl rfl (by simp; omega)
theorem aft_neg (z n : Int) (q : List Cel) (h : q.length + 1 <= 100) : aft N ⟨32, z⟩ (q ++ [real n]) = .ok (q ++ [real (clp (-n))]) :=
 aft_of (m := 1) (cl := 3) (by decide : opTab 32 = _) rfl (by simp [does, signF, real]) (by simp; omega)
theorem aft_copy (z : Int) (p x : List Cel) (h : p.length + x.length + x.length <= 100) : aft N ⟨11, z⟩ (p ++ x ++ [⟨0, x.length, true⟩]) = .ok (p ++ x ++ x) := by
 refine aft_of (m := 1) (cl := 15) (by decide : opTab 11 = _) rfl ?_ (by simp only [List.length_append]; omega)
 simp [does, count, takes_app p x rfl, bind, Except.bind]
theorem aft_pop (z : Int) (q : List Cel) (a : Cel) (h : q.length <= 100) : aft N ⟨35, z⟩ (q ++ [a]) = .ok q :=
 aft_of (m := 1) (cl := 1) (by decide : opTab 35 = _) rfl (by simp [does]) h
theorem seq_pops : ∀ (m : Nat) (x q : List Cel), x.length = m -> q.length + x.length <= 100 -> seqF N (List.replicate m ⟨35, 0⟩) (q ++ x) = .ok q
 | 0, x, q, hm, _ => by
  obtain rfl := List.eq_nil_of_length_eq_zero hm
  rw [List.append_nil]; rfl
 | m + 1, x, q, hm, h => by
  have hne : x ≠ [] := by intro e; rw [e] at hm; simp at hm
  have hx := List.dropLast_concat_getLast hne
  have hl : x.dropLast.length = m := by rw [List.length_dropLast]; omega
  generalize x.dropLast = y at hx hl
  generalize x.getLast hne = a at hx
  rw [<- hx] at h ⊢
  simp only [List.length_append, List.length_cons, List.length_nil] at h
  rw [List.replicate_succ, <- List.append_assoc, seq_cons (aft_pop 0 (q ++ y) a (by rw [List.length_append]; omega))]
  exact seq_pops m y q hl (by omega)
theorem rolled_back (b : Int) (x : List Cel) : rolled (-b) (rolled b x) = x := by
 by_cases h0 : x.length = 0
 ·obtain rfl := List.eq_nil_of_length_eq_zero h0
  rfl
 have hx : (0 : Int) < x.length := by omega
 have r1 := Int.emod_nonneg b (show (x.length : Int) ≠ 0 by omega)
 have r2 : b % (x.length : Int) < x.length := Int.emod_lt_of_pos b hx
 have e1 : rolled b x = x.drop (x.length - (b % x.length).toNat) ++ x.take (x.length - (b % x.length).toNat) := by
  unfold rolled; rw [if_neg h0]
 have hl : (rolled b x).length = x.length := by
  rw [e1, List.length_append, List.length_drop, List.length_take]; omega
 have e2 : rolled (-b) (rolled b x) = (rolled b x).drop (x.length - (-b % x.length).toNat) ++ (rolled b x).take (x.length - (-b % x.length).toNat) := by
  generalize rolled b x = y at hl
  unfold rolled
  rw [hl, if_neg h0]
 rw [e2, e1]
 by_cases hr : b % x.length = 0
 ·have hd := Int.emod_add_mul_ediv b x.length
  have : -b % (x.length : Int) = 0 := by
   rw [show -b = (x.length : Int) * (-(b / x.length)) by rw [Int.mul_neg]; omega, Int.mul_emod_right]
  rw [hr, this]
  simp
 ·have : -b % (x.length : Int) = x.length - b % x.length := by
   have hd := Int.emod_add_mul_ediv b x.length
   have q1 : -b % (x.length : Int) = (x.length - b % x.length) % x.length := by
    rw [show -b = (x.length - b % x.length) + (x.length : Int) * (-(b / x.length) - 1) by rw [Int.mul_sub, Int.mul_neg]; omega, Int.add_mul_emod_self_left]
   rw [q1, Int.emod_eq_of_lt (by omega) (by omega)]
  rw [this]
  have e3 : x.length - ((x.length : Int) - b % x.length).toNat = (b % x.length).toNat := by omega
  rw [e3]
  have e4 : (x.drop (x.length - (b % x.length).toNat)).length = (b % x.length).toNat := by rw [List.length_drop]; omega
  rw [List.drop_left' e4, List.take_left' e4, List.take_append_drop]
def turnP (n : Nat) (by' : Int) : List Cod :=
 [⟨0, n⟩, ⟨0, by'⟩, ⟨36, 0⟩, ⟨0, n⟩, ⟨0, -by'⟩, ⟨36, 0⟩, ⟨18, 0⟩, ⟨18, 0⟩, ⟨32, 0⟩, ⟨32, 0⟩, ⟨0, n⟩, ⟨11, 0⟩] ++ List.replicate n ⟨35, 0⟩
theorem turnP_goes (n : Nat) (by' : Int) : ∀ x ∈ turnP n by', goes x = false := by
 intro x hx
 simp only [turnP, List.cons_append, List.nil_append, List.mem_cons, List.mem_replicate] at hx
 rcases hx with rfl | rfl | rfl | rfl | rfl | rfl | rfl | rfl | rfl | rfl | rfl | rfl | ⟨_, rfl⟩ <;> rfl
theorem seq_turn (n : Nat) (by' : Int) (l : List Int) (h2 : 2 <= l.length) (h40 : l.length <= 40) (hn : n <= l.length) (hl : ∀ x, l.getLast? = some x -> -2147483647 <= x /\ x <= 2147483647) : seqF N (turnP n by') (l.map real) = .ok (l.map real) := by
 obtain ⟨p, x, hp, hx⟩ : ∃ p x : List Cel, l.map real = p ++ x /\ x.length = n := ⟨(l.map real).take (l.length - n), (l.map real).drop (l.length - n), (List.take_append_drop _ _).symm, by simp; omega⟩
 obtain ⟨q, a, b, hq⟩ : ∃ q a b, l = q ++ [a, b] := by
  refine ⟨l.take (l.length - 2), l[l.length - 2]'(by omega), l[l.length - 1]'(by omega), ?_⟩
  conv => lhs; rw [<- List.take_append_drop (l.length - 2) l]
  congr 1
  rw [List.drop_eq_getElem_cons (by omega)]
  congr 1
  rw [List.drop_eq_getElem_cons (by omega)]
  have : l.length - 2 + 1 = l.length - 1 := by omega
  simp only [this]
  congr 1
  exact List.drop_of_length_le (by omega)
 have hb := hl b (by rw [hq]; simp)
 have hlen : (l.map real).length = l.length := by simp
 have hpl : p.length + x.length = l.length := by rw [<- List.length_append, <- hp, hlen]
 have hql : q.length + 2 = l.length := by rw [hq]; simp
 have hqm : l.map real = q.map real ++ [real a, real b] := by rw [hq]; simp
 have hrl : (rolled by' x).length = x.length := by
  unfold rolled
  split
  ·rename_i q; rw [q]; rfl
  ·rw [List.length_append, List.length_drop, List.length_take]; omega
 unfold turnP
 simp only [List.cons_append, List.nil_append]
 rw [hp, seq_cons (aft_num _ _ (by rw [List.length_append]; omega)), seq_cons (aft_num _ _ (by simp only [List.length_append, List.length_singleton]; omega))]
 rw [List.append_assoc (p ++ x), List.singleton_append, <- hx, seq_cons (aft_roll 0 by' p x (by omega))]
 rw [seq_cons (aft_num _ _ (by rw [List.length_append]; omega)), seq_cons (aft_num _ _ (by simp only [List.length_append, List.length_singleton]; omega))]
 rw [List.append_assoc (p ++ rolled by' x), List.singleton_append]
 rw [show ((x.length : Int)) = ((rolled by' x).length : Int) by rw [hrl]]
 rw [seq_cons (aft_roll 0 (-by') p (rolled by' x) (by omega)), rolled_back, hrl, <- hp, hqm]
 rw [seq_cons (aft_exch 0 _ _ _ (by simp; omega)), seq_cons (aft_exch 0 _ _ _ (by simp; omega))]
 rw [show q.map real ++ [real a, real b] = (q.map real ++ [real a]) ++ [real b] by simp]
 rw [seq_cons (aft_neg 0 _ _ (by simp; omega)), seq_cons (aft_neg 0 _ _ (by simp; omega))]
 rw [show clp (-clp (-b)) = b by unfold clp; omega]
 rw [show (q.map real ++ [real a]) ++ [real b] = q.map real ++ [real a, real b] by simp, <- hqm, hp]
 rw [seq_cons (aft_num _ _ (by rw [List.length_append]; omega)), seq_cons (aft_copy 0 p x (by omega))]
 exact seq_pops x.length x (p ++ x) rfl (by rw [List.length_append]; omega)
theorem turn_law (n : Nat) (by' : Int) (l : List Int) (h2 : 2 <= l.length) (h40 : l.length <= 40) (hn : n <= l.length) (hl : ∀ x, l.getLast? = some x -> -2147483647 <= x /\ x <= 2147483647) : runF N (turnP n by') l = .ok (l.map real) := by
 have h0 := seq_turn (N := N) n by' (List.replicate l.length 0) (by simpa using h2) (by simpa using h40) (by simpa using hn) (fun x hx => by
  have := List.mem_of_getLast? hx
  obtain rfl := List.eq_of_mem_replicate this
  omega)
 rw [List.map_replicate] at h0
 exact seq_run (turnP_goes n by') (by simp [turnP]; omega) (by omega) h0 (seq_turn n by' l h2 h40 hn hl)
theorem aft_two {op z : Int} {cl : Nat} {a b r : Cel} (ho : opTab op = some (2, cl)) (hd : does N cl ⟨op, z⟩ [a, b] [] = .ok [r]) : aft N ⟨op, z⟩ [a, b] = .ok [r] :=
 aft_of (st := []) (l := [a, b]) ho rfl hd (by simp)
theorem aft_one {op z : Int} {cl : Nat} {a r : Cel} (ho : opTab op = some (1, cl)) (hd : does N cl ⟨op, z⟩ [a] [] = .ok [r]) : aft N ⟨op, z⟩ [a] = .ok [r] :=
 aft_of (st := []) (l := [a]) ho rfl hd (by simp)
theorem seq_wholes {op : Int} (ho : op = 23 \/ op = 29) (a b : Int) : seqF N [⟨0, a⟩, ⟨0, b⟩, ⟨op, 0⟩] [] = .ok [wholesF op ⟨0, a, true⟩ ⟨0, b, true⟩] := by
 rw [seq_cons (aft_num a [] (by simp)), seq_cons (aft_num b _ (by simp)), show [] ++ [(⟨0, a, true⟩ : Cel)] ++ [⟨0, b, true⟩] = [⟨0, a, true⟩, ⟨0, b, true⟩] from rfl, seq_cons (aft_two (cl := 9) (r := wholesF op ⟨0, a, true⟩ ⟨0, b, true⟩) (by rcases ho with rfl | rfl <;> decide) (by simp [does]))]
 rfl
theorem wholes_law {op : Int} (ho : op = 23 \/ op = 29) (a b : Int) : runF N [⟨0, a⟩, ⟨0, b⟩, ⟨op, 0⟩] [] = .ok [wholesF op ⟨0, a, true⟩ ⟨0, b, true⟩] :=
 seq_run (fun x hx => by simp at hx; rcases hx with rfl | rfl | rfl <;> (try rfl); rcases ho with rfl | rfl <;> rfl) (by simp) (by simp) (seq_wholes ho a b) (seq_wholes ho a b)
theorem seq_shift (a n : Int) : seqF N [⟨0, a⟩, ⟨0, n⟩, ⟨9, 0⟩, ⟨0, -n⟩, ⟨9, 0⟩] [] = .ok [whole (shiftF (clp (shiftF a n)) (-n))] := by
 rw [seq_cons (aft_num a [] (by simp)), seq_cons (aft_num n _ (by simp)), show [] ++ [(⟨0, a, true⟩ : Cel)] ++ [⟨0, n, true⟩] = [⟨0, a, true⟩, ⟨0, n, true⟩] from rfl, seq_cons (aft_two (cl := 9) (r := whole (shiftF a n)) (by decide) (by simp [does, wholesF, whole]))]
 rw [seq_cons (aft_num (-n) _ (by simp)), show [whole (shiftF a n)] ++ [(⟨0, -n, true⟩ : Cel)] = [whole (shiftF a n), ⟨0, -n, true⟩] from rfl, seq_cons (aft_two (cl := 9) (r := whole (shiftF (clp (shiftF a n)) (-n))) (by decide) (by simp [does, wholesF, whole]))]
 rfl
theorem shift_law (a n : Int) : runF N [⟨0, a⟩, ⟨0, n⟩, ⟨9, 0⟩, ⟨0, -n⟩, ⟨9, 0⟩] [] = .ok [whole (shiftF (clp (shiftF a n)) (-n))] :=
 seq_run (fun x hx => by simp at hx; rcases hx with rfl | rfl | rfl | rfl | rfl <;> rfl) (by simp) (by simp) (seq_shift a n) (seq_shift a n)
theorem sum_law {op : Int} (ho : op = 6 \/ op = 40 \/ op = 30) (a b : Int) : runF N [⟨op, 0⟩] [a, b] = .ok [real (N.bin op a b)] := by
 have key : ∀ a b, seqF N [⟨op, 0⟩] [real a, real b] = .ok [real (N.bin op a b)] := by
  intro a b
  rw [seq_cons (aft_two (cl := 7) (r := real (N.bin op a b)) (by rcases ho with rfl | rfl | rfl <;> decide) (by simp [does, real, sumF, fixOf]))]
  rfl
 exact seq_run (fun x hx => by simp at hx; subst hx; rcases ho with rfl | rfl | rfl <;> rfl) (by simp) (by simp) (key 0 0) (key a b)
theorem floor_law (a : Int) : runF N [⟨20, 0⟩] [a] = .ok [real (N.un 20 a)] := by
 have key : ∀ a, seqF N [⟨20, 0⟩] [real a] = .ok [real (N.un 20 a)] := by
  intro a
  rw [seq_cons (aft_one (cl := 4) (r := real (N.un 20 a)) (by decide) (by simp [does, real, cutF, fixOf]))]
  rfl
 exact seq_run (fun x hx => by simp at hx; subst hx; rfl) (by simp) (by simp) (key 0) (key a)
theorem mixed_law (a n : Int) : runF N [⟨0, n⟩, ⟨6, 0⟩] [a] = .ok [real (N.bin 6 a (clp (n * 65536)))] := by
 have key : ∀ a, seqF N [⟨0, n⟩, ⟨6, 0⟩] [real a] = .ok [real (N.bin 6 a (clp (n * 65536)))] := by
  intro a
  rw [seq_cons (aft_num n _ (by simp)), show [real a] ++ [(⟨0, n, true⟩ : Cel)] = [real a, ⟨0, n, true⟩] from rfl, seq_cons (aft_two (cl := 7) (r := real (N.bin 6 a (clp (n * 65536)))) (by decide) (by simp [does, real, sumF, fixOf]))]
  rfl
 exact seq_run (fun x hx => by simp at hx; rcases hx with rfl | rfl <;> rfl) (by simp) (by simp) (key 0) (key a)
theorem below2_law (a b : Int) : runF N [⟨28, 0⟩] [a, b] = .ok [truth (decide (a < b))] := by
 have key : ∀ a b, seqF N [⟨28, 0⟩] [real a, real b] = .ok [truth (decide (a < b))] := by
  intro a b
  rw [seq_cons (aft_two (cl := 11) (r := truth (decide (a < b))) (by decide) (by simp [does, real, holds, cmpF]; congr 1; split <;> (try split) <;> simp <;> omega))]
  rfl
 exact seq_run (fun x hx => by simp at hx; subst hx; rfl) (by simp) (by simp) (key 0 0) (key a b)
end
end Go.Proofs.YtcjllibeaiofpaaGreatDoor.Mach
