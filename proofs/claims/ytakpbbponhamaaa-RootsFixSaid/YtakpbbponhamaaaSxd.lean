/-
  A frame of our own for walks, part d: the order that is drawn is one of those that the edges let, and each of these comes to the text's own.
-/
import Derived.Test.YtakpbbponhamaaaSxc
namespace Go.Proofs.Ytakpbbponhamaaa.Sx
open Go Go.RowKit

variable {P : Program} {w0 : World} {Γ : FuncId → Array Value → Value → Prop}

def depsOf (ops : Array Oper) (i : Nat) : List Nat :=
  match ops[i]? with
  | none => []
  | some o => (o.after.toList.filter (Region.binds .any)).map (·.on)

def pairOk (ops : Array Oper) (b : Array Nat) (i x : Nat) : Bool :=
  if (b.getD i 0).testBit x then (depsOf ops i).any fun y => y == x || (decide (x < y) && (b.getD y 0).testBit x)
  else match ops[x]?, ops[i]? with
    | some ox, some oi => indep ops ox oi
    | _, _ => false

/-- is it ordered against all others? -/
def alone (ops : Array Oper) (b : Array Nat) (i : Nat) : Bool :=
  (List.range ops.size).all fun x => x == i || (if x < i then (b.getD i 0).testBit x else (b.getD x 0).testBit i)

theorem alone_bit {ops : Array Oper} {b : Array Nat} {i x : Nat} (hi : i < ops.size) (hx : x < i) (h : ¬ (b.getD i 0).testBit x = true) : alone ops b i = false ∧ alone ops b x = false := by
  constructor
  · rw [Bool.eq_false_iff]
    intro ha
    simp only [alone, List.all_eq_true, List.mem_range, Bool.or_eq_true, beq_iff_eq] at ha
    rcases ha x (by omega) with e | e
    · omega
    · rw [if_pos hx] at e; exact h e
  · rw [Bool.eq_false_iff]
    intro ha
    simp only [alone, List.all_eq_true, List.mem_range, Bool.or_eq_true, beq_iff_eq] at ha
    rcases ha i hi with e | e
    · omega
    · rw [if_neg (by omega)] at e; exact h e

def orderOk (ops : Array Oper) (b : Array Nat) : Bool :=
  !Region.departs ops && (List.range ops.size).all fun i => (depsOf ops i).all (fun y => decide (y < i)) && (List.range i).all fun x => pairOk ops b i x

def rest (ops : Array Oper) (listed : Array Bool) : List Nat := (List.range ops.size).filter fun i => !listed.getD i true

def closed (ops : Array Oper) (listed : Array Bool) : Prop := ∀ i, i < ops.size → listed.getD i true = true → ∀ y ∈ depsOf ops i, listed.getD y true = true

theorem orderOk_at {ops : Array Oper} {b : Array Nat} (hok : orderOk ops b = true) {i : Nat} (hn : i < ops.size) : (∀ y ∈ depsOf ops i, y < i) ∧ ∀ x, x < i → pairOk ops b i x = true := by
  simp only [orderOk, Bool.and_eq_true, List.all_eq_true, List.mem_range, decide_eq_true_eq] at hok
  exact hok.2 i hn

theorem bit_listed {ops : Array Oper} {b : Array Nat} (hok : orderOk ops b = true) {listed : Array Bool} (hc : closed ops listed) :
    ∀ (n i : Nat), i < n → i < ops.size → (∀ y ∈ depsOf ops i, listed.getD y true = true) → ∀ x, x < i → (b.getD i 0).testBit x = true → listed.getD x true = true := by
  intro n
  induction n with
  | zero => intro i h; omega
  | succ n ih =>
    intro i hi hn hd x hx hb
    obtain ⟨h1, h2⟩ := orderOk_at hok hn
    have hp := h2 x hx
    simp only [pairOk, hb, if_true, List.any_eq_true, Bool.or_eq_true, Bool.and_eq_true, beq_iff_eq, decide_eq_true_eq] at hp
    obtain ⟨y, hy, h⟩ := hp
    have hyi := h1 y hy
    rcases h with rfl | ⟨hxy, h⟩
    · exact hd _ hy
    · exact ih y (by omega) (by omega) (hc y (by omega) (hd y hy)) x hxy h

theorem opsD_front {g : Nat → Bool} {ops : Array Oper} {K : Act → Mem → Prop} {i : Nat} {o : Oper} (ho : ops[i]? = some o) (B : List Nat) :
    ∀ (A : List Nat), (∀ x ∈ A, ∃ ox, ops[x]? = some ox ∧ indep ops ox o = true ∧ g x = false ∧ g i = false) → ∀ {a : Act} {m : Mem}, m.fin →
      opsD P w0 Γ g ops K (A ++ i :: B) a m → opsD P w0 Γ g ops K (i :: (A ++ B)) a m := by
  intro A
  induction A with
  | nil => intro _ a m _ h; exact h
  | cons x A ih =>
    intro hA a m hm h
    obtain ⟨ox, hox, hin, gx, gi⟩ := hA x (by simp)
    have h' : stepD P w0 Γ false ops ox (opsD P w0 Γ g ops K (A ++ i :: B)) a m := by simpa only [List.cons_append, opsD, hox, gx] using h
    have h2 : stepD P w0 Γ false ops ox (stepD P w0 Γ false ops o (opsD P w0 Γ g ops K (A ++ B))) a m := by
      refine stepD_mono ?_ (stepD_fin hm h')
      rintro a' m' ⟨hm', hk⟩
      have := ih (fun y hy => hA y (by simp [hy])) hm' hk
      simpa only [opsD, ho, gi] using this
    have h3 := stepD_comm hin hm h2
    simp only [opsD, ho, gi]
    refine stepD_mono ?_ h3
    intro a' m' hk
    simpa only [List.cons_append, opsD, hox, gx] using hk

/-- what linearise lists from here on. -/
def lin (ops : Array Oper) : Nat → Nat → Array Bool → List Nat
  | 0, _, _ => []
  | fuel + 1, t, listed =>
    let rs := (List.range ops.size).filter fun i => !listed.getD i true && ((ops[i]?).map (·.after.all fun e => !Region.binds .any e || listed.getD e.on false)).getD false
    match rs[t % rs.length]? with
    | some i => i :: lin ops fuel (t / rs.length) (listed.setIfInBounds i true)
    | none => []

theorem go_lin (ops : Array Oper) : ∀ (fuel t : Nat) (listed : Array Bool) (acc : List Nat), Region.linearise.go .any ops fuel t listed acc = acc.reverse ++ lin ops fuel t listed := by
  intro fuel
  induction fuel with
  | zero => intro t listed acc; simp [Region.linearise.go, lin]
  | succ n ih =>
    intro t listed acc
    simp only [Region.linearise.go, lin]
    split
    · rename_i i hi
      rw [hi, ih]
      simp
    · rename_i hi
      rw [hi]
      simp

theorem all_deps {ops : Array Oper} {i : Nat} {o : Oper} (ho : ops[i]? = some o) {listed : Array Bool} :
    (o.after.all fun e => !Region.binds .any e || listed.getD e.on false) = true ↔ ∀ y ∈ depsOf ops i, listed.getD y false = true := by
  simp only [depsOf, ho, Array.all_eq_true_iff_forall_mem, List.mem_map, List.mem_filter, Bool.or_eq_true, Bool.not_eq_true']
  constructor
  · rintro h y ⟨e, ⟨he, hb⟩, rfl⟩
    rcases h e (by simpa using he) with h | h
    · rw [hb] at h; cases h
    · exact h
  · intro h e he
    cases hb : Region.binds .any e with
    | false => exact Or.inl rfl
    | true => exact Or.inr (h e.on ⟨e, ⟨by simpa using he, hb⟩, rfl⟩)

theorem getD_tf {l : Array Bool} {y : Nat} (hy : y < l.size) : l.getD y true = l.getD y false := by simp [hy]

theorem lin_sound {ops : Array Oper} {b : Array Nat} (hok : orderOk ops b = true) {K : Act → Mem → Prop} :
    ∀ (fuel t : Nat) (listed : Array Bool), listed.size = ops.size → closed ops listed → (rest ops listed).length ≤ fuel → ∀ {a : Act} {m : Mem}, m.fin →
      opsD P w0 Γ (alone ops b) ops K (rest ops listed) a m → opsD P w0 Γ (alone ops b) ops K (lin ops fuel t listed) a m := by
  intro fuel
  induction fuel with
  | zero =>
    intro t listed _ _ hf a m _ h
    have : rest ops listed = [] := List.length_eq_zero_iff.1 (by omega)
    rw [this] at h; exact h
  | succ n ih =>
    intro t listed hsz hc hf a m hm h
    simp only [lin]
    generalize hrs : (List.filter (fun i => !listed.getD i true && ((ops[i]?).map (·.after.all fun e => !Region.binds .any e || listed.getD e.on false)).getD false) (List.range ops.size)) = rs
    cases hi : rs[t % rs.length]? with
    | none =>
      have hnil : rs = [] := by
        cases rs with
        | nil => rfl
        | cons x xs =>
          have : t % (x :: xs).length < (x :: xs).length := Nat.mod_lt _ (by simp)
          rw [List.getElem?_eq_getElem this] at hi; cases hi
      have hrest : rest ops listed = [] := by
        cases hr : rest ops listed with
        | nil => rfl
        | cons x xs =>
          exfalso
          -- the first of them can be taken: what it hangs on is listed
          have hx : x ∈ rest ops listed := by rw [hr]; simp
          have hx' := hx
          simp only [rest, List.mem_filter, List.mem_range, Bool.not_eq_true'] at hx'
          have hall : ∀ y ∈ depsOf ops x, listed.getD y false = true := by
            intro y hy
            have hlt := (orderOk_at hok hx'.1).1 y hy
            rw [← getD_tf (by omega)]
            cases hl : listed.getD y true with
            | true => rfl
            | false =>
              have hym : y ∈ rest ops listed := by
                simp only [rest, List.mem_filter, List.mem_range, Bool.not_eq_true']
                exact ⟨by omega, hl⟩
              have hs : (rest ops listed).Pairwise (· < ·) := List.Pairwise.filter _ List.pairwise_lt_range
              rw [hr] at hs hym
              rcases List.mem_cons.1 hym with rfl | hm'
              · omega
              · have := (List.pairwise_cons.1 hs).1 y hm'
                omega
          have ho : ops[x]? = some ops[x] := Array.getElem?_eq_getElem hx'.1
          have : x ∈ rs := by
            rw [← hrs]
            simp only [List.mem_filter, List.mem_range, Bool.and_eq_true, Bool.not_eq_true']
            refine ⟨hx'.1, hx'.2, ?_⟩
            rw [ho]
            simp only [Option.map_some, Option.getD_some]
            exact (all_deps ho).2 hall
          rw [hnil] at this; cases this
      rw [hrest] at h; exact h
    | some i =>
      have him : i ∈ rs := List.mem_of_getElem? hi
      rw [← hrs] at him
      simp only [List.mem_filter, List.mem_range, Bool.and_eq_true, Bool.not_eq_true'] at him
      obtain ⟨hin, hil, hid⟩ := him
      have ho : ops[i]? = some ops[i] := Array.getElem?_eq_getElem hin
      rw [ho] at hid
      simp only [Option.map_some, Option.getD_some] at hid
      have hdeps := (all_deps ho).1 hid
      have hdt : ∀ y ∈ depsOf ops i, listed.getD y true = true := fun y hy => by
        have := (orderOk_at hok hin).1 y hy
        rw [getD_tf (by omega)]; exact hdeps y hy
      have himr : i ∈ rest ops listed := by
        simp only [rest, List.mem_filter, List.mem_range, Bool.not_eq_true']; exact ⟨hin, hil⟩
      obtain ⟨A, B, hAB⟩ := List.append_of_mem himr
      have hs : (rest ops listed).Pairwise (· < ·) := List.Pairwise.filter _ List.pairwise_lt_range
      rw [hAB] at hs h
      have hA : ∀ x ∈ A, x < i := fun x hx => (List.pairwise_append.1 hs).2.2 x hx i (by simp)
      have hB : ∀ x ∈ B, i < x := fun x hx => (List.pairwise_cons.1 (List.pairwise_append.1 hs).2.1).1 x hx
      have hnew : rest ops (listed.setIfInBounds i true) = A ++ B := by
        have e1 : rest ops (listed.setIfInBounds i true) = (rest ops listed).filter (fun x => decide (x ≠ i)) := by
          simp only [rest, List.filter_filter]
          apply List.filter_congr
          intro x hx
          have hx' : x < listed.size := by rw [hsz]; simpa using hx
          by_cases e : x = i
          · subst e; simp [hx']
          · simp [Ne.symm e, e]
        rw [e1, hAB, List.filter_append, List.filter_cons]
        have eA : A.filter (fun x => decide (x ≠ i)) = A := List.filter_eq_self.2 fun x hx => by have := hA x hx; simp; omega
        have eB : B.filter (fun x => decide (x ≠ i)) = B := List.filter_eq_self.2 fun x hx => by have := hB x hx; simp; omega
        rw [eA, eB]; simp
      have hfront := opsD_front ho B A (fun x hx => by
        have hxi := hA x hx
        have hxr : x ∈ rest ops listed := by rw [hAB]; simp [hx]
        simp only [rest, List.mem_filter, List.mem_range, Bool.not_eq_true'] at hxr
        have hp := (orderOk_at hok hin).2 x hxi
        have hox : ops[x]? = some ops[x] := Array.getElem?_eq_getElem hxr.1
        refine ⟨ops[x], hox, ?_⟩
        unfold pairOk at hp
        split at hp
        · rename_i hb
          have := bit_listed hok hc (i + 1) i (by omega) hin hdt x hxi hb
          rw [this] at hxr; exact absurd hxr.2 (by simp)
        · rename_i hb
          obtain ⟨g1, g2⟩ := alone_bit hin hxi hb
          exact ⟨by simpa only [hox, ho] using hp, g2, g1⟩) hm h
      simp only [opsD, ho] at hfront ⊢
      refine stepD_mono ?_ (stepD_fin hm hfront)
      rintro a' m' ⟨hm', hk⟩
      refine ih _ _ (by simpa using hsz) ?_ ?_ hm' (by rw [hnew]; exact hk)
      · intro j hj hl y hy
        have hset : ∀ z, z < ops.size → ((listed.setIfInBounds i true).getD z true = true ↔ z = i ∨ listed.getD z true = true) := by
          intro z hz
          by_cases e : z = i
          · subst e; simp [hsz, hz]
          · simp [Ne.symm e, e]
        have hyj := (orderOk_at hok hj).1 y hy
        rw [hset y (by omega)]
        rcases (hset j hj).1 hl with rfl | hl
        · exact Or.inr (hdt y hy)
        · exact Or.inr (hc j hj hl y hy)
      · have : (rest ops listed).length = A.length + B.length + 1 := by rw [hAB]; simp; omega
        rw [hnew]; simp; omega

theorem opsD_any {ops : Array Oper} {b : Array Nat} (hok : orderOk ops b = true) {K : Act → Mem → Prop} {a : Act} {m : Mem} (hm : m.fin) (h : opsD P w0 Γ (alone ops b) ops K (List.range ops.size) a m) (mixed : Bool) (t : Nat) :
    opsD P w0 Γ (alone ops b) ops K (Region.schedule mixed ops t) a m := by
  have hd : Region.departs ops = false := by
    simp only [orderOk, Bool.and_eq_true, Bool.not_eq_true'] at hok; exact hok.1
  have e : Region.schedule mixed ops t = lin ops ops.size t (Array.replicate ops.size false) := by
    simp only [Region.schedule, hd, Bool.not_false, Bool.or_true, if_true, Region.linearise, go_lin]
    rfl
  rw [e]
  have hr : rest ops (Array.replicate ops.size false) = List.range ops.size := by
    refine List.filter_eq_self.2 fun x hx => ?_
    have hx' : x < ops.size := by simpa using hx
    simp [hx']
  refine lin_sound hok _ _ _ (by simp) ?_ (by rw [hr]; simp) hm (by rw [hr]; exact h)
  intro i hi hl
  simp [hi] at hl

theorem wp_region_any {id : Nat} {ops : Array Oper} {b : Array Nat} (hok : orderOk ops b = true) {K : Act → Mem → Prop} {Q : Exit → Act → World → Prop} {a : Act} {m : Mem} {w : World}
    (hk : ∀ a' m' w', Holds w0 m' w' → K a' m' → Q .normal a' w') (h : opsD P w0 Γ (alone ops b) ops K (List.range ops.size) a m) (H : Holds w0 m w) :
    (Code.region id ops true).wp P Q a w :=
  wp_region_draw fun t => opsD_sound hk _ (opsD_any hok H.fin h _ t) H.drew

end Go.Proofs.Ytakpbbponhamaaa.Sx
