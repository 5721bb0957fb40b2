/-
  Machines: MachinesWholes, walked.
-/
import Derived.Test.YtcjllibeaiofpaaGreatDoorHn
set_option linter.all false
set_option maxRecDepth 100000
namespace Go.Proofs.YtcjllibeaiofpaaGreatDoor
open Go.RowKit Mach
theorem run_new (c : List Cod) (vs : List Cel) (arr : Array Value) (m k : Nat) (ha : arr = (cfl c).toArray) (hm : m = c.length) (hk : k = vs.length) (hl : c.length <= 2000) (hok : CodOk c) (hr : runF NN c [] = .ok vs)
  (V : World) (p : Nat) (hp : p = V.heap.size) (hj : Sx.J (V.alloc (.cells arr 41))) :
  Calls Tryz.prog 12 #[.slice (some ⟨p, 0, none⟩) m m, .slice none 0 0] (V.alloc (.cells arr 41))
   fun e w2 => (∃ g cp, e = .returned (.tuple #[.slice (some ⟨g, 0, none⟩) k cp, .int .i64 0]) /\ Vals w2.heap.size w2 (some ⟨g, 0, none⟩) vs) /\ Below (V.alloc (.cells arr 41)).heap.size (V.alloc (.cells arr 41)) w2 := by
 subst ha hm hk
 refine (run_any c [] _ _ c.length c.length 0 0 _ rfl rfl (by simp) hl (cods_at V c 41 p hp) hok (.inl rfl) (fun x hx => by simp at hx) hj).mono ?_
 intro e w2 hP
 obtain ⟨⟨v, rfl, hv⟩, hB⟩ := hP.1 _ hr
 obtain ⟨g, cp, rfl, hw⟩ := hv.vals
 exact ⟨⟨g, cp, rfl, hw⟩, hB⟩
theorem run_new2 (c : List Cod) (ins : List Int) (vs : List Cel) (arr ar2 : Array Value) (m mi k : Nat) (ha : arr = (cfl c).toArray) (ha2 : ar2 = (ins.map (Value.int .i32)).toArray) (hm : m = c.length) (hmi : mi = ins.length) (hk : k = vs.length) (hl : c.length <= 2000) (hi : ins.length <= 2000) (hok : CodOk c) (hfj : ∀ x ∈ ins, J32 x) (hr : runF NN c ins = .ok vs)
  (V : World) (p q : Nat) (hp : p = V.heap.size) (hq : q = (V.alloc (.cells arr 41)).heap.size) (hj : Sx.J ((V.alloc (.cells arr 41)).alloc (.cells ar2 36))) :
  Calls Tryz.prog 12 #[.slice (some ⟨p, 0, none⟩) m m, .slice (some ⟨q, 0, none⟩) mi mi] ((V.alloc (.cells arr 41)).alloc (.cells ar2 36))
   fun e w2 => (∃ g cp, e = .returned (.tuple #[.slice (some ⟨g, 0, none⟩) k cp, .int .i64 0]) /\ Vals w2.heap.size w2 (some ⟨g, 0, none⟩) vs) /\ Below ((V.alloc (.cells arr 41)).alloc (.cells ar2 36)).heap.size ((V.alloc (.cells arr 41)).alloc (.cells ar2 36)) w2 := by
 subst ha ha2 hm hmi hk
 refine (run_any c ins _ _ c.length c.length ins.length ins.length _ rfl rfl hi hl ((cods_at V c 41 p hp).on ((Below.refl _ _).alloc (Nat.le_refl _) _)) hok (fixs_at _ ins 36 q hq) hfj hj).mono ?_
 intro e w2 hP
 obtain ⟨⟨v, rfl, hv⟩, hB⟩ := hP.1 _ hr
 obtain ⟨g, cp, rfl, hw⟩ := hv.vals
 exact ⟨⟨g, cp, rfl, hw⟩, hB⟩
theorem val_one {n₀ : Nat} {V : World} {g : Nat} {a : Cel} (h : Vals n₀ V (some ⟨g, 0, none⟩) [a]) : g < n₀ /\ V.cell? ⟨g, 0, none⟩ = some (.int .u8 a.k) /\ V.cell? ⟨g, 1, none⟩ = some (.int .i32 a.n) := by
 obtain ⟨b, off, e, hb, h1, h2⟩ := vals_some h (i := 0) rfl
 cases e
 exact ⟨hb, h1, h2⟩
theorem wrap_j (x : Int) : J32 (Mach.wrap32 x) := by unfold J32 Mach.wrap32; omega
theorem shiftF_j (a b : Int) : J32 (shiftF a b) := by unfold shiftF; split <;> exact wrap_j _
theorem back_eq (a : Int) (n : Nat) (hn : n < 32) : clp (shiftF (clp (shiftF a n)) (-(n : Int))) = Mach.wrap32 (a % 4294967296 * 2 ^ n % 4294967296 / 2 ^ n) := by
 rw [clp_id (shiftF_j _ _), clp_id (shiftF_j _ _)]
 have h1 : shiftF a n = Mach.wrap32 (a % 4294967296 * 2 ^ n) := by
  unfold shiftF
  rw [if_neg (by omega)]
  simp
 rw [h1]
 have h2 : ∀ x : Int, Mach.wrap32 x % 4294967296 = x % 4294967296 := fun x => by unfold Mach.wrap32; omega
 by_cases h0 : n = 0
 ·subst h0
  unfold shiftF
  simp [h2]
 ·unfold shiftF
  rw [if_pos (by omega), h2]
  simp
theorem quo_rem (a b : Int) (ha : J32 a) (hb : J32 b) (h0 : ¬ b = 0) : (clp (a.tdiv b) * b + clp (a.tmod b) = a \/ (a = -2147483648 /\ b = -1)) /\ max (clp (a.tmod b)) (-clp (a.tmod b)) < max b (-b) := by
 have hm : (a.tmod b).natAbs < b.natAbs := by
  rw [Int.natAbs_tmod]
  exact Nat.mod_lt _ (by omega)
 have hd : (a.tdiv b).natAbs <= a.natAbs := by
  rw [Int.natAbs_tdiv]
  exact Nat.div_le_self _ _
 have e := Int.mul_tdiv_add_tmod a b
 unfold J32 at ha hb
 have hr : clp (a.tmod b) = a.tmod b := clp_id (by unfold J32; omega)
 rw [hr]
 refine ⟨?_, by omega⟩
 by_cases hx : a.tdiv b = 2147483648
 ·right
  have h3 : a.natAbs = 2147483648 := by omega
  have h4 : (a.tdiv b).natAbs = 2147483648 := by omega
  rw [Int.natAbs_tdiv, h3] at h4
  have h5 : b.natAbs = 1 := by
   have : 2147483648 / b.natAbs < 2147483648 \/ b.natAbs <= 1 := by
    by_cases q : b.natAbs <= 1
    ·exact .inr q
    ·exact .inl (Nat.div_lt_self (by decide) (by omega))
   rcases this with t | t
   ·exact absurd h4 (Nat.ne_of_lt t)
   ·omega
  have h6 : b = 1 \/ b = -1 := by omega
  rcases h6 with rfl | rfl
  ·simp at hx; omega
  ·exact ⟨by omega, rfl⟩
 ·left
  rw [clp_id (by unfold J32; omega), Int.mul_comm]
  exact e
theorem codok_nil : CodOk [] := fun x hx => by simp at hx
theorem codok_cons {o n : Int} {c : List Cod} (ho : 0 <= o /\ o <= 255) (hn : J32 n) (h : CodOk c) : CodOk (⟨o, n⟩ :: c) := by
 intro x hx
 rcases List.mem_cons.1 hx with rfl | hx
 ·exact ⟨ho, hn⟩
 ·exact h x hx
theorem j0 : J32 0 := ⟨by decide, by decide⟩
theorem wrap_two (x : Int) : Mach.wrap32 x = Go.RowKit.wrap32 x := by unfold Mach.wrap32 Go.RowKit.wrap32; first | rfl | omega
theorem clp0 : clp 0 = 0 := by decide
set_option maxHeartbeats 8000000 in
theorem lwholes_any (a b by' : Int) (w : World) (ha : J32 a) (hb : J32 b) (hby : 0 <= by' /\ by' <= 255) (hj : Sx.J w) :
  Calls Tryz.prog 7 #[.int .i32 a, .int .i32 b, .int .u8 by'] w (LV w) := by
 obtain ⟨n, hn⟩ : ∃ n : Nat, by' % 32 = n := ⟨(by' % 32).toNat, by omega⟩
 have hn32 : n < 32 := by omega
 obtain ⟨qn, hqn⟩ : ∃ x, x = (if b = 0 then 0 else clp (a.tdiv b)) := ⟨_, rfl⟩
 obtain ⟨rn, hrn⟩ : ∃ x, x = (if b = 0 then 0 else clp (a.tmod b)) := ⟨_, rfl⟩
 obtain ⟨sn, hsn⟩ : ∃ x, x = clp (shiftF (clp (shiftF a n)) (-(n : Int))) := ⟨_, rfl⟩
 have eq : wholesF 23 ⟨0, a, true⟩ ⟨0, b, true⟩ = ⟨0, qn, false⟩ := by
  unfold wholesF whole
  rw [hqn]
  by_cases h : b = 0 <;> simp [h, clp0]
 have er : wholesF 29 ⟨0, a, true⟩ ⟨0, b, true⟩ = ⟨0, rn, false⟩ := by
  unfold wholesF whole
  rw [hrn]
  by_cases h : b = 0 <;> simp [h, clp0]
 have X1 := Lib.hid (run_new [⟨0, a⟩, ⟨0, b⟩, ⟨23, 0⟩] [⟨0, qn, false⟩] #[.int .u8 0, .int .i32 a, .int .u8 0, .int .i32 b, .int .u8 23, .int .i32 0] 3 1 rfl rfl rfl (by simp)
  (codok_cons (by decide) ha (codok_cons (by decide) hb (codok_cons (by decide) j0 codok_nil))) (by rw [wholes_law (.inl rfl), eq]))
 have X2 := Lib.hid (run_new [⟨0, a⟩, ⟨0, b⟩, ⟨29, 0⟩] [⟨0, rn, false⟩] #[.int .u8 0, .int .i32 a, .int .u8 0, .int .i32 b, .int .u8 29, .int .i32 0] 3 1 rfl rfl rfl (by simp)
  (codok_cons (by decide) ha (codok_cons (by decide) hb (codok_cons (by decide) j0 codok_nil))) (by rw [wholes_law (.inr rfl), er]))
 have X3 := Lib.hid (run_new [⟨0, a⟩, ⟨0, n⟩, ⟨9, 0⟩, ⟨0, -n⟩, ⟨9, 0⟩] [⟨0, sn, false⟩] #[.int .u8 0, .int .i32 a, .int .u8 0, .int .i32 n, .int .u8 9, .int .i32 0, .int .u8 0, .int .i32 (-n), .int .u8 9, .int .i32 0] 5 1 rfl rfl rfl (by simp)
  (codok_cons (by decide) ha (codok_cons (by decide) ⟨by omega, by omega⟩ (codok_cons (by decide) j0 (codok_cons (by decide) ⟨by omega, by omega⟩ (codok_cons (by decide) j0 codok_nil))))) (by rw [shift_law, hsn]; rfl))
 have HS := Lib.hid ((hsn.trans (back_eq a n hn32)).trans (wrap_two _))
 have HN := Lib.hid hn
 have hL : L3 w w none none none [] [] [] := ⟨Below.refl _ _, hj, .inl rfl, .inl rfl, .inl rfl⟩
 have t1 : True := trivial
 have t2 : True := trivial
 have t3 : True := trivial
 by_cases hb0 : b = 0
 ·subst hb0
  rw [if_pos rfl] at hqn hrn
  subst hqn hrn
  clear hsn eq er hn
  go_enter Tryz.func7, Tryz.ntmps7
  go_wp2_with (first
   | (go_at_call 15; refine (lop_any _ _).mono ?_; rintro e w1 ⟨rfl, hB1⟩; replace hL := (hL.kB (by first | exact Below.refl _ _ | exact (Below.refl _ _).alloc (Nat.le_refl _) _ | exact ((Below.refl _ _).alloc (Nat.le_refl _) _).alloc (by simp) _)).kB hB1; clear hB1)
   | (go_at_call 14; refine (lnum_any _ _).mono ?_; rintro e w1 ⟨rfl, hB1⟩; replace hL := (hL.kB (by first | exact Below.refl _ _ | exact (Below.refl _ _).alloc (Nat.le_refl _) _ | exact ((Below.refl _ _).alloc (Nat.le_refl _) _).alloc (by simp) _)).kB hB1; clear hB1)
   | (clear t1; go_at_call 12; refine (X1.out _ _ rfl (hL.kB (by exact (Below.refl _ _).alloc (Nat.le_refl _) _)).j).mono ?_; rintro e w1 ⟨⟨g1, c1, rfl, hv⟩, hB1⟩; replace hL := (hL.kB (by exact (Below.refl _ _).alloc (Nat.le_refl _) _)).kB hB1; replace hL := L3.mk hL.b hL.j hv hL.p2 hL.p3; clear hv hB1)
   | (clear t2; go_at_call 12; refine (X2.out _ _ rfl (hL.kB (by exact (Below.refl _ _).alloc (Nat.le_refl _) _)).j).mono ?_; rintro e w1 ⟨⟨g2, c2, rfl, hv⟩, hB1⟩; replace hL := (hL.kB (by exact (Below.refl _ _).alloc (Nat.le_refl _) _)).kB hB1; replace hL := L3.mk hL.b hL.j hL.p1 hv hL.p3; clear hv hB1)
   | (clear t3; go_at_call 12; rw [HN.out]; refine (X3.out _ _ rfl (hL.kB (by exact (Below.refl _ _).alloc (Nat.le_refl _) _)).j).mono ?_; rintro e w1 ⟨⟨g3, c3, rfl, hv⟩, hB1⟩; replace hL := (hL.kB (by exact (Below.refl _ _).alloc (Nat.le_refl _) _)).kB hB1; obtain ⟨hg1, p0, p1⟩ := val_one hL.p1; obtain ⟨hg2, q0, q1⟩ := val_one hL.p2; obtain ⟨hg3, r0, r1⟩ := val_one hv; rw [HS.out] at r1; have hgd := gd_val; clear hv hB1)
   | (go_at_call 10; refine (lives_any _ hL.j).mono ?_; rintro e w1 ⟨rfl, hB1⟩; replace hL := hL.kB hB1; clear hB1))
  go_ret
  exact ⟨rfl, hL.b⟩
 ·rw [if_neg hb0] at hqn hrn
  unfold J32 at ha hb
  have hq := quo_rem a b ha hb hb0
  rw [<- hqn, <- hrn] at hq
  obtain ⟨hq1, hq2⟩ := hq
  have hqj : -2147483648 <= qn /\ qn <= 2147483647 := hqn ▸ clp_j _
  have hrj : -2147483648 <= rn /\ rn <= 2147483647 := hrn ▸ clp_j _
  have hpj := mul_in hqj hb
  have HQN := Lib.hid (And.intro hqn hrn)
  clear hqn hrn hsn eq er hn
  go_enter Tryz.func7, Tryz.ntmps7
  go_wp2_with (first
   | (go_at_call 15; refine (lop_any _ _).mono ?_; rintro e w1 ⟨rfl, hB1⟩; replace hL := (hL.kB (by first | exact Below.refl _ _ | exact (Below.refl _ _).alloc (Nat.le_refl _) _ | exact ((Below.refl _ _).alloc (Nat.le_refl _) _).alloc (by simp) _)).kB hB1; clear hB1)
   | (go_at_call 14; refine (lnum_any _ _).mono ?_; rintro e w1 ⟨rfl, hB1⟩; replace hL := (hL.kB (by first | exact Below.refl _ _ | exact (Below.refl _ _).alloc (Nat.le_refl _) _ | exact ((Below.refl _ _).alloc (Nat.le_refl _) _).alloc (by simp) _)).kB hB1; clear hB1)
   | (clear t1; go_at_call 12; refine (X1.out _ _ rfl (hL.kB (by exact (Below.refl _ _).alloc (Nat.le_refl _) _)).j).mono ?_; rintro e w1 ⟨⟨g1, c1, rfl, hv⟩, hB1⟩; replace hL := (hL.kB (by exact (Below.refl _ _).alloc (Nat.le_refl _) _)).kB hB1; replace hL := L3.mk hL.b hL.j hv hL.p2 hL.p3; clear hv hB1)
   | (clear t2; go_at_call 12; refine (X2.out _ _ rfl (hL.kB (by exact (Below.refl _ _).alloc (Nat.le_refl _) _)).j).mono ?_; rintro e w1 ⟨⟨g2, c2, rfl, hv⟩, hB1⟩; replace hL := (hL.kB (by exact (Below.refl _ _).alloc (Nat.le_refl _) _)).kB hB1; replace hL := L3.mk hL.b hL.j hL.p1 hv hL.p3; clear hv hB1)
   | (clear t3; go_at_call 12; rw [HN.out]; refine (X3.out _ _ rfl (hL.kB (by exact (Below.refl _ _).alloc (Nat.le_refl _) _)).j).mono ?_; rintro e w1 ⟨⟨g3, c3, rfl, hv⟩, hB1⟩; replace hL := (hL.kB (by exact (Below.refl _ _).alloc (Nat.le_refl _) _)).kB hB1; obtain ⟨hg1, p0, p1⟩ := val_one hL.p1; obtain ⟨hg2, q0, q1⟩ := val_one hL.p2; obtain ⟨hg3, r0, r1⟩ := val_one hv; rw [HS.out] at r1; have hgd := gd_val; clear hv hB1)
   | (go_at_call 10; refine (lives_any _ hL.j).mono ?_; rintro e w1 ⟨rfl, hB1⟩; replace hL := hL.kB hB1; clear hB1))
  have lf : ∀ V : World, Below w1.heap.size w1 V -> Calls Tryz.prog 10 #[] V fun e w' => e = .returned (.bool true) /\ Below w.heap.size w w' := fun V hB => (lives_any V (hL.kB hB).j).mono fun e w' h => ⟨h.1, bstep (hL.kB hB).b h.2⟩
  have LF := Lib.hid lf
  have hr1 := Below.refl w1.heap.size w1
  have HQ2 := Lib.hid hq2
  rcases hq1 with e1 | ⟨rfl, rfl⟩
  ·have e2 : (qn * b + rn == a) = true := by simpa using e1
   have HE := Lib.hid e1
   clear e1 hq2 lf
   by_cases c1 : rn < -rn <;> by_cases c2 : b < -b
   ·have c3 : -rn < -b := by have := HQ2.out; omega
    go_quiet (fail)
    go_wp2
    go_quiet (fail)
    go_wp2_with (go_at_call 10; refine (LF.out _ (by first | exact below_drewN hr1 _ | exact below_drewN (below_drewN hr1 _) _)).mono ?_; rintro e w2 ⟨rfl, hB2⟩)
    go_ret
    exact ⟨rfl, hB2⟩
   ·have c3 : -rn < b := by have := HQ2.out; omega
    go_quiet (fail)
    go_wp2
    go_quiet (fail)
    go_wp2_with (go_at_call 10; refine (LF.out _ (by first | exact below_drewN hr1 _ | exact below_drewN (below_drewN hr1 _) _)).mono ?_; rintro e w2 ⟨rfl, hB2⟩)
    go_ret
    exact ⟨rfl, hB2⟩
   ·have c3 : rn < -b := by have := HQ2.out; omega
    go_quiet (fail)
    go_wp2
    go_quiet (fail)
    go_wp2_with (go_at_call 10; refine (LF.out _ (by first | exact below_drewN hr1 _ | exact below_drewN (below_drewN hr1 _) _)).mono ?_; rintro e w2 ⟨rfl, hB2⟩)
    go_ret
    exact ⟨rfl, hB2⟩
   ·have c3 : rn < b := by have := HQ2.out; omega
    go_quiet (fail)
    go_wp2
    go_quiet (fail)
    go_wp2_with (go_at_call 10; refine (LF.out _ (by first | exact below_drewN hr1 _ | exact below_drewN (below_drewN hr1 _) _)).mono ?_; rintro e w2 ⟨rfl, hB2⟩)
    go_ret
    exact ⟨rfl, hB2⟩
  ·obtain rfl : qn = 2147483647 := HQN.out.1.trans (by decide)
   obtain rfl : rn = 0 := HQN.out.2.trans (by decide)
   clear hq2 lf
   go_quiet (fail)
   go_wp2
   go_quiet (fail)
   go_wp2_with (go_at_call 10; refine (LF.out _ (by first | exact below_drewN hr1 _ | exact below_drewN (below_drewN hr1 _) _)).mono ?_; rintro e w2 ⟨rfl, hB2⟩)
   go_ret
   exact ⟨rfl, hB2⟩
theorem arg_int {H : Type} {enc : TypeId × Value -> H} {t : TypeId} {k : IntKind} {W W' : World} {base b0 fuel : Nat} {spare : Nat -> Bool} {held : Bool} {v : Value} {d : DataW H} {p : List MemPlace} (hu : Tryz.prog.underlying t = some (.int k)) (h : Value.okWide Tryz.prog W .any base t v) (hd : DataW.trod enc Tryz.prog W' b0 spare held fuel t v.cells.toList = some (d, p)) : ∃ n, v = .int k n /\ (Lit.int k n).wf = true := by
 obtain ⟨n, rfl⟩ := Go.WideShapes.okWide_int hu h
 obtain ⟨q, e1, _, e3⟩ := DataW.trod_int hu hd
 refine ⟨n, rfl, ?_⟩
 have : n = q := by
  have := (List.cons.inj e1).1
  cases this
  rfl
 rw [this]
 exact e3
theorem walk_wholes : WalkT 7 [21, 21, 5] := by
 intro H enc W base b0 spare held args ds p hval hA hj
 obtain ⟨v, v', v'', d, d', d'', p1, p2, p3, rfl, _, _, ⟨f1, hd⟩, ⟨f2, hd'⟩, ⟨f3, hd''⟩⟩ := Go.ChangeShapes.trodAll_three hA
 obtain ⟨a, rfl, ha⟩ := arg_int Tryz.underlying21 (hval 0 _ v rfl rfl) hd
 obtain ⟨b, rfl, hb⟩ := arg_int Tryz.underlying21 (hval 1 _ v' rfl rfl) hd'
 obtain ⟨n, rfl, hn⟩ := arg_int Tryz.underlying5 (hval 2 _ v'' rfl rfl) hd''
 exact lwholes_any a b n W (wf_j32 ha) (wf_j32 hb) (wf_b8 hn) hj
end Go.Proofs.YtcjllibeaiofpaaGreatDoor
