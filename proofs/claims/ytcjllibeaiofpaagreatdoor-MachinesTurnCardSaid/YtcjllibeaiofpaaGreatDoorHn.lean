/-
  Machines: MachinesKinds, walked; from a row's premise to a walk.
-/
import Derived.Test.YtcjllibeaiofpaaGreatDoorHk
import Derived.Test.YtcjllibeaiofpaaGreatDoorSf
import Derived.WalkKit
import Derived.ProofKit
import Derived.OpenShut
import Derived.ShutString
import Derived.ChangeOld
import Derived.Below
import Derived.Carry
import Derived.Test.YtcjllibeaiofpaaGreatDoorTie
import Derived.Test.YtcjllibeaiofpaaGreatDoorCards
import Derived.LaidMore
import Derived.Stop.Joined
import Derived.SevenTiedAt
import Derived.Deep.Slices
import Derived.Deep.SlicePairs
set_option linter.all false
set_option maxRecDepth 100000
namespace Go.Proofs.YtcjllibeaiofpaaGreatDoor
open Go.RowKit Mach
def LV (w : World) (e : Ending) (w' : World) : Prop := e = .returned (.bool true) /\ Below w.heap.size w w'
theorem LV.on {w V : World} (hB : Below w.heap.size w V) {e : Ending} {w' : World} (h : e = .returned (.bool true) /\ Below V.heap.size V w') : LV w e w' := ⟨h.1, bstep hB h.2⟩
def Knds (n₀ : Nat) (V : World) (ad : Option Addr) (ks : List Int) : Prop :=
 ks = [] \/ ∃ b off, ad = some ⟨b, off, none⟩ /\ b < n₀ /\ ∀ j x, ks[j]? = some x -> V.cell? ⟨b, off + j, none⟩ = some (.int .u8 x)
theorem Knds.on {w W : World} {ad : Option Addr} {ks : List Int} (h : Knds w.heap.size w ad ks) (hB : Below w.heap.size w W) : Knds W.heap.size W ad ks := by
 rcases h with rfl | ⟨b, off, e, hb, hc⟩
 ·exact .inl rfl
 ·exact .inr ⟨b, off, e, Nat.lt_of_lt_of_le hb hB.size, fun j x hx => (hB.cell (p := ⟨b, off + j, none⟩) hb).trans (hc j x hx)⟩
theorem KindsAt.knds {lo : Nat} {V : World} {v : Value} {ks : List Int} (h : KindsAt lo V v ks) : ∃ ad cap, v = .slice ad ks.length cap /\ Knds V.heap.size V ad ks := by
 obtain ⟨ad, cap, e, _, h⟩ := h
 refine ⟨ad, cap, e, ?_⟩
 rcases h with rfl | ⟨b, off, e, _, hb, hc⟩
 ·exact .inl rfl
 ·exact .inr ⟨b, off, e, hb, hc⟩
theorem knds_some {n₀ : Nat} {W : World} {ad : Option Addr} {ks : List Int} (h : Knds n₀ W ad ks) {i : Nat} {a : Int} (ha : ks[i]? = some a) : ∃ b off, ad = some ⟨b, off, none⟩ /\ b < n₀ /\ W.cell? ⟨b, off + i, none⟩ = some (.int .u8 a) := by
 rcases h with rfl | ⟨b, off, e, hb, hc⟩
 ·simp at ha
 ·exact ⟨b, off, e, hb, hc i a ha⟩
theorem lkinds_far (ad ai : Option Addr) (m cap mi cai : Nat) (w : World) (hj : Sx.J w) (h : 300 < m \/ 110 < mi) :
  Calls Tryz.prog 3 #[.slice ad m cap, .slice ai mi cai] w (LV w) := by
 have HL := Lib.hid (lives_any w hj)
 clear hj
 by_cases c : 300 < m
 ·have c1 : decide ((m : Int) > 300) = true := by simp; omega
  go_enter Tryz.func3, Tryz.ntmps3
  go_wp2_with (go_at_call 10; refine HL.out.mono ?_; rintro e w1 ⟨rfl, hB1⟩)
  go_ret
  exact ⟨rfl, hB1⟩
 ·have c1 : decide ((m : Int) > 300) = false := by simp; omega
  have c2 : decide ((mi : Int) > 110) = true := by simp; omega
  go_enter Tryz.func3, Tryz.ntmps3
  go_wp2_with (go_at_call 10; refine HL.out.mono ?_; rintro e w1 ⟨rfl, hB1⟩)
  go_ret
  exact ⟨rfl, hB1⟩
set_option maxHeartbeats 4000000 in
theorem lkinds_any (c : List Cod) (ins : List Int) (ad ai : Option Addr) (m cap mi cai : Nat) (w : World) (hm : m = c.length) (hmi : mi = ins.length) (hc : Cods w.heap.size w ad c) (hok : CodOk c) (hf : Fixs w.heap.size w ai ins) (hfj : ∀ x ∈ ins, J32 x) (hj : Sx.J w) :
  Calls Tryz.prog 3 #[.slice ad m cap, .slice ai mi cai] w (LV w) := by
 by_cases hfar : 300 < m \/ 110 < mi
 ·exact lkinds_far ad ai m cap mi cai w hj hfar
 have hl1 : m <= 300 := by omega
 have hl2 : mi <= 110 := by omega
 have c1 : decide ((m : Int) > 300) = false := by simp; omega
 have c2 : decide ((mi : Int) > 110) = false := by simp; omega
 have HT := Lib.hid (fun (W : World) (hB : Below w.heap.size w W) => type_at c mi ad m cap W hm (hc.on hB) hok (Sx.J_kept hB hj) (by omega) (by omega))
 have HR := Lib.hid (fun (W : World) (hB : Below w.heap.size w W) => run_any c ins ad ai m cap mi cai W hm hmi (by omega) (by omega) (hc.on hB) hok (hf.on hB) hfj (Sx.J_kept hB hj))
 have HL := Lib.hid (fun (W : World) (hB : Below w.heap.size w W) => lives_any W (Sx.J_kept hB hj))
 have HA := Lib.hid (fun l h => (runF_all (N := NN) nn_ok (c := c) (fun x hx => (hok x hx).2) (ins := ins) hfj (l := l) h))
 obtain ⟨k1, k2⟩ := kinds_law (N := NN) c ins
 rw [<- hmi] at k1 k2
 have K1 := Lib.hid k1
 have K2 := Lib.hid k2
 clear k1 k2 hfar hm hmi hc hok hf hfj hj
 have hb0 : Below w.heap.size w w := Below.refl _ _
 cases ht : typeW NN c mi with
 | error er =>
  have hr := K2.out er ht
  have HTE := Lib.hid ht
  have HRE := Lib.hid hr
  clear ht hr
  go_enter Tryz.func3, Tryz.ntmps3
  go_wp2_with (first
   | (go_at_call 11; refine (HT.out _ hb0).mono ?_; rintro e w1 hP; obtain ⟨rfl, hB1⟩ := hP.2 _ HTE.out; replace hb0 := bstep hb0 hB1; clear hP hB1)
   | (go_at_call 12; refine (HR.out _ hb0).mono ?_; rintro e w2 hP; obtain ⟨rfl, hB1⟩ := hP.2 _ HRE.out; replace hb0 := bstep hb0 hB1; clear hP hB1))
  go_loopw [9] (fun i V => i = .int .i64 0 /\ Below w.heap.size w V) (fun i _ => 0)
  case atStart => exact ⟨rfl, hb0⟩
  case round =>
   obtain ⟨rfl, hB⟩ := hrel
   go_wp2_with (go_at_call 10; refine (HL.out _ hB).mono ?_; rintro e w1 ⟨rfl, hB1⟩)
   go_ret
   exact ⟨rfl, bstep hB hB1⟩
 | ok s =>
  obtain ⟨v, hr, hk⟩ := K1.out s ht
  have HTE := Lib.hid ht
  have HRE := Lib.hid hr
  have HK := Lib.hid hk
  obtain ⟨hall, h100⟩ := HA.out v hr
  have HG := Lib.hid hall
  have hsv : (s.map (·.k)).length = v.length := by rw [hk]; simp
  have HSV := Lib.hid hsv
  clear ht hr hk hall hsv
  go_enter Tryz.func3, Tryz.ntmps3
  go_wp2_with (first
   | (go_at_call 11; refine (HT.out _ hb0).mono ?_; rintro e w1 hP; obtain ⟨⟨kv, rfl, hKA⟩, hB1⟩ := hP.1 _ HTE.out; obtain ⟨ka, kc, rfl, hkk⟩ := hKA.knds; rw [HSV.out]; replace hb0 := bstep hb0 hB1; clear hP hB1 hKA)
   | (go_at_call 12; refine (HR.out _ hb0).mono ?_; rintro e w2 hP; obtain ⟨⟨vv, rfl, hVA⟩, hB1⟩ := hP.1 _ HRE.out; obtain ⟨g, vc, rfl, hvv⟩ := hVA.vals; replace hb0 := bstep hb0 hB1; replace hkk := hkk.on hB1; clear hP hB1 hVA))
  have HKK := Lib.hid hkk
  have HVV := Lib.hid hvv
  clear hkk hvv
  obtain ⟨Vs, hVs⟩ : ∃ V, V = w2 := ⟨_, rfl⟩
  subst hVs
  go_loopw [9] (fun i V => ∃ k : Nat, k <= v.length /\ i = .int .i64 k /\ Below w.heap.size w V /\ Below Vs.heap.size Vs V) (fun i _ => v.length - (intOf i).toNat)
  case atStart => exact ⟨0, by omega, rfl, hb0, Below.refl _ _⟩
  case round =>
   obtain ⟨k, hk, rfl, hB, hB2⟩ := hrel
   by_cases hlt : k < v.length
   ·obtain ⟨x, hx⟩ : ∃ x, v[k]? = some x := ⟨_, List.getElem?_eq_getElem hlt⟩
    have hx2 : (s.map (·.k))[k]? = some x.k := by rw [HK.out, List.getElem?_map, hx]; rfl
    obtain ⟨b1, o1, e1, hb1, p0, p1⟩ := vals_some (HVV.out.on hB2) hx
    obtain ⟨b2, o2, rfl, hb2, q0⟩ := knds_some (HKK.out.on hB2) hx2
    cases e1
    rw [Nat.zero_add] at p0 p1
    have hgd := HG.out x (List.mem_of_getElem? hx)
    obtain ⟨_, hbit, _, _⟩ := hgd
    obtain ⟨xk, xn, xkn⟩ := x
    simp only at p0 p1 q0 hbit
    clear hx hx2
    by_cases e2 : xk = 2
    ·subst e2
     rcases hbit rfl with rfl | rfl
     ·go_wp2
      go_quiet (fail)
      go_wp2
      go_roundw
      case rel => exact ⟨k + 1, by omega, by go_num, below_drewN hB _, below_drewN hB2 _⟩
      case measure => simp [intOf]; omega
     ·go_wp2
      go_quiet (fail)
      go_wp2
      go_roundw
      case rel => exact ⟨k + 1, by omega, by go_num, below_drewN hB _, below_drewN hB2 _⟩
      case measure => simp [intOf]; omega
    ·have e3 : (xk == 2) = false := by simpa using e2
     go_wp2
     go_quiet (fail)
     go_wp2
     go_roundw
     case rel => exact ⟨k + 1, by omega, by go_num, below_drewN hB _, below_drewN hB2 _⟩
     case measure => simp [intOf]; omega
   ·obtain rfl : k = v.length := by omega
    go_wp2_with (go_at_call 10; refine (HL.out _ hB).mono ?_; rintro e w1 ⟨rfl, hB1⟩)
    go_ret
    exact ⟨rfl, bstep hB hB1⟩
end Go.Proofs.YtcjllibeaiofpaaGreatDoor
namespace Go.Proofs.YtcjllibeaiofpaaGreatDoor.Sx
open Go Go.RowKit Go.ChangeShapes Go.WideShapes Go.ChangeAt
variable {P : Program}
theorem trodAll_len {H : Type} {enc : TypeId × Value -> H} {w : World} {base : Nat} {spare : Nat -> Bool} {held : Bool} :
  ∀ {ts : List TypeId} {vs : List Value} {ds : List (DataW H)} {p : List MemPlace}, DataW.TrodAll enc P w base spare held ts vs ds p -> vs.length = ts.length /\ ds.length = ts.length
 | [], _, _, _, h => by
  obtain ⟨rfl, rfl, rfl⟩ := trodAll_nil h
  exact ⟨rfl, rfl⟩
 | _ :: _, _, _, _, h => by
  obtain ⟨v, vs, d, ds, a, b, rfl, rfl, rfl, h1, h2⟩ := trodAll_cons h
  have := trodAll_len h2
  exact ⟨by simp [this.1], by simp [this.2]⟩
theorem trodAll_below {H : Type} {enc : TypeId × Value -> H} (hl : laidOutB P = true) {W W' : World} (hb : Below W.heap.size W W') :
  ∀ {ts : List TypeId} {vs : List Value} {ds : List (DataW H)} {p : List MemPlace}, DataW.TrodAll enc P W 0 (fun _ => true) true ts vs ds p ->
   (∀ t ∈ ts, P.readableRec t = true /\ t < P.types.size) -> (∀ x ∈ p, x.block < W.heap.size) -> DataW.TrodAll enc P W' 0 (fun b => decide (b < W.heap.size)) true ts vs ds p
 | [], _, _, _, h, _, _ => by
  obtain ⟨rfl, rfl, rfl⟩ := trodAll_nil h
  exact trodAll_mk0
 | t :: _, _, _, _, h, hr, hp => by
  obtain ⟨v, vs, d, ds, a, b, rfl, rfl, rfl, h1, h2⟩ := trodAll_cons h
  exact trodAll_cons_mk (Below.trod hl (hr t (by simp)).1 (hr t (by simp)).2 h1 hb fun x hx => hp x (by simp [hx]))
   (trodAll_below hl hb h2 (fun t ht => hr t (by simp [ht])) fun x hx => hp x (by simp [hx]))
end Go.Proofs.YtcjllibeaiofpaaGreatDoor.Sx
set_option maxRecDepth 100000
namespace Go.Proofs.YtcjllibeaiofpaaGreatDoor.Sx
open Go Go.RowKit Go.ChangeShapes Go.WideShapes Go.ChangeAt
def laidL : List (String × DataW Unit) := [("gouache/fixeds.adds", Rows.laid_gouache_fixeds_adds)]
theorem gVar : Tryz.prog.globalNamed "gouache/fixeds.adds" = some 0 := by kernel_rfl
def tyA : TypeId := 108
theorem tVar : (Tryz.prog.globals[0]?).map (·.type) = some tyA := by kernel_rfl
def tyE : TypeId := 2
theorem uA : Tryz.prog.underlying tyA = some (.array 3 tyE) := by kernel_rfl
theorem uE : Tryz.prog.underlying tyE = some (.int .i64) := by kernel_rfl
theorem cE : Tryz.prog.cellsOf tyE = 1 := by kernel_rfl
theorem cA : Tryz.prog.cellsOf tyA = 3 := by kernel_rfl
theorem door_met (os : Os) (args : Array Value) : laidMetH Tryz.prog laidL ((World.doorLaid Tryz.prog 400 os).forCall (fun _ _ => 0) ⟨#[], args, []⟩).memory :=
 laidMetH_of_parts3 (fuel := 8) (laidMet_of_run' 8 (by kernel_rfl) (by kernel_rfl)) (by kernel_rfl) (by kernel_rfl)
theorem J_of_laid {W : World} (h : laidMetH Tryz.prog laidL W) : J W := by
 rw [MakeChecks.laidMetH_plain _ _ _ (by kernel_rfl)] at h
 obtain ⟨ps, ⟨g0, t0, cs0, f0, p0, q0, hg0, ht0, hv0, hd0, _, _⟩, _, _⟩ := h
 obtain rfl := Option.some.inj (gVar.symm.trans hg0)
 obtain rfl := Option.some.inj (tVar.symm.trans ht0)
 obtain ⟨xs, m1, rfl, hx1, hlen, hn3, hel⟩ := DataW.trod_array uA hd0
 simp only [Prod.mk.injEq, Rows.laid_gouache_fixeds_adds, DataW.agg.injEq] at hx1
 rw [cA] at hlen
 have hcell : ∀ (i : Nat) (r : Int), i < 3 -> (xs.map (·.1))[i]? = some (.lit (.int .i64 r)) -> cs0.toList[i]? = some (.int .i64 r) := by
  intro i r hi hr
  have h0 := hel i hi
  simp only [List.getElem?_map, Option.map_eq_some_iff] at hr
  obtain ⟨x, hx, hx2⟩ := hr
  rw [hx, cE] at h0
  obtain ⟨k, e1, e2, _⟩ := DataW.trod_int uE h0
  have hl : i < cs0.toList.length := by omega
  have e3 : (cs0.toList.drop (i * 1)).take 1 = [cs0.toList[i]] := by
   rw [Nat.mul_one, List.drop_eq_getElem_cons hl]
   rfl
  rw [e3] at e1
  rw [e2] at hx2
  simp only [DataW.lit.injEq, Lit.int.injEq, true_and] at hx2
  rw [List.getElem?_eq_getElem hl, List.cons.inj e1 |>.1, hx2]
 rw [<- hx1.1] at hcell
 have hcs : cs0 = gcells (0, [(.i64, 0), (.i64, 65535), (.i64, 32768)]) := by
  apply Array.ext'
  apply List.ext_getElem?
  intro i
  by_cases hi : i < 3
  ·match i, hi with
   | 0, _ => exact hcell 0 0 (by omega) rfl
   | 1, _ => exact hcell 1 65535 (by omega) rfl
   | 2, _ => exact hcell 2 32768 (by omega) rfl
  ·rw [List.getElem?_eq_none (by omega), List.getElem?_eq_none (by simp [gcells]; omega)]
 intro g hg
 obtain rfl := List.mem_singleton.1 hg
 simp only [World.var?, hg0, Option.bind_some] at hv0
 split at hv0
 ·rename_i cs ty fr hh
  cases hv0
  exact ⟨fr, ty, by rw [<- hcs]; exact hh⟩
 ·cases hv0
end Go.Proofs.YtcjllibeaiofpaaGreatDoor.Sx
set_option linter.all false
set_option maxRecDepth 100000
namespace Go.Proofs.YtcjllibeaiofpaaGreatDoor
open Go Go.RowKit Go.ChangeShapes Go.WideShapes Go.ChangeAt Mach
theorem wf_j32 {n : Int} (h : (Lit.int .i32 n).wf = true) : J32 n := by
 simp only [Lit.wf, Bool.and_eq_true, decide_eq_true_eq] at h
 exact h
theorem wf_b8 {n : Int} (h : (Lit.int .u8 n).wf = true) : 0 <= n /\ n <= 255 := by
 simp only [Lit.wf, Bool.and_eq_true, decide_eq_true_eq] at h
 exact h
theorem addr_flat {w : World} {a : Addr} {v : Value} (h : w.cell? a = some v) : a.spot = none /\ a.block < w.heap.size := by
 have hs := World.cell?_spot h
 refine ⟨by simpa using hs, ?_⟩
 obtain ⟨b, off, spot⟩ := a
 by_cases hb : b < w.heap.size
 ·exact hb
 ·have : w.heap[b]? = none := by simp; omega
  simp [World.cell?, this] at h
section
variable {H : Type} {enc : TypeId × Value -> H} {w : World} {base : Nat} {spare : Nat -> Bool} {held : Bool} {fuel : Nat}
theorem fixs_arg {cs : List Value} {x : DataW H × List MemPlace} (h : DataW.trod enc Tryz.prog w base spare held fuel 23 cs = some x) : ∃ a len cap xs, cs = [.slice a len cap] /\ len = xs.length /\ Fixs w.heap.size w a xs /\ (∀ x ∈ xs, J32 x) /\ (a = none -> len = 0 /\ cap = 0) /\ len <= cap /\ cap <= maxLen := by
 rcases Go.Deep.open_slice1 Tryz.underlying23 (by kernel_rfl) h with ⟨rfl, _⟩ | ⟨a, len, cap, m, n, V, D, Pl, rfl, hb, hl, hm, hmm, _, hV⟩
 ·exact ⟨none, 0, 0, [], rfl, rfl, .inl rfl, fun x hx => (by simp at hx), fun _ => ⟨rfl, rfl⟩, Nat.le_refl _, Nat.zero_le _⟩
 ·have hlm : len <= m := by rw [hmm]; split <;> omega
  have each : ∀ i, i < len -> ∃ q : Int, w.cell? (a.add i) = some (.int .i32 q) /\ J32 q := by
   intro i hi
   obtain ⟨h1, h2⟩ := hV i (by omega)
   obtain ⟨q, e1, _, e3⟩ := DataW.trod_int Tryz.underlying36 h2
   exact ⟨q, by rw [h1, List.cons.inj e1 |>.1], wf_j32 e3⟩
  obtain ⟨q, hq⟩ := Go.Deep.choose_lt each
  refine ⟨some a, len, cap, (List.range len).map q, rfl, by simp, ?_, ?_, fun h => (by cases h), hl, hm⟩
  ·rcases Nat.eq_zero_or_pos len with h0 | h0
   ·subst h0; exact .inl rfl
   ·obtain ⟨b, off, spot⟩ := a
    obtain ⟨hs, hlt⟩ := addr_flat (a := ⟨b, off, spot⟩) (by simpa [Addr.add] using (hq 0 h0).1)
    simp only at hs hlt
    subst hs
    refine .inr ⟨b, off, rfl, hlt, fun j x hx => ?_⟩
    by_cases hj : j < len
    ·have := (hq j hj).1
     rw [Go.WideShapes.add_plain] at this
     simp [hj] at hx
     rw [<- hx]
     exact this
    ·simp [hj] at hx
  ·intro x hx
   obtain ⟨j, hj, rfl⟩ := List.mem_map.1 hx
   exact (hq j (List.mem_range.1 hj)).2
theorem cods_arg {cs : List Value} {x : DataW H × List MemPlace} (h : DataW.trod enc Tryz.prog w base spare held fuel 22 cs = some x) : ∃ a len cap c, cs = [.slice a len cap] /\ len = c.length /\ Cods w.heap.size w a c /\ CodOk c /\ (a = none -> len = 0 /\ cap = 0) /\ len <= cap /\ cap <= maxLen := by
 rcases Go.Deep.open_slice_pairs Tryz.underlying22 Tryz.underlying41 (by kernel_rfl) rfl rfl (by kernel_rfl) (by kernel_rfl) h with ⟨rfl, _⟩ | ⟨a, len, cap, m, n, V0, V1, D0, D1, P0, P1, rfl, hb, hl, hm, hmm, _, hV⟩
 ·exact ⟨none, 0, 0, [], rfl, rfl, .inl rfl, fun x hx => (by simp at hx), fun _ => ⟨rfl, rfl⟩, Nat.le_refl _, Nat.zero_le _⟩
 ·have hlm : len <= m := by rw [hmm]; split <;> omega
  have each : ∀ i, i < len -> ∃ q : Cod, w.cell? (a.add (i * 2)) = some (.int .u8 q.op) /\ w.cell? (a.add (i * 2 + 1)) = some (.int .i32 q.n) /\ (0 <= q.op /\ q.op <= 255) /\ J32 q.n := by
   intro i hi
   obtain ⟨h1, h2, h3, h4⟩ := hV i (by omega)
   obtain ⟨q, e1, _, e3⟩ := DataW.trod_int Tryz.underlying39 h3
   obtain ⟨q2, d1, _, d3⟩ := DataW.trod_int Tryz.underlying21 h4
   exact ⟨⟨q, q2⟩, by rw [h1, List.cons.inj e1 |>.1], by rw [h2, List.cons.inj d1 |>.1], wf_b8 e3, wf_j32 d3⟩
  haveI : Inhabited Cod := ⟨⟨0, 0⟩⟩
  obtain ⟨q, hq⟩ := Go.Deep.choose_lt each
  refine ⟨some a, len, cap, (List.range len).map q, rfl, by simp, ?_, ?_, fun h => (by cases h), hl, hm⟩
  ·rcases Nat.eq_zero_or_pos len with h0 | h0
   ·subst h0; exact .inl rfl
   ·obtain ⟨b, off, spot⟩ := a
    obtain ⟨hs, hlt⟩ := addr_flat (a := ⟨b, off, spot⟩) (by simpa [Addr.add] using (hq 0 h0).1)
    simp only at hs hlt
    subst hs
    refine .inr ⟨b, off, rfl, hlt, fun j x hx => ?_⟩
    by_cases hj : j < len
    ·obtain ⟨h1, h2, _⟩ := hq j hj
     rw [Go.WideShapes.add_plain] at h1 h2
     simp [hj] at hx
     rw [<- hx]
     exact ⟨h1, by simpa [Nat.add_assoc] using h2⟩
    ·simp [hj] at hx
  ·intro x hx
   obtain ⟨j, hj, rfl⟩ := List.mem_map.1 hx
   exact (hq j (List.mem_range.1 hj)).2.2
end
def WalkT (f : FuncId) (ts : List TypeId) : Prop :=
 ∀ (H : Type) (enc : TypeId × Value -> H) (W : World) (base b0 : Nat) (spare : Nat -> Bool) (held : Bool) (args : Array Value) (ds : List (DataW H)) (p : List MemPlace),
  (∀ (j : Nat) t v, ts[j]? = some t -> args[j]? = some v -> Value.okWide Tryz.prog W .any base t v) -> DataW.TrodAll enc Tryz.prog W b0 spare held ts args.toList ds p -> Sx.J W -> Calls Tryz.prog f args W (LV W)
theorem law_lifted_mach {os : Os} {H : Type} {enc : TypeId × Value -> H} {f : FuncId} {fn : Func} {s : ChangeSpec} {conds : List PathCond} {tb : TypeId} {ts : List TypeId}
  (own : ownKnob Tryz.checked.prog.godebug = none) (started : os.Started) (noInit : Tryz.checked.prog.inits.idxOf? f = none) (hfn : Tryz.checked.prog.funcs[f]? = some fn)
  (laid : laidOutB Tryz.checked.prog = true) (hps : fn.params = ts.toArray)
  (hrd : (fn.params.toList.all fun t => Tryz.checked.prog.readableRec t && decide (t < Tryz.checked.prog.types.size)) = true)
  (hvars : s.vars = []) (hspec : ∀ ds : List (DataW H), ds.length = fn.params.size -> s.fn H ds = { results := [.lit (.bool true)], args := ds })
  (hres : fn.resultTypes = #[tb]) (hb : Tryz.checked.prog.underlying tb = some .bool)
  (witness : ∃ (w : World) (tape : Tape) (i : Input), w.os = os /\ (w.forCall tape i).Shaped Tryz.checked.prog /\ i.vars = [] /\ Input.okWide Tryz.checked.prog (w.forCall tape i) .any w.heap.size f i /\
   ((s.pre enc Tryz.checked.prog fn conds false (w.forCall tape i).memory i.args /\ laidMetH Tryz.prog Sx.laidL (w.forCall tape i).memory) /\ sizedMet enc Tryz.checked.prog fn (OpenSpec.ofChange s) false (w.forCall tape i).memory i.args) /\ Assume.holds {} Tryz.checked.prog (lone (Frame.enter Tryz.checked.prog f i.args .normal) [] (w.forCall tape i)))
  (walk : WalkT f ts) :
  ReturnsInHanded {} Tryz.checked os f .any (fun w args => (s.pre enc Tryz.checked.prog fn conds false w args /\ laidMetH Tryz.prog Sx.laidL w) /\ sizedMet enc Tryz.checked.prog fn (OpenSpec.ofChange s) false w args) (s.post enc Tryz.checked.prog fn false true false false) := by
 refine returnsInHanded_of_change_and (X := fun w _ => laidMetH Tryz.prog Sx.laidL w) (fun _ _ _ hh h => h.of_heap hh) own started noInit hfn witness ?_
 intro W base args ds gs before hval hW _ _ hL _
 have hW' := hW
 obtain ⟨p, q, hA, hV, rfl, hfz, hnd⟩ := hW
 rw [hvars] at hV
 obtain ⟨rfl, rfl⟩ := trodVars_none hV
 obtain ⟨l1, l2⟩ := Sx.trodAll_len hA
 have hA2 := hA
 rw [hps] at hA2
 refine (walk H enc W base _ _ _ args ds p (fun j t v h1 h2 => hval j t v (by rw [hps]; simpa using h1) h2) (by rw [List.toList_toArray] at hA2; exact hA2) (Sx.J_of_laid hL)).mono ?_
 rintro e W' ⟨rfl, hs⟩
 have hlt : ∀ x ∈ p, x.block < W.heap.size := fun x hx => by simpa using hW'.lt x (by simpa using hx)
 have hsp := hspec ds (by simpa using l2)
 have hr : ∀ t ∈ fn.params.toList, Tryz.checked.prog.readableRec t = true /\ t < Tryz.checked.prog.types.size := by
  intro t ht
  have := List.all_eq_true.1 hrd t ht
  simpa using this
 refine ⟨_, rfl, ds, [], p ++ [], [], p, [], hW', ?_, ?_, ?_, hs.frame _, fun h => by cases h⟩
 ·rw [List.append_nil, hsp, hres]
  exact trodAll_mk1 (shut_bool hb _)
 ·rw [List.append_nil, hsp]
  exact Sx.trodAll_below laid hs hA hr hlt
 ·rw [List.append_nil, hsp, hvars]
  rfl
theorem arg_slice {t e : TypeId} {W : World} {base : Nat} {v : Value} (hu : Tryz.prog.underlying t = some (.slice e)) (h : Value.okWide Tryz.prog W .any base t v) : ∃ a l c, v = .slice a l c /\ v.cells.toList = [.slice a l c] := by
 obtain ⟨a, l, c, rfl⟩ := okWide_slice hu h
 exact ⟨a, l, c, rfl, rfl⟩
theorem walk_kinds : WalkT 3 [22, 23] := by
 intro H enc W base b0 spare held args ds p hval hA hj
 obtain ⟨v, v', d, d', p1, p2, rfl, _, _, ⟨f1, hd⟩, ⟨f2, hd'⟩⟩ := trodAll_two hA
 obtain ⟨ad, m, cap, rfl, ec⟩ := arg_slice Tryz.underlying22 (hval 0 _ v rfl rfl)
 obtain ⟨ai, mi, cai, rfl, ec'⟩ := arg_slice Tryz.underlying23 (hval 1 _ v' rfl rfl)
 rw [ec] at hd
 rw [ec'] at hd'
 obtain ⟨_, _, _, c, e1, hm, hc, hok, _⟩ := cods_arg hd
 obtain ⟨_, _, _, ins, e2, hmi, hf, hfj, _⟩ := fixs_arg hd'
 cases e1
 cases e2
 exact lkinds_any c ins ad ai m cap mi cai W hm hmi hc hok hf hfj hj
end Go.Proofs.YtcjllibeaiofpaaGreatDoor
