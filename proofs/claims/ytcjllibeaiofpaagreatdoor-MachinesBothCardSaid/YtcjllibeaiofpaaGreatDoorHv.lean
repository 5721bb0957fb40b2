/-
  Machines: rows that take a slice's elements.
-/
import Derived.Test.YtcjllibeaiofpaaGreatDoorHt
import Derived.Laws.OwnMore
set_option linter.all false
set_option maxRecDepth 100000
namespace Go.Proofs.YtcjllibeaiofpaaGreatDoor
open Go.RowKit Mach
theorem grown_refl (w : World) (g : Option Nat) : w.grownBy w g := ⟨rfl, rfl, rfl, Nat.le_refl _, fun _ _ _ => rfl⟩
theorem wpList_append_src {w : World} {ops : Array Oper} {rest : List Oper} {o : Oper} {a : Act} {Q : Exit -> Act -> World -> Prop} (hgd : o.guard = none) (s x : Operand) (t : TypeId)
  (ho : o.op = .call { callee := .builtin .append, args := #[s, x], argTypes := #[t, t] })
  (base : Nat) (e : TypeId) (i : TypeInfo) (z : Value) (size bytes : Nat) (ht : Tryz.prog.underlying t = some (.slice e)) (hi : Tryz.prog.info? e = some i) (hz : i.zero = some z)
  (hsize : i.size = size) (hby : i.bytes = bytes) (hzs : z.cells.size = size) (hsz : 0 < size)
  (v : Value) (n : Nat) (xs : List Value) (hs : a.eval s = v) (hown : w.ownsRow base e size v n xs)
  (ad : Option Addr) (m c : Nat) (news : List Value) (hx : a.eval x = .slice ad m c) (hl : news.length = m * size) (hnews : ∀ p, ad = some p -> ∀ j u, news[j]? = some u -> w.cell? (p.add j) = some u) (hnone : ad = none -> m = 0 /\ c = 0) (h1 : ∀ u ∈ news, u.oneCell' = true)
  (h63 : n + m <= maxLen) (hbytes : (n + m) * bytes <= 140737488355328) (hbase : base <= w.heap.size)
  (h : ∀ v' w', w'.ownsRow base e size v' (n + m) (xs ++ news) -> w.grownBy w' v.ownBlock -> wpList Tryz.prog ops Q rest (a.put o.dst v') w') :
  wpList Tryz.prog ops Q (o :: rest) a w := by
 cases ad with
 | some p => exact wpList_append_own_at w hgd s x t ho base e i z size bytes ht hi hz hsize hby hzs hsz v n xs hs hown p m c news hx hl (hnews p rfl) h1 h63 hbytes hbase (fun v' w' h2 h3 _ _ => h v' w' h2 h3)
 | none =>
  obtain ⟨rfl, rfl⟩ := hnone rfl
  have hn : news = [] := List.eq_nil_of_length_eq_zero (by simpa using hl)
  subst hn
  refine wpList_plain hgd fun K hK => ?_
  have hr := fun ty => run_append_owned_none (P := Tryz.prog) (w := w) base t ty e i size ht hi v n xs hown
  unfold Oper.wp execOp
  simp only [ho, resolve, invoke, builtin, Sem.run_bind, Sem.run_pure, Result.andThen_ok, List.map_toArray, List.map_cons, List.map_nil, hs, hx, hr]
  exact hK _ _ (h v w (by simpa using hown) (grown_refl w _))
theorem Fixs.src {n₀ : Nat} {W : World} {ad : Option Addr} {c : List Int} (h : Fixs n₀ W ad c) : ∀ p, ad = some p -> ∀ j u, (c.map (Value.int .i32))[j]? = some u -> W.cell? (p.add j) = some u := by
 intro p hp
 subst hp
 exact h.hc
theorem run_ne {c : List Cod} {ins : List Int} {er : Int} (h : runF NN c ins = .error er) : er ≠ 0 := type_ne (run_err.1 h)
theorem Vals.tail {n₀ : Nat} {V : World} {g : Nat} {xs ys : List Cel} {off : Nat} (h : Vals n₀ V (some ⟨g, 0, none⟩) (xs ++ ys)) (ho : off = xs.length * 2) : Vals n₀ V (some ⟨g, off, none⟩) ys := by
 subst ho
 by_cases hy : ys = []
 ·exact .inl hy
 rcases h with e | ⟨b, o, e, hb, hc⟩
 ·simp at e; exact absurd e.2 hy
 ·cases e
  refine .inr ⟨g, xs.length * 2, rfl, hb, fun j a ha => ?_⟩
  obtain ⟨h1, h2⟩ := hc (xs.length + j) a (by rw [List.getElem?_append_right (by omega)]; simpa using ha)
  rw [Nat.zero_add, Nat.add_mul] at h1 h2
  exact ⟨h1, h2⟩
theorem same_kn (a : List Cel) : decide (a.map kn = a.map kn) = true := decide_eq_true rfl
theorem Cods.src {n₀ : Nat} {W : World} {ad : Option Addr} {c : List Cod} (h : Cods n₀ W ad c) : ∀ p, ad = some p -> ∀ j u, (cfl c)[j]? = some u -> W.cell? (p.add j) = some u := by
 intro p hp
 subst hp
 exact h.hc
theorem cod_some {n₀ : Nat} {W : World} {ad : Option Addr} {c : List Cod} (h : Cods n₀ W ad c) {i : Nat} {x : Cod} (hx : c[i]? = some x) : ∃ b off, ad = some ⟨b, off, none⟩ /\ b < n₀ /\ W.cell? ⟨b, off + i * 2, none⟩ = some (.int .u8 x.op) /\ W.cell? ⟨b, off + i * 2 + 1, none⟩ = some (.int .i32 x.n) := by
 rcases h with rfl | ⟨b, off, e, hb, hc⟩
 ·simp at hx
 ·exact ⟨b, off, e, hb, hc i x hx⟩
theorem take_map {α β : Type} (f : α -> β) (v : List α) {k : Nat} {x : α} (h : v[k]? = some x) : (v.take (k + 1)).map f = (v.take k).map f ++ [f x] := by
 rw [List.take_add_one, h]; simp
theorem not_goes {x : Cod} (h3 : ¬ x.op = 3) (h4 : ¬ x.op = 4) : goes x = false := by simp [goes, h3, h4]
theorem goesN_not {k : Nat} {o n : Int} (h3 : ¬ o = 3) (h4 : ¬ o = 4) : goesN k ⟨o, n⟩ = ⟨o, n⟩ := by unfold goesN; rw [not_goes h3 h4]; rfl
theorem goesN_is {k : Nat} {o n : Int} (h : o = 3 \/ o = 4) : goesN k ⟨o, n⟩ = ⟨o, n + k⟩ := by unfold goesN; rw [if_pos (by simpa [goes] using h)]
end Go.Proofs.YtcjllibeaiofpaaGreatDoor
