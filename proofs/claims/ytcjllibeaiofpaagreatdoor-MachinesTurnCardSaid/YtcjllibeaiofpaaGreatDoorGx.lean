/-
  Machines: bits and rolls, walked.
-/
import Derived.Test.YtcjllibeaiofpaaGreatDoorGh
import Derived.Test.YtcjllibeaiofpaaGreatDoorGg
set_option linter.all false
set_option maxRecDepth 100000
namespace Go.Proofs.YtcjllibeaiofpaaGreatDoor
open Go.RowKit Mach
theorem roll_by {n2 : Int} {m : Nat} (hm : 0 < m) : (n2.tmod m + m).tmod m = n2 % m := by
 have hm' : (0 : Int) < m := by omega
 have h1 := Int.tmod_lt_of_pos n2 hm'
 have h2 : -(m : Int) < n2.tmod m := by
  have := Int.tmod_lt_of_pos (-n2) hm'
  rw [Int.neg_tmod] at this
  omega
 rw [Int.tmod_eq_emod_of_nonneg (by omega)]
 rw [Int.add_emod_right]
 have h3 : n2.tmod m % m = n2 % m := by
  rw [Int.tmod_def, Int.sub_emod, Int.mul_emod_right]
  simp
 exact h3
theorem row_pos {W : World} {base n : Nat} {e : TypeId} {v : Value} {xs : List Value} (h : W.ownsRow base e 3 v n xs) (hn : 0 < n) : ∃ g cap, v = .slice (some ⟨g, 0, none⟩) n cap := by
 rcases h.2 with ⟨_, h2⟩ | ⟨g, cap, _, h2, _⟩
 ·omega
 ·exact ⟨g, cap, h2⟩
theorem row_cap {W : World} {base n cap : Nat} {e : TypeId} {p : Option Addr} {xs : List Value} (h : W.ownsRow base e 3 (.slice p n cap) n xs) : n <= cap := by
 rcases h.2 with ⟨h1, h2⟩ | ⟨g, c, _, h2, _, _, h3, _⟩
 ·omega
 ·cases h2; exact h3
theorem cels_drop {W : World} {g : Nat} {xs : List Cel} (h : g < W.heap.size /\ ∀ j u, (fl xs)[j]? = some u -> W.cell? ⟨g, j, none⟩ = some u) (i : Nat) : Cels W.heap.size W (some ⟨g, i * 3, none⟩) (xs.drop i) :=
 .inr ⟨g, i * 3, rfl, h.1, fun j u hu => h.2 _ _ (by rw [fl_drop, List.getElem?_drop] at hu; exact hu)⟩
theorem cels_take {W : World} {g : Nat} {xs : List Cel} (h : g < W.heap.size /\ ∀ j u, (fl xs)[j]? = some u -> W.cell? ⟨g, j, none⟩ = some u) (i : Nat) : Cels W.heap.size W (some ⟨g, 0, none⟩) (xs.take i) :=
 .inr ⟨g, 0, rfl, h.1, fun j u hu => by
  rw [Nat.zero_add]
  refine h.2 _ _ ?_
  rw [fl_take, List.getElem?_take] at hu
  split at hu
  ·exact hu
  ·cases hu⟩
section
variable {N : Num}
set_option maxHeartbeats 4000000 in
theorem roll_n1 (op cn k n k2 n2 : Int) (kn kn2 : Bool) (hk2 : ¬ k2 = 0) (hk2b : (k2 == 0) = false) (bl ol cl b base : Nat) (v : Value) (cs : List Cel) (w : World) (h : OpH w b base v cs bl ol [⟨k, n, kn⟩, ⟨k2, n2, kn2⟩]) :
  Calls Tryz.prog 44 #[.pointer (some ⟨b, 0, none⟩), cd ⟨op, cn⟩, .slice (some ⟨bl, ol, none⟩) 2 cl] w (OpP N 17 ⟨op, cn⟩ [⟨k, n, kn⟩, ⟨k2, n2, kn2⟩] cs b base v w) := by
 have hA := (Below.refl w.heap.size w).alloc (Nat.le_refl _) (.cells #[.int .u8 op, .int .i32 cn] 41)
 obtain ⟨c0, c1, c2⟩ := cel_at (h.ce.on hA) (i := 0) (a := ⟨k, n, kn⟩) rfl
 simp only [Nat.zero_mul, Nat.add_zero] at c0 c1 c2
 obtain ⟨d0, d1, d2⟩ := cel_at (h.ce.on hA) (i := 1) (a := ⟨k2, n2, kn2⟩) rfl
 simp only [Nat.one_mul] at d0 d1 d2
 have hj := (h.gl ⟨k, n, kn⟩ (List.mem_cons_self ..)).r
 have hj2 := (h.gl ⟨k2, n2, kn2⟩ (List.mem_cons_of_mem _ (List.mem_cons_self ..))).r
 unfold J32 at hj2
 dsimp only at hj2
 have hblA : bl < (w.alloc (.cells #[.int .u8 op, .int .i32 cn] 41)).heap.size := by have := h.bw; simp; omega
 have hs100 := h.sz
 have H := Lib.hid h
 clear h
 go_enter Tryz.func44, Tryz.ntmps44
 simp only [cd]
 go_wp2_with (go_at_call 55; refine (must_no _ _).mono ?_; rintro e w' ⟨rfl, rfl⟩)
 exact ⟨rfl, opP_err (by simp only [does, must, decide_eq_false hk2, Bool.false_and]; rfl) (Kept.of hA _ _)⟩
set_option maxHeartbeats 4000000 in
theorem roll_n2 (op cn k n n2 : Int) (kn : Bool) (bl ol cl b base : Nat) (v : Value) (cs : List Cel) (w : World) (h : OpH w b base v cs bl ol [⟨k, n, kn⟩, ⟨0, n2, false⟩]) :
  Calls Tryz.prog 44 #[.pointer (some ⟨b, 0, none⟩), cd ⟨op, cn⟩, .slice (some ⟨bl, ol, none⟩) 2 cl] w (OpP N 17 ⟨op, cn⟩ [⟨k, n, kn⟩, ⟨0, n2, false⟩] cs b base v w) := by
 have hA := (Below.refl w.heap.size w).alloc (Nat.le_refl _) (.cells #[.int .u8 op, .int .i32 cn] 41)
 obtain ⟨c0, c1, c2⟩ := cel_at (h.ce.on hA) (i := 0) (a := ⟨k, n, kn⟩) rfl
 simp only [Nat.zero_mul, Nat.add_zero] at c0 c1 c2
 obtain ⟨d0, d1, d2⟩ := cel_at (h.ce.on hA) (i := 1) (a := ⟨0, n2, false⟩) rfl
 simp only [Nat.one_mul] at d0 d1 d2
 have hj := (h.gl ⟨k, n, kn⟩ (List.mem_cons_self ..)).r
 have hj2 := (h.gl ⟨0, n2, false⟩ (List.mem_cons_of_mem _ (List.mem_cons_self ..))).r
 unfold J32 at hj2
 dsimp only at hj2
 have hblA : bl < (w.alloc (.cells #[.int .u8 op, .int .i32 cn] 41)).heap.size := by have := h.bw; simp; omega
 have hs100 := h.sz
 have H := Lib.hid h
 clear h
 go_enter Tryz.func44, Tryz.ntmps44
 simp only [cd]
 go_wp2_with (go_at_call 55; refine (must_no _ _).mono ?_; rintro e w' ⟨rfl, rfl⟩)
 exact ⟨rfl, opP_err (by simp only [does, must, Bool.and_false]; rfl) (Kept.of hA _ _)⟩
set_option maxHeartbeats 4000000 in
theorem roll_n3 (op cn k n n2 : Int) (kn : Bool) (hc : count ⟨k, n, kn⟩ = .error 10) (bl ol cl b base : Nat) (v : Value) (cs : List Cel) (w : World) (h : OpH w b base v cs bl ol [⟨k, n, kn⟩, ⟨0, n2, true⟩]) :
  Calls Tryz.prog 44 #[.pointer (some ⟨b, 0, none⟩), cd ⟨op, cn⟩, .slice (some ⟨bl, ol, none⟩) 2 cl] w (OpP N 17 ⟨op, cn⟩ [⟨k, n, kn⟩, ⟨0, n2, true⟩] cs b base v w) := by
 have hA := (Below.refl w.heap.size w).alloc (Nat.le_refl _) (.cells #[.int .u8 op, .int .i32 cn] 41)
 obtain ⟨c0, c1, c2⟩ := cel_at (h.ce.on hA) (i := 0) (a := ⟨k, n, kn⟩) rfl
 simp only [Nat.zero_mul, Nat.add_zero] at c0 c1 c2
 obtain ⟨d0, d1, d2⟩ := cel_at (h.ce.on hA) (i := 1) (a := ⟨0, n2, true⟩) rfl
 simp only [Nat.one_mul] at d0 d1 d2
 have hj := (h.gl ⟨k, n, kn⟩ (List.mem_cons_self ..)).r
 have hj2 := (h.gl ⟨0, n2, true⟩ (List.mem_cons_of_mem _ (List.mem_cons_self ..))).r
 unfold J32 at hj2
 dsimp only at hj2
 have hblA : bl < (w.alloc (.cells #[.int .u8 op, .int .i32 cn] 41)).heap.size := by have := h.bw; simp; omega
 have hs100 := h.sz
 have H := Lib.hid h
 clear h
 have HC := Lib.hid hc
 clear hc
 go_enter Tryz.func44, Tryz.ntmps44
 simp only [cd]
 go_wp2_with (first
  | (go_at_call 55; refine (must_ok _ _).mono ?_; rintro e w' ⟨rfl, rfl⟩)
  | (go_at_call 68; refine (count_no ⟨k, n, kn⟩ HC.out _).mono ?_; rintro e w2 ⟨he, hB2⟩; unfold Pan at he; subst he))
 exact ⟨rfl, opP_err (by simp [does, must, HC.out, bind, Except.bind]) (Kept.of (hA.trans (hB2.mono hA.size)) _ _)⟩
set_option maxHeartbeats 4000000 in
theorem roll_n4 (op cn k n n2 : Int) (kn : Bool) (cs : List Cel) (m : Nat) (hc : count ⟨k, n, kn⟩ = .ok m) (hle : ¬ m <= cs.length) (bl ol cl b base : Nat) (v : Value) (w : World) (h : OpH w b base v cs bl ol [⟨k, n, kn⟩, ⟨0, n2, true⟩]) :
  Calls Tryz.prog 44 #[.pointer (some ⟨b, 0, none⟩), cd ⟨op, cn⟩, .slice (some ⟨bl, ol, none⟩) 2 cl] w (OpP N 17 ⟨op, cn⟩ [⟨k, n, kn⟩, ⟨0, n2, true⟩] cs b base v w) := by
 have hA := (Below.refl w.heap.size w).alloc (Nat.le_refl _) (.cells #[.int .u8 op, .int .i32 cn] 41)
 obtain ⟨c0, c1, c2⟩ := cel_at (h.ce.on hA) (i := 0) (a := ⟨k, n, kn⟩) rfl
 simp only [Nat.zero_mul, Nat.add_zero] at c0 c1 c2
 obtain ⟨d0, d1, d2⟩ := cel_at (h.ce.on hA) (i := 1) (a := ⟨0, n2, true⟩) rfl
 simp only [Nat.one_mul] at d0 d1 d2
 have hj := (h.gl ⟨k, n, kn⟩ (List.mem_cons_self ..)).r
 have hj2 := (h.gl ⟨0, n2, true⟩ (List.mem_cons_of_mem _ (List.mem_cons_self ..))).r
 unfold J32 at hj2
 dsimp only at hj2
 have hblA : bl < (w.alloc (.cells #[.int .u8 op, .int .i32 cn] 41)).heap.size := by have := h.bw; simp; omega
 have hs100 := h.sz
 have H := Lib.hid h
 clear h
 have hm := count_le hc hj
 have HC := Lib.hid hc
 have HL := Lib.hid hle
 clear hc hle
 go_enter Tryz.func44, Tryz.ntmps44
 simp only [cd]
 go_wp2_with (first
  | (go_at_call 55; refine (must_ok _ _).mono ?_; rintro e w' ⟨rfl, rfl⟩)
  | (go_at_call 68; refine (count_ok ⟨k, n, kn⟩ m HC.out hj _).mono ?_; rintro e w2 ⟨rfl, hB2⟩; have hA2 := hA.trans (hB2.mono hA.size); have f1 := (hB2.cell (p := ⟨bl, ol + 3 + 1, none⟩) hblA).trans d1)
  | (go_at_call 60; refine (takes_no b base m v cs _ (H.out.st.on hA2) HL.out (by omega)).mono ?_; rintro e w3 ⟨he, rfl⟩; unfold Pan at he; subst he))
 exact ⟨rfl, opP_err (by simp [does, must, HC.out, takes_bad HL.out, bind, Except.bind]) (Kept.of hA2 _ _)⟩
set_option maxHeartbeats 4000000 in
theorem roll_0 (op cn k n n2 : Int) (kn : Bool) (hc : count ⟨k, n, kn⟩ = .ok 0) (bl ol cl b base : Nat) (v : Value) (cs : List Cel) (w : World) (h : OpH w b base v cs bl ol [⟨k, n, kn⟩, ⟨0, n2, true⟩]) :
  Calls Tryz.prog 44 #[.pointer (some ⟨b, 0, none⟩), cd ⟨op, cn⟩, .slice (some ⟨bl, ol, none⟩) 2 cl] w (OpP N 17 ⟨op, cn⟩ [⟨k, n, kn⟩, ⟨0, n2, true⟩] cs b base v w) := by
 have hA := (Below.refl w.heap.size w).alloc (Nat.le_refl _) (.cells #[.int .u8 op, .int .i32 cn] 41)
 obtain ⟨c0, c1, c2⟩ := cel_at (h.ce.on hA) (i := 0) (a := ⟨k, n, kn⟩) rfl
 simp only [Nat.zero_mul, Nat.add_zero] at c0 c1 c2
 obtain ⟨d0, d1, d2⟩ := cel_at (h.ce.on hA) (i := 1) (a := ⟨0, n2, true⟩) rfl
 simp only [Nat.one_mul] at d0 d1 d2
 have hj := (h.gl ⟨k, n, kn⟩ (List.mem_cons_self ..)).r
 have hj2 := (h.gl ⟨0, n2, true⟩ (List.mem_cons_of_mem _ (List.mem_cons_self ..))).r
 unfold J32 at hj2
 dsimp only at hj2
 have hblA : bl < (w.alloc (.cells #[.int .u8 op, .int .i32 cn] 41)).heap.size := by have := h.bw; simp; omega
 have hs100 := h.sz
 have H := Lib.hid h
 clear h
 have HC := Lib.hid hc
 clear hc
 go_enter Tryz.func44, Tryz.ntmps44
 simp only [cd]
 go_wp2_with (first
  | (go_at_call 55; refine (must_ok _ _).mono ?_; rintro e w' ⟨rfl, rfl⟩)
  | (go_at_call 68; refine (count_ok ⟨k, n, kn⟩ 0 HC.out hj _).mono ?_; rintro e w2 ⟨rfl, hB2⟩; have hA2 := hA.trans (hB2.mono hA.size); have f1 := (hB2.cell (p := ⟨bl, ol + 3 + 1, none⟩) hblA).trans d1)
  | (go_at_call 60; refine (takes_ok b base 0 cs.length v cs _ (H.out.st.on hA2) rfl).mono ?_; rintro e w3 ⟨⟨x, rfl, hx⟩, ⟨v3, hv3, hS3⟩, hK3⟩; obtain ⟨ax, cx, rfl, hxn, _, _⟩ := row_shape hx; clear hx hxn))
 refine bodyPost_end (v := .tuple #[]) (by simp [results, Tryz.f44]) rfl ?_
 exact opP_ok (by simp only [does, must, HC.out, takes_of (cs := cs) (m := 0) (a := cs.length) rfl, bind, Except.bind]; rfl) ⟨v3, .inl hv3, by simpa [rolled] using hS3⟩ ((Kept.of hA2 b v).trans hK3 (.inl rfl))
set_option maxHeartbeats 4000000 in
theorem roll_r (op cn k n n2 : Int) (kn : Bool) (cs : List Cel) (m a at' r : Nat) (hc : count ⟨k, n, kn⟩ = .ok m) (hlen : cs.length = a + m) (hmr : m = at' + r) (hr : 0 < r) (hat : 0 < at') (hby : n2 % m = r) (bl ol cl b base : Nat) (v : Value) (w : World) (h : OpH w b base v cs bl ol [⟨k, n, kn⟩, ⟨0, n2, true⟩]) :
  Calls Tryz.prog 44 #[.pointer (some ⟨b, 0, none⟩), cd ⟨op, cn⟩, .slice (some ⟨bl, ol, none⟩) 2 cl] w (OpP N 17 ⟨op, cn⟩ [⟨k, n, kn⟩, ⟨0, n2, true⟩] cs b base v w) := by
 have hA := (Below.refl w.heap.size w).alloc (Nat.le_refl _) (.cells #[.int .u8 op, .int .i32 cn] 41)
 obtain ⟨c0, c1, c2⟩ := cel_at (h.ce.on hA) (i := 0) (a := ⟨k, n, kn⟩) rfl
 simp only [Nat.zero_mul, Nat.add_zero] at c0 c1 c2
 obtain ⟨d0, d1, d2⟩ := cel_at (h.ce.on hA) (i := 1) (a := ⟨0, n2, true⟩) rfl
 simp only [Nat.one_mul] at d0 d1 d2
 have hj := (h.gl ⟨k, n, kn⟩ (List.mem_cons_self ..)).r
 have hj2 := (h.gl ⟨0, n2, true⟩ (List.mem_cons_of_mem _ (List.mem_cons_self ..))).r
 unfold J32 at hj2
 dsimp only at hj2
 have hblA : bl < (w.alloc (.cells #[.int .u8 op, .int .i32 cn] 41)).heap.size := by have := h.bw; simp; omega
 have hs100 := h.sz
 have H := Lib.hid h
 clear h
 have hm100 : m <= 100 := by omega
 have hmp : 0 < m := by omega
 have hmp2 : (0 : Int) < m := by omega
 have hatm : at' < m := by omega
 have hatm2 : (at' : Int) <= m := by omega
 have hb1 := Int.tmod_lt_of_pos n2 hmp2
 have hb2 : -(m : Int) < n2.tmod m := by
  have := Int.tmod_lt_of_pos (-n2) hmp2
  rw [Int.neg_tmod] at this
  omega
 have hbw : (n2.tmod m + m).tmod m = r := (roll_by hmp).trans hby
 have hsub : (m : Int) - r = at' := by omega
 have hml : (cs.drop a).length = m := by rw [List.length_drop]; omega
 have HM1 := Lib.hid (show m - at' = ((cs.drop a).drop at').length by rw [List.length_drop, hml])
 have HM2 := Lib.hid (show at' = ((cs.drop a).take at').length by rw [List.length_take, hml]; omega)
 have HS1 := Lib.hid (show (cs.take a).length + ((cs.drop a).drop at').length <= 1000 by rw [<- HM1.out, List.length_take]; omega)
 have HS2 := Lib.hid (show (cs.take a ++ (cs.drop a).drop at').length + ((cs.drop a).take at').length <= 1000 by rw [<- HM2.out, List.length_append, <- HM1.out, List.length_take]; omega)
 have hd : does N 17 ⟨op, cn⟩ [⟨k, n, kn⟩, ⟨0, n2, true⟩] cs = .ok (cs.take a ++ (cs.drop a).drop at' ++ (cs.drop a).take at') := by
  have hmu : must (decide ((0 : Int) = 0) && true) 10 = .ok () := rfl
  simp only [does, hmu, hc, takes_of hlen, bind, Except.bind]
  unfold rolled
  rw [hml, if_neg (by omega), hby, show m - ((r : Nat) : Int).toNat = at' by omega, <- List.append_assoc]
  rfl
 have HD := Lib.hid hd
 have HC := Lib.hid hc
 have HL := Lib.hid hlen
 clear hc hlen hd hml hby hmr
 go_enter Tryz.func44, Tryz.ntmps44
 simp only [cd]
 go_wp2_with (first
  | (go_at_call 55; refine (must_ok _ _).mono ?_; rintro e w' ⟨rfl, rfl⟩)
  | (go_at_call 68; refine (count_ok ⟨k, n, kn⟩ m HC.out hj _).mono ?_; rintro e w2 ⟨rfl, hB2⟩; have hA2 := hA.trans (hB2.mono hA.size); have f1 := (hB2.cell (p := ⟨bl, ol + 3 + 1, none⟩) hblA).trans d1; have hbl2 := Nat.lt_of_lt_of_le H.out.bw hA2.size)
  | (go_at_call 60; refine (takes_ok b base m a v cs _ (H.out.st.on hA2) HL.out).mono ?_; rintro e w3 ⟨⟨x, rfl, hx⟩, ⟨v3, hv3, hS3⟩, hK3⟩; obtain ⟨gx, cx, rfl⟩ := row_pos hx hmp; have hcap := row_cap hx; have hrc := row_cels hx; have hne := fresh_ne H.out.st hA2.size hv3 hx; have f2 : w3.cell? ⟨bl, ol + 3 + 1, none⟩ = _ := (World.cell?_of_block (w := w2) (a := ⟨bl, ol + 3 + 1, none⟩) (hK3.block bl hbl2 H.out.nb H.out.nv)).trans f1; have hcd := cels_drop hrc at'; have hct := cels_take hrc at'; have hca : ¬ cx = at' := (by omega); have HNE := Lib.hid hne; have HCD := Lib.hid hcd; have HCT := Lib.hid hct; clear hx hrc hne hcd hct f1)
  | (go_at_call 65; refine (puts_any b base v3 (cs.take a) ((cs.drop a).drop at') (some ⟨gx, at' * 3, none⟩) (m - at') (cx - at') _ hS3 HCD.out HM1.out (fun q => by cases q) HS1.out).mono ?_; rintro e w4 ⟨rfl, ⟨v4, hv4, hS4⟩, hK4⟩; have hcx4 := HCT.out.kept hK4 (fun p hp => by cases hp; exact HNE.out ⟨gx, 0, none⟩ rfl); clear hS3)
  | (go_at_call 65; refine (puts_any b base v4 (cs.take a ++ (cs.drop a).drop at') ((cs.drop a).take at') (some ⟨gx, 0, none⟩) at' cx _ hS4 hcx4 HM2.out (fun q => by cases q) HS2.out).mono ?_; rintro e w5 ⟨rfl, ⟨v5, hv5, hS5⟩, hK5⟩))
 refine bodyPost_end (v := .tuple #[]) (by simp [results, Tryz.f44]) rfl ?_
 have k2 := (Kept.of hA2 b v).trans hK3 (.inl rfl)
 have o3 : OwnR w v v3 := .inl hv3
 have k3 := k2.trans hK4 o3
 have o4 : OwnR w v v4 := o3.trans (W := w3) hv4 k2.size
 have k4 := k3.trans hK5 o4
 exact opP_ok HD.out ⟨v5, o4.trans (W := w4) hv5 k3.size, hS5⟩ k4
set_option maxHeartbeats 1000000 in
theorem roll_z (op cn k n n2 : Int) (kn : Bool) (cs : List Cel) (m a : Nat) (hc : count ⟨k, n, kn⟩ = .ok m) (hlen : cs.length = a + m) (hmp : 0 < m) (hby : n2 % m = 0) (bl ol cl b base : Nat) (v : Value) (w : World) (h : OpH w b base v cs bl ol [⟨k, n, kn⟩, ⟨0, n2, true⟩]) :
  Calls Tryz.prog 44 #[.pointer (some ⟨b, 0, none⟩), cd ⟨op, cn⟩, .slice (some ⟨bl, ol, none⟩) 2 cl] w (OpP N 17 ⟨op, cn⟩ [⟨k, n, kn⟩, ⟨0, n2, true⟩] cs b base v w) := by
 have hA := (Below.refl w.heap.size w).alloc (Nat.le_refl _) (.cells #[.int .u8 op, .int .i32 cn] 41)
 obtain ⟨c0, c1, c2⟩ := cel_at (h.ce.on hA) (i := 0) (a := ⟨k, n, kn⟩) rfl
 simp only [Nat.zero_mul, Nat.add_zero] at c0 c1 c2
 obtain ⟨d0, d1, d2⟩ := cel_at (h.ce.on hA) (i := 1) (a := ⟨0, n2, true⟩) rfl
 simp only [Nat.one_mul] at d0 d1 d2
 have hj := (h.gl ⟨k, n, kn⟩ (List.mem_cons_self ..)).r
 have hj2 := (h.gl ⟨0, n2, true⟩ (List.mem_cons_of_mem _ (List.mem_cons_self ..))).r
 unfold J32 at hj2
 dsimp only at hj2
 have hblA : bl < (w.alloc (.cells #[.int .u8 op, .int .i32 cn] 41)).heap.size := by have := h.bw; simp; omega
 have hs100 := h.sz
 have H := Lib.hid h
 clear h
 have hm100 : m <= 100 := by omega
 have hmp2 : (0 : Int) < m := by omega
 have hb1 := Int.tmod_lt_of_pos n2 hmp2
 have hb2 : -(m : Int) < n2.tmod m := by
  have := Int.tmod_lt_of_pos (-n2) hmp2
  rw [Int.neg_tmod] at this
  omega
 have hbw : (n2.tmod m + m).tmod m = 0 := (roll_by hmp).trans hby
 have hml : (cs.drop a).length = m := by rw [List.length_drop]; omega
 have HM2 := Lib.hid (show m = (cs.drop a).length from hml.symm)
 have htk := List.length_take_le a cs
 have HS1 := Lib.hid (show (cs.take a).length + ([] : List Cel).length <= 1000 by rw [List.length_nil]; omega)
 have HS2 := Lib.hid (show (cs.take a ++ []).length + (cs.drop a).length <= 1000 by rw [List.append_nil, hml]; omega)
 have hd : does N 17 ⟨op, cn⟩ [⟨k, n, kn⟩, ⟨0, n2, true⟩] cs = .ok (cs.take a ++ [] ++ cs.drop a) := by
  have hmu : must (decide ((0 : Int) = 0) && true) 10 = .ok () := rfl
  have hmu2 : must (decide True && true) 10 = .ok () := by simp [must]
  simp only [does, hmu, hmu2, hc, takes_of hlen, bind, Except.bind]
  unfold rolled
  rw [hml, if_neg (by omega), hby, show m - (0 : Int).toNat = m from rfl, List.drop_of_length_le (l := cs.drop a) (by omega), List.take_of_length_le (l := cs.drop a) (by omega), List.append_nil, List.nil_append]
 have HD := Lib.hid hd
 have HC := Lib.hid hc
 have HL := Lib.hid hlen
 clear hc hlen hd hml hby htk
 go_enter Tryz.func44, Tryz.ntmps44
 simp only [cd]
 go_wp2_with (first
  | (go_at_call 55; refine (must_ok _ _).mono ?_; rintro e w' ⟨rfl, rfl⟩)
  | (go_at_call 68; refine (count_ok ⟨k, n, kn⟩ m HC.out hj _).mono ?_; rintro e w2 ⟨rfl, hB2⟩; have hA2 := hA.trans (hB2.mono hA.size); have f1 := (hB2.cell (p := ⟨bl, ol + 3 + 1, none⟩) hblA).trans d1; have hbl2 := Nat.lt_of_lt_of_le H.out.bw hA2.size)
  | (go_at_call 60; refine (takes_ok b base m a v cs _ (H.out.st.on hA2) HL.out).mono ?_; rintro e w3 ⟨⟨x, rfl, hx⟩, ⟨v3, hv3, hS3⟩, hK3⟩; obtain ⟨gx, cx, rfl⟩ := row_pos hx hmp; have hcap := row_cap hx; have hrc := row_cels hx; have hne := fresh_ne H.out.st hA2.size hv3 hx; have f2 : w3.cell? ⟨bl, ol + 3 + 1, none⟩ = _ := (World.cell?_of_block (w := w2) (a := ⟨bl, ol + 3 + 1, none⟩) (hK3.block bl hbl2 H.out.nb H.out.nv)).trans f1; have hct := row_to_cels hx; have HNE := Lib.hid hne; have HCT := Lib.hid hct; clear hx hrc hne hct f1; by_cases hca : cx = m)
  | (have hq : cx = m := hca; go_at_call 65; refine (puts_any b base v3 (cs.take a) [] (some ⟨gx, 0, none⟩) 0 0 _ hS3 (Or.inl rfl) rfl (fun q => by cases q) HS1.out).mono ?_; rintro e w4 ⟨rfl, ⟨v4, hv4, hS4⟩, hK4⟩; have hcx4 := HCT.out.kept hK4 (fun p hp => by cases hp; exact HNE.out ⟨gx, 0, none⟩ rfl); clear hS3)
  | (have hq : ¬ cx = m := hca; go_at_call 65; refine (puts_any b base v3 (cs.take a) [] (some ⟨gx, m * 3, none⟩) 0 (cx - m) _ hS3 (Or.inl rfl) rfl (fun q => by cases q) HS1.out).mono ?_; rintro e w4 ⟨rfl, ⟨v4, hv4, hS4⟩, hK4⟩; have hcx4 := HCT.out.kept hK4 (fun p hp => by cases hp; exact HNE.out ⟨gx, 0, none⟩ rfl); clear hS3)
  | (go_at_call 65; refine (puts_any b base v4 (cs.take a ++ []) (cs.drop a) (some ⟨gx, 0, none⟩) m _ _ hS4 hcx4 HM2.out (fun q => by cases q) HS2.out).mono ?_; rintro e w5 ⟨rfl, ⟨v5, hv5, hS5⟩, hK5⟩))
 all_goals (
  refine bodyPost_end (v := .tuple #[]) (by simp [results, Tryz.f44]) rfl ?_
  have k2 := (Kept.of hA2 b v).trans hK3 (.inl rfl)
  have o3 : OwnR w v v3 := .inl hv3
  have k3 := k2.trans hK4 o3
  have o4 : OwnR w v v4 := o3.trans (W := w3) hv4 k2.size
  have k4 := k3.trans hK5 o4
  exact opP_ok HD.out ⟨v5, o4.trans (W := w4) hv5 k3.size, hS5⟩ k4)
theorem roll_any (c : Cod) (k n : Int) (kn : Bool) (k2 n2 : Int) (kn2 : Bool) (bl ol cl b base : Nat) (v : Value) (cs : List Cel) (w : World) (h : OpH w b base v cs bl ol [⟨k, n, kn⟩, ⟨k2, n2, kn2⟩]) :
  Calls Tryz.prog 44 #[.pointer (some ⟨b, 0, none⟩), cd c, .slice (some ⟨bl, ol, none⟩) 2 cl] w (OpP N 17 c [⟨k, n, kn⟩, ⟨k2, n2, kn2⟩] cs b base v w) := by
 obtain ⟨op, cn⟩ := c
 by_cases hk : k2 = 0
 case neg => exact roll_n1 op cn k n k2 n2 kn kn2 hk (by simpa using hk) bl ol cl b base v cs w h
 subst hk
 cases kn2
 ·exact roll_n2 op cn k n n2 kn bl ol cl b base v cs w h
 match hc : count ⟨k, n, kn⟩ with
 | .error er =>
  obtain rfl := count_er hc
  exact roll_n3 op cn k n n2 kn hc bl ol cl b base v cs w h
 | .ok m =>
  by_cases hle : m <= cs.length
  case neg => exact roll_n4 op cn k n n2 kn cs m hc hle bl ol cl b base v w h
  rcases Nat.eq_zero_or_pos m with h0 | hm
  ·subst h0; exact roll_0 op cn k n n2 kn hc bl ol cl b base v cs w h
  have hlen : cs.length = (cs.length - m) + m := by omega
  have hm' : (0 : Int) < m := by omega
  have h1 := Int.emod_nonneg n2 (b := (m : Int)) (by omega)
  have h2 := Int.emod_lt_of_pos n2 hm'
  by_cases hz : n2 % m = 0
  ·exact roll_z op cn k n n2 kn cs m (cs.length - m) hc hlen hm hz bl ol cl b base v w h
  ·exact roll_r op cn k n n2 kn cs m (cs.length - m) (m - (n2 % m).toNat) (n2 % m).toNat hc hlen (by omega) (by omega) (by omega) (by omega) bl ol cl b base v w h
end
theorem bits_or (a b : Int) : Go.bits .or .i32 a b = (BitVec.ofInt 32 a ||| BitVec.ofInt 32 b).toInt := by
 have e : Go.bits .or .i32 a b = IntKind.wrap .i32 (((BitVec.ofInt 32 a ||| BitVec.ofInt 32 b).toNat : Nat) : Int) := rfl
 rw [e, wrap_i32, BitVec.toInt_eq_toNat_cond]
 have := BitVec.isLt (BitVec.ofInt 32 a ||| BitVec.ofInt 32 b)
 split <;> omega
theorem bits_xor (a b : Int) : Go.bits .xor .i32 a b = (BitVec.ofInt 32 a ^^^ BitVec.ofInt 32 b).toInt := by
 have e : Go.bits .xor .i32 a b = IntKind.wrap .i32 (((BitVec.ofInt 32 a ^^^ BitVec.ofInt 32 b).toNat : Nat) : Int) := rfl
 rw [e, wrap_i32, BitVec.toInt_eq_toNat_cond]
 have := BitVec.isLt (BitVec.ofInt 32 a ^^^ BitVec.ofInt 32 b)
 split <;> omega
section
variable {N : Num}
set_option maxHeartbeats 4000000 in
theorem bits_7 (cn k n n2 : Int) (kn kn2 : Bool) (hk1 : ¬ k = 1) (hk1b : (k == 1) = false) (hk1c : (k != 1) = true) (bl ol cl b base : Nat) (v : Value) (cs : List Cel) (w : World) (h : OpH w b base v cs bl ol [⟨k, n, kn⟩, ⟨k, n2, kn2⟩]) :
  Calls Tryz.prog 53 #[.pointer (some ⟨b, 0, none⟩), cd ⟨7, cn⟩, .slice (some ⟨bl, ol, none⟩) 2 cl] w (OpP N 10 ⟨7, cn⟩ [⟨k, n, kn⟩, ⟨k, n2, kn2⟩] cs b base v w) := by
 have hA := (Below.refl w.heap.size w).alloc (Nat.le_refl _) (.cells #[.int .u8 7, .int .i32 cn] 41)
 obtain ⟨c0, c1, c2⟩ := cel_at (h.ce.on hA) (i := 0) (a := ⟨k, n, kn⟩) rfl
 simp only [Nat.zero_mul, Nat.add_zero] at c0 c1 c2
 obtain ⟨d0, d1, d2⟩ := cel_at (h.ce.on hA) (i := 1) (a := ⟨k, n2, kn2⟩) rfl
 simp only [Nat.one_mul] at d0 d1 d2
 have hfr : bl < (w.alloc (.cells #[.int .u8 7, .int .i32 cn] 41)).heap.size /\ bl ≠ b /\ some bl ≠ v.ownBlock /\ ∀ g, v.ownBlock = some g -> g < (w.alloc (.cells #[.int .u8 7, .int .i32 cn] 41)).heap.size := ⟨by have := h.bw; simp; omega, h.nb, h.nv, fun g hg => by have := (own_lt h.st.o g hg).1; simp; omega⟩
 have s0 : CL2 bl ol k n kn k n2 kn2 (w.alloc (.cells #[.int .u8 7, .int .i32 cn] 41)) b v (w.alloc (.cells #[.int .u8 7, .int .i32 cn] 41)) := ⟨⟨⟨c0, c1, c2⟩, Kept.refl _ _ _, hfr⟩, ⟨⟨d0, d1, d2⟩, Kept.refl _ _ _, hfr⟩⟩
 have hsz : cs.length + 1 <= 1000 := by have := h.sz; omega
 have H := Lib.hid h
 clear h hfr
 go_enter Tryz.func53, Tryz.ntmps53
 simp only [cd]
 go_wp2_with (fail)
 go_region_held3 (fun V => ((V.cell? ⟨bl, ol, none⟩ = some (.int .u8 k) /\ V.cell? ⟨bl, ol + 1, none⟩ = some (.int .i32 n) /\ V.cell? ⟨bl, ol + 2, none⟩ = some (.bool kn)) /\ Kept (w.alloc (.cells #[.int .u8 7, .int .i32 cn] 41)) V b v /\ bl < (w.alloc (.cells #[.int .u8 7, .int .i32 cn] 41)).heap.size /\ bl ≠ b /\ some bl ≠ v.ownBlock /\ ∀ g, v.ownBlock = some g -> g < (w.alloc (.cells #[.int .u8 7, .int .i32 cn] 41)).heap.size) /\ ((V.cell? ⟨bl, ol + 3, none⟩ = some (.int .u8 k) /\ V.cell? ⟨bl, ol + 3 + 1, none⟩ = some (.int .i32 n2) /\ V.cell? ⟨bl, ol + 3 + 2, none⟩ = some (.bool kn2)) /\ Kept (w.alloc (.cells #[.int .u8 7, .int .i32 cn] 41)) V b v /\ bl < (w.alloc (.cells #[.int .u8 7, .int .i32 cn] 41)).heap.size /\ bl ≠ b /\ some bl ≠ v.ownBlock /\ ∀ g, v.ownBlock = some g -> g < (w.alloc (.cells #[.int .u8 7, .int .i32 cn] 41)).heap.size))
  (first | exact s0 | exact CL2.kA _ s0 | exact CL2.kA _ (CL2.kA _ s0) | exact CL2.kD s0 | exact CL2.kA _ (CL2.kD s0) | exact CL2.kA _ (CL2.kA _ (CL2.kD s0)) | exact CL2.kD (CL2.kA _ s0) | exact CL2.kD (CL2.kA _ (CL2.kA _ s0)) | exact CL2.kA _ (CL2.kD (CL2.kA _ s0)) | assumption | exact CL2.kD (by assumption) | exact CL2.kA _ (by assumption))
  (first | fail)
 ·skip
  have hbit : bitF 7 n n2 = Go.bits .and .i32 n n2 := by rw [bits_and]; unfold bitF; rfl
  have HBIT := Lib.hid hbit
  clear hbit
  have hB1 := (((hA.alloc hA.size (.cells #[.int .u8 k, .int .i32 (Go.bits .and .i32 n n2), .bool false] 72)).alloc (by simp; omega) (.cells #[.int .u8 k, .int .i32 n2, .bool kn2] 72)).alloc (by simp; omega) (.cells #[.int .u8 k, .int .i32 (Go.bits .and .i32 n n2), .bool false] 72)).drew
  have hcel := (cels_at (((w.alloc (.cells #[.int .u8 7, .int .i32 cn] 41)).alloc (.cells #[.int .u8 k, .int .i32 (Go.bits .and .i32 n n2), .bool false] 72)).alloc (.cells #[.int .u8 k, .int .i32 n2, .bool kn2] 72)) ⟨k, Go.bits .and .i32 n n2, false⟩ 72 (w.heap.size + 1 + 1 + 1) (by simp)).on ((Below.refl _ _).drew)
  have HCEL := Lib.hid hcel
  clear hcel
  go_wp2_with (first
   | (go_at_call 55; refine (must_ok _ _).mono ?_; rintro e w' ⟨rfl, rfl⟩)
   | (go_at_call 65; refine (puts_any b base v cs [⟨k, Go.bits .and .i32 n n2, false⟩] _ 1 1 _ (H.out.st.on hB1) HCEL.out rfl (fun q => by cases q) hsz).mono ?_; rintro e w3 ⟨rfl, hS3, hK3⟩))
  refine bodyPost_end (v := .tuple #[]) (by simp [results, Tryz.f53]) rfl ?_
  exact opP_fin (by simp [does, hk1, HBIT.out]) hB1 hS3 hK3
 ·skip
  have hbit : bitF 7 n n2 = Go.bits .and .i32 n n2 := by rw [bits_and]; unfold bitF; rfl
  have HBIT := Lib.hid hbit
  clear hbit
  have hB1 := (((hA.alloc hA.size (.cells #[.int .u8 k, .int .i32 n2, .bool kn2] 72)).alloc (by simp; omega) (.cells #[.int .u8 k, .int .i32 (Go.bits .and .i32 n n2), .bool false] 72)).alloc (by simp; omega) (.cells #[.int .u8 k, .int .i32 (Go.bits .and .i32 n n2), .bool false] 72)).drew
  have hcel := (cels_at (((w.alloc (.cells #[.int .u8 7, .int .i32 cn] 41)).alloc (.cells #[.int .u8 k, .int .i32 n2, .bool kn2] 72)).alloc (.cells #[.int .u8 k, .int .i32 (Go.bits .and .i32 n n2), .bool false] 72)) ⟨k, Go.bits .and .i32 n n2, false⟩ 72 (w.heap.size + 1 + 1 + 1) (by simp)).on ((Below.refl _ _).drew)
  have HCEL := Lib.hid hcel
  clear hcel
  go_wp2_with (first
   | (go_at_call 55; refine (must_ok _ _).mono ?_; rintro e w' ⟨rfl, rfl⟩)
   | (go_at_call 65; refine (puts_any b base v cs [⟨k, Go.bits .and .i32 n n2, false⟩] _ 1 1 _ (H.out.st.on hB1) HCEL.out rfl (fun q => by cases q) hsz).mono ?_; rintro e w3 ⟨rfl, hS3, hK3⟩))
  refine bodyPost_end (v := .tuple #[]) (by simp [results, Tryz.f53]) rfl ?_
  exact opP_fin (by simp [does, hk1, HBIT.out]) hB1 hS3 hK3
set_option maxHeartbeats 4000000 in
theorem bits_34 (cn k n n2 : Int) (kn kn2 : Bool) (hk1 : ¬ k = 1) (hk1b : (k == 1) = false) (hk1c : (k != 1) = true) (bl ol cl b base : Nat) (v : Value) (cs : List Cel) (w : World) (h : OpH w b base v cs bl ol [⟨k, n, kn⟩, ⟨k, n2, kn2⟩]) :
  Calls Tryz.prog 53 #[.pointer (some ⟨b, 0, none⟩), cd ⟨34, cn⟩, .slice (some ⟨bl, ol, none⟩) 2 cl] w (OpP N 10 ⟨34, cn⟩ [⟨k, n, kn⟩, ⟨k, n2, kn2⟩] cs b base v w) := by
 have hA := (Below.refl w.heap.size w).alloc (Nat.le_refl _) (.cells #[.int .u8 34, .int .i32 cn] 41)
 obtain ⟨c0, c1, c2⟩ := cel_at (h.ce.on hA) (i := 0) (a := ⟨k, n, kn⟩) rfl
 simp only [Nat.zero_mul, Nat.add_zero] at c0 c1 c2
 obtain ⟨d0, d1, d2⟩ := cel_at (h.ce.on hA) (i := 1) (a := ⟨k, n2, kn2⟩) rfl
 simp only [Nat.one_mul] at d0 d1 d2
 have hfr : bl < (w.alloc (.cells #[.int .u8 34, .int .i32 cn] 41)).heap.size /\ bl ≠ b /\ some bl ≠ v.ownBlock /\ ∀ g, v.ownBlock = some g -> g < (w.alloc (.cells #[.int .u8 34, .int .i32 cn] 41)).heap.size := ⟨by have := h.bw; simp; omega, h.nb, h.nv, fun g hg => by have := (own_lt h.st.o g hg).1; simp; omega⟩
 have s0 : CL2 bl ol k n kn k n2 kn2 (w.alloc (.cells #[.int .u8 34, .int .i32 cn] 41)) b v (w.alloc (.cells #[.int .u8 34, .int .i32 cn] 41)) := ⟨⟨⟨c0, c1, c2⟩, Kept.refl _ _ _, hfr⟩, ⟨⟨d0, d1, d2⟩, Kept.refl _ _ _, hfr⟩⟩
 have hsz : cs.length + 1 <= 1000 := by have := h.sz; omega
 have H := Lib.hid h
 clear h hfr
 go_enter Tryz.func53, Tryz.ntmps53
 simp only [cd]
 go_wp2_with (fail)
 go_region_held3 (fun V => ((V.cell? ⟨bl, ol, none⟩ = some (.int .u8 k) /\ V.cell? ⟨bl, ol + 1, none⟩ = some (.int .i32 n) /\ V.cell? ⟨bl, ol + 2, none⟩ = some (.bool kn)) /\ Kept (w.alloc (.cells #[.int .u8 34, .int .i32 cn] 41)) V b v /\ bl < (w.alloc (.cells #[.int .u8 34, .int .i32 cn] 41)).heap.size /\ bl ≠ b /\ some bl ≠ v.ownBlock /\ ∀ g, v.ownBlock = some g -> g < (w.alloc (.cells #[.int .u8 34, .int .i32 cn] 41)).heap.size) /\ ((V.cell? ⟨bl, ol + 3, none⟩ = some (.int .u8 k) /\ V.cell? ⟨bl, ol + 3 + 1, none⟩ = some (.int .i32 n2) /\ V.cell? ⟨bl, ol + 3 + 2, none⟩ = some (.bool kn2)) /\ Kept (w.alloc (.cells #[.int .u8 34, .int .i32 cn] 41)) V b v /\ bl < (w.alloc (.cells #[.int .u8 34, .int .i32 cn] 41)).heap.size /\ bl ≠ b /\ some bl ≠ v.ownBlock /\ ∀ g, v.ownBlock = some g -> g < (w.alloc (.cells #[.int .u8 34, .int .i32 cn] 41)).heap.size))
  (first | exact s0 | exact CL2.kA _ s0 | exact CL2.kA _ (CL2.kA _ s0) | exact CL2.kD s0 | exact CL2.kA _ (CL2.kD s0) | exact CL2.kA _ (CL2.kA _ (CL2.kD s0)) | exact CL2.kD (CL2.kA _ s0) | exact CL2.kD (CL2.kA _ (CL2.kA _ s0)) | exact CL2.kA _ (CL2.kD (CL2.kA _ s0)) | assumption | exact CL2.kD (by assumption) | exact CL2.kA _ (by assumption))
  (first | fail)
 ·skip
  have hbit : bitF 34 n n2 = Go.bits .or .i32 n n2 := by rw [bits_or]; unfold bitF; rfl
  have HBIT := Lib.hid hbit
  clear hbit
  have hB1 := (((hA.alloc hA.size (.cells #[.int .u8 k, .int .i32 (Go.bits .or .i32 n n2), .bool false] 72)).alloc (by simp; omega) (.cells #[.int .u8 k, .int .i32 n2, .bool kn2] 72)).alloc (by simp; omega) (.cells #[.int .u8 k, .int .i32 (Go.bits .or .i32 n n2), .bool false] 72)).drew
  have hcel := (cels_at (((w.alloc (.cells #[.int .u8 34, .int .i32 cn] 41)).alloc (.cells #[.int .u8 k, .int .i32 (Go.bits .or .i32 n n2), .bool false] 72)).alloc (.cells #[.int .u8 k, .int .i32 n2, .bool kn2] 72)) ⟨k, Go.bits .or .i32 n n2, false⟩ 72 (w.heap.size + 1 + 1 + 1) (by simp)).on ((Below.refl _ _).drew)
  have HCEL := Lib.hid hcel
  clear hcel
  go_wp2_with (first
   | (go_at_call 55; refine (must_ok _ _).mono ?_; rintro e w' ⟨rfl, rfl⟩)
   | (go_at_call 65; refine (puts_any b base v cs [⟨k, Go.bits .or .i32 n n2, false⟩] _ 1 1 _ (H.out.st.on hB1) HCEL.out rfl (fun q => by cases q) hsz).mono ?_; rintro e w3 ⟨rfl, hS3, hK3⟩))
  refine bodyPost_end (v := .tuple #[]) (by simp [results, Tryz.f53]) rfl ?_
  exact opP_fin (by simp [does, hk1, HBIT.out]) hB1 hS3 hK3
 ·skip
  have hbit : bitF 34 n n2 = Go.bits .or .i32 n n2 := by rw [bits_or]; unfold bitF; rfl
  have HBIT := Lib.hid hbit
  clear hbit
  have hB1 := (((hA.alloc hA.size (.cells #[.int .u8 k, .int .i32 n2, .bool kn2] 72)).alloc (by simp; omega) (.cells #[.int .u8 k, .int .i32 (Go.bits .or .i32 n n2), .bool false] 72)).alloc (by simp; omega) (.cells #[.int .u8 k, .int .i32 (Go.bits .or .i32 n n2), .bool false] 72)).drew
  have hcel := (cels_at (((w.alloc (.cells #[.int .u8 34, .int .i32 cn] 41)).alloc (.cells #[.int .u8 k, .int .i32 n2, .bool kn2] 72)).alloc (.cells #[.int .u8 k, .int .i32 (Go.bits .or .i32 n n2), .bool false] 72)) ⟨k, Go.bits .or .i32 n n2, false⟩ 72 (w.heap.size + 1 + 1 + 1) (by simp)).on ((Below.refl _ _).drew)
  have HCEL := Lib.hid hcel
  clear hcel
  go_wp2_with (first
   | (go_at_call 55; refine (must_ok _ _).mono ?_; rintro e w' ⟨rfl, rfl⟩)
   | (go_at_call 65; refine (puts_any b base v cs [⟨k, Go.bits .or .i32 n n2, false⟩] _ 1 1 _ (H.out.st.on hB1) HCEL.out rfl (fun q => by cases q) hsz).mono ?_; rintro e w3 ⟨rfl, hS3, hK3⟩))
  refine bodyPost_end (v := .tuple #[]) (by simp [results, Tryz.f53]) rfl ?_
  exact opP_fin (by simp [does, hk1, HBIT.out]) hB1 hS3 hK3
set_option maxHeartbeats 4000000 in
theorem bits_x (op cn k n n2 : Int) (kn kn2 : Bool) (hk1 : ¬ k = 1) (hk1b : (k == 1) = false) (hk1c : (k != 1) = true) (h7 : ¬ op = 7) (h34 : ¬ op = 34) (h7b : (op == 7) = false) (h34b : (op == 34) = false) (bl ol cl b base : Nat) (v : Value) (cs : List Cel) (w : World) (h : OpH w b base v cs bl ol [⟨k, n, kn⟩, ⟨k, n2, kn2⟩]) :
  Calls Tryz.prog 53 #[.pointer (some ⟨b, 0, none⟩), cd ⟨op, cn⟩, .slice (some ⟨bl, ol, none⟩) 2 cl] w (OpP N 10 ⟨op, cn⟩ [⟨k, n, kn⟩, ⟨k, n2, kn2⟩] cs b base v w) := by
 have hA := (Below.refl w.heap.size w).alloc (Nat.le_refl _) (.cells #[.int .u8 op, .int .i32 cn] 41)
 obtain ⟨c0, c1, c2⟩ := cel_at (h.ce.on hA) (i := 0) (a := ⟨k, n, kn⟩) rfl
 simp only [Nat.zero_mul, Nat.add_zero] at c0 c1 c2
 obtain ⟨d0, d1, d2⟩ := cel_at (h.ce.on hA) (i := 1) (a := ⟨k, n2, kn2⟩) rfl
 simp only [Nat.one_mul] at d0 d1 d2
 have hfr : bl < (w.alloc (.cells #[.int .u8 op, .int .i32 cn] 41)).heap.size /\ bl ≠ b /\ some bl ≠ v.ownBlock /\ ∀ g, v.ownBlock = some g -> g < (w.alloc (.cells #[.int .u8 op, .int .i32 cn] 41)).heap.size := ⟨by have := h.bw; simp; omega, h.nb, h.nv, fun g hg => by have := (own_lt h.st.o g hg).1; simp; omega⟩
 have s0 : CL2 bl ol k n kn k n2 kn2 (w.alloc (.cells #[.int .u8 op, .int .i32 cn] 41)) b v (w.alloc (.cells #[.int .u8 op, .int .i32 cn] 41)) := ⟨⟨⟨c0, c1, c2⟩, Kept.refl _ _ _, hfr⟩, ⟨⟨d0, d1, d2⟩, Kept.refl _ _ _, hfr⟩⟩
 have hsz : cs.length + 1 <= 1000 := by have := h.sz; omega
 have H := Lib.hid h
 clear h hfr
 go_enter Tryz.func53, Tryz.ntmps53
 simp only [cd]
 go_wp2_with (fail)
 go_region_held3 (fun V => ((V.cell? ⟨bl, ol, none⟩ = some (.int .u8 k) /\ V.cell? ⟨bl, ol + 1, none⟩ = some (.int .i32 n) /\ V.cell? ⟨bl, ol + 2, none⟩ = some (.bool kn)) /\ Kept (w.alloc (.cells #[.int .u8 op, .int .i32 cn] 41)) V b v /\ bl < (w.alloc (.cells #[.int .u8 op, .int .i32 cn] 41)).heap.size /\ bl ≠ b /\ some bl ≠ v.ownBlock /\ ∀ g, v.ownBlock = some g -> g < (w.alloc (.cells #[.int .u8 op, .int .i32 cn] 41)).heap.size) /\ ((V.cell? ⟨bl, ol + 3, none⟩ = some (.int .u8 k) /\ V.cell? ⟨bl, ol + 3 + 1, none⟩ = some (.int .i32 n2) /\ V.cell? ⟨bl, ol + 3 + 2, none⟩ = some (.bool kn2)) /\ Kept (w.alloc (.cells #[.int .u8 op, .int .i32 cn] 41)) V b v /\ bl < (w.alloc (.cells #[.int .u8 op, .int .i32 cn] 41)).heap.size /\ bl ≠ b /\ some bl ≠ v.ownBlock /\ ∀ g, v.ownBlock = some g -> g < (w.alloc (.cells #[.int .u8 op, .int .i32 cn] 41)).heap.size))
  (first | exact s0 | exact CL2.kA _ s0 | exact CL2.kA _ (CL2.kA _ s0) | exact CL2.kD s0 | exact CL2.kA _ (CL2.kD s0) | exact CL2.kA _ (CL2.kA _ (CL2.kD s0)) | exact CL2.kD (CL2.kA _ s0) | exact CL2.kD (CL2.kA _ (CL2.kA _ s0)) | exact CL2.kA _ (CL2.kD (CL2.kA _ s0)) | assumption | exact CL2.kD (by assumption) | exact CL2.kA _ (by assumption))
  (first | fail)
 ·skip
  have hbit : bitF op n n2 = Go.bits .xor .i32 n n2 := by rw [bits_xor]; unfold bitF; dsimp only; rw [if_neg h7, if_neg h34]
  have HBIT := Lib.hid hbit
  clear hbit
  have hB1 := (((hA.alloc hA.size (.cells #[.int .u8 k, .int .i32 (Go.bits .xor .i32 n n2), .bool false] 72)).alloc (by simp; omega) (.cells #[.int .u8 k, .int .i32 n2, .bool kn2] 72)).alloc (by simp; omega) (.cells #[.int .u8 k, .int .i32 (Go.bits .xor .i32 n n2), .bool false] 72)).drew
  have hcel := (cels_at (((w.alloc (.cells #[.int .u8 op, .int .i32 cn] 41)).alloc (.cells #[.int .u8 k, .int .i32 (Go.bits .xor .i32 n n2), .bool false] 72)).alloc (.cells #[.int .u8 k, .int .i32 n2, .bool kn2] 72)) ⟨k, Go.bits .xor .i32 n n2, false⟩ 72 (w.heap.size + 1 + 1 + 1) (by simp)).on ((Below.refl _ _).drew)
  have HCEL := Lib.hid hcel
  clear hcel
  go_wp2_with (first
   | (go_at_call 55; refine (must_ok _ _).mono ?_; rintro e w' ⟨rfl, rfl⟩)
   | (go_at_call 65; refine (puts_any b base v cs [⟨k, Go.bits .xor .i32 n n2, false⟩] _ 1 1 _ (H.out.st.on hB1) HCEL.out rfl (fun q => by cases q) hsz).mono ?_; rintro e w3 ⟨rfl, hS3, hK3⟩))
  refine bodyPost_end (v := .tuple #[]) (by simp [results, Tryz.f53]) rfl ?_
  exact opP_fin (by simp [does, hk1, HBIT.out]) hB1 hS3 hK3
 ·skip
  have hbit : bitF op n n2 = Go.bits .xor .i32 n n2 := by rw [bits_xor]; unfold bitF; dsimp only; rw [if_neg h7, if_neg h34]
  have HBIT := Lib.hid hbit
  clear hbit
  have hB1 := (((hA.alloc hA.size (.cells #[.int .u8 k, .int .i32 n2, .bool kn2] 72)).alloc (by simp; omega) (.cells #[.int .u8 k, .int .i32 (Go.bits .xor .i32 n n2), .bool false] 72)).alloc (by simp; omega) (.cells #[.int .u8 k, .int .i32 (Go.bits .xor .i32 n n2), .bool false] 72)).drew
  have hcel := (cels_at (((w.alloc (.cells #[.int .u8 op, .int .i32 cn] 41)).alloc (.cells #[.int .u8 k, .int .i32 n2, .bool kn2] 72)).alloc (.cells #[.int .u8 k, .int .i32 (Go.bits .xor .i32 n n2), .bool false] 72)) ⟨k, Go.bits .xor .i32 n n2, false⟩ 72 (w.heap.size + 1 + 1 + 1) (by simp)).on ((Below.refl _ _).drew)
  have HCEL := Lib.hid hcel
  clear hcel
  go_wp2_with (first
   | (go_at_call 55; refine (must_ok _ _).mono ?_; rintro e w' ⟨rfl, rfl⟩)
   | (go_at_call 65; refine (puts_any b base v cs [⟨k, Go.bits .xor .i32 n n2, false⟩] _ 1 1 _ (H.out.st.on hB1) HCEL.out rfl (fun q => by cases q) hsz).mono ?_; rintro e w3 ⟨rfl, hS3, hK3⟩))
  refine bodyPost_end (v := .tuple #[]) (by simp [results, Tryz.f53]) rfl ?_
  exact opP_fin (by simp [does, hk1, HBIT.out]) hB1 hS3 hK3
set_option maxHeartbeats 4000000 in
theorem bits_n1 (op cn n n2 : Int) (kn kn2 : Bool)  (bl ol cl b base : Nat) (v : Value) (cs : List Cel) (w : World) (h : OpH w b base v cs bl ol [⟨1, n, kn⟩, ⟨1, n2, kn2⟩]) :
  Calls Tryz.prog 53 #[.pointer (some ⟨b, 0, none⟩), cd ⟨op, cn⟩, .slice (some ⟨bl, ol, none⟩) 2 cl] w (OpP N 10 ⟨op, cn⟩ [⟨1, n, kn⟩, ⟨1, n2, kn2⟩] cs b base v w) := by
 have hA := (Below.refl w.heap.size w).alloc (Nat.le_refl _) (.cells #[.int .u8 op, .int .i32 cn] 41)
 obtain ⟨c0, c1, c2⟩ := cel_at (h.ce.on hA) (i := 0) (a := ⟨1, n, kn⟩) rfl
 simp only [Nat.zero_mul, Nat.add_zero] at c0 c1 c2
 obtain ⟨d0, d1, d2⟩ := cel_at (h.ce.on hA) (i := 1) (a := ⟨1, n2, kn2⟩) rfl
 simp only [Nat.one_mul] at d0 d1 d2
 have hfr : bl < (w.alloc (.cells #[.int .u8 op, .int .i32 cn] 41)).heap.size /\ bl ≠ b /\ some bl ≠ v.ownBlock /\ ∀ g, v.ownBlock = some g -> g < (w.alloc (.cells #[.int .u8 op, .int .i32 cn] 41)).heap.size := ⟨by have := h.bw; simp; omega, h.nb, h.nv, fun g hg => by have := (own_lt h.st.o g hg).1; simp; omega⟩
 have s0 : CL2 bl ol 1 n kn 1 n2 kn2 (w.alloc (.cells #[.int .u8 op, .int .i32 cn] 41)) b v (w.alloc (.cells #[.int .u8 op, .int .i32 cn] 41)) := ⟨⟨⟨c0, c1, c2⟩, Kept.refl _ _ _, hfr⟩, ⟨⟨d0, d1, d2⟩, Kept.refl _ _ _, hfr⟩⟩
 have hsz : cs.length + 1 <= 1000 := by have := h.sz; omega
 have H := Lib.hid h
 clear h hfr
 go_enter Tryz.func53, Tryz.ntmps53
 simp only [cd]
 go_wp2_with (fail)
 go_region_held3 (fun V => ((V.cell? ⟨bl, ol, none⟩ = some (.int .u8 1) /\ V.cell? ⟨bl, ol + 1, none⟩ = some (.int .i32 n) /\ V.cell? ⟨bl, ol + 2, none⟩ = some (.bool kn)) /\ Kept (w.alloc (.cells #[.int .u8 op, .int .i32 cn] 41)) V b v /\ bl < (w.alloc (.cells #[.int .u8 op, .int .i32 cn] 41)).heap.size /\ bl ≠ b /\ some bl ≠ v.ownBlock /\ ∀ g, v.ownBlock = some g -> g < (w.alloc (.cells #[.int .u8 op, .int .i32 cn] 41)).heap.size) /\ ((V.cell? ⟨bl, ol + 3, none⟩ = some (.int .u8 1) /\ V.cell? ⟨bl, ol + 3 + 1, none⟩ = some (.int .i32 n2) /\ V.cell? ⟨bl, ol + 3 + 2, none⟩ = some (.bool kn2)) /\ Kept (w.alloc (.cells #[.int .u8 op, .int .i32 cn] 41)) V b v /\ bl < (w.alloc (.cells #[.int .u8 op, .int .i32 cn] 41)).heap.size /\ bl ≠ b /\ some bl ≠ v.ownBlock /\ ∀ g, v.ownBlock = some g -> g < (w.alloc (.cells #[.int .u8 op, .int .i32 cn] 41)).heap.size))
  (first | exact s0 | exact CL2.kA _ s0 | exact CL2.kA _ (CL2.kA _ s0) | exact CL2.kD s0 | exact CL2.kA _ (CL2.kD s0) | exact CL2.kA _ (CL2.kA _ (CL2.kD s0)) | exact CL2.kD (CL2.kA _ s0) | exact CL2.kD (CL2.kA _ (CL2.kA _ s0)) | exact CL2.kA _ (CL2.kD (CL2.kA _ s0)) | assumption | exact CL2.kD (by assumption) | exact CL2.kA _ (by assumption))
  (first | fail)
 all_goals go_wp2_with (go_at_call 55; refine (must_no _ _).mono ?_; rintro e w' ⟨rfl, rfl⟩)
 all_goals exact ⟨rfl, opP_err (by simp [does]) (Kept.of ((((hA.alloc hA.size _).alloc (by simp; omega) _)).drew) _ _)⟩
set_option maxHeartbeats 4000000 in
theorem bits_n2 (op cn k k2 n n2 : Int) (kn kn2 : Bool) (hk : ¬ k = k2) (hkb : (k == k2) = false) (bl ol cl b base : Nat) (v : Value) (cs : List Cel) (w : World) (h : OpH w b base v cs bl ol [⟨k, n, kn⟩, ⟨k2, n2, kn2⟩]) :
  Calls Tryz.prog 53 #[.pointer (some ⟨b, 0, none⟩), cd ⟨op, cn⟩, .slice (some ⟨bl, ol, none⟩) 2 cl] w (OpP N 10 ⟨op, cn⟩ [⟨k, n, kn⟩, ⟨k2, n2, kn2⟩] cs b base v w) := by
 have hA := (Below.refl w.heap.size w).alloc (Nat.le_refl _) (.cells #[.int .u8 op, .int .i32 cn] 41)
 obtain ⟨c0, c1, c2⟩ := cel_at (h.ce.on hA) (i := 0) (a := ⟨k, n, kn⟩) rfl
 simp only [Nat.zero_mul, Nat.add_zero] at c0 c1 c2
 obtain ⟨d0, d1, d2⟩ := cel_at (h.ce.on hA) (i := 1) (a := ⟨k2, n2, kn2⟩) rfl
 simp only [Nat.one_mul] at d0 d1 d2
 have hfr : bl < (w.alloc (.cells #[.int .u8 op, .int .i32 cn] 41)).heap.size /\ bl ≠ b /\ some bl ≠ v.ownBlock /\ ∀ g, v.ownBlock = some g -> g < (w.alloc (.cells #[.int .u8 op, .int .i32 cn] 41)).heap.size := ⟨by have := h.bw; simp; omega, h.nb, h.nv, fun g hg => by have := (own_lt h.st.o g hg).1; simp; omega⟩
 have s0 : CL2 bl ol k n kn k2 n2 kn2 (w.alloc (.cells #[.int .u8 op, .int .i32 cn] 41)) b v (w.alloc (.cells #[.int .u8 op, .int .i32 cn] 41)) := ⟨⟨⟨c0, c1, c2⟩, Kept.refl _ _ _, hfr⟩, ⟨⟨d0, d1, d2⟩, Kept.refl _ _ _, hfr⟩⟩
 have hsz : cs.length + 1 <= 1000 := by have := h.sz; omega
 have H := Lib.hid h
 clear h hfr
 go_enter Tryz.func53, Tryz.ntmps53
 simp only [cd]
 go_wp2_with (fail)
 go_region_held3 (fun V => ((V.cell? ⟨bl, ol, none⟩ = some (.int .u8 k) /\ V.cell? ⟨bl, ol + 1, none⟩ = some (.int .i32 n) /\ V.cell? ⟨bl, ol + 2, none⟩ = some (.bool kn)) /\ Kept (w.alloc (.cells #[.int .u8 op, .int .i32 cn] 41)) V b v /\ bl < (w.alloc (.cells #[.int .u8 op, .int .i32 cn] 41)).heap.size /\ bl ≠ b /\ some bl ≠ v.ownBlock /\ ∀ g, v.ownBlock = some g -> g < (w.alloc (.cells #[.int .u8 op, .int .i32 cn] 41)).heap.size) /\ ((V.cell? ⟨bl, ol + 3, none⟩ = some (.int .u8 k2) /\ V.cell? ⟨bl, ol + 3 + 1, none⟩ = some (.int .i32 n2) /\ V.cell? ⟨bl, ol + 3 + 2, none⟩ = some (.bool kn2)) /\ Kept (w.alloc (.cells #[.int .u8 op, .int .i32 cn] 41)) V b v /\ bl < (w.alloc (.cells #[.int .u8 op, .int .i32 cn] 41)).heap.size /\ bl ≠ b /\ some bl ≠ v.ownBlock /\ ∀ g, v.ownBlock = some g -> g < (w.alloc (.cells #[.int .u8 op, .int .i32 cn] 41)).heap.size))
  (first | exact s0 | exact CL2.kA _ s0 | exact CL2.kA _ (CL2.kA _ s0) | exact CL2.kD s0 | exact CL2.kA _ (CL2.kD s0) | exact CL2.kA _ (CL2.kA _ (CL2.kD s0)) | exact CL2.kD (CL2.kA _ s0) | exact CL2.kD (CL2.kA _ (CL2.kA _ s0)) | exact CL2.kA _ (CL2.kD (CL2.kA _ s0)) | assumption | exact CL2.kD (by assumption) | exact CL2.kA _ (by assumption))
  (first | fail)
 all_goals go_wp2_with (go_at_call 55; refine (must_no _ _).mono ?_; rintro e w' ⟨rfl, rfl⟩)
 all_goals exact ⟨rfl, opP_err (by simp [does, hk]) (Kept.of ((((hA.alloc hA.size _).alloc (by simp; omega) _)).drew) _ _)⟩
theorem bits_any (c : Cod) (k n : Int) (kn : Bool) (k2 n2 : Int) (kn2 : Bool) (bl ol cl b base : Nat) (v : Value) (cs : List Cel) (w : World) (h : OpH w b base v cs bl ol [⟨k, n, kn⟩, ⟨k2, n2, kn2⟩]) :
  Calls Tryz.prog 53 #[.pointer (some ⟨b, 0, none⟩), cd c, .slice (some ⟨bl, ol, none⟩) 2 cl] w (OpP N 10 c [⟨k, n, kn⟩, ⟨k2, n2, kn2⟩] cs b base v w) := by
 obtain ⟨op, cn⟩ := c
 by_cases hk : k = k2
 ·subst hk
  by_cases h1 : k = 1
  ·subst h1; exact bits_n1 op cn n n2 kn kn2 bl ol cl b base v cs w h
  have e1 : (k == 1) = false := by simpa using h1
  have e2 : (k != 1) = true := by simpa using h1
  by_cases h7 : op = 7
  ·subst h7; exact bits_7 cn k n n2 kn kn2 h1 e1 e2 bl ol cl b base v cs w h
  by_cases h34 : op = 34
  ·subst h34; exact bits_34 cn k n n2 kn kn2 h1 e1 e2 bl ol cl b base v cs w h
  exact bits_x op cn k n n2 kn kn2 h1 e1 e2 h7 h34 (by simpa using h7) (by simpa using h34) bl ol cl b base v cs w h
 ·exact bits_n2 op cn k k2 n n2 kn kn2 hk (by simpa using hk) bl ol cl b base v cs w h
end
theorem fix_ex (k n : Int) (kn : Bool) (h : J32 n) (w : World) : Calls Tryz.prog 72 #[.agg #[.int .u8 k, .int .i32 n, .bool kn]] w fun e w' => e = .returned (.int .i32 (fixOf ⟨k, n, kn⟩)) /\ Below w.heap.size w w' := fix_any ⟨k, n, kn⟩ h w
end Go.Proofs.YtcjllibeaiofpaaGreatDoor
