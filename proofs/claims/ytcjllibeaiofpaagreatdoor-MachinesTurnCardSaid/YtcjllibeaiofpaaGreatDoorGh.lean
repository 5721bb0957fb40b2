/-
  Machines: operators, walked.
-/
import Derived.Test.YtcjllibeaiofpaaGreatDoorGa
set_option linter.all false
set_option maxRecDepth 100000
namespace Go.Proofs.YtcjllibeaiofpaaGreatDoor
open Go.RowKit Mach
theorem opP_fin' {N : Num} {cl : Nat} {c : Cod} {L cs cs' : List Cel} {b base : Nat} {v : Value} {w W w' : World} (h : does N cl c L cs = .ok cs') (hB : Below w.heap.size w W)
  (hs : ∃ v', (v'.ownBlock = v.ownBlock \/ ∃ g, v'.ownBlock = some g /\ W.heap.size <= g) /\ Stk w' b base v' cs') (hk : Kept W w' b v) : OpP N cl c L cs b base v w (.returned (.tuple #[])) w' := by
 refine opP_ok h ?_ ((Kept.of hB b v).trans hk (.inl rfl))
 obtain ⟨v', hv, hS⟩ := hs
 refine ⟨v', ?_, hS⟩
 rcases hv with e | ⟨g, e, hg⟩
 ·exact .inl e
 ·exact .inr ⟨g, e, Nat.le_trans hB.size hg⟩
theorem cels_new2 (w : World) (a a2 : Cel) (t : TypeId) : Cels (w.alloc (.cells #[.int .u8 a.k, .int .i32 a.n, .bool a.kn, .int .u8 a2.k, .int .i32 a2.n, .bool a2.kn] t)).heap.size (w.alloc (.cells #[.int .u8 a.k, .int .i32 a.n, .bool a.kn, .int .u8 a2.k, .int .i32 a2.n, .bool a2.kn] t)) (some ⟨w.heap.size, 0, none⟩) [a, a2] := by
 refine .inr ⟨w.heap.size, 0, rfl, by simp, fun j u hu => ?_⟩
 match j, hu with
 | 0, hu => simpa [fl, go_sem] using hu
 | 1, hu => simpa [fl, go_sem] using hu
 | 2, hu => simpa [fl, go_sem] using hu
 | 3, hu => simpa [fl, go_sem] using hu
 | 4, hu => simpa [fl, go_sem] using hu
 | 5, hu => simpa [fl, go_sem] using hu
def CL (bl ol : Nat) (k n : Int) (kn : Bool) (w1 : World) (b : Nat) (v : Value) (V : World) : Prop :=
 (V.cell? ⟨bl, ol, none⟩ = some (.int .u8 k) /\ V.cell? ⟨bl, ol + 1, none⟩ = some (.int .i32 n) /\ V.cell? ⟨bl, ol + 2, none⟩ = some (.bool kn)) /\ Kept w1 V b v /\ bl < w1.heap.size /\ bl ≠ b /\ some bl ≠ v.ownBlock /\ ∀ g, v.ownBlock = some g -> g < w1.heap.size
section
variable {bl ol b : Nat} {k n : Int} {kn : Bool} {w1 V V' : World} {v : Value}
theorem CL.kB (s : CL bl ol k n kn w1 b v V) (h : Below V.heap.size V V') : CL bl ol k n kn w1 b v V' := by
 obtain ⟨⟨h1, h2, h3⟩, h4, h5, h6, h7, h8⟩ := s
 have hl := Nat.lt_of_lt_of_le h5 h4.size
 exact ⟨⟨(h.cell (p := ⟨bl, ol, none⟩) hl).trans h1, (h.cell (p := ⟨bl, ol + 1, none⟩) hl).trans h2, (h.cell (p := ⟨bl, ol + 2, none⟩) hl).trans h3⟩, h4.trans (Kept.of h b v) (.inl rfl), h5, h6, h7, h8⟩
theorem CL.kA (o : Obj) (s : CL bl ol k n kn w1 b v V) : CL bl ol k n kn w1 b v (V.alloc o) := s.kB ((Below.refl _ _).alloc (Nat.le_refl _) _)
theorem CL.kD (s : CL bl ol k n kn w1 b v V) : CL bl ol k n kn w1 b v V.drew := s.kB (Below.refl _ _).drew
theorem CL.kK (s : CL bl ol k n kn w1 b v V) (h : Kept V V' b v) : CL bl ol k n kn w1 b v V' := by
 obtain ⟨⟨h1, h2, h3⟩, h4, h5, h6, h7, h8⟩ := s
 have hb := h.block bl (Nat.lt_of_lt_of_le h5 h4.size) h6 h7
 exact ⟨⟨(World.cell?_of_block (w := V) (a := ⟨bl, ol, none⟩) hb).trans h1, (World.cell?_of_block (w := V) (a := ⟨bl, ol + 1, none⟩) hb).trans h2, (World.cell?_of_block (w := V) (a := ⟨bl, ol + 2, none⟩) hb).trans h3⟩, h4.trans h (.inl rfl), h5, h6, h7, h8⟩
end
def CL2 (bl ol : Nat) (k n : Int) (kn : Bool) (k2 n2 : Int) (kn2 : Bool) (w1 : World) (b : Nat) (v : Value) (V : World) : Prop := CL bl ol k n kn w1 b v V /\ CL bl (ol + 3) k2 n2 kn2 w1 b v V
section
variable {bl ol b : Nat} {k n k2 n2 : Int} {kn kn2 : Bool} {w1 V V' : World} {v : Value}
theorem CL2.kB (s : CL2 bl ol k n kn k2 n2 kn2 w1 b v V) (h : Below V.heap.size V V') : CL2 bl ol k n kn k2 n2 kn2 w1 b v V' := ⟨s.1.kB h, s.2.kB h⟩
theorem CL2.kA (o : Obj) (s : CL2 bl ol k n kn k2 n2 kn2 w1 b v V) : CL2 bl ol k n kn k2 n2 kn2 w1 b v (V.alloc o) := ⟨s.1.kA o, s.2.kA o⟩
theorem CL2.kD (s : CL2 bl ol k n kn k2 n2 kn2 w1 b v V) : CL2 bl ol k n kn k2 n2 kn2 w1 b v V.drew := ⟨s.1.kD, s.2.kD⟩
theorem CL2.kK (s : CL2 bl ol k n kn k2 n2 kn2 w1 b v V) (h : Kept V V' b v) : CL2 bl ol k n kn k2 n2 kn2 w1 b v V' := ⟨s.1.kK h, s.2.kK h⟩
end
section
variable {N : Num}
set_option maxHeartbeats 4000000 in
theorem dup_any (c : Cod) (k n : Int) (kn : Bool) (bl ol cl b base : Nat) (v : Value) (cs : List Cel) (w : World) (h : OpH w b base v cs bl ol [⟨k, n, kn⟩]) :
  Calls Tryz.prog 40 #[.pointer (some ⟨b, 0, none⟩), cd c, .slice (some ⟨bl, ol, none⟩) 1 cl] w (OpP N 13 c [⟨k, n, kn⟩] cs b base v w) := by
 obtain ⟨op, cn⟩ := c
 have hA := (Below.refl w.heap.size w).alloc (Nat.le_refl _) (.cells #[.int .u8 op, .int .i32 cn] 41)
 obtain ⟨c0, c1, c2⟩ := cel_at (h.ce.on hA) (i := 0) (a := ⟨k, n, kn⟩) rfl
 simp only [Nat.zero_mul, Nat.add_zero] at c0 c1 c2
 have hsz : cs.length + 2 <= 1000 := by have := h.sz; omega
 have s0 : CL bl ol k n kn (w.alloc (.cells #[.int .u8 op, .int .i32 cn] 41)) b v (w.alloc (.cells #[.int .u8 op, .int .i32 cn] 41)) := ⟨⟨c0, c1, c2⟩, Kept.refl _ _ _, by have := h.bw; simp; omega, h.nb, h.nv, fun g hg => by have := (own_lt h.st.o g hg).1; simp; omega⟩
 have hcel := (cels_new2 (w.alloc (.cells #[.int .u8 op, .int .i32 cn] 41)) ⟨k, n, kn⟩ ⟨k, n, kn⟩ 72).on ((Below.refl _ _).drew)
 rw [World.size_alloc w] at hcel
 have HCEL := Lib.hid hcel
 have H := Lib.hid h
 clear h hcel
 go_enter Tryz.func40, Tryz.ntmps40
 simp only [cd]
 go_wp2_with (fail)
 go_region_held3 (fun V => (V.cell? ⟨bl, ol, none⟩ = some (.int .u8 k) /\ V.cell? ⟨bl, ol + 1, none⟩ = some (.int .i32 n) /\ V.cell? ⟨bl, ol + 2, none⟩ = some (.bool kn)) /\ Kept (w.alloc (.cells #[.int .u8 op, .int .i32 cn] 41)) V b v /\ bl < (w.alloc (.cells #[.int .u8 op, .int .i32 cn] 41)).heap.size /\ bl ≠ b /\ some bl ≠ v.ownBlock /\ ∀ g, v.ownBlock = some g -> g < (w.alloc (.cells #[.int .u8 op, .int .i32 cn] 41)).heap.size)
  (first | exact s0 | exact CL.kD s0 | exact CL.kA _ s0 | exact CL.kA _ (CL.kD s0) | assumption | exact CL.kK (by assumption) (by assumption) | exact CL.kA _ (by assumption) | exact CL.kD (by assumption))
  (first
   | (go_at_call 65; refine (puts_any b base v cs [⟨k, n, kn⟩, ⟨k, n, kn⟩] _ 2 2 _ (H.out.st.on (hA.alloc hA.size _).drew) HCEL.out rfl (fun q => by cases q) hsz).mono ?_; rintro e w3 ⟨rfl, hS3, hK3⟩))
 refine bodyPost_end (v := .tuple #[]) (by simp [results, Tryz.f40]) rfl ?_
 exact opP_fin' (by simp [does]) (hA.alloc hA.size _).drew hS3 hK3
set_option maxHeartbeats 4000000 in
theorem exch_any (c : Cod) (k n : Int) (kn : Bool) (k2 n2 : Int) (kn2 : Bool) (bl ol cl b base : Nat) (v : Value) (cs : List Cel) (w : World) (h : OpH w b base v cs bl ol [⟨k, n, kn⟩, ⟨k2, n2, kn2⟩]) :
  Calls Tryz.prog 41 #[.pointer (some ⟨b, 0, none⟩), cd c, .slice (some ⟨bl, ol, none⟩) 2 cl] w (OpP N 14 c [⟨k, n, kn⟩, ⟨k2, n2, kn2⟩] cs b base v w) := by
 obtain ⟨op, cn⟩ := c
 have hA := (Below.refl w.heap.size w).alloc (Nat.le_refl _) (.cells #[.int .u8 op, .int .i32 cn] 41)
 obtain ⟨c0, c1, c2⟩ := cel_at (h.ce.on hA) (i := 0) (a := ⟨k, n, kn⟩) rfl
 simp only [Nat.zero_mul, Nat.add_zero] at c0 c1 c2
 obtain ⟨d0, d1, d2⟩ := cel_at (h.ce.on hA) (i := 1) (a := ⟨k2, n2, kn2⟩) rfl
 simp only [Nat.one_mul] at d0 d1 d2
 have hsz : cs.length + 2 <= 1000 := by have := h.sz; omega
 have hfr : bl < (w.alloc (.cells #[.int .u8 op, .int .i32 cn] 41)).heap.size /\ bl ≠ b /\ some bl ≠ v.ownBlock /\ ∀ g, v.ownBlock = some g -> g < (w.alloc (.cells #[.int .u8 op, .int .i32 cn] 41)).heap.size := ⟨by have := h.bw; simp; omega, h.nb, h.nv, fun g hg => by have := (own_lt h.st.o g hg).1; simp; omega⟩
 have s0 : CL2 bl ol k n kn k2 n2 kn2 (w.alloc (.cells #[.int .u8 op, .int .i32 cn] 41)) b v (w.alloc (.cells #[.int .u8 op, .int .i32 cn] 41)) := ⟨⟨⟨c0, c1, c2⟩, Kept.refl _ _ _, hfr⟩, ⟨⟨d0, d1, d2⟩, Kept.refl _ _ _, hfr⟩⟩
 have hcel := (cels_new2 (w.alloc (.cells #[.int .u8 op, .int .i32 cn] 41)) ⟨k2, n2, kn2⟩ ⟨k, n, kn⟩ 72).on ((Below.refl _ _).drew)
 rw [World.size_alloc w] at hcel
 have HCEL := Lib.hid hcel
 have H := Lib.hid h
 clear h hcel hfr
 go_enter Tryz.func41, Tryz.ntmps41
 simp only [cd]
 go_wp2_with (fail)
 go_region_held3 (fun V => ((V.cell? ⟨bl, ol, none⟩ = some (.int .u8 k) /\ V.cell? ⟨bl, ol + 1, none⟩ = some (.int .i32 n) /\ V.cell? ⟨bl, ol + 2, none⟩ = some (.bool kn)) /\ Kept (w.alloc (.cells #[.int .u8 op, .int .i32 cn] 41)) V b v /\ bl < (w.alloc (.cells #[.int .u8 op, .int .i32 cn] 41)).heap.size /\ bl ≠ b /\ some bl ≠ v.ownBlock /\ ∀ g, v.ownBlock = some g -> g < (w.alloc (.cells #[.int .u8 op, .int .i32 cn] 41)).heap.size) /\ ((V.cell? ⟨bl, ol + 3, none⟩ = some (.int .u8 k2) /\ V.cell? ⟨bl, ol + 3 + 1, none⟩ = some (.int .i32 n2) /\ V.cell? ⟨bl, ol + 3 + 2, none⟩ = some (.bool kn2)) /\ Kept (w.alloc (.cells #[.int .u8 op, .int .i32 cn] 41)) V b v /\ bl < (w.alloc (.cells #[.int .u8 op, .int .i32 cn] 41)).heap.size /\ bl ≠ b /\ some bl ≠ v.ownBlock /\ ∀ g, v.ownBlock = some g -> g < (w.alloc (.cells #[.int .u8 op, .int .i32 cn] 41)).heap.size))
  (first | exact s0 | exact CL2.kD s0 | exact CL2.kA _ s0 | exact CL2.kA _ (CL2.kD s0) | assumption | exact CL2.kK (by assumption) (by assumption) | exact CL2.kA _ (by assumption) | exact CL2.kD (by assumption))
  (first
   | (go_at_call 65; refine (puts_any b base v cs [⟨k2, n2, kn2⟩, ⟨k, n, kn⟩] _ 2 2 _ (H.out.st.on (hA.alloc hA.size _).drew) HCEL.out rfl (fun q => by cases q) hsz).mono ?_; rintro e w3 ⟨rfl, hS3, hK3⟩))
 refine bodyPost_end (v := .tuple #[]) (by simp [results, Tryz.f41]) rfl ?_
 exact opP_fin' (by simp [does]) (hA.alloc hA.size _).drew hS3 hK3
end
theorem row_to_cels {W : World} {base n cap : Nat} {e : TypeId} {ad : Option Addr} {xs : List Cel} (h : W.ownsRow base e 3 (.slice ad n cap) n (fl xs)) : Cels W.heap.size W ad xs := by
 cases ad with
 | none =>
  left
  have h1 := h.1
  rcases h.2 with ⟨_, h2⟩ | ⟨_, _, _, h2, _⟩
  ·subst h2
   rw [fl_len] at h1
   exact List.eq_nil_of_length_eq_zero (by omega)
  ·cases h2
 | some p =>
  obtain ⟨g, rfl⟩ : ∃ g, p = ⟨g, 0, none⟩ := by
   rcases h.2 with ⟨h2, _⟩ | ⟨g, _, _, h2, _⟩
   ·cases h2
   ·cases h2; exact ⟨g, rfl⟩
  obtain ⟨h1, h2⟩ := row_cels h
  exact .inr ⟨g, 0, rfl, h1, fun j u hu => by rw [Nat.zero_add]; exact h2 j u hu⟩
theorem Cels.kept {W W' : World} {ad : Option Addr} {xs : List Cel} {b : Nat} {v : Value} (h : Cels W.heap.size W ad xs) (hK : Kept W W' b v) (hne : ∀ p, ad = some p -> p.block ≠ b /\ some p.block ≠ v.ownBlock) : Cels W'.heap.size W' ad xs := by
 rcases h with rfl | ⟨g, off, rfl, hb, hc⟩
 ·exact .inl rfl
 ·obtain ⟨h1, h2⟩ := hne _ rfl
  exact .inr ⟨g, off, rfl, Nat.lt_of_lt_of_le hb hK.size, fun j u hu => (World.cell?_of_block (w := W) (a := ⟨g, off + j, none⟩) (hK.block g hb h1 h2)).trans (hc j u hu)⟩
def OwnR (w : World) (v v' : Value) : Prop := v'.ownBlock = v.ownBlock \/ ∃ g, v'.ownBlock = some g /\ w.heap.size <= g
theorem OwnR.trans {w W : World} {v v' v'' : Value} (h : OwnR w v v') (k : OwnR W v' v'') (hs : w.heap.size <= W.heap.size) : OwnR w v v'' := by
 rcases k with e | ⟨g, e, hg⟩
 ·rcases h with e' | ⟨g, e', hg⟩
  ·exact .inl (e.trans e')
  ·exact .inr ⟨g, e.trans e', hg⟩
 ·exact .inr ⟨g, e, Nat.le_trans hs hg⟩
theorem fresh_ne {w W W3 : World} {b base n s : Nat} {v v3 : Value} {cs : List Cel} {e : TypeId} {ad : Option Addr} {cap m : Nat} {xs : List Value} (hS : Stk w b base v cs) (hs : w.heap.size <= W.heap.size) (hv : v3.ownBlock = v.ownBlock) (hx : W3.ownsRow W.heap.size e s (.slice ad m cap) n xs) : ∀ p, ad = some p -> p.block ≠ b /\ some p.block ≠ v3.ownBlock := by
 rintro p rfl
 have h1 := (own_lt hx p.block rfl).2
 have h2 := hS.l
 refine ⟨by omega, fun q => ?_⟩
 rw [hv] at q
 have := (own_lt hS.o p.block q.symm).1
 omega
theorem takes_of {cs : List Cel} {m a : Nat} (h : cs.length = a + m) : takes m cs = .ok (cs.drop a, cs.take a) := by
 unfold takes
 rw [if_pos (by omega), show cs.length - m = a by omega]
theorem takes_bad {cs : List Cel} {m : Nat} (h : ¬ m <= cs.length) : takes m cs = .error 15 := by
 unfold takes
 rw [if_neg h]
theorem count_le {a : Cel} {m : Nat} (h : count a = .ok m) (hj : J32 a.n) : m <= 2147483647 := by
 unfold count at h
 unfold J32 at hj
 by_cases c : a.k = 0 /\ a.kn = true /\ 0 <= a.n
 ·rw [if_pos c] at h
  have := Except.ok.inj h
  omega
 ·rw [if_neg c] at h; cases h
theorem count_er {a : Cel} {e : Int} (h : count a = .error e) : e = 10 := by
 unfold count at h
 by_cases c : a.k = 0 /\ a.kn = true /\ 0 <= a.n
 ·rw [if_pos c] at h; cases h
 ·rw [if_neg c] at h; cases h; rfl
theorem row_some {W : World} {base n : Nat} {e : TypeId} {v : Value} {xs : List Value} (h : W.ownsRow base e 3 v (n + 1) xs) : ∃ g cap, v = .slice (some ⟨g, 0, none⟩) (n + 1) cap := by
 rcases h.2 with ⟨_, h2⟩ | ⟨g, cap, _, h2, _⟩
 ·omega
 ·exact ⟨g, cap, h2⟩
section
variable {N : Num}
set_option maxHeartbeats 4000000 in
theorem copy_any (c : Cod) (k n : Int) (kn : Bool) (bl ol cl b base : Nat) (v : Value) (cs : List Cel) (w : World) (h : OpH w b base v cs bl ol [⟨k, n, kn⟩]) :
  Calls Tryz.prog 42 #[.pointer (some ⟨b, 0, none⟩), cd c, .slice (some ⟨bl, ol, none⟩) 1 cl] w (OpP N 15 c [⟨k, n, kn⟩] cs b base v w) := by
 obtain ⟨op, cn⟩ := c
 have hA := (Below.refl w.heap.size w).alloc (Nat.le_refl _) (.cells #[.int .u8 op, .int .i32 cn] 41)
 obtain ⟨c0, c1, c2⟩ := cel_at (h.ce.on hA) (i := 0) (a := ⟨k, n, kn⟩) rfl
 simp only [Nat.zero_mul, Nat.add_zero] at c0 c1 c2
 have hj := (h.gl ⟨k, n, kn⟩ (List.mem_cons_self ..)).r
 have H := Lib.hid h
 have hs100 := h.sz
 clear h
 match hc : count ⟨k, n, kn⟩ with
 | .error er =>
  obtain rfl := count_er hc
  have HC := Lib.hid hc
  clear hc
  go_enter Tryz.func42, Tryz.ntmps42
  simp only [cd]
  go_wp2_with (go_at_call 68; refine (count_no ⟨k, n, kn⟩ HC.out _).mono ?_; rintro e w2 ⟨he, hB2⟩; unfold Pan at he; subst he)
  exact ⟨rfl, opP_err (by simp [does, HC.out, bind, Except.bind]) (Kept.of (hA.trans (hB2.mono hA.size)) _ _)⟩
 | .ok m =>
  have hm := count_le hc hj
  have HC := Lib.hid hc
  clear hc
  by_cases hle : m <= cs.length
  ·obtain ⟨a, ha⟩ : ∃ a, cs.length = a + m := ⟨cs.length - m, by omega⟩
   have HL := Lib.hid ha
   have hml : m = (cs.drop a).length := by rw [List.length_drop]; omega
   have hs1 : (cs.take a).length + (cs.drop a).length <= 1000 := by rw [List.length_take, List.length_drop]; omega
   have hs2 : (cs.take a ++ cs.drop a).length + (cs.drop a).length <= 1000 := by rw [List.length_append, List.length_take, List.length_drop]; omega
   have HM := Lib.hid hml
   have HS1 := Lib.hid hs1
   have HS2 := Lib.hid hs2
   clear ha hle hml hs1 hs2
   go_enter Tryz.func42, Tryz.ntmps42
   simp only [cd]
   go_wp2_with (first
    | (go_at_call 68; refine (count_ok ⟨k, n, kn⟩ m HC.out hj _).mono ?_; rintro e w2 ⟨rfl, hB2⟩; have hA2 := hA.trans (hB2.mono hA.size))
    | (go_at_call 60; refine (takes_ok b base m a v cs _ (H.out.st.on hA2) HL.out).mono ?_; rintro e w3 ⟨⟨x, rfl, hx⟩, ⟨v3, hv3, hS3⟩, hK3⟩; obtain ⟨ax, cx, rfl, hxn, _, _⟩ := row_shape hx; have hcx := row_to_cels hx; have hne := fresh_ne H.out.st hA2.size hv3 hx; clear hx; have HXN := Lib.hid hxn; have HNE := Lib.hid hne; clear hxn hne)
    | (go_at_call 65; refine (puts_any b base v3 (cs.take a) (cs.drop a) ax m cx _ hS3 hcx HM.out HXN.out HS1.out).mono ?_; rintro e w4 ⟨rfl, ⟨v4, hv4, hS4⟩, hK4⟩; have hcx4 := hcx.kept hK4 HNE.out; clear hS3 hcx)
    | (go_at_call 65; refine (puts_any b base v4 (cs.take a ++ cs.drop a) (cs.drop a) ax m cx _ hS4 hcx4 HM.out HXN.out HS2.out).mono ?_; rintro e w5 ⟨rfl, ⟨v5, hv5, hS5⟩, hK5⟩))
   refine bodyPost_end (v := .tuple #[]) (by simp [results, Tryz.f42]) rfl ?_
   have k2 := (Kept.of hA2 b v).trans hK3 (.inl rfl)
   have o3 : OwnR w v v3 := .inl hv3
   have k3 := k2.trans hK4 o3
   have o4 : OwnR w v v4 := o3.trans (W := w3) hv4 k2.size
   have k4 := k3.trans hK5 o4
   exact opP_ok (by simp only [does, HC.out, takes_of HL.out, bind, Except.bind]) ⟨v5, o4.trans (W := w4) hv5 k3.size, hS5⟩ k4
  ·have HL := Lib.hid hle
   clear hle
   go_enter Tryz.func42, Tryz.ntmps42
   simp only [cd]
   go_wp2_with (first
    | (go_at_call 68; refine (count_ok ⟨k, n, kn⟩ m HC.out hj _).mono ?_; rintro e w2 ⟨rfl, hB2⟩; have hA2 := hA.trans (hB2.mono hA.size))
    | (go_at_call 60; refine (takes_no b base m v cs _ (H.out.st.on hA2) HL.out (by omega)).mono ?_; rintro e w3 ⟨he, rfl⟩; unfold Pan at he; subst he))
   exact ⟨rfl, opP_err (by simp [does, HC.out, takes_bad HL.out, bind, Except.bind]) (Kept.of hA2 _ _)⟩
set_option maxHeartbeats 4000000 in
theorem index_any (c : Cod) (k n : Int) (kn : Bool) (bl ol cl b base : Nat) (v : Value) (cs : List Cel) (w : World) (h : OpH w b base v cs bl ol [⟨k, n, kn⟩]) :
  Calls Tryz.prog 43 #[.pointer (some ⟨b, 0, none⟩), cd c, .slice (some ⟨bl, ol, none⟩) 1 cl] w (OpP N 16 c [⟨k, n, kn⟩] cs b base v w) := by
 obtain ⟨op, cn⟩ := c
 have hA := (Below.refl w.heap.size w).alloc (Nat.le_refl _) (.cells #[.int .u8 op, .int .i32 cn] 41)
 obtain ⟨c0, c1, c2⟩ := cel_at (h.ce.on hA) (i := 0) (a := ⟨k, n, kn⟩) rfl
 simp only [Nat.zero_mul, Nat.add_zero] at c0 c1 c2
 have hj := (h.gl ⟨k, n, kn⟩ (List.mem_cons_self ..)).r
 have H := Lib.hid h
 have hs100 := h.sz
 clear h
 match hc : count ⟨k, n, kn⟩ with
 | .error er =>
  obtain rfl := count_er hc
  have HC := Lib.hid hc
  clear hc
  go_enter Tryz.func43, Tryz.ntmps43
  simp only [cd]
  go_wp2_with (go_at_call 68; refine (count_no ⟨k, n, kn⟩ HC.out _).mono ?_; rintro e w2 ⟨he, hB2⟩; unfold Pan at he; subst he)
  exact ⟨rfl, opP_err (by simp [does, HC.out, bind, Except.bind]) (Kept.of (hA.trans (hB2.mono hA.size)) _ _)⟩
 | .ok m =>
  have hm := count_le hc hj
  have HC := Lib.hid hc
  clear hc
  have hmj : (m : Int) <= 2147483647 := by omega
  by_cases hle : m + 1 <= cs.length
  ·obtain ⟨a, ha⟩ : ∃ a, cs.length = a + (m + 1) := ⟨cs.length - (m + 1), by omega⟩
   have HL := Lib.hid ha
   obtain ⟨x0, xr, hx0⟩ : ∃ x0 xr, cs.drop a = x0 :: xr := by
    cases hd : cs.drop a with
    | nil => have := congrArg List.length hd; rw [List.length_drop] at this; simp at this; omega
    | cons x0 xr => exact ⟨x0, xr, rfl⟩
   obtain ⟨xk, xn, xkn⟩ := x0
   have HX0 := Lib.hid hx0
   have hml : m + 1 = (cs.drop a).length := by rw [List.length_drop]; omega
   have hs1 : (cs.take a).length + (cs.drop a).length <= 1000 := by rw [List.length_take, List.length_drop]; omega
   have hs2 : (cs.take a ++ cs.drop a).length + 1 <= 1000 := by rw [List.length_append, List.length_take, List.length_drop]; omega
   have HM := Lib.hid hml
   have HS1 := Lib.hid hs1
   have HS2 := Lib.hid hs2
   clear ha hle hml hs1 hs2 hx0
   go_enter Tryz.func43, Tryz.ntmps43
   simp only [cd]
   go_wp2_with (first
    | (go_at_call 68; refine (count_ok ⟨k, n, kn⟩ m HC.out hj _).mono ?_; rintro e w2 ⟨rfl, hB2⟩; have hA2 := hA.trans (hB2.mono hA.size))
    | (go_at_call 60; refine (takes_ok b base (m + 1) a v cs _ (H.out.st.on hA2) HL.out).mono ?_; rintro e w3 ⟨⟨x, rfl, hx⟩, ⟨v3, hv3, hS3⟩, hK3⟩; obtain ⟨gx, cx, rfl⟩ := row_some hx; have hcx := row_to_cels hx; have hne := fresh_ne H.out.st hA2.size hv3 hx; clear hx; have HNE := Lib.hid hne; clear hne)
    | (go_at_call 65; refine (puts_any b base v3 (cs.take a) (cs.drop a) (some ⟨gx, 0, none⟩) (m + 1) cx _ hS3 hcx HM.out (fun q => by cases q) HS1.out).mono ?_; rintro e w4 ⟨rfl, ⟨v4, hv4, hS4⟩, hK4⟩; have hcx4 := hcx.kept hK4 HNE.out; obtain ⟨e0, e1, e2⟩ := cel_at hcx4 (i := 0) (a := ⟨xk, xn, xkn⟩) (by rw [HX0.out]; rfl); simp only [Nat.zero_mul, Nat.add_zero] at e0 e1 e2; clear hS3 hcx hcx4)
    | (go_at_call 65; refine (puts_any b base v4 (cs.take a ++ cs.drop a) [⟨xk, xn, xkn⟩] _ 1 1 _ (hS4.on ((Below.refl _ _).alloc (Nat.le_refl _) _)) (cels_new _ ⟨xk, xn, xkn⟩ _) rfl (fun q => by cases q) HS2.out).mono ?_; rintro e w5 ⟨rfl, ⟨v5, hv5, hS5⟩, hK5⟩))
   refine bodyPost_end (v := .tuple #[]) (by simp [results, Tryz.f43]) rfl ?_
   have k2 := (Kept.of hA2 b v).trans hK3 (.inl rfl)
   have o3 : OwnR w v v3 := .inl hv3
   have k3 := k2.trans hK4 o3
   have o4 : OwnR w v v4 := o3.trans (W := w3) hv4 k2.size
   have kA : Kept w4 (w4.alloc (.cells #[.int .u8 xk, .int .i32 xn, .bool xkn] 72)) b v4 := Kept.of ((Below.refl _ _).alloc (Nat.le_refl _) _) _ _
   have k5 := k3.trans kA o4
   have k4 := k5.trans hK5 o4
   exact opP_ok (by simp only [does, HC.out, takes_of HL.out, bind, Except.bind]; rw [HX0.out]) ⟨v5, o4.trans hv5 k5.size, by rw [HX0.out] at hS5; exact hS5⟩ k4
  ·have HL := Lib.hid hle
   clear hle
   go_enter Tryz.func43, Tryz.ntmps43
   simp only [cd]
   go_wp2_with (first
    | (go_at_call 68; refine (count_ok ⟨k, n, kn⟩ m HC.out hj _).mono ?_; rintro e w2 ⟨rfl, hB2⟩; have hA2 := hA.trans (hB2.mono hA.size))
    | (go_at_call 60; refine (takes_no b base (m + 1) v cs _ (H.out.st.on hA2) HL.out (by omega)).mono ?_; rintro e w3 ⟨he, rfl⟩; unfold Pan at he; subst he))
   exact ⟨rfl, opP_err (by simp [does, HC.out, takes_bad HL.out, bind, Except.bind]) (Kept.of hA2 _ _)⟩
end
end Go.Proofs.YtcjllibeaiofpaaGreatDoor
