/-
  Machines: compares, walked.
-/
import Derived.Test.YtcjllibeaiofpaaGreatDoorGx
set_option linter.all false
set_option maxRecDepth 100000
namespace Go.Proofs.YtcjllibeaiofpaaGreatDoor
open Go.RowKit Mach
theorem cmpF_same (k n n2 : Int) (kn kn2 : Bool) : cmpF ⟨k, n, kn⟩ ⟨k, n2, kn2⟩ = cmpI n n2 := by simp [cmpF, cmpI]
theorem cmpF_diff {k k2 : Int} (h : ¬ k = k2) {n n2 : Int} {kn kn2 : Bool} : cmpF ⟨k, n, kn⟩ ⟨k2, n2, kn2⟩ = cmpI (fixOf ⟨k, n, kn⟩) (fixOf ⟨k2, n2, kn2⟩) := by
 unfold cmpF cmpI; rw [if_pos h]
theorem does11 {N : Num} {op cn : Int} {a b : Cel} {B : Bool} {cs : List Cel} (h : (a.k = 2 <-> b.k = 2) /\ (op = 17 \/ op = 31 \/ a.k ≠ 2)) (hb : holds op (cmpF a b) = B) : does N 11 ⟨op, cn⟩ [a, b] cs = .ok (cs ++ [truth B]) := by
 rw [<- hb]
 exact if_pos h
theorem holds_31 (c : Int) : holds 31 c = (c != 0) := by by_cases h : c = 0 <;> simp [holds, h]
theorem holds_17 (c : Int) : holds 17 c = (c == 0) := by by_cases h : c = 0 <;> simp [holds, h]
theorem holds_28 (c : Int) : holds 28 c = decide (c < 0) := by simp [holds]
theorem holds_25 (c : Int) : holds 25 c = decide (c <= 0) := by simp [holds]
theorem holds_22 (c : Int) : holds 22 c = decide (0 < c) := by simp [holds]
theorem holds_21 (c : Int) : holds 21 c = decide (0 <= c) := by simp [holds]
theorem holds_x {op : Int} (h17 : ¬ op = 17) (h31 : ¬ op = 31) (h28 : ¬ op = 28) (h25 : ¬ op = 25) (h22 : ¬ op = 22) (h21 : ¬ op = 21) (c : Int) : holds op c = (c == 0) := by by_cases h : c = 0 <;> simp [holds, h31, h28, h25, h22, h21, h]
def PQ (w : World) (op : Int) (p q : Nat) (k n : Int) (kn : Bool) (k2 n2 : Int) (kn2 : Bool) (V : World) : Prop :=
 (V.cell? ⟨w.heap.size, 0, none⟩ = some (.int .u8 op) /\ (V.cell? ⟨p, 0, none⟩ = some (.int .u8 k) /\ V.cell? ⟨p, 1, none⟩ = some (.int .i32 n) /\ V.cell? ⟨p, 2, none⟩ = some (.bool kn)) /\ V.cell? ⟨q, 0, none⟩ = some (.int .u8 k2) /\ V.cell? ⟨q, 1, none⟩ = some (.int .i32 n2) /\ V.cell? ⟨q, 2, none⟩ = some (.bool kn2)) /\ Below w.heap.size w V /\ p < V.heap.size /\ q < V.heap.size /\ w.heap.size < V.heap.size
section
variable {p q : Nat} {op k n k2 n2 : Int} {kn kn2 : Bool} {w V V' : World}
theorem PQ.below (s : PQ w op p q k n kn k2 n2 kn2 V) : Below w.heap.size w V := s.2.1
theorem PQ.kB (s : PQ w op p q k n kn k2 n2 kn2 V) (h : Below V.heap.size V V') : PQ w op p q k n kn k2 n2 kn2 V' := by
 obtain ⟨⟨a0, ⟨a1, a2, a3⟩, a4, a5, a6⟩, a7, a8, a9, a10⟩ := s
 exact ⟨⟨(h.cell (p := ⟨w.heap.size, 0, none⟩) a10).trans a0, ⟨(h.cell (p := ⟨p, 0, none⟩) a8).trans a1, (h.cell (p := ⟨p, 1, none⟩) a8).trans a2, (h.cell (p := ⟨p, 2, none⟩) a8).trans a3⟩, (h.cell (p := ⟨q, 0, none⟩) a9).trans a4, (h.cell (p := ⟨q, 1, none⟩) a9).trans a5, (h.cell (p := ⟨q, 2, none⟩) a9).trans a6⟩, a7.trans (h.mono a7.size), Nat.lt_of_lt_of_le a8 h.size, Nat.lt_of_lt_of_le a9 h.size, Nat.lt_of_lt_of_le a10 h.size⟩
theorem PQ.kD (s : PQ w op p q k n kn k2 n2 kn2 V) : PQ w op p q k n kn k2 n2 kn2 V.drew := s.kB (Below.refl _ _).drew
end
section
variable {N : Num}
def Cmp6 (op : Int) (a b c d e f : Bool) : Prop := (op == 17) = a /\ (op == 31) = b /\ (op == 28) = c /\ (op == 25) = d /\ (op == 22) = e /\ (op == 21) = f
def CmpC (op : Int) : Prop :=
 ((∀ c, holds op c = (c == 0)) /\ Cmp6 op true false false false false false) \/ ((∀ c, holds op c = (c != 0)) /\ Cmp6 op false true false false false false) \/ ((∀ c, holds op c = decide (c < 0)) /\ Cmp6 op false false true false false false) \/
 ((∀ c, holds op c = decide (c <= 0)) /\ Cmp6 op false false false true false false) \/ ((∀ c, holds op c = decide (0 < c)) /\ Cmp6 op false false false false true false) \/ ((∀ c, holds op c = decide (0 <= c)) /\ Cmp6 op false false false false false true) \/
 ((∀ c, holds op c = (c == 0)) /\ Cmp6 op false false false false false false)
theorem cmpC (op : Int) : CmpC op := by
 unfold CmpC Cmp6
 by_cases h17 : op = 17
 ·subst h17; exact .inl ⟨holds_17, by decide⟩
 by_cases h31 : op = 31
 ·subst h31; exact .inr (.inl ⟨holds_31, by decide⟩)
 by_cases h28 : op = 28
 ·subst h28; exact .inr (.inr (.inl ⟨holds_28, by decide⟩))
 by_cases h25 : op = 25
 ·subst h25; exact .inr (.inr (.inr (.inl ⟨holds_25, by decide⟩)))
 by_cases h22 : op = 22
 ·subst h22; exact .inr (.inr (.inr (.inr (.inl ⟨holds_22, by decide⟩))))
 by_cases h21 : op = 21
 ·subst h21; exact .inr (.inr (.inr (.inr (.inr (.inl ⟨holds_21, by decide⟩)))))
 exact .inr (.inr (.inr (.inr (.inr (.inr ⟨holds_x h17 h31 h28 h25 h22 h21, by simp [h17, h31, h28, h25, h22, h21]⟩)))))
def CmpT (op : Int) : Prop := ((∀ c, holds op c = (c == 0)) /\ Cmp6 op true false false false false false) \/ ((∀ c, holds op c = (c != 0)) /\ Cmp6 op false true false false false false)
set_option maxHeartbeats 40000000 in
theorem cmp_a (op cn k n n2 : Int) (kn kn2 : Bool) (ho : CmpC op) (hk2 : ¬ k = 2) (hk2b : (k == 2) = false) (hk2c : (k != 2) = true) (bl ol cl b base : Nat) (v : Value) (cs : List Cel) (w : World) (h : OpH w b base v cs bl ol [⟨k, n, kn⟩, ⟨k, n2, kn2⟩]) :
  Calls Tryz.prog 54 #[.pointer (some ⟨b, 0, none⟩), cd ⟨op, cn⟩, .slice (some ⟨bl, ol, none⟩) 2 cl] w (OpP N 11 ⟨op, cn⟩ [⟨k, n, kn⟩, ⟨k, n2, kn2⟩] cs b base v w) := by
 have hA := (Below.refl w.heap.size w).alloc (Nat.le_refl _) (.cells #[.int .u8 op, .int .i32 cn] 41)
 obtain ⟨c0, c1, c2⟩ := cel_at (h.ce.on hA) (i := 0) (a := ⟨k, n, kn⟩) rfl
 simp only [Nat.zero_mul, Nat.add_zero] at c0 c1 c2
 obtain ⟨d0, d1, d2⟩ := cel_at (h.ce.on hA) (i := 1) (a := ⟨k, n2, kn2⟩) rfl
 simp only [Nat.one_mul] at d0 d1 d2
 have hfr : bl < (w.alloc (.cells #[.int .u8 op, .int .i32 cn] 41)).heap.size /\ bl ≠ b /\ some bl ≠ v.ownBlock /\ ∀ g, v.ownBlock = some g -> g < (w.alloc (.cells #[.int .u8 op, .int .i32 cn] 41)).heap.size := ⟨by have := h.bw; simp; omega, h.nb, h.nv, fun g hg => by have := (own_lt h.st.o g hg).1; simp; omega⟩
 have s0 : CL2 bl ol k n kn k n2 kn2 (w.alloc (.cells #[.int .u8 op, .int .i32 cn] 41)) b v (w.alloc (.cells #[.int .u8 op, .int .i32 cn] 41)) := ⟨⟨⟨c0, c1, c2⟩, Kept.refl _ _ _, hfr⟩, ⟨⟨d0, d1, d2⟩, Kept.refl _ _ _, hfr⟩⟩
 have hsz : cs.length + 1 <= 1000 := by have := h.sz; omega
 have H := Lib.hid h
 clear h hfr
 rcases ho with ⟨hh, h17b, h31b, h28b, h25b, h22b, h21b⟩ | ⟨hh, h17b, h31b, h28b, h25b, h22b, h21b⟩ | ⟨hh, h17b, h31b, h28b, h25b, h22b, h21b⟩ | ⟨hh, h17b, h31b, h28b, h25b, h22b, h21b⟩ | ⟨hh, h17b, h31b, h28b, h25b, h22b, h21b⟩ | ⟨hh, h17b, h31b, h28b, h25b, h22b, h21b⟩ | ⟨hh, h17b, h31b, h28b, h25b, h22b, h21b⟩
 all_goals
  go_enter Tryz.func54, Tryz.ntmps54
  simp only [cd]
  go_wp2_with (fail)
  go_region_held3 (fun V => ((V.cell? ⟨bl, ol, none⟩ = some (.int .u8 k) /\ V.cell? ⟨bl, ol + 1, none⟩ = some (.int .i32 n) /\ V.cell? ⟨bl, ol + 2, none⟩ = some (.bool kn)) /\ Kept (w.alloc (.cells #[.int .u8 op, .int .i32 cn] 41)) V b v /\ bl < (w.alloc (.cells #[.int .u8 op, .int .i32 cn] 41)).heap.size /\ bl ≠ b /\ some bl ≠ v.ownBlock /\ ∀ g, v.ownBlock = some g -> g < (w.alloc (.cells #[.int .u8 op, .int .i32 cn] 41)).heap.size) /\ ((V.cell? ⟨bl, ol + 3, none⟩ = some (.int .u8 k) /\ V.cell? ⟨bl, ol + 3 + 1, none⟩ = some (.int .i32 n2) /\ V.cell? ⟨bl, ol + 3 + 2, none⟩ = some (.bool kn2)) /\ Kept (w.alloc (.cells #[.int .u8 op, .int .i32 cn] 41)) V b v /\ bl < (w.alloc (.cells #[.int .u8 op, .int .i32 cn] 41)).heap.size /\ bl ≠ b /\ some bl ≠ v.ownBlock /\ ∀ g, v.ownBlock = some g -> g < (w.alloc (.cells #[.int .u8 op, .int .i32 cn] 41)).heap.size))
   (first | exact s0 | exact CL2.kA _ s0 | exact CL2.kA _ (CL2.kA _ s0) | exact CL2.kD s0 | exact CL2.kA _ (CL2.kD s0) | exact CL2.kA _ (CL2.kA _ (CL2.kD s0)) | exact CL2.kD (CL2.kA _ s0) | exact CL2.kD (CL2.kA _ (CL2.kA _ s0)) | exact CL2.kA _ (CL2.kD (CL2.kA _ s0)) | assumption | exact CL2.kD (by assumption) | exact CL2.kA _ (by assumption))
   (first | fail)
  ·skip
   have hB1 := ((hA.alloc hA.size (.cells #[.int .u8 k, .int .i32 n, .bool kn] 72)).alloc (by simp; omega) (.cells #[.int .u8 k, .int .i32 n2, .bool kn2] 72)).drew
   go_wp2_with (first
    | (go_at_call 55; refine (must_ok _ _).mono ?_; rintro e w' ⟨rfl, rfl⟩)
    | (go_at_call 81; refine (cmp32 n n2 _).mono ?_; rintro e w' ⟨rfl, rfl⟩)
    | (go_at_call 67; refine (truth_any _ _).mono ?_; rintro e w2 ⟨rfl, hB2⟩; unfold cv; have hA2 := hB1.trans (hB2.mono hB1.size))
    | (go_at_call 65; refine (puts_any b base v cs [truth _] _ 1 1 _ (H.out.st.on (hA2.alloc hA2.size _)) (cels_new _ (truth _) _) rfl (fun q => by cases q) hsz).mono ?_; rintro e w3 ⟨rfl, hS3, hK3⟩))
   refine bodyPost_end (v := .tuple #[]) (by simp [results, Tryz.f54]) rfl ?_
   exact opP_fin (does11 (by simp [hk2]) (by rw [cmpF_same]; exact hh _)) (hA2.alloc hA2.size _) hS3 hK3
  ·skip
   have hB1 := ((hA.alloc hA.size (.cells #[.int .u8 k, .int .i32 n2, .bool kn2] 72)).alloc (by simp; omega) (.cells #[.int .u8 k, .int .i32 n, .bool kn] 72)).drew
   go_wp2_with (first
    | (go_at_call 55; refine (must_ok _ _).mono ?_; rintro e w' ⟨rfl, rfl⟩)
    | (go_at_call 81; refine (cmp32 n n2 _).mono ?_; rintro e w' ⟨rfl, rfl⟩)
    | (go_at_call 67; refine (truth_any _ _).mono ?_; rintro e w2 ⟨rfl, hB2⟩; unfold cv; have hA2 := hB1.trans (hB2.mono hB1.size))
    | (go_at_call 65; refine (puts_any b base v cs [truth _] _ 1 1 _ (H.out.st.on (hA2.alloc hA2.size _)) (cels_new _ (truth _) _) rfl (fun q => by cases q) hsz).mono ?_; rintro e w3 ⟨rfl, hS3, hK3⟩))
   refine bodyPost_end (v := .tuple #[]) (by simp [results, Tryz.f54]) rfl ?_
   exact opP_fin (does11 (by simp [hk2]) (by rw [cmpF_same]; exact hh _)) (hA2.alloc hA2.size _) hS3 hK3
set_option maxHeartbeats 40000000 in
theorem cmp_b (op cn k k2 n n2 : Int) (kn kn2 : Bool) (ho : CmpC op) (hk2 : ¬ k = 2) (hk2b : (k == 2) = false) (hk2c : (k != 2) = true) (hj2 : ¬ k2 = 2) (hj2b : (k2 == 2) = false) (hk : ¬ k = k2) (hkc : (k != k2) = true) (ja : J32 n) (jb : J32 n2) (bl ol cl b base : Nat) (v : Value) (cs : List Cel) (w : World) (h : OpH w b base v cs bl ol [⟨k, n, kn⟩, ⟨k2, n2, kn2⟩]) :
  Calls Tryz.prog 54 #[.pointer (some ⟨b, 0, none⟩), cd ⟨op, cn⟩, .slice (some ⟨bl, ol, none⟩) 2 cl] w (OpP N 11 ⟨op, cn⟩ [⟨k, n, kn⟩, ⟨k2, n2, kn2⟩] cs b base v w) := by
 have hA := (Below.refl w.heap.size w).alloc (Nat.le_refl _) (.cells #[.int .u8 op, .int .i32 cn] 41)
 obtain ⟨c0, c1, c2⟩ := cel_at (h.ce.on hA) (i := 0) (a := ⟨k, n, kn⟩) rfl
 simp only [Nat.zero_mul, Nat.add_zero] at c0 c1 c2
 obtain ⟨d0, d1, d2⟩ := cel_at (h.ce.on hA) (i := 1) (a := ⟨k2, n2, kn2⟩) rfl
 simp only [Nat.one_mul] at d0 d1 d2
 have hfr : bl < (w.alloc (.cells #[.int .u8 op, .int .i32 cn] 41)).heap.size /\ bl ≠ b /\ some bl ≠ v.ownBlock /\ ∀ g, v.ownBlock = some g -> g < (w.alloc (.cells #[.int .u8 op, .int .i32 cn] 41)).heap.size := ⟨by have := h.bw; simp; omega, h.nb, h.nv, fun g hg => by have := (own_lt h.st.o g hg).1; simp; omega⟩
 have s0 : CL2 bl ol k n kn k2 n2 kn2 (w.alloc (.cells #[.int .u8 op, .int .i32 cn] 41)) b v (w.alloc (.cells #[.int .u8 op, .int .i32 cn] 41)) := ⟨⟨⟨c0, c1, c2⟩, Kept.refl _ _ _, hfr⟩, ⟨⟨d0, d1, d2⟩, Kept.refl _ _ _, hfr⟩⟩
 have hsz : cs.length + 1 <= 1000 := by have := h.sz; omega
 have H := Lib.hid h
 clear h hfr
 rcases ho with ⟨hh, h17b, h31b, h28b, h25b, h22b, h21b⟩ | ⟨hh, h17b, h31b, h28b, h25b, h22b, h21b⟩ | ⟨hh, h17b, h31b, h28b, h25b, h22b, h21b⟩ | ⟨hh, h17b, h31b, h28b, h25b, h22b, h21b⟩ | ⟨hh, h17b, h31b, h28b, h25b, h22b, h21b⟩ | ⟨hh, h17b, h31b, h28b, h25b, h22b, h21b⟩ | ⟨hh, h17b, h31b, h28b, h25b, h22b, h21b⟩
 all_goals
  go_enter Tryz.func54, Tryz.ntmps54
  simp only [cd]
  go_wp2_with (fail)
  go_region_held3 (fun V => ((V.cell? ⟨bl, ol, none⟩ = some (.int .u8 k) /\ V.cell? ⟨bl, ol + 1, none⟩ = some (.int .i32 n) /\ V.cell? ⟨bl, ol + 2, none⟩ = some (.bool kn)) /\ Kept (w.alloc (.cells #[.int .u8 op, .int .i32 cn] 41)) V b v /\ bl < (w.alloc (.cells #[.int .u8 op, .int .i32 cn] 41)).heap.size /\ bl ≠ b /\ some bl ≠ v.ownBlock /\ ∀ g, v.ownBlock = some g -> g < (w.alloc (.cells #[.int .u8 op, .int .i32 cn] 41)).heap.size) /\ ((V.cell? ⟨bl, ol + 3, none⟩ = some (.int .u8 k2) /\ V.cell? ⟨bl, ol + 3 + 1, none⟩ = some (.int .i32 n2) /\ V.cell? ⟨bl, ol + 3 + 2, none⟩ = some (.bool kn2)) /\ Kept (w.alloc (.cells #[.int .u8 op, .int .i32 cn] 41)) V b v /\ bl < (w.alloc (.cells #[.int .u8 op, .int .i32 cn] 41)).heap.size /\ bl ≠ b /\ some bl ≠ v.ownBlock /\ ∀ g, v.ownBlock = some g -> g < (w.alloc (.cells #[.int .u8 op, .int .i32 cn] 41)).heap.size))
   (first | exact s0 | exact CL2.kA _ s0 | exact CL2.kA _ (CL2.kA _ s0) | exact CL2.kD s0 | exact CL2.kA _ (CL2.kD s0) | exact CL2.kA _ (CL2.kA _ (CL2.kD s0)) | exact CL2.kD (CL2.kA _ s0) | exact CL2.kD (CL2.kA _ (CL2.kA _ s0)) | exact CL2.kA _ (CL2.kD (CL2.kA _ s0)) | assumption | exact CL2.kD (by assumption) | exact CL2.kA _ (by assumption))
   (first | fail)
  ·skip
   have hB1 := ((hA.alloc hA.size (.cells #[.int .u8 k, .int .i32 n, .bool kn] 72)).alloc (by simp; omega) (.cells #[.int .u8 k2, .int .i32 n2, .bool kn2] 72)).drew
   have sq : PQ w op (w.heap.size + 1) (w.heap.size + 1 + 1) k n kn k2 n2 kn2 ((((w.alloc (.cells #[.int .u8 op, .int .i32 cn] 41)).alloc (.cells #[.int .u8 k, .int .i32 n, .bool kn] 72)).alloc (.cells #[.int .u8 k2, .int .i32 n2, .bool kn2] 72)).drew) := ⟨⟨by simp [go_sem], ⟨by simp [go_sem], by simp [go_sem], by simp [go_sem]⟩, by simp [go_sem], by simp [go_sem], by simp [go_sem]⟩, hB1, by simp, by simp, by simp; omega⟩
   go_wp2_with (first
    | (go_at_call 55; refine (must_ok _ _).mono ?_; rintro e w' ⟨rfl, rfl⟩)
    | (go_at_call 81; refine (cmp32 n n2 _).mono ?_; rintro e w' ⟨rfl, rfl⟩))
   go_region_held3 (fun V => (V.cell? ⟨w.heap.size, 0, none⟩ = some (.int .u8 op) /\ (V.cell? ⟨w.heap.size + 1, 0, none⟩ = some (.int .u8 k) /\ V.cell? ⟨w.heap.size + 1, 1, none⟩ = some (.int .i32 n) /\ V.cell? ⟨w.heap.size + 1, 2, none⟩ = some (.bool kn)) /\ V.cell? ⟨w.heap.size + 1 + 1, 0, none⟩ = some (.int .u8 k2) /\ V.cell? ⟨w.heap.size + 1 + 1, 1, none⟩ = some (.int .i32 n2) /\ V.cell? ⟨w.heap.size + 1 + 1, 2, none⟩ = some (.bool kn2)) /\ Below w.heap.size w V /\ w.heap.size + 1 < V.heap.size /\ w.heap.size + 1 + 1 < V.heap.size /\ w.heap.size < V.heap.size)
    (first | exact sq | exact PQ.kD sq | assumption | exact PQ.kB (by assumption) (by assumption) | exact PQ.kD (by assumption))
    (first
     | (go_at_call 72; refine (fix_ex _ _ _ (by assumption) _).mono ?_; rintro e w8 ⟨rfl, hB8⟩)
     | (go_at_call 82; refine (cmpFx _ _ _).mono ?_; rintro e w8 ⟨rfl, rfl⟩))
   all_goals rename_i sl
   all_goals have hB9 := PQ.below sl
   all_goals obtain ⟨⟨q0, ⟨q1, q2, q3⟩, q4, q5, q6⟩, _, q7, q8, q9⟩ := sl
   all_goals go_wp2_with (first
    | (go_at_call 67; refine (truth_any _ _).mono ?_; rintro e w2 ⟨rfl, hB2⟩; unfold cv; have hA2 := hB9.trans (hB2.mono hB9.size))
    | (go_at_call 65; refine (puts_any b base v cs [truth _] _ 1 1 _ (H.out.st.on (hA2.alloc hA2.size _)) (cels_new _ (truth _) _) rfl (fun q => by cases q) hsz).mono ?_; rintro e w3 ⟨rfl, hS3, hK3⟩))
   all_goals refine bodyPost_end (v := .tuple #[]) (by simp [results, Tryz.f54]) rfl ?_
   all_goals exact opP_fin (does11 (by simp [hk2, hj2]) (by rw [cmpF_diff hk]; exact hh _)) (hA2.alloc hA2.size _) hS3 hK3
  ·skip
   have hB1 := ((hA.alloc hA.size (.cells #[.int .u8 k2, .int .i32 n2, .bool kn2] 72)).alloc (by simp; omega) (.cells #[.int .u8 k, .int .i32 n, .bool kn] 72)).drew
   have sq : PQ w op (w.heap.size + 1 + 1) (w.heap.size + 1) k n kn k2 n2 kn2 ((((w.alloc (.cells #[.int .u8 op, .int .i32 cn] 41)).alloc (.cells #[.int .u8 k2, .int .i32 n2, .bool kn2] 72)).alloc (.cells #[.int .u8 k, .int .i32 n, .bool kn] 72)).drew) := ⟨⟨by simp [go_sem], ⟨by simp [go_sem], by simp [go_sem], by simp [go_sem]⟩, by simp [go_sem], by simp [go_sem], by simp [go_sem]⟩, hB1, by simp, by simp, by simp; omega⟩
   go_wp2_with (first
    | (go_at_call 55; refine (must_ok _ _).mono ?_; rintro e w' ⟨rfl, rfl⟩)
    | (go_at_call 81; refine (cmp32 n n2 _).mono ?_; rintro e w' ⟨rfl, rfl⟩))
   go_region_held3 (fun V => (V.cell? ⟨w.heap.size, 0, none⟩ = some (.int .u8 op) /\ (V.cell? ⟨w.heap.size + 1 + 1, 0, none⟩ = some (.int .u8 k) /\ V.cell? ⟨w.heap.size + 1 + 1, 1, none⟩ = some (.int .i32 n) /\ V.cell? ⟨w.heap.size + 1 + 1, 2, none⟩ = some (.bool kn)) /\ V.cell? ⟨w.heap.size + 1, 0, none⟩ = some (.int .u8 k2) /\ V.cell? ⟨w.heap.size + 1, 1, none⟩ = some (.int .i32 n2) /\ V.cell? ⟨w.heap.size + 1, 2, none⟩ = some (.bool kn2)) /\ Below w.heap.size w V /\ w.heap.size + 1 + 1 < V.heap.size /\ w.heap.size + 1 < V.heap.size /\ w.heap.size < V.heap.size)
    (first | exact sq | exact PQ.kD sq | assumption | exact PQ.kB (by assumption) (by assumption) | exact PQ.kD (by assumption))
    (first
     | (go_at_call 72; refine (fix_ex _ _ _ (by assumption) _).mono ?_; rintro e w8 ⟨rfl, hB8⟩)
     | (go_at_call 82; refine (cmpFx _ _ _).mono ?_; rintro e w8 ⟨rfl, rfl⟩))
   all_goals rename_i sl
   all_goals have hB9 := PQ.below sl
   all_goals obtain ⟨⟨q0, ⟨q1, q2, q3⟩, q4, q5, q6⟩, _, q7, q8, q9⟩ := sl
   all_goals go_wp2_with (first
    | (go_at_call 67; refine (truth_any _ _).mono ?_; rintro e w2 ⟨rfl, hB2⟩; unfold cv; have hA2 := hB9.trans (hB2.mono hB9.size))
    | (go_at_call 65; refine (puts_any b base v cs [truth _] _ 1 1 _ (H.out.st.on (hA2.alloc hA2.size _)) (cels_new _ (truth _) _) rfl (fun q => by cases q) hsz).mono ?_; rintro e w3 ⟨rfl, hS3, hK3⟩))
   all_goals refine bodyPost_end (v := .tuple #[]) (by simp [results, Tryz.f54]) rfl ?_
   all_goals exact opP_fin (does11 (by simp [hk2, hj2]) (by rw [cmpF_diff hk]; exact hh _)) (hA2.alloc hA2.size _) hS3 hK3
set_option maxHeartbeats 40000000 in
theorem cmp_c (op cn n n2 : Int) (kn kn2 : Bool) (ho : CmpT op) (ho2 : op = 17 \/ op = 31) (bl ol cl b base : Nat) (v : Value) (cs : List Cel) (w : World) (h : OpH w b base v cs bl ol [⟨2, n, kn⟩, ⟨2, n2, kn2⟩]) :
  Calls Tryz.prog 54 #[.pointer (some ⟨b, 0, none⟩), cd ⟨op, cn⟩, .slice (some ⟨bl, ol, none⟩) 2 cl] w (OpP N 11 ⟨op, cn⟩ [⟨2, n, kn⟩, ⟨2, n2, kn2⟩] cs b base v w) := by
 have hA := (Below.refl w.heap.size w).alloc (Nat.le_refl _) (.cells #[.int .u8 op, .int .i32 cn] 41)
 obtain ⟨c0, c1, c2⟩ := cel_at (h.ce.on hA) (i := 0) (a := ⟨2, n, kn⟩) rfl
 simp only [Nat.zero_mul, Nat.add_zero] at c0 c1 c2
 obtain ⟨d0, d1, d2⟩ := cel_at (h.ce.on hA) (i := 1) (a := ⟨2, n2, kn2⟩) rfl
 simp only [Nat.one_mul] at d0 d1 d2
 have hfr : bl < (w.alloc (.cells #[.int .u8 op, .int .i32 cn] 41)).heap.size /\ bl ≠ b /\ some bl ≠ v.ownBlock /\ ∀ g, v.ownBlock = some g -> g < (w.alloc (.cells #[.int .u8 op, .int .i32 cn] 41)).heap.size := ⟨by have := h.bw; simp; omega, h.nb, h.nv, fun g hg => by have := (own_lt h.st.o g hg).1; simp; omega⟩
 have s0 : CL2 bl ol 2 n kn 2 n2 kn2 (w.alloc (.cells #[.int .u8 op, .int .i32 cn] 41)) b v (w.alloc (.cells #[.int .u8 op, .int .i32 cn] 41)) := ⟨⟨⟨c0, c1, c2⟩, Kept.refl _ _ _, hfr⟩, ⟨⟨d0, d1, d2⟩, Kept.refl _ _ _, hfr⟩⟩
 have hsz : cs.length + 1 <= 1000 := by have := h.sz; omega
 have H := Lib.hid h
 clear h hfr
 rcases ho with ⟨hh, h17b, h31b, h28b, h25b, h22b, h21b⟩ | ⟨hh, h17b, h31b, h28b, h25b, h22b, h21b⟩
 all_goals
  go_enter Tryz.func54, Tryz.ntmps54
  simp only [cd]
  go_wp2_with (fail)
  go_region_held3 (fun V => ((V.cell? ⟨bl, ol, none⟩ = some (.int .u8 2) /\ V.cell? ⟨bl, ol + 1, none⟩ = some (.int .i32 n) /\ V.cell? ⟨bl, ol + 2, none⟩ = some (.bool kn)) /\ Kept (w.alloc (.cells #[.int .u8 op, .int .i32 cn] 41)) V b v /\ bl < (w.alloc (.cells #[.int .u8 op, .int .i32 cn] 41)).heap.size /\ bl ≠ b /\ some bl ≠ v.ownBlock /\ ∀ g, v.ownBlock = some g -> g < (w.alloc (.cells #[.int .u8 op, .int .i32 cn] 41)).heap.size) /\ ((V.cell? ⟨bl, ol + 3, none⟩ = some (.int .u8 2) /\ V.cell? ⟨bl, ol + 3 + 1, none⟩ = some (.int .i32 n2) /\ V.cell? ⟨bl, ol + 3 + 2, none⟩ = some (.bool kn2)) /\ Kept (w.alloc (.cells #[.int .u8 op, .int .i32 cn] 41)) V b v /\ bl < (w.alloc (.cells #[.int .u8 op, .int .i32 cn] 41)).heap.size /\ bl ≠ b /\ some bl ≠ v.ownBlock /\ ∀ g, v.ownBlock = some g -> g < (w.alloc (.cells #[.int .u8 op, .int .i32 cn] 41)).heap.size))
   (first | exact s0 | exact CL2.kA _ s0 | exact CL2.kA _ (CL2.kA _ s0) | exact CL2.kD s0 | exact CL2.kA _ (CL2.kD s0) | exact CL2.kA _ (CL2.kA _ (CL2.kD s0)) | exact CL2.kD (CL2.kA _ s0) | exact CL2.kD (CL2.kA _ (CL2.kA _ s0)) | exact CL2.kA _ (CL2.kD (CL2.kA _ s0)) | assumption | exact CL2.kD (by assumption) | exact CL2.kA _ (by assumption))
   (first | fail)
  ·skip
   have hB1 := ((hA.alloc hA.size (.cells #[.int .u8 2, .int .i32 n, .bool kn] 72)).alloc (by simp; omega) (.cells #[.int .u8 2, .int .i32 n2, .bool kn2] 72)).drew
   go_wp2_with (first
    | (go_at_call 55; refine (must_ok _ _).mono ?_; rintro e w' ⟨rfl, rfl⟩)
    | (go_at_call 81; refine (cmp32 n n2 _).mono ?_; rintro e w' ⟨rfl, rfl⟩)
    | (go_at_call 67; refine (truth_any _ _).mono ?_; rintro e w2 ⟨rfl, hB2⟩; unfold cv; have hA2 := hB1.trans (hB2.mono hB1.size))
    | (go_at_call 65; refine (puts_any b base v cs [truth _] _ 1 1 _ (H.out.st.on (hA2.alloc hA2.size _)) (cels_new _ (truth _) _) rfl (fun q => by cases q) hsz).mono ?_; rintro e w3 ⟨rfl, hS3, hK3⟩))
   refine bodyPost_end (v := .tuple #[]) (by simp [results, Tryz.f54]) rfl ?_
   exact opP_fin (does11 (by simp [ho2]) (by rw [cmpF_same]; exact hh _)) (hA2.alloc hA2.size _) hS3 hK3
  ·skip
   have hB1 := ((hA.alloc hA.size (.cells #[.int .u8 2, .int .i32 n2, .bool kn2] 72)).alloc (by simp; omega) (.cells #[.int .u8 2, .int .i32 n, .bool kn] 72)).drew
   go_wp2_with (first
    | (go_at_call 55; refine (must_ok _ _).mono ?_; rintro e w' ⟨rfl, rfl⟩)
    | (go_at_call 81; refine (cmp32 n n2 _).mono ?_; rintro e w' ⟨rfl, rfl⟩)
    | (go_at_call 67; refine (truth_any _ _).mono ?_; rintro e w2 ⟨rfl, hB2⟩; unfold cv; have hA2 := hB1.trans (hB2.mono hB1.size))
    | (go_at_call 65; refine (puts_any b base v cs [truth _] _ 1 1 _ (H.out.st.on (hA2.alloc hA2.size _)) (cels_new _ (truth _) _) rfl (fun q => by cases q) hsz).mono ?_; rintro e w3 ⟨rfl, hS3, hK3⟩))
   refine bodyPost_end (v := .tuple #[]) (by simp [results, Tryz.f54]) rfl ?_
   exact opP_fin (does11 (by simp [ho2]) (by rw [cmpF_same]; exact hh _)) (hA2.alloc hA2.size _) hS3 hK3
set_option maxHeartbeats 40000000 in
theorem cmp_n0 (op cn n n2 : Int) (kn kn2 : Bool) (ho : (op == 17) = false /\ (op == 31) = false) (h17 : ¬ op = 17) (h31 : ¬ op = 31) (bl ol cl b base : Nat) (v : Value) (cs : List Cel) (w : World) (h : OpH w b base v cs bl ol [⟨2, n, kn⟩, ⟨2, n2, kn2⟩]) :
  Calls Tryz.prog 54 #[.pointer (some ⟨b, 0, none⟩), cd ⟨op, cn⟩, .slice (some ⟨bl, ol, none⟩) 2 cl] w (OpP N 11 ⟨op, cn⟩ [⟨2, n, kn⟩, ⟨2, n2, kn2⟩] cs b base v w) := by
 have hA := (Below.refl w.heap.size w).alloc (Nat.le_refl _) (.cells #[.int .u8 op, .int .i32 cn] 41)
 obtain ⟨c0, c1, c2⟩ := cel_at (h.ce.on hA) (i := 0) (a := ⟨2, n, kn⟩) rfl
 simp only [Nat.zero_mul, Nat.add_zero] at c0 c1 c2
 obtain ⟨d0, d1, d2⟩ := cel_at (h.ce.on hA) (i := 1) (a := ⟨2, n2, kn2⟩) rfl
 simp only [Nat.one_mul] at d0 d1 d2
 have hfr : bl < (w.alloc (.cells #[.int .u8 op, .int .i32 cn] 41)).heap.size /\ bl ≠ b /\ some bl ≠ v.ownBlock /\ ∀ g, v.ownBlock = some g -> g < (w.alloc (.cells #[.int .u8 op, .int .i32 cn] 41)).heap.size := ⟨by have := h.bw; simp; omega, h.nb, h.nv, fun g hg => by have := (own_lt h.st.o g hg).1; simp; omega⟩
 have s0 : CL2 bl ol 2 n kn 2 n2 kn2 (w.alloc (.cells #[.int .u8 op, .int .i32 cn] 41)) b v (w.alloc (.cells #[.int .u8 op, .int .i32 cn] 41)) := ⟨⟨⟨c0, c1, c2⟩, Kept.refl _ _ _, hfr⟩, ⟨⟨d0, d1, d2⟩, Kept.refl _ _ _, hfr⟩⟩
 have hsz : cs.length + 1 <= 1000 := by have := h.sz; omega
 have H := Lib.hid h
 clear h hfr
 rcases ho with ⟨h17b, h31b⟩
 all_goals
  go_enter Tryz.func54, Tryz.ntmps54
  simp only [cd]
  go_wp2_with (fail)
  go_region_held3 (fun V => ((V.cell? ⟨bl, ol, none⟩ = some (.int .u8 2) /\ V.cell? ⟨bl, ol + 1, none⟩ = some (.int .i32 n) /\ V.cell? ⟨bl, ol + 2, none⟩ = some (.bool kn)) /\ Kept (w.alloc (.cells #[.int .u8 op, .int .i32 cn] 41)) V b v /\ bl < (w.alloc (.cells #[.int .u8 op, .int .i32 cn] 41)).heap.size /\ bl ≠ b /\ some bl ≠ v.ownBlock /\ ∀ g, v.ownBlock = some g -> g < (w.alloc (.cells #[.int .u8 op, .int .i32 cn] 41)).heap.size) /\ ((V.cell? ⟨bl, ol + 3, none⟩ = some (.int .u8 2) /\ V.cell? ⟨bl, ol + 3 + 1, none⟩ = some (.int .i32 n2) /\ V.cell? ⟨bl, ol + 3 + 2, none⟩ = some (.bool kn2)) /\ Kept (w.alloc (.cells #[.int .u8 op, .int .i32 cn] 41)) V b v /\ bl < (w.alloc (.cells #[.int .u8 op, .int .i32 cn] 41)).heap.size /\ bl ≠ b /\ some bl ≠ v.ownBlock /\ ∀ g, v.ownBlock = some g -> g < (w.alloc (.cells #[.int .u8 op, .int .i32 cn] 41)).heap.size))
   (first | exact s0 | exact CL2.kA _ s0 | exact CL2.kA _ (CL2.kA _ s0) | exact CL2.kD s0 | exact CL2.kA _ (CL2.kD s0) | exact CL2.kA _ (CL2.kA _ (CL2.kD s0)) | exact CL2.kD (CL2.kA _ s0) | exact CL2.kD (CL2.kA _ (CL2.kA _ s0)) | exact CL2.kA _ (CL2.kD (CL2.kA _ s0)) | assumption | exact CL2.kD (by assumption) | exact CL2.kA _ (by assumption))
   (first | fail)
  all_goals go_wp2_with (go_at_call 55; refine (must_no _ _).mono ?_; rintro e w' ⟨rfl, rfl⟩)
  all_goals exact ⟨rfl, opP_err (by simp [does, h17, h31]) (Kept.of ((((hA.alloc hA.size _).alloc (by simp; omega) _)).drew) _ _)⟩
set_option maxHeartbeats 40000000 in
theorem cmp_n1 (op cn k2 n n2 : Int) (kn kn2 : Bool) (ho : ((op == 17) = true /\ (op == 31) = false) \/ ((op == 17) = false /\ (op == 31) = true) \/ ((op == 17) = false /\ (op == 31) = false)) (hj2 : ¬ k2 = 2) (hj2b : (k2 == 2) = false) (bl ol cl b base : Nat) (v : Value) (cs : List Cel) (w : World) (h : OpH w b base v cs bl ol [⟨2, n, kn⟩, ⟨k2, n2, kn2⟩]) :
  Calls Tryz.prog 54 #[.pointer (some ⟨b, 0, none⟩), cd ⟨op, cn⟩, .slice (some ⟨bl, ol, none⟩) 2 cl] w (OpP N 11 ⟨op, cn⟩ [⟨2, n, kn⟩, ⟨k2, n2, kn2⟩] cs b base v w) := by
 have hA := (Below.refl w.heap.size w).alloc (Nat.le_refl _) (.cells #[.int .u8 op, .int .i32 cn] 41)
 obtain ⟨c0, c1, c2⟩ := cel_at (h.ce.on hA) (i := 0) (a := ⟨2, n, kn⟩) rfl
 simp only [Nat.zero_mul, Nat.add_zero] at c0 c1 c2
 obtain ⟨d0, d1, d2⟩ := cel_at (h.ce.on hA) (i := 1) (a := ⟨k2, n2, kn2⟩) rfl
 simp only [Nat.one_mul] at d0 d1 d2
 have hfr : bl < (w.alloc (.cells #[.int .u8 op, .int .i32 cn] 41)).heap.size /\ bl ≠ b /\ some bl ≠ v.ownBlock /\ ∀ g, v.ownBlock = some g -> g < (w.alloc (.cells #[.int .u8 op, .int .i32 cn] 41)).heap.size := ⟨by have := h.bw; simp; omega, h.nb, h.nv, fun g hg => by have := (own_lt h.st.o g hg).1; simp; omega⟩
 have s0 : CL2 bl ol 2 n kn k2 n2 kn2 (w.alloc (.cells #[.int .u8 op, .int .i32 cn] 41)) b v (w.alloc (.cells #[.int .u8 op, .int .i32 cn] 41)) := ⟨⟨⟨c0, c1, c2⟩, Kept.refl _ _ _, hfr⟩, ⟨⟨d0, d1, d2⟩, Kept.refl _ _ _, hfr⟩⟩
 have hsz : cs.length + 1 <= 1000 := by have := h.sz; omega
 have H := Lib.hid h
 clear h hfr
 rcases ho with ⟨h17b, h31b⟩ | ⟨h17b, h31b⟩ | ⟨h17b, h31b⟩
 all_goals
  go_enter Tryz.func54, Tryz.ntmps54
  simp only [cd]
  go_wp2_with (fail)
  go_region_held3 (fun V => ((V.cell? ⟨bl, ol, none⟩ = some (.int .u8 2) /\ V.cell? ⟨bl, ol + 1, none⟩ = some (.int .i32 n) /\ V.cell? ⟨bl, ol + 2, none⟩ = some (.bool kn)) /\ Kept (w.alloc (.cells #[.int .u8 op, .int .i32 cn] 41)) V b v /\ bl < (w.alloc (.cells #[.int .u8 op, .int .i32 cn] 41)).heap.size /\ bl ≠ b /\ some bl ≠ v.ownBlock /\ ∀ g, v.ownBlock = some g -> g < (w.alloc (.cells #[.int .u8 op, .int .i32 cn] 41)).heap.size) /\ ((V.cell? ⟨bl, ol + 3, none⟩ = some (.int .u8 k2) /\ V.cell? ⟨bl, ol + 3 + 1, none⟩ = some (.int .i32 n2) /\ V.cell? ⟨bl, ol + 3 + 2, none⟩ = some (.bool kn2)) /\ Kept (w.alloc (.cells #[.int .u8 op, .int .i32 cn] 41)) V b v /\ bl < (w.alloc (.cells #[.int .u8 op, .int .i32 cn] 41)).heap.size /\ bl ≠ b /\ some bl ≠ v.ownBlock /\ ∀ g, v.ownBlock = some g -> g < (w.alloc (.cells #[.int .u8 op, .int .i32 cn] 41)).heap.size))
   (first | exact s0 | exact CL2.kA _ s0 | exact CL2.kA _ (CL2.kA _ s0) | exact CL2.kD s0 | exact CL2.kA _ (CL2.kD s0) | exact CL2.kA _ (CL2.kA _ (CL2.kD s0)) | exact CL2.kD (CL2.kA _ s0) | exact CL2.kD (CL2.kA _ (CL2.kA _ s0)) | exact CL2.kA _ (CL2.kD (CL2.kA _ s0)) | assumption | exact CL2.kD (by assumption) | exact CL2.kA _ (by assumption))
   (first | fail)
  all_goals go_wp2_with (go_at_call 55; refine (must_no _ _).mono ?_; rintro e w' ⟨rfl, rfl⟩)
  all_goals exact ⟨rfl, opP_err (by simp [does, hj2]) (Kept.of ((((hA.alloc hA.size _).alloc (by simp; omega) _)).drew) _ _)⟩
set_option maxHeartbeats 40000000 in
theorem cmp_n2 (op cn k n n2 : Int) (kn kn2 : Bool) (ho : ((op == 17) = true /\ (op == 31) = false) \/ ((op == 17) = false /\ (op == 31) = true) \/ ((op == 17) = false /\ (op == 31) = false)) (hk2 : ¬ k = 2) (hk2b : (k == 2) = false) (hk2c : (k != 2) = true) (bl ol cl b base : Nat) (v : Value) (cs : List Cel) (w : World) (h : OpH w b base v cs bl ol [⟨k, n, kn⟩, ⟨2, n2, kn2⟩]) :
  Calls Tryz.prog 54 #[.pointer (some ⟨b, 0, none⟩), cd ⟨op, cn⟩, .slice (some ⟨bl, ol, none⟩) 2 cl] w (OpP N 11 ⟨op, cn⟩ [⟨k, n, kn⟩, ⟨2, n2, kn2⟩] cs b base v w) := by
 have hA := (Below.refl w.heap.size w).alloc (Nat.le_refl _) (.cells #[.int .u8 op, .int .i32 cn] 41)
 obtain ⟨c0, c1, c2⟩ := cel_at (h.ce.on hA) (i := 0) (a := ⟨k, n, kn⟩) rfl
 simp only [Nat.zero_mul, Nat.add_zero] at c0 c1 c2
 obtain ⟨d0, d1, d2⟩ := cel_at (h.ce.on hA) (i := 1) (a := ⟨2, n2, kn2⟩) rfl
 simp only [Nat.one_mul] at d0 d1 d2
 have hfr : bl < (w.alloc (.cells #[.int .u8 op, .int .i32 cn] 41)).heap.size /\ bl ≠ b /\ some bl ≠ v.ownBlock /\ ∀ g, v.ownBlock = some g -> g < (w.alloc (.cells #[.int .u8 op, .int .i32 cn] 41)).heap.size := ⟨by have := h.bw; simp; omega, h.nb, h.nv, fun g hg => by have := (own_lt h.st.o g hg).1; simp; omega⟩
 have s0 : CL2 bl ol k n kn 2 n2 kn2 (w.alloc (.cells #[.int .u8 op, .int .i32 cn] 41)) b v (w.alloc (.cells #[.int .u8 op, .int .i32 cn] 41)) := ⟨⟨⟨c0, c1, c2⟩, Kept.refl _ _ _, hfr⟩, ⟨⟨d0, d1, d2⟩, Kept.refl _ _ _, hfr⟩⟩
 have hsz : cs.length + 1 <= 1000 := by have := h.sz; omega
 have H := Lib.hid h
 clear h hfr
 rcases ho with ⟨h17b, h31b⟩ | ⟨h17b, h31b⟩ | ⟨h17b, h31b⟩
 all_goals
  go_enter Tryz.func54, Tryz.ntmps54
  simp only [cd]
  go_wp2_with (fail)
  go_region_held3 (fun V => ((V.cell? ⟨bl, ol, none⟩ = some (.int .u8 k) /\ V.cell? ⟨bl, ol + 1, none⟩ = some (.int .i32 n) /\ V.cell? ⟨bl, ol + 2, none⟩ = some (.bool kn)) /\ Kept (w.alloc (.cells #[.int .u8 op, .int .i32 cn] 41)) V b v /\ bl < (w.alloc (.cells #[.int .u8 op, .int .i32 cn] 41)).heap.size /\ bl ≠ b /\ some bl ≠ v.ownBlock /\ ∀ g, v.ownBlock = some g -> g < (w.alloc (.cells #[.int .u8 op, .int .i32 cn] 41)).heap.size) /\ ((V.cell? ⟨bl, ol + 3, none⟩ = some (.int .u8 2) /\ V.cell? ⟨bl, ol + 3 + 1, none⟩ = some (.int .i32 n2) /\ V.cell? ⟨bl, ol + 3 + 2, none⟩ = some (.bool kn2)) /\ Kept (w.alloc (.cells #[.int .u8 op, .int .i32 cn] 41)) V b v /\ bl < (w.alloc (.cells #[.int .u8 op, .int .i32 cn] 41)).heap.size /\ bl ≠ b /\ some bl ≠ v.ownBlock /\ ∀ g, v.ownBlock = some g -> g < (w.alloc (.cells #[.int .u8 op, .int .i32 cn] 41)).heap.size))
   (first | exact s0 | exact CL2.kA _ s0 | exact CL2.kA _ (CL2.kA _ s0) | exact CL2.kD s0 | exact CL2.kA _ (CL2.kD s0) | exact CL2.kA _ (CL2.kA _ (CL2.kD s0)) | exact CL2.kD (CL2.kA _ s0) | exact CL2.kD (CL2.kA _ (CL2.kA _ s0)) | exact CL2.kA _ (CL2.kD (CL2.kA _ s0)) | assumption | exact CL2.kD (by assumption) | exact CL2.kA _ (by assumption))
   (first | fail)
  all_goals go_wp2_with (go_at_call 55; refine (must_no _ _).mono ?_; rintro e w' ⟨rfl, rfl⟩)
  all_goals exact ⟨rfl, opP_err (by simp [does, hk2]) (Kept.of ((((hA.alloc hA.size _).alloc (by simp; omega) _)).drew) _ _)⟩
theorem compares_any (c : Cod) (k n : Int) (kn : Bool) (k2 n2 : Int) (kn2 : Bool) (bl ol cl b base : Nat) (v : Value) (cs : List Cel) (w : World) (h : OpH w b base v cs bl ol [⟨k, n, kn⟩, ⟨k2, n2, kn2⟩]) :
  Calls Tryz.prog 54 #[.pointer (some ⟨b, 0, none⟩), cd c, .slice (some ⟨bl, ol, none⟩) 2 cl] w (OpP N 11 c [⟨k, n, kn⟩, ⟨k2, n2, kn2⟩] cs b base v w) := by
 obtain ⟨op, cn⟩ := c
 have ja : J32 n := (h.gl ⟨k, n, kn⟩ (List.mem_cons_self ..)).r
 have jb : J32 n2 := (h.gl ⟨k2, n2, kn2⟩ (List.mem_cons_of_mem _ (List.mem_cons_self ..))).r
 have e1 : ∀ {a b : Int}, ¬ a = b -> (a == b) = false := fun h => by simpa using h
 have e2 : ∀ {a b : Int}, ¬ a = b -> (a != b) = true := fun h => by simpa using h
 have o3 : ((op == 17) = true /\ (op == 31) = false) \/ ((op == 17) = false /\ (op == 31) = true) \/ ((op == 17) = false /\ (op == 31) = false) := by
  by_cases h17 : op = 17
  ·subst h17; exact .inl (by decide)
  by_cases h31 : op = 31
  ·subst h31; exact .inr (.inl (by decide))
  exact .inr (.inr ⟨e1 h17, e1 h31⟩)
 by_cases hk2 : k = 2
 ·subst hk2
  by_cases hj2 : k2 = 2
  ·subst hj2
   by_cases h17 : op = 17
   ·exact cmp_c op cn n n2 kn kn2 (by subst h17; exact .inl ⟨holds_17, by unfold Cmp6; decide⟩) (.inl h17) bl ol cl b base v cs w h
   by_cases h31 : op = 31
   ·exact cmp_c op cn n n2 kn kn2 (by subst h31; exact .inr ⟨holds_31, by unfold Cmp6; decide⟩) (.inr h31) bl ol cl b base v cs w h
   exact cmp_n0 op cn n n2 kn kn2 ⟨e1 h17, e1 h31⟩ h17 h31 bl ol cl b base v cs w h
  ·exact cmp_n1 op cn k2 n n2 kn kn2 o3 hj2 (e1 hj2) bl ol cl b base v cs w h
 by_cases hj2 : k2 = 2
 ·subst hj2
  exact cmp_n2 op cn k n n2 kn kn2 o3 hk2 (e1 hk2) (e2 hk2) bl ol cl b base v cs w h
 by_cases hk : k = k2
 ·subst hk
  exact cmp_a op cn k n n2 kn kn2 (cmpC op) hk2 (e1 hk2) (e2 hk2) bl ol cl b base v cs w h
 exact cmp_b op cn k k2 n n2 kn kn2 (cmpC op) hk2 (e1 hk2) (e2 hk2) hj2 (e1 hj2) hk (e2 hk) ja jb bl ol cl b base v cs w h
end
end Go.Proofs.YtcjllibeaiofpaaGreatDoor
