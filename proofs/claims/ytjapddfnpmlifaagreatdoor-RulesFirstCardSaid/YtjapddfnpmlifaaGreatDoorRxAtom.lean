/- The contract of rex.reader.atom, case for case. -/
import Derived.Test.YtjapddfnpmlifaaGreatDoorRunRxTree
namespace Go.Proofs.YtjapddfnpmlifaaGreatDoor
set_option linter.unusedVariables false
set_option linter.unusedSimpArgs false
open Go.RowKit

theorem RetP.from {R : Nat} {s : ByteArray} {w w2 w' : World} {p : Pc} {q : Rs} {e : Ending} (x : GX R w w2) (h : RetP R s w2 p q e w') : RetP R s w p q e w' := by
 obtain ⟨b, n, he, k, y, hr⟩ := h
 have := x.size
 exact ⟨b, n, he, Pc.In.wide (by omega) (Nat.le_refl _) _ _ k, x.trans y, hr⟩

set_option maxRecDepth 100000 in
set_option maxHeartbeats 3200000 in
theorem atom_group {w : World} {R n : Nat} {s : ByteArray} {q : Rs} (h : Rdr w R s n q) (hs : (s.size : Int) ≤ 4096) {c : UInt8} {r : List UInt8} (hq : q.rest = c :: r) (hc : c.toNat = 40) (P : Pc) (t : Rs) (HG : ∀ W, Rdr W R s (n + 1) { q with rest := r } → Calls Tryz.prog 152 #[.pointer (some ⟨R, 0, none⟩)] W (RetP R s W P t)) :
  Calls Tryz.prog 146 #[.pointer (some ⟨R, 0, none⟩)] w (RetP R s w P t) := by
 have Q := fun w (h : Rdr w R s n q) => now_some h hs hq
 simp only [hc] at Q
 have hle := h.len
 rw [hq] at hle
 simp at hle
 have hn : (n : Int) < 4096 := by omega
 have hwr := wrap_in ((n : Int) + 1) (by omega) (by omega)
 clear hle
 go_enter Tryz.func146, Tryz.ntmps146
 go_upto_region 2 with (go_at_call 135; refine (Q _ h).mono ?_; rintro e w1 ⟨rfl, g1⟩)
 have h1 := h.gr g1
 obtain ⟨c1, f1⟩ := And.intro h1.c1 h1.f1
 go_upto_region 3 with (fail)
 have h2 := h1.next hq
 have x2 : GX R w (w1.setCell ⟨R, 1, none⟩ (.int .i64 ((n : Int) + 1))) := GX.setCell (p := ⟨R, 1, none⟩) (GX.of_gr (R := R) g1) (.inl rfl) _
 clear c1 f1 h1 g1 Q hwr h hq
 generalize (w1.setCell ⟨R, 1, none⟩ (.int .i64 ((n : Int) + 1))) = w2 at h2 x2 ⊢
 go_wp2_with (go_at_call 152; refine (HG _ h2).mono ?_; rintro e w9 ⟨b, m9, rfl, k9, x9, h9⟩)
 go_ret
 exact RetP.from (x2) ⟨b, m9, rfl, k9, x9, h9⟩

set_option maxRecDepth 100000 in
set_option maxHeartbeats 3200000 in
theorem atom_begin {w : World} {R n : Nat} {s : ByteArray} {q : Rs} (h : Rdr w R s n q) (hs : (s.size : Int) ≤ 4096) {c : UInt8} {r : List UInt8} (hq : q.rest = c :: r) (hc : c.toNat = 94) :
  Calls Tryz.prog 146 #[.pointer (some ⟨R, 0, none⟩)] w (RetP R s w (.leaf 5 []) { q with rest := r }) := by
 have Q := fun w (h : Rdr w R s n q) => now_some h hs hq
 simp only [hc] at Q
 have hle := h.len
 rw [hq] at hle
 simp at hle
 have hn : (n : Int) < 4096 := by omega
 have hwr := wrap_in ((n : Int) + 1) (by omega) (by omega)
 clear hle
 go_enter Tryz.func146, Tryz.ntmps146
 go_upto_region 2 with (go_at_call 135; refine (Q _ h).mono ?_; rintro e w1 ⟨rfl, g1⟩)
 have h1 := h.gr g1
 obtain ⟨c1, f1⟩ := And.intro h1.c1 h1.f1
 go_upto_region 3 with (fail)
 have h2 := h1.next hq
 have x2 : GX R w (w1.setCell ⟨R, 1, none⟩ (.int .i64 ((n : Int) + 1))) := GX.setCell (p := ⟨R, 1, none⟩) (GX.of_gr (R := R) g1) (.inl rfl) _
 clear c1 f1 h1 g1 Q hwr h hq
 generalize (w1.setCell ⟨R, 1, none⟩ (.int .i64 ((n : Int) + 1))) = w2 at h2 x2 ⊢
 go_wp2
 go_ret
 exact RetP.leaf x2 h2 5 []

set_option maxRecDepth 100000 in
set_option maxHeartbeats 3200000 in
theorem atom_end {w : World} {R n : Nat} {s : ByteArray} {q : Rs} (h : Rdr w R s n q) (hs : (s.size : Int) ≤ 4096) {c : UInt8} {r : List UInt8} (hq : q.rest = c :: r) (hc : c.toNat = 36) :
  Calls Tryz.prog 146 #[.pointer (some ⟨R, 0, none⟩)] w (RetP R s w (.leaf 6 []) { q with rest := r }) := by
 have Q := fun w (h : Rdr w R s n q) => now_some h hs hq
 simp only [hc] at Q
 have hle := h.len
 rw [hq] at hle
 simp at hle
 have hn : (n : Int) < 4096 := by omega
 have hwr := wrap_in ((n : Int) + 1) (by omega) (by omega)
 clear hle
 go_enter Tryz.func146, Tryz.ntmps146
 go_upto_region 2 with (go_at_call 135; refine (Q _ h).mono ?_; rintro e w1 ⟨rfl, g1⟩)
 have h1 := h.gr g1
 obtain ⟨c1, f1⟩ := And.intro h1.c1 h1.f1
 go_upto_region 3 with (fail)
 have h2 := h1.next hq
 have x2 : GX R w (w1.setCell ⟨R, 1, none⟩ (.int .i64 ((n : Int) + 1))) := GX.setCell (p := ⟨R, 1, none⟩) (GX.of_gr (R := R) g1) (.inl rfl) _
 clear c1 f1 h1 g1 Q hwr h hq
 generalize (w1.setCell ⟨R, 1, none⟩ (.int .i64 ((n : Int) + 1))) = w2 at h2 x2 ⊢
 go_wp2
 go_ret
 exact RetP.leaf x2 h2 6 []

set_option maxRecDepth 100000 in
set_option maxHeartbeats 3200000 in
theorem atom_any {w : World} {R n : Nat} {s : ByteArray} {q : Rs} (h : Rdr w R s n q) (hs : (s.size : Int) ≤ 4096) {c : UInt8} {r : List UInt8} (hq : q.rest = c :: r) (hc : c.toNat = 46) :
  Calls Tryz.prog 146 #[.pointer (some ⟨R, 0, none⟩)] w (RetP R s w (.leaf 1 (pairsS (notB (oneB 10)))) { q with rest := r }) := by
 have Q := fun w (h : Rdr w R s n q) => now_some h hs hq
 simp only [hc] at Q
 have hle := h.len
 rw [hq] at hle
 simp at hle
 have hn : (n : Int) < 4096 := by omega
 have hwr := wrap_in ((n : Int) + 1) (by omega) (by omega)
 clear hle
 go_enter Tryz.func146, Tryz.ntmps146
 go_upto_region 2 with (go_at_call 135; refine (Q _ h).mono ?_; rintro e w1 ⟨rfl, g1⟩)
 have h1 := h.gr g1
 obtain ⟨c1, f1⟩ := And.intro h1.c1 h1.f1
 go_upto_region 3 with (fail)
 have h2 := h1.next hq
 have x2 : GX R w (w1.setCell ⟨R, 1, none⟩ (.int .i64 ((n : Int) + 1))) := GX.setCell (p := ⟨R, 1, none⟩) (GX.of_gr (R := R) g1) (.inl rfl) _
 clear c1 f1 h1 g1 Q hwr h hq
 generalize (w1.setCell ⟨R, 1, none⟩ (.int .i64 ((n : Int) + 1))) = w2 at h2 x2 ⊢
 go_wp2_with (first
  | (go_at_call 153; refine (one_any 10 _ (by decide)).mono ?_; rintro e w3 ⟨rfl, g3⟩)
  | (go_at_call 154; refine (not_any (oneB 10) _).mono ?_; rintro e w4 ⟨rfl, g4⟩)
  | (go_at_call 155; refine (pairs_any (notB (oneB 10)) _).mono ?_; rintro e w5 ⟨rfl, g5⟩))
 go_ret
 exact RetP.leaf (x2.trans (GX.of_gr (Gr.trans (Gr.trans g3 g4) g5))) (h2.gr (Gr.trans (Gr.trans g3 g4) g5)) 1 _

set_option maxRecDepth 100000 in
set_option maxHeartbeats 3200000 in
theorem atom_class {w : World} {R n : Nat} {s : ByteArray} {q : Rs} (h : Rdr w R s n q) (hs : (s.size : Int) ≤ 4096) {c : UInt8} {r : List UInt8} (hq : q.rest = c :: r) (hc : c.toNat = 91) (Z : Option Bs × List UInt8) (hZ : classS r = Z) :
  Calls Tryz.prog 146 #[.pointer (some ⟨R, 0, none⟩)] w (RetP R s w (setS q Z).1 (setS q Z).2) := by
 have Q := fun w (h : Rdr w R s n q) => now_some h hs hq
 simp only [hc] at Q
 have hle := h.len
 rw [hq] at hle
 simp at hle
 have hn : (n : Int) < 4096 := by omega
 have hwr := wrap_in ((n : Int) + 1) (by omega) (by omega)
 clear hle
 go_enter Tryz.func146, Tryz.ntmps146
 go_upto_region 2 with (go_at_call 135; refine (Q _ h).mono ?_; rintro e w1 ⟨rfl, g1⟩)
 have h1 := h.gr g1
 obtain ⟨c1, f1⟩ := And.intro h1.c1 h1.f1
 go_upto_region 3 with (fail)
 have h2 := h1.next hq
 have x2 : GX R w (w1.setCell ⟨R, 1, none⟩ (.int .i64 ((n : Int) + 1))) := GX.setCell (p := ⟨R, 1, none⟩) (GX.of_gr (R := R) g1) (.inl rfl) _
 clear c1 f1 h1 g1 Q hwr h hq
 generalize (w1.setCell ⟨R, 1, none⟩ (.int .i64 ((n : Int) + 1))) = w2 at h2 x2 ⊢
 obtain ⟨hz, hsz⟩ := zero_of_info info_set
 have HC : ∀ W, Rdr W R s (n + 1) { q with rest := r } → Calls Tryz.prog 156 #[.pointer (some ⟨R, 0, none⟩)] W (RetBX R s W (classS r).1 { q with rest := (classS r).2 }) := fun W hW => class_any hW hs
 rw [hZ] at HC
 clear hZ
 obtain ⟨_ | f, u⟩ := Z
 ·
  go_upto_region 14 with (first
   | (go_at_call 156; refine (HC _ h2).mono ?_; rintro e w3 ⟨f, m3, rfl, f3, x3, h3⟩)
   | (refine wpList_store_row rfl 219 (.tmp 5) (.tmp 50) rfl (w3.heap.size) (bsA f) rfl rfl _ _ (SetAt.new w3 noB) (size_bsA _) (by simp only [bsA_size]) (bsA_one _) ?_))
  have g4 : Gr w3 ((w3.alloc (.cells (bsA noB) 219)).setRow w3.heap.size (bsA f)) := Gr.setRow (Gr.alloc (Gr.refl w3) _) (g := w3.heap.size) (Nat.le_refl _) (bsA f)
  generalize ((w3.alloc (.cells (bsA noB) 219)).setRow w3.heap.size (bsA f)) = w4 at g4 ⊢
  have h4 := h3.gr g4
  go_wp2_with (go_at_call 157; refine (fail_any h4).mono ?_; rintro e w9 ⟨b, m9, rfl, k9, x9, h9⟩)
  go_ret
  exact RetP.from (x2.trans (x3.trans (GX.of_gr g4))) ⟨b, m9, rfl, k9, x9, h9⟩
 ·
  go_upto_region 14 with (first
   | (go_at_call 156; refine (HC _ h2).mono ?_; rintro e w3 ⟨f0, m3, rfl, f3, x3, h3⟩; have f3 := (f3 _ rfl).symm; subst f3)
   | (refine wpList_store_row rfl 219 (.tmp 5) (.tmp 50) rfl (w3.heap.size) (bsA f) rfl rfl _ _ (SetAt.new w3 noB) (size_bsA _) (by simp only [bsA_size]) (bsA_one _) ?_))
  have g4 : Gr w3 ((w3.alloc (.cells (bsA noB) 219)).setRow w3.heap.size (bsA f)) := Gr.setRow (Gr.alloc (Gr.refl w3) _) (g := w3.heap.size) (Nat.le_refl _) (bsA f)
  have hs4 : SetAt ((w3.alloc (.cells (bsA noB) 219)).setRow w3.heap.size (bsA f)) w3.heap.size f := SetAt.row (SetAt.new w3 noB)
  generalize ((w3.alloc (.cells (bsA noB) 219)).setRow w3.heap.size (bsA f)) = w4 at g4 hs4 ⊢
  go_wp2_with (first
   | (refine wpList_load_row rfl 219 (.tmp 5) rfl (w3.heap.size) rfl _ (bsA (f)) (0, 0) _ hs4 und_set rfl (size_bsA _) ?_)
   | (go_at_call 155; refine (pairs_any f _).mono ?_; rintro e w5 ⟨rfl, g5⟩))
  go_ret
  exact RetP.leaf (x2.trans (x3.trans (GX.of_gr (Gr.trans g4 g5)))) (h3.gr (Gr.trans g4 g5)) 1 _

set_option maxRecDepth 100000 in
set_option maxHeartbeats 3200000 in
theorem atom_esc {w : World} {R n : Nat} {s : ByteArray} {q : Rs} (h : Rdr w R s n q) (hs : (s.size : Int) ≤ 4096) {c : UInt8} {r : List UInt8} (hq : q.rest = c :: r) (hc : c.toNat = 92) (Z : Option Bs × List UInt8) (hZ : escS r = Z) :
  Calls Tryz.prog 146 #[.pointer (some ⟨R, 0, none⟩)] w (RetP R s w (setS q Z).1 (setS q Z).2) := by
 have Q := fun w (h : Rdr w R s n q) => now_some h hs hq
 simp only [hc] at Q
 have hle := h.len
 rw [hq] at hle
 simp at hle
 have hn : (n : Int) < 4096 := by omega
 have hwr := wrap_in ((n : Int) + 1) (by omega) (by omega)
 clear hle
 go_enter Tryz.func146, Tryz.ntmps146
 go_upto_region 2 with (go_at_call 135; refine (Q _ h).mono ?_; rintro e w1 ⟨rfl, g1⟩)
 have h1 := h.gr g1
 obtain ⟨c1, f1⟩ := And.intro h1.c1 h1.f1
 go_upto_region 3 with (fail)
 have h2 := h1.next hq
 have x2 : GX R w (w1.setCell ⟨R, 1, none⟩ (.int .i64 ((n : Int) + 1))) := GX.setCell (p := ⟨R, 1, none⟩) (GX.of_gr (R := R) g1) (.inl rfl) _
 clear c1 f1 h1 g1 Q hwr h hq
 generalize (w1.setCell ⟨R, 1, none⟩ (.int .i64 ((n : Int) + 1))) = w2 at h2 x2 ⊢
 obtain ⟨hz, hsz⟩ := zero_of_info info_set
 have HC : ∀ W, Rdr W R s (n + 1) { q with rest := r } → Calls Tryz.prog 158 #[.pointer (some ⟨R, 0, none⟩)] W (RetBX R s W (escS r).1 { q with rest := (escS r).2 }) := fun W hW => esc_any hW hs
 rw [hZ] at HC
 clear hZ
 obtain ⟨_ | f, u⟩ := Z
 ·
  go_upto_region 19 with (first
   | (go_at_call 158; refine (HC _ h2).mono ?_; rintro e w3 ⟨f, m3, rfl, f3, x3, h3⟩)
   | (refine wpList_store_row rfl 219 (.tmp 7) (.tmp 65) rfl (w3.heap.size) (bsA f) rfl rfl _ _ (SetAt.new w3 noB) (size_bsA _) (by simp only [bsA_size]) (bsA_one _) ?_))
  have g4 : Gr w3 ((w3.alloc (.cells (bsA noB) 219)).setRow w3.heap.size (bsA f)) := Gr.setRow (Gr.alloc (Gr.refl w3) _) (g := w3.heap.size) (Nat.le_refl _) (bsA f)
  generalize ((w3.alloc (.cells (bsA noB) 219)).setRow w3.heap.size (bsA f)) = w4 at g4 ⊢
  have h4 := h3.gr g4
  go_wp2_with (go_at_call 157; refine (fail_any h4).mono ?_; rintro e w9 ⟨b, m9, rfl, k9, x9, h9⟩)
  go_ret
  exact RetP.from (x2.trans (x3.trans (GX.of_gr g4))) ⟨b, m9, rfl, k9, x9, h9⟩
 ·
  go_upto_region 19 with (first
   | (go_at_call 158; refine (HC _ h2).mono ?_; rintro e w3 ⟨f0, m3, rfl, f3, x3, h3⟩; have f3 := (f3 _ rfl).symm; subst f3)
   | (refine wpList_store_row rfl 219 (.tmp 7) (.tmp 65) rfl (w3.heap.size) (bsA f) rfl rfl _ _ (SetAt.new w3 noB) (size_bsA _) (by simp only [bsA_size]) (bsA_one _) ?_))
  have g4 : Gr w3 ((w3.alloc (.cells (bsA noB) 219)).setRow w3.heap.size (bsA f)) := Gr.setRow (Gr.alloc (Gr.refl w3) _) (g := w3.heap.size) (Nat.le_refl _) (bsA f)
  have hs4 : SetAt ((w3.alloc (.cells (bsA noB) 219)).setRow w3.heap.size (bsA f)) w3.heap.size f := SetAt.row (SetAt.new w3 noB)
  generalize ((w3.alloc (.cells (bsA noB) 219)).setRow w3.heap.size (bsA f)) = w4 at g4 hs4 ⊢
  go_wp2_with (first
   | (refine wpList_load_row rfl 219 (.tmp 7) rfl (w3.heap.size) rfl _ (bsA (f)) (0, 0) _ hs4 und_set rfl (size_bsA _) ?_)
   | (go_at_call 155; refine (pairs_any f _).mono ?_; rintro e w5 ⟨rfl, g5⟩))
  go_ret
  exact RetP.leaf (x2.trans (x3.trans (GX.of_gr (Gr.trans g4 g5)))) (h3.gr (Gr.trans g4 g5)) 1 _

set_option maxRecDepth 100000 in
set_option maxHeartbeats 3200000 in
theorem atom_stop124 {w : World} {R n : Nat} {s : ByteArray} {q : Rs} (h : Rdr w R s n q) (hs : (s.size : Int) ≤ 4096) {c : UInt8} {r : List UInt8} (hq : q.rest = c :: r) (hc : c.toNat = 124) :
  Calls Tryz.prog 146 #[.pointer (some ⟨R, 0, none⟩)] w (RetP R s w (failS { q with rest := r }).1 (failS { q with rest := r }).2) := by
 have Q := fun w (h : Rdr w R s n q) => now_some h hs hq
 simp only [hc] at Q
 have hle := h.len
 rw [hq] at hle
 simp at hle
 have hn : (n : Int) < 4096 := by omega
 have hwr := wrap_in ((n : Int) + 1) (by omega) (by omega)
 clear hle
 go_enter Tryz.func146, Tryz.ntmps146
 go_upto_region 2 with (go_at_call 135; refine (Q _ h).mono ?_; rintro e w1 ⟨rfl, g1⟩)
 have h1 := h.gr g1
 obtain ⟨c1, f1⟩ := And.intro h1.c1 h1.f1
 go_upto_region 3 with (fail)
 have h2 := h1.next hq
 have x2 : GX R w (w1.setCell ⟨R, 1, none⟩ (.int .i64 ((n : Int) + 1))) := GX.setCell (p := ⟨R, 1, none⟩) (GX.of_gr (R := R) g1) (.inl rfl) _
 clear c1 f1 h1 g1 Q hwr h hq
 generalize (w1.setCell ⟨R, 1, none⟩ (.int .i64 ((n : Int) + 1))) = w2 at h2 x2 ⊢
 go_wp2_with (go_at_call 157; refine (fail_any h2).mono ?_; rintro e w9 ⟨b, m9, rfl, k9, x9, h9⟩)
 go_ret
 exact RetP.from (x2) ⟨b, m9, rfl, k9, x9, h9⟩

set_option maxRecDepth 100000 in
set_option maxHeartbeats 3200000 in
theorem atom_stop63 {w : World} {R n : Nat} {s : ByteArray} {q : Rs} (h : Rdr w R s n q) (hs : (s.size : Int) ≤ 4096) {c : UInt8} {r : List UInt8} (hq : q.rest = c :: r) (hc : c.toNat = 63) :
  Calls Tryz.prog 146 #[.pointer (some ⟨R, 0, none⟩)] w (RetP R s w (failS { q with rest := r }).1 (failS { q with rest := r }).2) := by
 have Q := fun w (h : Rdr w R s n q) => now_some h hs hq
 simp only [hc] at Q
 have hle := h.len
 rw [hq] at hle
 simp at hle
 have hn : (n : Int) < 4096 := by omega
 have hwr := wrap_in ((n : Int) + 1) (by omega) (by omega)
 clear hle
 go_enter Tryz.func146, Tryz.ntmps146
 go_upto_region 2 with (go_at_call 135; refine (Q _ h).mono ?_; rintro e w1 ⟨rfl, g1⟩)
 have h1 := h.gr g1
 obtain ⟨c1, f1⟩ := And.intro h1.c1 h1.f1
 go_upto_region 3 with (fail)
 have h2 := h1.next hq
 have x2 : GX R w (w1.setCell ⟨R, 1, none⟩ (.int .i64 ((n : Int) + 1))) := GX.setCell (p := ⟨R, 1, none⟩) (GX.of_gr (R := R) g1) (.inl rfl) _
 clear c1 f1 h1 g1 Q hwr h hq
 generalize (w1.setCell ⟨R, 1, none⟩ (.int .i64 ((n : Int) + 1))) = w2 at h2 x2 ⊢
 go_wp2_with (go_at_call 157; refine (fail_any h2).mono ?_; rintro e w9 ⟨b, m9, rfl, k9, x9, h9⟩)
 go_ret
 exact RetP.from (x2) ⟨b, m9, rfl, k9, x9, h9⟩

set_option maxRecDepth 100000 in
set_option maxHeartbeats 3200000 in
theorem atom_stop42 {w : World} {R n : Nat} {s : ByteArray} {q : Rs} (h : Rdr w R s n q) (hs : (s.size : Int) ≤ 4096) {c : UInt8} {r : List UInt8} (hq : q.rest = c :: r) (hc : c.toNat = 42) :
  Calls Tryz.prog 146 #[.pointer (some ⟨R, 0, none⟩)] w (RetP R s w (failS { q with rest := r }).1 (failS { q with rest := r }).2) := by
 have Q := fun w (h : Rdr w R s n q) => now_some h hs hq
 simp only [hc] at Q
 have hle := h.len
 rw [hq] at hle
 simp at hle
 have hn : (n : Int) < 4096 := by omega
 have hwr := wrap_in ((n : Int) + 1) (by omega) (by omega)
 clear hle
 go_enter Tryz.func146, Tryz.ntmps146
 go_upto_region 2 with (go_at_call 135; refine (Q _ h).mono ?_; rintro e w1 ⟨rfl, g1⟩)
 have h1 := h.gr g1
 obtain ⟨c1, f1⟩ := And.intro h1.c1 h1.f1
 go_upto_region 3 with (fail)
 have h2 := h1.next hq
 have x2 : GX R w (w1.setCell ⟨R, 1, none⟩ (.int .i64 ((n : Int) + 1))) := GX.setCell (p := ⟨R, 1, none⟩) (GX.of_gr (R := R) g1) (.inl rfl) _
 clear c1 f1 h1 g1 Q hwr h hq
 generalize (w1.setCell ⟨R, 1, none⟩ (.int .i64 ((n : Int) + 1))) = w2 at h2 x2 ⊢
 go_wp2_with (go_at_call 157; refine (fail_any h2).mono ?_; rintro e w9 ⟨b, m9, rfl, k9, x9, h9⟩)
 go_ret
 exact RetP.from (x2) ⟨b, m9, rfl, k9, x9, h9⟩

set_option maxRecDepth 100000 in
set_option maxHeartbeats 3200000 in
theorem atom_stop43 {w : World} {R n : Nat} {s : ByteArray} {q : Rs} (h : Rdr w R s n q) (hs : (s.size : Int) ≤ 4096) {c : UInt8} {r : List UInt8} (hq : q.rest = c :: r) (hc : c.toNat = 43) :
  Calls Tryz.prog 146 #[.pointer (some ⟨R, 0, none⟩)] w (RetP R s w (failS { q with rest := r }).1 (failS { q with rest := r }).2) := by
 have Q := fun w (h : Rdr w R s n q) => now_some h hs hq
 simp only [hc] at Q
 have hle := h.len
 rw [hq] at hle
 simp at hle
 have hn : (n : Int) < 4096 := by omega
 have hwr := wrap_in ((n : Int) + 1) (by omega) (by omega)
 clear hle
 go_enter Tryz.func146, Tryz.ntmps146
 go_upto_region 2 with (go_at_call 135; refine (Q _ h).mono ?_; rintro e w1 ⟨rfl, g1⟩)
 have h1 := h.gr g1
 obtain ⟨c1, f1⟩ := And.intro h1.c1 h1.f1
 go_upto_region 3 with (fail)
 have h2 := h1.next hq
 have x2 : GX R w (w1.setCell ⟨R, 1, none⟩ (.int .i64 ((n : Int) + 1))) := GX.setCell (p := ⟨R, 1, none⟩) (GX.of_gr (R := R) g1) (.inl rfl) _
 clear c1 f1 h1 g1 Q hwr h hq
 generalize (w1.setCell ⟨R, 1, none⟩ (.int .i64 ((n : Int) + 1))) = w2 at h2 x2 ⊢
 go_wp2_with (go_at_call 157; refine (fail_any h2).mono ?_; rintro e w9 ⟨b, m9, rfl, k9, x9, h9⟩)
 go_ret
 exact RetP.from (x2) ⟨b, m9, rfl, k9, x9, h9⟩

set_option maxRecDepth 100000 in
set_option maxHeartbeats 3200000 in
theorem atom_stop41 {w : World} {R n : Nat} {s : ByteArray} {q : Rs} (h : Rdr w R s n q) (hs : (s.size : Int) ≤ 4096) {c : UInt8} {r : List UInt8} (hq : q.rest = c :: r) (hc : c.toNat = 41) :
  Calls Tryz.prog 146 #[.pointer (some ⟨R, 0, none⟩)] w (RetP R s w (failS { q with rest := r }).1 (failS { q with rest := r }).2) := by
 have Q := fun w (h : Rdr w R s n q) => now_some h hs hq
 simp only [hc] at Q
 have hle := h.len
 rw [hq] at hle
 simp at hle
 have hn : (n : Int) < 4096 := by omega
 have hwr := wrap_in ((n : Int) + 1) (by omega) (by omega)
 clear hle
 go_enter Tryz.func146, Tryz.ntmps146
 go_upto_region 2 with (go_at_call 135; refine (Q _ h).mono ?_; rintro e w1 ⟨rfl, g1⟩)
 have h1 := h.gr g1
 obtain ⟨c1, f1⟩ := And.intro h1.c1 h1.f1
 go_upto_region 3 with (fail)
 have h2 := h1.next hq
 have x2 : GX R w (w1.setCell ⟨R, 1, none⟩ (.int .i64 ((n : Int) + 1))) := GX.setCell (p := ⟨R, 1, none⟩) (GX.of_gr (R := R) g1) (.inl rfl) _
 clear c1 f1 h1 g1 Q hwr h hq
 generalize (w1.setCell ⟨R, 1, none⟩ (.int .i64 ((n : Int) + 1))) = w2 at h2 x2 ⊢
 go_wp2_with (go_at_call 157; refine (fail_any h2).mono ?_; rintro e w9 ⟨b, m9, rfl, k9, x9, h9⟩)
 go_ret
 exact RetP.from (x2) ⟨b, m9, rfl, k9, x9, h9⟩

set_option maxRecDepth 100000 in
set_option maxHeartbeats 3200000 in
theorem atom_else {w : World} {R n : Nat} {s : ByteArray} {q : Rs} (h : Rdr w R s n q) (hs : (s.size : Int) ≤ 4096) {c : UInt8} {r : List UInt8} (hq : q.rest = c :: r) (hc : ∀ k ∈ [40, 94, 36, 46, 91, 92, 124, 63, 42, 43, 41], c.toNat ≠ k) :
  Calls Tryz.prog 146 #[.pointer (some ⟨R, 0, none⟩)] w (RetP R s w (.leaf 1 (pairsS (oneB c.toNat))) { q with rest := r }) := by
 have Q := fun w (h : Rdr w R s n q) => now_some h hs hq
 simp only [List.mem_cons, List.not_mem_nil, or_false, forall_eq_or_imp, forall_eq] at hc
 have k40 : ((c.toNat : Int) == 40) = false := beq_eq_false_iff_ne.2 (by omega)
 have k94 : ((c.toNat : Int) == 94) = false := beq_eq_false_iff_ne.2 (by omega)
 have k36 : ((c.toNat : Int) == 36) = false := beq_eq_false_iff_ne.2 (by omega)
 have k46 : ((c.toNat : Int) == 46) = false := beq_eq_false_iff_ne.2 (by omega)
 have k91 : ((c.toNat : Int) == 91) = false := beq_eq_false_iff_ne.2 (by omega)
 have k92 : ((c.toNat : Int) == 92) = false := beq_eq_false_iff_ne.2 (by omega)
 have k124 : ((c.toNat : Int) == 124) = false := beq_eq_false_iff_ne.2 (by omega)
 have k63 : ((c.toNat : Int) == 63) = false := beq_eq_false_iff_ne.2 (by omega)
 have k42 : ((c.toNat : Int) == 42) = false := beq_eq_false_iff_ne.2 (by omega)
 have k43 : ((c.toNat : Int) == 43) = false := beq_eq_false_iff_ne.2 (by omega)
 have k41 : ((c.toNat : Int) == 41) = false := beq_eq_false_iff_ne.2 (by omega)
 have hle := h.len
 rw [hq] at hle
 simp at hle
 have hn : (n : Int) < 4096 := by omega
 have hwr := wrap_in ((n : Int) + 1) (by omega) (by omega)
 clear hle
 go_enter Tryz.func146, Tryz.ntmps146
 go_upto_region 2 with (go_at_call 135; refine (Q _ h).mono ?_; rintro e w1 ⟨rfl, g1⟩)
 have h1 := h.gr g1
 obtain ⟨c1, f1⟩ := And.intro h1.c1 h1.f1
 go_upto_region 3 with (fail)
 have h2 := h1.next hq
 have x2 : GX R w (w1.setCell ⟨R, 1, none⟩ (.int .i64 ((n : Int) + 1))) := GX.setCell (p := ⟨R, 1, none⟩) (GX.of_gr (R := R) g1) (.inl rfl) _
 clear c1 f1 h1 g1 Q hwr h hq
 generalize (w1.setCell ⟨R, 1, none⟩ (.int .i64 ((n : Int) + 1))) = w2 at h2 x2 ⊢
 go_wp2_with (first
  | (go_at_call 153; refine (one_any c.toNat _ c.toNat_lt).mono ?_; rintro e w3 ⟨rfl, g3⟩)
  | (go_at_call 155; refine (pairs_any (oneB c.toNat) _).mono ?_; rintro e w5 ⟨rfl, g5⟩))
 go_ret
 exact RetP.leaf (x2.trans (GX.of_gr (Gr.trans g3 g5))) (h2.gr (Gr.trans g3 g5)) 1 _

end Go.Proofs.YtjapddfnpmlifaaGreatDoor
