/- The contract of rex.reader.class: what stands in brackets. -/
import Derived.Test.YtjapddfnpmlifaaGreatDoorRunRxRng
namespace Go.Proofs.YtjapddfnpmlifaaGreatDoor
set_option linter.unusedVariables false
set_option linter.unusedSimpArgs false
open Go.RowKit

theorem Rdr.gxo {w w' : World} {R n g : Nat} {s : ByteArray} {q : Rs} (h : Rdr w R s n q) (x : GX g w w') (hn : R ≠ g) : Rdr w' R s n q :=
 ⟨h.len, h.rest, (x.cell (p := ⟨R, 0, none⟩) h.lt hn).trans h.c0, (x.cell (p := ⟨R, 1, none⟩) h.lt hn).trans h.c1, (x.cell (p := ⟨R, 2, none⟩) h.lt hn).trans h.c2, (x.cell (p := ⟨R, 3, none⟩) h.lt hn).trans h.c3, (x.cell (p := ⟨R, 4, none⟩) h.lt hn).trans h.c4, (x.cell (p := ⟨R, 5, none⟩) h.lt hn).trans h.c5,
  (x.frozen (p := ⟨R, 1, none⟩) h.lt hn).trans h.f1, (x.frozen (p := ⟨R, 2, none⟩) h.lt hn).trans h.f2, (x.frozen (p := ⟨R, 3, none⟩) h.lt hn).trans h.f3, (x.frozen (p := ⟨R, 4, none⟩) h.lt hn).trans h.f4, (x.frozen (p := ⟨R, 5, none⟩) h.lt hn).trans h.f5, Nat.lt_of_lt_of_le h.lt x.size⟩
theorem GX.neo {R g : Nat} {a b c : World} (h : GX R a b) (k : GX g b c) (hg : a.heap.size ≤ g) : GX R a c :=
 ⟨k.os.trans h.os, k.tape.trans h.tape, k.output.trans h.output, Nat.le_trans h.size k.size, fun i hi hn => (k.block i (Nat.lt_of_lt_of_le hi h.size) (by omega)).trans (h.block i hi hn)⟩
/-- how far the reader is. -/
def rdN (R : Nat) (w : World) : Nat := (intOf ((w.cell? ⟨R, 1, none⟩).getD undef)).toNat
theorem Rdr.n {w : World} {R n : Nat} {s : ByteArray} {q : Rs} (h : Rdr w R s n q) : rdN R w = n := by unfold rdN; rw [h.c1]; simp [intOf]
/-- what class holds: the result's block, all's block, the reader. -/
structure CS (R : Nat) (w0 : World) (F : Bs) (s : ByteArray) (m : Nat) (q : Rs) (W : World) : Prop where
 x : GX R w0 W
 b : SetAt W w0.heap.size noB
 a : SetAt W (w0.heap.size + 1) F
 r : Rdr W R s m q
section
variable {R : Nat} {w0 : World} {F : Bs} {s : ByteArray} {m : Nat} {q : Rs} {W W' : World}
theorem CS.gr (h : CS R w0 F s m q W) (g : Gr W W') : CS R w0 F s m q W' := ⟨h.x.trans (GX.of_gr g), h.b.gr g, h.a.gr g, h.r.gr g⟩
theorem CS.gxn (h : CS R w0 F s m q W) {g : Nat} (x : GX g W W') (hg : w0.heap.size + 1 < g) (hR : R < w0.heap.size) : CS R w0 F s m q W' := ⟨h.x.neo x (by omega), h.b.gx x (by omega), h.a.gx x (by omega), h.r.gxo x (by omega)⟩
theorem CS.rd (h : CS R w0 F s m q W) (x : GX R W W') {m' : Nat} {q' : Rs} (r : Rdr W' R s m' q') (hR : R < w0.heap.size) : CS R w0 F s m' q' W' := ⟨h.x.trans x, h.b.gx x (by omega), h.a.gx x (by omega), r⟩
theorem CS.all (h : CS R w0 F s m q W) (hR : R < w0.heap.size) (H : Bs) : CS R w0 H s m q (W.setRow (w0.heap.size + 1) (bsA H)) :=
 ⟨h.x.setRow (.inr (by omega)) _, (setRow_other _ _ _ _ (by omega)).trans h.b, SetAt.row h.a, h.r.setRow (by omega) _⟩
end
theorem sideS_some {r : List UInt8} {f : Bs} {a : Nat} {b : Bool} {t : List UInt8} (h : sideS r = (some (f, a, b), t)) : t.length < r.length ∧ a < 256 := by
 match r with
 | [] => cases h
 | c :: r =>
  unfold sideS at h
  cases hb : (c.toNat == 92)
  ·
   simp only [hb, cond_false] at h
   injection h with h1 h2
   injection h1 with h1
   injection h1 with _ h3
   injection h3 with h3
   subst h2; subst h3
   exact ⟨by simp, c.toNat_lt⟩
  ·
   simp only [hb, cond_true] at h
   cases r with
   | nil => simp at h
   | cons d q =>
    simp only at h
    generalize escS (d :: q) = e at h
    obtain ⟨_ | g, u⟩ := e
    ·
     simp at h
    ·
     simp only at h
     injection h with h1 h2
     injection h1 with h1
     injection h1 with _ h3
     injection h3 with h3
     subst h2; subst h3
     exact ⟨by simp; omega, d.toNat_lt⟩
theorem side_some {w : World} {R n : Nat} {s : ByteArray} {q : Rs} {f : Bs} {a : Nat} {b : Bool} {t : List UInt8} (h : Rdr w R s n q) (hs : (s.size : Int) ≤ 4096) (hx : sideS q.rest = (some (f, a, b), t)) :
  Calls Tryz.prog 162 #[.pointer (some ⟨R, 0, none⟩)] w fun e w' => e = .returned (.tuple #[.agg (bsA f), .int .u8 a, .bool b, .bool true]) ∧ GX R w w' ∧ ∃ m, Rdr w' R s m { q with rest := t } := by
 have h0 := side_any h hs
 rw [hx] at h0
 refine h0.mono ?_
 rintro e w' ⟨g, c, d, m, he, hf, x, hr⟩
 have h1 := (hf _ rfl).1
 injection h1 with h1 h2
 injection h2 with h2 h3
 exact ⟨by rw [he, h1, h2, h3]; rfl, x, m, hr⟩
theorem side_none {w : World} {R n : Nat} {s : ByteArray} {q : Rs} {t : List UInt8} (h : Rdr w R s n q) (hs : (s.size : Int) ≤ 4096) (hx : sideS q.rest = (none, t)) :
  Calls Tryz.prog 162 #[.pointer (some ⟨R, 0, none⟩)] w fun e w' => ∃ (g : Bs) (c : Nat) (d : Bool), e = .returned (.tuple #[.agg (bsA g), .int .u8 c, .bool d, .bool false]) ∧ GX R w w' ∧ ∃ m, Rdr w' R s m { q with rest := t } := by
 have h0 := side_any h hs
 rw [hx] at h0
 refine h0.mono ?_
 rintro e w' ⟨g, c, d, m, he, hf, x, hr⟩
 exact ⟨g, c, d, he, x, m, hr⟩
theorem blt_no {a b : Nat} (h : ¬ a < b) : Nat.blt a b = false := by
 cases hq : Nat.blt a b with
 | false => rfl
 | true => rw [Nat.blt_eq] at hq; exact absurd hq h
theorem blt_yes {a b : Nat} (h : a < b) : Nat.blt a b = true := by rw [Nat.blt_eq]; exact h
theorem rangesS_two {r : List UInt8} (h : rangesS r = true) : ∃ c d t, r = c :: d :: t := by
 match r with
 | [] => cases h
 | [_] => cases h
 | c :: d :: t => exact ⟨c, d, t, rfl⟩
theorem classS_eq (r : List UInt8) : ∃ (nt : Bool) (r0 : List UInt8) (K : Nat), nt = headIs 94 r ∧ r0 = (bif nt then r.drop 1 else r) ∧ r0.length < K ∧ classS r = ((clsS K true noB r0).1.map (fun f => bif nt then notB f else f), (clsS K true noB r0).2) := by
 unfold classS
 cases h : headIs 94 r
 ·
  exact ⟨false, r, r.length + 1, rfl, rfl, Nat.lt_succ_self _, by simp only [cond_false]; generalize clsS _ _ _ _ = t; obtain ⟨_ | f, t⟩ := t <;> rfl⟩
 ·
  obtain ⟨b, t, rfl, _⟩ := headIs_cons h
  refine ⟨true, t, (b :: t).length, rfl, rfl, by simp, ?_⟩
  simp only [cond_true, List.drop_succ_cons, List.drop_zero]
  generalize clsS _ _ _ _ = u
  obtain ⟨_ | f, u⟩ := u <;> rfl

set_option maxRecDepth 100000 in
set_option maxHeartbeats 6400000 in
theorem class_any {w : World} {R n : Nat} {s : ByteArray} {q : Rs} (h : Rdr w R s n q) (hs : (s.size : Int) ≤ 4096) :
  Calls Tryz.prog 156 #[.pointer (some ⟨R, 0, none⟩)] w (RetBX R s w (classS q.rest).1 { q with rest := (classS q.rest).2 }) := by
 obtain ⟨nt, r0, K, hnt, hr0, hK, hcl⟩ := classS_eq q.rest
 rw [hcl]
 have hRw := h.lt
 obtain ⟨hz, hsz⟩ := zero_of_info info_set
 obtain ⟨T, hT⟩ : ∃ T, clsS K true noB r0 = T := ⟨_, rfl⟩
 rw [hT]
 have C0 : CS R w noB s n q ((w.alloc (Obj.cells (bsA noB) 219)).alloc (Obj.cells (bsA noB) 219)) := by
  have g : Gr w ((w.alloc (Obj.cells (bsA noB) 219)).alloc (Obj.cells (bsA noB) 219)) := Gr.alloc (Gr.alloc (Gr.refl _) _) _
  refine ⟨GX.of_gr g, (SetAt.new w noB).gr (Gr.alloc (Gr.refl _) _), ?_, h.gr g⟩
  have := SetAt.new (w.alloc (Obj.cells (bsA noB) 219)) noB
  simpa using this
 have HT := Lib.hid hT
 have QT : ∀ W, Rdr W R s n q → Calls Tryz.prog 109 #[.pointer (some ⟨R, 0, none⟩), .int .u8 94] W fun e w' => e = .returned (.bool nt) ∧ GX R W w' ∧ ∃ m, Rdr w' R s m { q with rest := r0 } := fun W hW => by
  cases hh : headIs 94 q.rest
  ·
   rw [hh] at hnt; subst hnt; subst hr0
   exact (takes_no hW hs 94 (by decide) hh).mono (fun e w' ⟨he, hg⟩ => ⟨he, GX.of_gr hg, n, hW.gr hg⟩)
  ·
   rw [hh] at hnt; subst hnt; subst hr0
   exact (takes_yes hW hs 94 (by decide) hh).mono (fun e w' ⟨he, hx, hr⟩ => ⟨he, hx, n + 1, hr⟩)
 clear hcl hT hnt hr0 h
 go_enter Tryz.func156, Tryz.ntmps156
 go_upto_region 2 with (fail)
 generalize ((w.alloc (Obj.cells (bsA noB) 219)).alloc (Obj.cells (bsA noB) 219)) = w1 at C0 ⊢
 go_wp2_with (go_at_call 109; refine (QT _ C0.r).mono ?_; rintro e w2 ⟨rfl, x2, m, h2⟩)
 have C2 := C0.rd x2 h2 hRw
 clear QT C0 x2 h2
 go_loopw [6] (fun v wr => ∃ (first : Bool) (G : Bs) (r : List UInt8) (m k : Nat), v = .bool first ∧ r.length < k ∧ CS R w G s m { q with rest := r } wr ∧ Hid (clsS k first G r = T)) (fun _ wr => s.size - rdN R wr)
 case atStart => exact ⟨true, noB, r0, m, K, rfl, hK, C2, HT⟩
 case round =>
  clear C2 HT hK
  obtain ⟨first, G, r, m, k, rfl, hk, C, HC⟩ := hrel
  obtain ⟨k, rfl⟩ : ∃ j, k = j + 1 := ⟨k - 1, by omega⟩
  have hmn := C.r.n
  have hlen : m + r.length = s.size := C.r.len
  have Hmn := Lib.hid hmn
  clear hmn
  cases first
  case true =>
   have HH : Hid ((true || !headIs 93 r) = true) := Lib.hid rfl
   have C1 := C
   rcases hx : sideS r with ⟨_ | ⟨f0, a0, wd⟩, r1⟩
   ·
    have HN : Hid (T = (none, r1)) := Lib.hid (by
     have e1 := hx
     have e2 := HC.out
     unfold clsS at e2
     rw [HH.out] at e2
     simp only [cond_true] at e2
     rw [e1] at e2
     try simp only at e2
     exact e2.symm)
    have QS := fun W (hW : Rdr W R s m { q with rest := r }) => side_none hW hs hx
    clear hx
    go_upto_region 8 with (first
     | (go_at_call 162; refine (QS _ C1.r).mono ?_; rintro e w5 ⟨f4, c4, d4, rfl, x5, m5, h5⟩; have C5 := C1.rd x5 h5 hRw; clear x5 h5 QS)
     | (refine wpList_store_row rfl 219 (.tmp 7) (.tmp 30) rfl (w5.heap.size) (bsA f4) rfl rfl _ _ (SetAt.new w5 noB) (size_bsA _) (by simp only [bsA_size]) (bsA_one _) ?_; have C6 := C5.gr (Gr.setRow (Gr.alloc (Gr.refl w5) (.cells (bsA noB) 219)) (g := w5.heap.size) (Nat.le_refl _) (bsA f4)); have hsC6 : SetAt ((w5.alloc (.cells (bsA noB) 219)).setRow w5.heap.size (bsA f4)) w5.heap.size f4 := SetAt.row (SetAt.new w5 noB)))
    obtain ⟨cx, cb, ca, cr⟩ := id C6
    go_wp2_with (first
     | (refine wpList_load_row rfl 219 (.tmp 4) rfl (w.heap.size + 1) rfl _ (bsA (G)) (0, 0) _ ca und_set rfl (size_bsA _) ?_)
     | (refine wpList_store_row rfl 219 (.tmp 2) (.tmp 36) rfl (w.heap.size) (bsA (G)) rfl rfl _ _ cb (size_bsA _) (by simp only [bsA_size]) (bsA_one _) ?_))
    rw [show T = (none, r1) from HN.out]
    exact bodyPost_ret (v := .tuple #[.agg (bsA G), .bool false]) (res_set2 _ 2 3 (by kernel_rfl) _ _ w.heap.size _ _ rfl rfl (SetAt.row cb)) rfl ⟨G, _, rfl, (fun _ h => by cases h), cx.setRow (.inr (Nat.le_refl _)) _, cr.setRow (g := w.heap.size) (by omega) _⟩
   ·
    have e1 := hx
    obtain ⟨hlt1, ha256⟩ := sideS_some hx
    have QS := fun W (hW : Rdr W R s m { q with rest := r }) => side_some hW hs hx
    have QG : ∀ W m5, Rdr W R s m5 { q with rest := r1 } → _ := fun W m5 (hW : Rdr W R s m5 { q with rest := r1 }) => ranges_any hW hs
    clear hx
    cases wd
    case true =>
     have HN : Hid (clsS k false (orB G f0) r1 = T) := Lib.hid (by
      have e2 := HC.out
      unfold clsS at e2
      rw [HH.out] at e2
      simp only [cond_true] at e2
      rw [e1] at e2
      try simp only at e2
      simp only [Bool.not_true, Bool.false_and, cond_false] at e2
      exact e2)
     clear e1 QG
     go_upto_region 15 with (first
      | (go_at_call 162; refine (QS _ C1.r).mono ?_; rintro e w5 ⟨rfl, x5, m5, h5⟩; have C5 := C1.rd x5 h5 hRw; have zg : w.heap.size + 1 < w5.heap.size := C5.a.lt; clear x5 h5 QS)
      | (refine wpList_store_row rfl 219 (.tmp 7) (.tmp 30) rfl (w5.heap.size) (bsA f0) rfl rfl _ _ (SetAt.new w5 noB) (size_bsA _) (by simp only [bsA_size]) (bsA_one _) ?_; have C6 := C5.gr (Gr.setRow (Gr.alloc (Gr.refl w5) (.cells (bsA noB) 219)) (g := w5.heap.size) (Nat.le_refl _) (bsA f0)); have hsC6 : SetAt ((w5.alloc (.cells (bsA noB) 219)).setRow w5.heap.size (bsA f0)) w5.heap.size f0 := SetAt.row (SetAt.new w5 noB)))
     obtain ⟨cx, cb, ca, cr⟩ := id C6
     go_wp2_with (first
      | (refine wpList_load_row rfl 219 (.tmp 4) rfl (w.heap.size + 1) rfl _ (bsA (G)) (0, 0) _ ca und_set rfl (size_bsA _) ?_)
      | (refine wpList_load_row rfl 219 (.tmp 7) rfl (w5.heap.size) rfl _ (bsA (f0)) (0, 0) _ hsC6 und_set rfl (size_bsA _) ?_)
      | (go_at_call 165; refine (with_any G (f0) _).mono ?_; rintro e w9 ⟨rfl, g9⟩; have C9 := C6.gr g9; have ca9 := C9.a)
      | (refine wpList_store_row rfl 219 (.tmp 4) (.tmp 72) rfl (w.heap.size + 1) (bsA (orB G (f0))) rfl rfl _ _ ca9 (size_bsA _) (by simp only [bsA_size]) (bsA_one _) ?_))
     have C10 := C9.all hRw (orB G (f0))
     have hm10 := Lib.hid C10.r.n
     have hl10 := C10.r.len
     simp only at hl10
     clear ca9 C9 cx cb ca cr
     go_roundw
     case rel => exact ⟨false, _, _, _, k, rfl, by omega, C10, HN⟩
     case measure => rw [Hmn.out, hm10.out]; omega
    case false =>
    cases hrg : rangesS r1
    case false =>
     have HN : Hid (clsS k false (orB G f0) r1 = T) := Lib.hid (by
      have e2 := HC.out
      unfold clsS at e2
      rw [HH.out] at e2
      simp only [cond_true] at e2
      rw [e1] at e2
      try simp only at e2
      rw [hrg] at e2
      simp only [Bool.and_false, cond_false] at e2
      exact e2)
     simp only [hrg] at QG
     clear e1 hrg
     go_upto_region 15 with (first
      | (go_at_call 162; refine (QS _ C1.r).mono ?_; rintro e w5 ⟨rfl, x5, m5, h5⟩; have C5 := C1.rd x5 h5 hRw; have zg : w.heap.size + 1 < w5.heap.size := C5.a.lt; clear x5 h5 QS)
      | (refine wpList_store_row rfl 219 (.tmp 7) (.tmp 30) rfl (w5.heap.size) (bsA f0) rfl rfl _ _ (SetAt.new w5 noB) (size_bsA _) (by simp only [bsA_size]) (bsA_one _) ?_; have C6 := C5.gr (Gr.setRow (Gr.alloc (Gr.refl w5) (.cells (bsA noB) 219)) (g := w5.heap.size) (Nat.le_refl _) (bsA f0)); have hsC6 : SetAt ((w5.alloc (.cells (bsA noB) 219)).setRow w5.heap.size (bsA f0)) w5.heap.size f0 := SetAt.row (SetAt.new w5 noB))
      | (go_at_call 163; refine (QG _ _ C6.r).mono ?_; rintro e w7 ⟨rfl, g7⟩; have C7 := C6.gr g7; have hs7 := hsC6.gr g7))
     obtain ⟨cx, cb, ca, cr⟩ := id C7
     go_wp2_with (first
      | (refine wpList_load_row rfl 219 (.tmp 4) rfl (w.heap.size + 1) rfl _ (bsA (G)) (0, 0) _ ca und_set rfl (size_bsA _) ?_)
      | (refine wpList_load_row rfl 219 (.tmp 7) rfl (w5.heap.size) rfl _ (bsA (f0)) (0, 0) _ hs7 und_set rfl (size_bsA _) ?_)
      | (go_at_call 165; refine (with_any G (f0) _).mono ?_; rintro e w9 ⟨rfl, g9⟩; have C9 := C7.gr g9; have ca9 := C9.a)
      | (refine wpList_store_row rfl 219 (.tmp 4) (.tmp 72) rfl (w.heap.size + 1) (bsA (orB G (f0))) rfl rfl _ _ ca9 (size_bsA _) (by simp only [bsA_size]) (bsA_one _) ?_))
     have C10 := C9.all hRw (orB G (f0))
     have hm10 := Lib.hid C10.r.n
     have hl10 := C10.r.len
     simp only at hl10
     clear ca9 C9 cx cb ca cr
     go_roundw
     case rel => exact ⟨false, _, _, _, k, rfl, by omega, C10, HN⟩
     case measure => rw [Hmn.out, hm10.out]; omega
    case true =>
     simp only [hrg] at QG
     obtain ⟨c, d, t, rfl⟩ := rangesS_two hrg
     simp only [List.length_cons] at hlt1
     go_upto_region 10 with (first
       | (go_at_call 162; refine (QS _ C1.r).mono ?_; rintro e w5 ⟨rfl, x5, m5, h5⟩; have C5 := C1.rd x5 h5 hRw; have zg : w.heap.size + 1 < w5.heap.size := C5.a.lt; clear x5 h5 QS)
       | (refine wpList_store_row rfl 219 (.tmp 7) (.tmp 30) rfl (w5.heap.size) (bsA f0) rfl rfl _ _ (SetAt.new w5 noB) (size_bsA _) (by simp only [bsA_size]) (bsA_one _) ?_; have C6 := C5.gr (Gr.setRow (Gr.alloc (Gr.refl w5) (.cells (bsA noB) 219)) (g := w5.heap.size) (Nat.le_refl _) (bsA f0)); have hsC6 : SetAt ((w5.alloc (.cells (bsA noB) 219)).setRow w5.heap.size (bsA f0)) w5.heap.size f0 := SetAt.row (SetAt.new w5 noB))
       | (go_at_call 163; refine (QG _ _ C6.r).mono ?_; rintro e w7 ⟨rfl, g7⟩; have C7 := C6.gr g7; have hs7 := hsC6.gr g7))
     have hl7 := C7.r.len
     simp only [List.length_cons] at hl7
     have hm7 : (m5 : Int) < 4096 := by omega
     obtain ⟨c1, f1⟩ := And.intro C7.r.c1 C7.r.f1
     go_upto_region 11 with (fail)
     have C8 := C7.rd (GX.setCell (p := ⟨R, 1, none⟩) (GX.refl R w7) (.inl rfl) (.int .i64 ((m5 : Int) + 1))) (C7.r.next rfl) hRw
     have hs8 := hs7.other (p := ⟨R, 1, none⟩) (by show _ ≠ R; omega) (.int .i64 ((m5 : Int) + 1))
     clear c1 f1 C7 hs7 C6 hsC6 C5 C1 hl7 QG g7
     generalize w7.setCell ⟨R, 1, none⟩ (.int .i64 ((m5 : Int) + 1)) = w8 at C8 hs8 ⊢
     have hdr : (c :: d :: t).drop 1 = d :: t := rfl
     rcases hy : sideS (d :: t) with ⟨_ | ⟨f2, b0, wd2⟩, r2⟩
     ·
      have HN : Hid (T = (none, r2)) := Lib.hid (by
       have e2 := HC.out
       unfold clsS at e2
       rw [HH.out] at e2
       simp only [cond_true] at e2
       rw [e1] at e2
       try simp only at e2
       rw [hrg, hdr, hy] at e2
       simp only [Bool.not_false, Bool.and_true, cond_true] at e2
       exact e2.symm)
      have QT := fun W (hW : Rdr W R s (m5 + 1) { q with rest := d :: t }) => side_none hW hs hy
      clear hy hrg e1
      go_upto_region 13 with (first
       | (go_at_call 162; refine (QT _ C8.r).mono ?_; rintro e w10 ⟨f4, c4, d4, rfl, x10, m10, h10⟩; have Ca := C8.rd x10 h10 hRw; clear x10 h10 QT)
       | (refine wpList_store_row rfl 219 (.tmp 11) (.tmp 55) rfl (w10.heap.size) (bsA f4) rfl rfl _ _ (SetAt.new w10 noB) (size_bsA _) (by simp only [bsA_size]) (bsA_one _) ?_; have Cb := Ca.gr (Gr.setRow (Gr.alloc (Gr.refl w10) (.cells (bsA noB) 219)) (g := w10.heap.size) (Nat.le_refl _) (bsA f4)); have hsCb : SetAt ((w10.alloc (.cells (bsA noB) 219)).setRow w10.heap.size (bsA f4)) w10.heap.size f4 := SetAt.row (SetAt.new w10 noB)))
      obtain ⟨cx, cb, ca, cr⟩ := id Cb
      go_wp2_with (first
       | (refine wpList_load_row rfl 219 (.tmp 4) rfl (w.heap.size + 1) rfl _ (bsA (G)) (0, 0) _ ca und_set rfl (size_bsA _) ?_)
       | (refine wpList_store_row rfl 219 (.tmp 2) (.tmp 66) rfl (w.heap.size) (bsA (G)) rfl rfl _ _ cb (size_bsA _) (by simp only [bsA_size]) (bsA_one _) ?_))
      rw [show T = (none, r2) from HN.out]
      exact bodyPost_ret (v := .tuple #[.agg (bsA G), .bool false]) (res_set2 _ 2 3 (by kernel_rfl) _ _ w.heap.size _ _ rfl rfl (SetAt.row cb)) rfl ⟨G, _, rfl, (fun _ h => by cases h), cx.setRow (.inr (Nat.le_refl _)) _, cr.setRow (g := w.heap.size) (by omega) _⟩
     ·
      have hb256 := (sideS_some hy).2
      have hlt2 := (sideS_some hy).1
      simp only [List.length_cons] at hlt2
      have QT := fun W (hW : Rdr W R s (m5 + 1) { q with rest := d :: t }) => side_some hW hs hy
      by_cases hba : b0 < a0
      ·
       have HN : Hid (T = (none, r2)) := Lib.hid (by
        have e2 := HC.out
        unfold clsS at e2
        rw [HH.out] at e2
        simp only [cond_true] at e2
        rw [e1] at e2
        try simp only at e2
        rw [hrg, hdr, hy] at e2
        simp only [Bool.not_false, Bool.and_true, cond_true] at e2
        rw [blt_yes hba] at e2
        simp only [cond_true] at e2
        exact e2.symm)
       have hbI : (b0 : Int) < (a0 : Int) := by omega
       clear hy hrg e1 hba
       go_upto_region 13 with (first
        | (go_at_call 162; refine (QT _ C8.r).mono ?_; rintro e w10 ⟨rfl, x10, m10, h10⟩; have Ca := C8.rd x10 h10 hRw; clear x10 h10 QT)
        | (refine wpList_store_row rfl 219 (.tmp 11) (.tmp 55) rfl (w10.heap.size) (bsA f2) rfl rfl _ _ (SetAt.new w10 noB) (size_bsA _) (by simp only [bsA_size]) (bsA_one _) ?_; have Cb := Ca.gr (Gr.setRow (Gr.alloc (Gr.refl w10) (.cells (bsA noB) 219)) (g := w10.heap.size) (Nat.le_refl _) (bsA f2)); have hsCb : SetAt ((w10.alloc (.cells (bsA noB) 219)).setRow w10.heap.size (bsA f2)) w10.heap.size f2 := SetAt.row (SetAt.new w10 noB)))
       obtain ⟨cx, cb, ca, cr⟩ := id Cb
       go_wp2_with (first
        | (refine wpList_load_row rfl 219 (.tmp 4) rfl (w.heap.size + 1) rfl _ (bsA (G)) (0, 0) _ ca und_set rfl (size_bsA _) ?_)
        | (refine wpList_store_row rfl 219 (.tmp 2) (.tmp 66) rfl (w.heap.size) (bsA (G)) rfl rfl _ _ cb (size_bsA _) (by simp only [bsA_size]) (bsA_one _) ?_))
       rw [show T = (none, r2) from HN.out]
       exact bodyPost_ret (v := .tuple #[.agg (bsA G), .bool false]) (res_set2 _ 2 3 (by kernel_rfl) _ _ w.heap.size _ _ rfl rfl (SetAt.row cb)) rfl ⟨G, _, rfl, (fun _ h => by cases h), cx.setRow (.inr (Nat.le_refl _)) _, cr.setRow (g := w.heap.size) (by omega) _⟩
      ·
       have HN : Hid (clsS k false (orB G (orB f0 (runB a0 b0))) r2 = T) := Lib.hid (by
        have e2 := HC.out
        unfold clsS at e2
        rw [HH.out] at e2
        simp only [cond_true] at e2
        rw [e1] at e2
        try simp only at e2
        rw [hrg, hdr, hy] at e2
        simp only [Bool.not_false, Bool.and_true, cond_true] at e2
        rw [blt_no hba] at e2
        simp only [cond_false] at e2
        exact e2)
       have hbI : ¬ (b0 : Int) < (a0 : Int) := by omega
       clear hy hrg e1 hba
       go_upto_region 14 with (first
        | (go_at_call 162; refine (QT _ C8.r).mono ?_; rintro e w10 ⟨rfl, x10, m10, h10⟩; have Ca := C8.rd x10 h10 hRw; have hsa := hs8.gx x10 (by omega); clear x10 h10 QT)
        | (refine wpList_store_row rfl 219 (.tmp 11) (.tmp 55) rfl (w10.heap.size) (bsA f2) rfl rfl _ _ (SetAt.new w10 noB) (size_bsA _) (by simp only [bsA_size]) (bsA_one _) ?_; have Cb := Ca.gr (Gr.setRow (Gr.alloc (Gr.refl w10) (.cells (bsA noB) 219)) (g := w10.heap.size) (Nat.le_refl _) (bsA f2)); have hsCb : SetAt ((w10.alloc (.cells (bsA noB) 219)).setRow w10.heap.size (bsA f2)) w10.heap.size f2 := SetAt.row (SetAt.new w10 noB); have hsb := hsa.gr (Gr.setRow (Gr.alloc (Gr.refl w10) (.cells (bsA noB) 219)) (g := w10.heap.size) (Nat.le_refl _) (bsA f2))))
       clear hsCb hs8
       go_upto_region 15 with (go_at_call 164; refine (adds_any w5.heap.size f0 a0 b0 _ ha256 hb256 hsb).mono ?_; rintro e w12 ⟨rfl, x12, hs12⟩; have Cc := Cb.gxn x12 zg hRw)
       clear hsb hsa Ca Cb x12
       obtain ⟨cx, cb, ca, cr⟩ := id Cc
       go_wp2_with (first
        | (refine wpList_load_row rfl 219 (.tmp 4) rfl (w.heap.size + 1) rfl _ (bsA (G)) (0, 0) _ ca und_set rfl (size_bsA _) ?_)
        | (refine wpList_load_row rfl 219 (.tmp 7) rfl (w5.heap.size) rfl _ (bsA (orB f0 (runB a0 b0))) (0, 0) _ hs12 und_set rfl (size_bsA _) ?_)
        | (go_at_call 165; refine (with_any G (orB f0 (runB a0 b0)) _).mono ?_; rintro e w9 ⟨rfl, g9⟩; have C9 := Cc.gr g9; have ca9 := C9.a)
        | (refine wpList_store_row rfl 219 (.tmp 4) (.tmp 72) rfl (w.heap.size + 1) (bsA (orB G (orB f0 (runB a0 b0)))) rfl rfl _ _ ca9 (size_bsA _) (by simp only [bsA_size]) (bsA_one _) ?_))
       have C10 := C9.all hRw (orB G (orB f0 (runB a0 b0)))
       have hm10 := Lib.hid C10.r.n
       have hl10 := C10.r.len
       simp only at hl10
       clear ca9 C9 cx cb ca cr
       go_roundw
       case rel => exact ⟨false, _, _, _, k, rfl, by omega, C10, HN⟩
       case measure => rw [Hmn.out, hm10.out]; omega
  case false =>
   cases h93 : headIs 93 r
   case false =>
    have HH : Hid ((false || !headIs 93 r) = true) := Lib.hid (by rw [h93]; rfl)
    have QI := fun W (hW : Rdr W R s m { q with rest := r }) => is_no hW hs 93 (by decide) h93
    clear h93
    rcases hx : sideS r with ⟨_ | ⟨f0, a0, wd⟩, r1⟩
    ·
     have HN : Hid (T = (none, r1)) := Lib.hid (by
      have e1 := hx
      have e2 := HC.out
      unfold clsS at e2
      rw [HH.out] at e2
      simp only [cond_true] at e2
      rw [e1] at e2
      try simp only at e2
      exact e2.symm)
     have QS := fun W (hW : Rdr W R s m { q with rest := r }) => side_none hW hs hx
     clear hx
     go_upto_region 8 with (first
      | (go_at_call 137; refine (QI _ C.r).mono ?_; rintro e w4 ⟨rfl, g4⟩; have C1 := C.gr g4)
      | (go_at_call 162; refine (QS _ C1.r).mono ?_; rintro e w5 ⟨f4, c4, d4, rfl, x5, m5, h5⟩; have C5 := C1.rd x5 h5 hRw; clear x5 h5 QS)
      | (refine wpList_store_row rfl 219 (.tmp 7) (.tmp 30) rfl (w5.heap.size) (bsA f4) rfl rfl _ _ (SetAt.new w5 noB) (size_bsA _) (by simp only [bsA_size]) (bsA_one _) ?_; have C6 := C5.gr (Gr.setRow (Gr.alloc (Gr.refl w5) (.cells (bsA noB) 219)) (g := w5.heap.size) (Nat.le_refl _) (bsA f4)); have hsC6 : SetAt ((w5.alloc (.cells (bsA noB) 219)).setRow w5.heap.size (bsA f4)) w5.heap.size f4 := SetAt.row (SetAt.new w5 noB)))
     obtain ⟨cx, cb, ca, cr⟩ := id C6
     go_wp2_with (first
      | (refine wpList_load_row rfl 219 (.tmp 4) rfl (w.heap.size + 1) rfl _ (bsA (G)) (0, 0) _ ca und_set rfl (size_bsA _) ?_)
      | (refine wpList_store_row rfl 219 (.tmp 2) (.tmp 36) rfl (w.heap.size) (bsA (G)) rfl rfl _ _ cb (size_bsA _) (by simp only [bsA_size]) (bsA_one _) ?_))
     rw [show T = (none, r1) from HN.out]
     exact bodyPost_ret (v := .tuple #[.agg (bsA G), .bool false]) (res_set2 _ 2 3 (by kernel_rfl) _ _ w.heap.size _ _ rfl rfl (SetAt.row cb)) rfl ⟨G, _, rfl, (fun _ h => by cases h), cx.setRow (.inr (Nat.le_refl _)) _, cr.setRow (g := w.heap.size) (by omega) _⟩
    ·
     have e1 := hx
     obtain ⟨hlt1, ha256⟩ := sideS_some hx
     have QS := fun W (hW : Rdr W R s m { q with rest := r }) => side_some hW hs hx
     have QG : ∀ W m5, Rdr W R s m5 { q with rest := r1 } → _ := fun W m5 (hW : Rdr W R s m5 { q with rest := r1 }) => ranges_any hW hs
     clear hx
     cases wd
     case true =>
      have HN : Hid (clsS k false (orB G f0) r1 = T) := Lib.hid (by
       have e2 := HC.out
       unfold clsS at e2
       rw [HH.out] at e2
       simp only [cond_true] at e2
       rw [e1] at e2
       try simp only at e2
       simp only [Bool.not_true, Bool.false_and, cond_false] at e2
       exact e2)
      clear e1 QG
      go_upto_region 15 with (first
       | (go_at_call 137; refine (QI _ C.r).mono ?_; rintro e w4 ⟨rfl, g4⟩; have C1 := C.gr g4)
       | (go_at_call 162; refine (QS _ C1.r).mono ?_; rintro e w5 ⟨rfl, x5, m5, h5⟩; have C5 := C1.rd x5 h5 hRw; have zg : w.heap.size + 1 < w5.heap.size := C5.a.lt; clear x5 h5 QS)
       | (refine wpList_store_row rfl 219 (.tmp 7) (.tmp 30) rfl (w5.heap.size) (bsA f0) rfl rfl _ _ (SetAt.new w5 noB) (size_bsA _) (by simp only [bsA_size]) (bsA_one _) ?_; have C6 := C5.gr (Gr.setRow (Gr.alloc (Gr.refl w5) (.cells (bsA noB) 219)) (g := w5.heap.size) (Nat.le_refl _) (bsA f0)); have hsC6 : SetAt ((w5.alloc (.cells (bsA noB) 219)).setRow w5.heap.size (bsA f0)) w5.heap.size f0 := SetAt.row (SetAt.new w5 noB)))
      obtain ⟨cx, cb, ca, cr⟩ := id C6
      go_wp2_with (first
       | (refine wpList_load_row rfl 219 (.tmp 4) rfl (w.heap.size + 1) rfl _ (bsA (G)) (0, 0) _ ca und_set rfl (size_bsA _) ?_)
       | (refine wpList_load_row rfl 219 (.tmp 7) rfl (w5.heap.size) rfl _ (bsA (f0)) (0, 0) _ hsC6 und_set rfl (size_bsA _) ?_)
       | (go_at_call 165; refine (with_any G (f0) _).mono ?_; rintro e w9 ⟨rfl, g9⟩; have C9 := C6.gr g9; have ca9 := C9.a)
       | (refine wpList_store_row rfl 219 (.tmp 4) (.tmp 72) rfl (w.heap.size + 1) (bsA (orB G (f0))) rfl rfl _ _ ca9 (size_bsA _) (by simp only [bsA_size]) (bsA_one _) ?_))
      have C10 := C9.all hRw (orB G (f0))
      have hm10 := Lib.hid C10.r.n
      have hl10 := C10.r.len
      simp only at hl10
      clear ca9 C9 cx cb ca cr
      go_roundw
      case rel => exact ⟨false, _, _, _, k, rfl, by omega, C10, HN⟩
      case measure => rw [Hmn.out, hm10.out]; omega
     case false =>
     cases hrg : rangesS r1
     case false =>
      have HN : Hid (clsS k false (orB G f0) r1 = T) := Lib.hid (by
       have e2 := HC.out
       unfold clsS at e2
       rw [HH.out] at e2
       simp only [cond_true] at e2
       rw [e1] at e2
       try simp only at e2
       rw [hrg] at e2
       simp only [Bool.and_false, cond_false] at e2
       exact e2)
      simp only [hrg] at QG
      clear e1 hrg
      go_upto_region 15 with (first
       | (go_at_call 137; refine (QI _ C.r).mono ?_; rintro e w4 ⟨rfl, g4⟩; have C1 := C.gr g4)
       | (go_at_call 162; refine (QS _ C1.r).mono ?_; rintro e w5 ⟨rfl, x5, m5, h5⟩; have C5 := C1.rd x5 h5 hRw; have zg : w.heap.size + 1 < w5.heap.size := C5.a.lt; clear x5 h5 QS)
       | (refine wpList_store_row rfl 219 (.tmp 7) (.tmp 30) rfl (w5.heap.size) (bsA f0) rfl rfl _ _ (SetAt.new w5 noB) (size_bsA _) (by simp only [bsA_size]) (bsA_one _) ?_; have C6 := C5.gr (Gr.setRow (Gr.alloc (Gr.refl w5) (.cells (bsA noB) 219)) (g := w5.heap.size) (Nat.le_refl _) (bsA f0)); have hsC6 : SetAt ((w5.alloc (.cells (bsA noB) 219)).setRow w5.heap.size (bsA f0)) w5.heap.size f0 := SetAt.row (SetAt.new w5 noB))
       | (go_at_call 163; refine (QG _ _ C6.r).mono ?_; rintro e w7 ⟨rfl, g7⟩; have C7 := C6.gr g7; have hs7 := hsC6.gr g7))
      obtain ⟨cx, cb, ca, cr⟩ := id C7
      go_wp2_with (first
       | (refine wpList_load_row rfl 219 (.tmp 4) rfl (w.heap.size + 1) rfl _ (bsA (G)) (0, 0) _ ca und_set rfl (size_bsA _) ?_)
       | (refine wpList_load_row rfl 219 (.tmp 7) rfl (w5.heap.size) rfl _ (bsA (f0)) (0, 0) _ hs7 und_set rfl (size_bsA _) ?_)
       | (go_at_call 165; refine (with_any G (f0) _).mono ?_; rintro e w9 ⟨rfl, g9⟩; have C9 := C7.gr g9; have ca9 := C9.a)
       | (refine wpList_store_row rfl 219 (.tmp 4) (.tmp 72) rfl (w.heap.size + 1) (bsA (orB G (f0))) rfl rfl _ _ ca9 (size_bsA _) (by simp only [bsA_size]) (bsA_one _) ?_))
      have C10 := C9.all hRw (orB G (f0))
      have hm10 := Lib.hid C10.r.n
      have hl10 := C10.r.len
      simp only at hl10
      clear ca9 C9 cx cb ca cr
      go_roundw
      case rel => exact ⟨false, _, _, _, k, rfl, by omega, C10, HN⟩
      case measure => rw [Hmn.out, hm10.out]; omega
     case true =>
      simp only [hrg] at QG
      obtain ⟨c, d, t, rfl⟩ := rangesS_two hrg
      simp only [List.length_cons] at hlt1
      go_upto_region 10 with (first
        | (go_at_call 137; refine (QI _ C.r).mono ?_; rintro e w4 ⟨rfl, g4⟩; have C1 := C.gr g4)
        | (go_at_call 162; refine (QS _ C1.r).mono ?_; rintro e w5 ⟨rfl, x5, m5, h5⟩; have C5 := C1.rd x5 h5 hRw; have zg : w.heap.size + 1 < w5.heap.size := C5.a.lt; clear x5 h5 QS)
        | (refine wpList_store_row rfl 219 (.tmp 7) (.tmp 30) rfl (w5.heap.size) (bsA f0) rfl rfl _ _ (SetAt.new w5 noB) (size_bsA _) (by simp only [bsA_size]) (bsA_one _) ?_; have C6 := C5.gr (Gr.setRow (Gr.alloc (Gr.refl w5) (.cells (bsA noB) 219)) (g := w5.heap.size) (Nat.le_refl _) (bsA f0)); have hsC6 : SetAt ((w5.alloc (.cells (bsA noB) 219)).setRow w5.heap.size (bsA f0)) w5.heap.size f0 := SetAt.row (SetAt.new w5 noB))
        | (go_at_call 163; refine (QG _ _ C6.r).mono ?_; rintro e w7 ⟨rfl, g7⟩; have C7 := C6.gr g7; have hs7 := hsC6.gr g7))
      have hl7 := C7.r.len
      simp only [List.length_cons] at hl7
      have hm7 : (m5 : Int) < 4096 := by omega
      obtain ⟨c1, f1⟩ := And.intro C7.r.c1 C7.r.f1
      go_upto_region 11 with (fail)
      have C8 := C7.rd (GX.setCell (p := ⟨R, 1, none⟩) (GX.refl R w7) (.inl rfl) (.int .i64 ((m5 : Int) + 1))) (C7.r.next rfl) hRw
      have hs8 := hs7.other (p := ⟨R, 1, none⟩) (by show _ ≠ R; omega) (.int .i64 ((m5 : Int) + 1))
      clear c1 f1 C7 hs7 C6 hsC6 C5 C1 hl7 QG g7
      generalize w7.setCell ⟨R, 1, none⟩ (.int .i64 ((m5 : Int) + 1)) = w8 at C8 hs8 ⊢
      have hdr : (c :: d :: t).drop 1 = d :: t := rfl
      rcases hy : sideS (d :: t) with ⟨_ | ⟨f2, b0, wd2⟩, r2⟩
      ·
       have HN : Hid (T = (none, r2)) := Lib.hid (by
        have e2 := HC.out
        unfold clsS at e2
        rw [HH.out] at e2
        simp only [cond_true] at e2
        rw [e1] at e2
        try simp only at e2
        rw [hrg, hdr, hy] at e2
        simp only [Bool.not_false, Bool.and_true, cond_true] at e2
        exact e2.symm)
       have QT := fun W (hW : Rdr W R s (m5 + 1) { q with rest := d :: t }) => side_none hW hs hy
       clear hy hrg e1
       go_upto_region 13 with (first
        | (go_at_call 162; refine (QT _ C8.r).mono ?_; rintro e w10 ⟨f4, c4, d4, rfl, x10, m10, h10⟩; have Ca := C8.rd x10 h10 hRw; clear x10 h10 QT)
        | (refine wpList_store_row rfl 219 (.tmp 11) (.tmp 55) rfl (w10.heap.size) (bsA f4) rfl rfl _ _ (SetAt.new w10 noB) (size_bsA _) (by simp only [bsA_size]) (bsA_one _) ?_; have Cb := Ca.gr (Gr.setRow (Gr.alloc (Gr.refl w10) (.cells (bsA noB) 219)) (g := w10.heap.size) (Nat.le_refl _) (bsA f4)); have hsCb : SetAt ((w10.alloc (.cells (bsA noB) 219)).setRow w10.heap.size (bsA f4)) w10.heap.size f4 := SetAt.row (SetAt.new w10 noB)))
       obtain ⟨cx, cb, ca, cr⟩ := id Cb
       go_wp2_with (first
        | (refine wpList_load_row rfl 219 (.tmp 4) rfl (w.heap.size + 1) rfl _ (bsA (G)) (0, 0) _ ca und_set rfl (size_bsA _) ?_)
        | (refine wpList_store_row rfl 219 (.tmp 2) (.tmp 66) rfl (w.heap.size) (bsA (G)) rfl rfl _ _ cb (size_bsA _) (by simp only [bsA_size]) (bsA_one _) ?_))
       rw [show T = (none, r2) from HN.out]
       exact bodyPost_ret (v := .tuple #[.agg (bsA G), .bool false]) (res_set2 _ 2 3 (by kernel_rfl) _ _ w.heap.size _ _ rfl rfl (SetAt.row cb)) rfl ⟨G, _, rfl, (fun _ h => by cases h), cx.setRow (.inr (Nat.le_refl _)) _, cr.setRow (g := w.heap.size) (by omega) _⟩
      ·
       have hb256 := (sideS_some hy).2
       have hlt2 := (sideS_some hy).1
       simp only [List.length_cons] at hlt2
       have QT := fun W (hW : Rdr W R s (m5 + 1) { q with rest := d :: t }) => side_some hW hs hy
       by_cases hba : b0 < a0
       ·
        have HN : Hid (T = (none, r2)) := Lib.hid (by
         have e2 := HC.out
         unfold clsS at e2
         rw [HH.out] at e2
         simp only [cond_true] at e2
         rw [e1] at e2
         try simp only at e2
         rw [hrg, hdr, hy] at e2
         simp only [Bool.not_false, Bool.and_true, cond_true] at e2
         rw [blt_yes hba] at e2
         simp only [cond_true] at e2
         exact e2.symm)
        have hbI : (b0 : Int) < (a0 : Int) := by omega
        clear hy hrg e1 hba
        go_upto_region 13 with (first
         | (go_at_call 162; refine (QT _ C8.r).mono ?_; rintro e w10 ⟨rfl, x10, m10, h10⟩; have Ca := C8.rd x10 h10 hRw; clear x10 h10 QT)
         | (refine wpList_store_row rfl 219 (.tmp 11) (.tmp 55) rfl (w10.heap.size) (bsA f2) rfl rfl _ _ (SetAt.new w10 noB) (size_bsA _) (by simp only [bsA_size]) (bsA_one _) ?_; have Cb := Ca.gr (Gr.setRow (Gr.alloc (Gr.refl w10) (.cells (bsA noB) 219)) (g := w10.heap.size) (Nat.le_refl _) (bsA f2)); have hsCb : SetAt ((w10.alloc (.cells (bsA noB) 219)).setRow w10.heap.size (bsA f2)) w10.heap.size f2 := SetAt.row (SetAt.new w10 noB)))
        obtain ⟨cx, cb, ca, cr⟩ := id Cb
        go_wp2_with (first
         | (refine wpList_load_row rfl 219 (.tmp 4) rfl (w.heap.size + 1) rfl _ (bsA (G)) (0, 0) _ ca und_set rfl (size_bsA _) ?_)
         | (refine wpList_store_row rfl 219 (.tmp 2) (.tmp 66) rfl (w.heap.size) (bsA (G)) rfl rfl _ _ cb (size_bsA _) (by simp only [bsA_size]) (bsA_one _) ?_))
        rw [show T = (none, r2) from HN.out]
        exact bodyPost_ret (v := .tuple #[.agg (bsA G), .bool false]) (res_set2 _ 2 3 (by kernel_rfl) _ _ w.heap.size _ _ rfl rfl (SetAt.row cb)) rfl ⟨G, _, rfl, (fun _ h => by cases h), cx.setRow (.inr (Nat.le_refl _)) _, cr.setRow (g := w.heap.size) (by omega) _⟩
       ·
        have HN : Hid (clsS k false (orB G (orB f0 (runB a0 b0))) r2 = T) := Lib.hid (by
         have e2 := HC.out
         unfold clsS at e2
         rw [HH.out] at e2
         simp only [cond_true] at e2
         rw [e1] at e2
         try simp only at e2
         rw [hrg, hdr, hy] at e2
         simp only [Bool.not_false, Bool.and_true, cond_true] at e2
         rw [blt_no hba] at e2
         simp only [cond_false] at e2
         exact e2)
        have hbI : ¬ (b0 : Int) < (a0 : Int) := by omega
        clear hy hrg e1 hba
        go_upto_region 14 with (first
         | (go_at_call 162; refine (QT _ C8.r).mono ?_; rintro e w10 ⟨rfl, x10, m10, h10⟩; have Ca := C8.rd x10 h10 hRw; have hsa := hs8.gx x10 (by omega); clear x10 h10 QT)
         | (refine wpList_store_row rfl 219 (.tmp 11) (.tmp 55) rfl (w10.heap.size) (bsA f2) rfl rfl _ _ (SetAt.new w10 noB) (size_bsA _) (by simp only [bsA_size]) (bsA_one _) ?_; have Cb := Ca.gr (Gr.setRow (Gr.alloc (Gr.refl w10) (.cells (bsA noB) 219)) (g := w10.heap.size) (Nat.le_refl _) (bsA f2)); have hsCb : SetAt ((w10.alloc (.cells (bsA noB) 219)).setRow w10.heap.size (bsA f2)) w10.heap.size f2 := SetAt.row (SetAt.new w10 noB); have hsb := hsa.gr (Gr.setRow (Gr.alloc (Gr.refl w10) (.cells (bsA noB) 219)) (g := w10.heap.size) (Nat.le_refl _) (bsA f2))))
        clear hsCb hs8
        go_upto_region 15 with (go_at_call 164; refine (adds_any w5.heap.size f0 a0 b0 _ ha256 hb256 hsb).mono ?_; rintro e w12 ⟨rfl, x12, hs12⟩; have Cc := Cb.gxn x12 zg hRw)
        clear hsb hsa Ca Cb x12
        obtain ⟨cx, cb, ca, cr⟩ := id Cc
        go_wp2_with (first
         | (refine wpList_load_row rfl 219 (.tmp 4) rfl (w.heap.size + 1) rfl _ (bsA (G)) (0, 0) _ ca und_set rfl (size_bsA _) ?_)
         | (refine wpList_load_row rfl 219 (.tmp 7) rfl (w5.heap.size) rfl _ (bsA (orB f0 (runB a0 b0))) (0, 0) _ hs12 und_set rfl (size_bsA _) ?_)
         | (go_at_call 165; refine (with_any G (orB f0 (runB a0 b0)) _).mono ?_; rintro e w9 ⟨rfl, g9⟩; have C9 := Cc.gr g9; have ca9 := C9.a)
         | (refine wpList_store_row rfl 219 (.tmp 4) (.tmp 72) rfl (w.heap.size + 1) (bsA (orB G (orB f0 (runB a0 b0)))) rfl rfl _ _ ca9 (size_bsA _) (by simp only [bsA_size]) (bsA_one _) ?_))
        have C10 := C9.all hRw (orB G (orB f0 (runB a0 b0)))
        have hm10 := Lib.hid C10.r.n
        have hl10 := C10.r.len
        simp only at hl10
        clear ca9 C9 cx cb ca cr
        go_roundw
        case rel => exact ⟨false, _, _, _, k, rfl, by omega, C10, HN⟩
        case measure => rw [Hmn.out, hm10.out]; omega
   case true =>
    have HN : Hid (T = (some G, r.drop 1)) := Lib.hid (by
     rw [← HC.out]
     unfold clsS
     rw [h93]; rfl)
    have QI := fun W (hW : Rdr W R s m { q with rest := r }) => is_yes hW hs 93 (by decide) h93
    obtain ⟨c, t, rfl, -⟩ := headIs_cons h93
    clear h93
    have hm7 : (m : Int) < 4096 := by simp only [List.length_cons] at hlen; omega
    go_upto_region 16 with (go_at_call 137; refine (QI _ C.r).mono ?_; rintro e w4 ⟨rfl, g4⟩; have C4 := C.gr g4)
    obtain ⟨c1, f1⟩ := And.intro C4.r.c1 C4.r.f1
    go_upto_region 17 with (fail)
    have C8 := C4.rd (GX.setCell (p := ⟨R, 1, none⟩) (GX.refl R w4) (.inl rfl) (.int .i64 ((m : Int) + 1))) (C4.r.next rfl) hRw
    clear c1 f1 C4 C g4 QI
    generalize w4.setCell ⟨R, 1, none⟩ (.int .i64 ((m : Int) + 1)) = w8 at C8 ⊢
    obtain ⟨cx, cb, ca, cr⟩ := id C8
    cases nt
    case false =>
     go_wp2_with (first
      | (refine wpList_load_row rfl 219 (.tmp 4) rfl (w.heap.size + 1) rfl _ (bsA (G)) (0, 0) _ ca und_set rfl (size_bsA _) ?_)
      | (refine wpList_store_row rfl 219 (.tmp 2) (.tmp 85) rfl (w.heap.size) (bsA (G)) rfl rfl _ _ cb (size_bsA _) (by simp only [bsA_size]) (bsA_one _) ?_))
     rw [show T = (some G, t) from HN.out]
     exact bodyPost_ret (v := .tuple #[.agg (bsA G), .bool true]) (res_set2 _ 2 3 (by kernel_rfl) _ _ w.heap.size _ _ rfl rfl (SetAt.row cb)) rfl ⟨G, _, rfl, (fun g h => by injection h with h), cx.setRow (.inr (Nat.le_refl _)) _, cr.setRow (g := w.heap.size) (by omega) _⟩
    case true =>
     go_upto_region 19 with (first
      | (refine wpList_load_row rfl 219 (.tmp 4) rfl (w.heap.size + 1) rfl _ (bsA (G)) (0, 0) _ ca und_set rfl (size_bsA _) ?_)
      | (go_at_call 154; refine (not_any G _).mono ?_; rintro e w9 ⟨rfl, g9⟩; have C9 := C8.gr g9; have ca9 := C9.a)
      | (refine wpList_store_row rfl 219 (.tmp 4) (.tmp 84) rfl (w.heap.size + 1) (bsA (notB G)) rfl rfl _ _ ca9 (size_bsA _) (by simp only [bsA_size]) (bsA_one _) ?_))
     have C10 := C9.all hRw (notB G)
     clear ca9 C9 cx cb ca cr C8
     obtain ⟨cx, cb, ca, cr⟩ := id C10
     go_wp2_with (first
      | (refine wpList_load_row rfl 219 (.tmp 4) rfl (w.heap.size + 1) rfl _ (bsA (notB G)) (0, 0) _ ca und_set rfl (size_bsA _) ?_)
      | (refine wpList_store_row rfl 219 (.tmp 2) (.tmp 85) rfl (w.heap.size) (bsA (notB G)) rfl rfl _ _ cb (size_bsA _) (by simp only [bsA_size]) (bsA_one _) ?_))
     rw [show T = (some G, t) from HN.out]
     exact bodyPost_ret (v := .tuple #[.agg (bsA (notB G)), .bool true]) (res_set2 _ 2 3 (by kernel_rfl) _ _ w.heap.size _ _ rfl rfl (SetAt.row cb)) rfl ⟨notB G, _, rfl, (fun g h => by injection h with h), cx.setRow (.inr (Nat.le_refl _)) _, cr.setRow (g := w.heap.size) (by omega) _⟩
end Go.Proofs.YtjapddfnpmlifaaGreatDoor
