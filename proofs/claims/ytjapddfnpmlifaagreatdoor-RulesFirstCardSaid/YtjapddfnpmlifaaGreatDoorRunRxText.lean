/- Contracts of rex.text's now, is, takes: the byte that is next. · The contract of rex.reader.escaped: what stands behind a stroke. · The contract of rex.reader.side: a byte of a class, or one of the six. · A region that draws its order and ends in one operation (number z: a store) for which all others wait: what its loads read (S) need not hold behind that last one. Derived/OrdersHeld.lean's law in that make. No program in sight. -/
import Derived.Test.YtjapddfnpmlifaaGreatDoorRunRxNam
import Derived.Deep.QuietTactic
import Derived.BigQuiet
import Derived.OrdersHeld
import Derived.Deep.RegionHeld
import Derived.StillTail
namespace Go.Proofs.YtjapddfnpmlifaaGreatDoor
open Go.RowKit
set_option linter.unusedVariables false
set_option linter.unusedSimpArgs false

theorem Gr.drewM {a w : World} (h : Gr a w) (n : Nat) : Gr a (w.drewN n) := ⟨h.os, h.tape, h.output, h.size, h.block⟩
theorem drop_byte {s : ByteArray} {n : Nat} {c : UInt8} {r : List UInt8} (h : s.data.toList.drop n = c :: r) : ∃ hn : n < s.size, s[n] = c := by
 have hl : n < s.data.toList.length := by
  rcases Nat.lt_or_ge n s.data.toList.length with h1 | h1
  ·
   exact h1
  ·
   rw [List.drop_eq_nil_of_le h1] at h; cases h
 refine ⟨by simpa using hl, ?_⟩
 rw [List.drop_eq_getElem_cons hl] at h
 injection h with h1 _
theorem Rdr.byte {w : World} {R n : Nat} {s : ByteArray} {q : Rs} (h : Rdr w R s n q) {c : UInt8} {r : List UInt8} (hq : q.rest = c :: r) : ∃ hn : n < s.size, s[n] = c :=
 drop_byte (h.rest.trans hq)

set_option maxRecDepth 100000 in
set_option maxHeartbeats 800000 in
theorem now_end {w : World} {R n : Nat} {s : ByteArray} {q : Rs} (h : Rdr w R s n q) (hs : (s.size : Int) ≤ 4096) (hq : q.rest = []) :
  Calls Tryz.prog 135 #[.pointer (some ⟨R, 0, none⟩)] w fun e w' => e = .returned (.tuple #[.int .u8 0, .bool false]) ∧ Gr w w' := by
 have hl := h.len
 rw [hq] at hl
 have hn : s.size ≤ n := by simp at hl; omega
 obtain ⟨c0, c1⟩ := And.intro h.c0 h.c1
 clear h hq hl
 go_enter Tryz.func135, Tryz.ntmps135
 go_wp2
 go_quiet (fail)
 go_wp2
 go_ret2
 exact ⟨rfl, Gr.drewM (Gr.refl _) _⟩
set_option maxRecDepth 100000 in
set_option maxHeartbeats 800000 in
theorem now_some {w : World} {R n : Nat} {s : ByteArray} {q : Rs} (h : Rdr w R s n q) (hs : (s.size : Int) ≤ 4096) {c : UInt8} {r : List UInt8} (hq : q.rest = c :: r) :
  Calls Tryz.prog 135 #[.pointer (some ⟨R, 0, none⟩)] w fun e w' => e = .returned (.tuple #[.int .u8 c.toNat, .bool true]) ∧ Gr w w' := by
 obtain ⟨hn, hb⟩ := h.byte hq
 obtain ⟨c0, c1⟩ := And.intro h.c0 h.c1
 have hn' : (n : Int) < s.size := by omega
 clear h hq
 go_enter Tryz.func135, Tryz.ntmps135
 go_wp2
 go_quiet (fail)
 go_wp2
 go_quiet (fail)
 go_wp2
 go_ret2
 exact ⟨rfl, Gr.drewM (Gr.drewM (Gr.refl _) _) _⟩

set_option maxRecDepth 100000 in
set_option maxHeartbeats 800000 in
theorem is_no {w : World} {R n : Nat} {s : ByteArray} {q : Rs} (h : Rdr w R s n q) (hs : (s.size : Int) ≤ 4096) (c : Nat) (hc : c < 256) (hq : headIs c q.rest = false) :
  Calls Tryz.prog 137 #[.pointer (some ⟨R, 0, none⟩), .int .u8 c] w fun e w' => e = .returned (.bool false) ∧ Gr w w' := by
 match e : q.rest with
 | [] =>
  have Q := fun w (h : Rdr w R s n q) => now_end h hs e
  go_enter Tryz.func137, Tryz.ntmps137
  go_wp2_with (go_at_call 135; refine (Q _ h).mono ?_; rintro e w1 ⟨rfl, hg⟩)
  go_ret
  exact ⟨rfl, hg⟩
 | b :: r =>
  rw [e] at hq
  have hne : ((b.toNat : Int) == (c : Int)) = false := by
   have : ¬ b.toNat = c := by simpa [headIs] using hq
   exact beq_eq_false_iff_ne.2 (by omega)
  have hne' : (b.toNat == c) = false := by simpa [headIs] using hq
  have Q := fun w (h : Rdr w R s n q) => now_some h hs e
  clear hq
  go_enter Tryz.func137, Tryz.ntmps137
  go_wp2_with (go_at_call 135; refine (Q _ h).mono ?_; rintro e w1 ⟨rfl, hg⟩)
  go_ret
  exact ⟨rfl, hg⟩
set_option maxRecDepth 100000 in
set_option maxHeartbeats 800000 in
theorem is_yes {w : World} {R n : Nat} {s : ByteArray} {q : Rs} (h : Rdr w R s n q) (hs : (s.size : Int) ≤ 4096) (c : Nat) (hc : c < 256) (hq : headIs c q.rest = true) :
  Calls Tryz.prog 137 #[.pointer (some ⟨R, 0, none⟩), .int .u8 c] w fun e w' => e = .returned (.bool true) ∧ Gr w w' := by
 match e : q.rest with
 | [] => rw [e] at hq; cases hq
 | b :: r =>
  rw [e] at hq
  have hb : b.toNat = c := by simpa [headIs] using hq
  subst hb
  have Q := fun w (h : Rdr w R s n q) => now_some h hs e
  clear hq
  go_enter Tryz.func137, Tryz.ntmps137
  go_wp2_with (go_at_call 135; refine (Q _ h).mono ?_; rintro e w1 ⟨rfl, hg⟩)
  go_ret
  exact ⟨rfl, hg⟩

theorem headIs_cons {c : Nat} {l : List UInt8} (h : headIs c l = true) : ∃ b r, l = b :: r ∧ b.toNat = c := by
 cases l with
 | nil => cases h
 | cons b r => exact ⟨b, r, rfl, by simpa [headIs] using h⟩
/-- one byte further. -/
theorem Rdr.next {w : World} {R n : Nat} {s : ByteArray} {q : Rs} (h : Rdr w R s n q) {c : UInt8} {r : List UInt8} (hq : q.rest = c :: r) : Rdr (w.setCell ⟨R, 1, none⟩ (.int .i64 ((n : Int) + 1))) R s (n + 1) { q with rest := r } := by
 have hl := h.len
 have hr := h.rest
 rw [hq] at hl hr
 refine ⟨by simp at hl ⊢; omega, ?_, ?_, ?_, ?_, ?_, ?_, ?_, ?_, ?_, ?_, ?_, ?_, ?_⟩
 ·
  show s.data.toList.drop (n + 1) = r
  rw [← List.drop_drop, hr]; rfl
 ·
  exact (World.cell?_setCell_other w ⟨R, 1, none⟩ ⟨R, 0, none⟩ _ (by simp)).trans h.c0
 ·
  have := h.c1; have := h.f1; go_simp
 ·
  exact (World.cell?_setCell_other w ⟨R, 1, none⟩ ⟨R, 2, none⟩ _ (by simp)).trans h.c2
 ·
  exact (World.cell?_setCell_other w ⟨R, 1, none⟩ ⟨R, 3, none⟩ _ (by simp)).trans h.c3
 ·
  exact (World.cell?_setCell_other w ⟨R, 1, none⟩ ⟨R, 4, none⟩ _ (by simp)).trans h.c4
 ·
  exact (World.cell?_setCell_other w ⟨R, 1, none⟩ ⟨R, 5, none⟩ _ (by simp)).trans h.c5
 ·
  exact (by simp : (w.setCell ⟨R, 1, none⟩ _).frozen? ⟨R, 1, none⟩ = w.frozen? ⟨R, 1, none⟩).trans h.f1
 ·
  exact (by simp : (w.setCell ⟨R, 1, none⟩ _).frozen? ⟨R, 2, none⟩ = w.frozen? ⟨R, 2, none⟩).trans h.f2
 ·
  exact (by simp : (w.setCell ⟨R, 1, none⟩ _).frozen? ⟨R, 3, none⟩ = w.frozen? ⟨R, 3, none⟩).trans h.f3
 ·
  exact (by simp : (w.setCell ⟨R, 1, none⟩ _).frozen? ⟨R, 4, none⟩ = w.frozen? ⟨R, 4, none⟩).trans h.f4
 ·
  exact (by simp : (w.setCell ⟨R, 1, none⟩ _).frozen? ⟨R, 5, none⟩ = w.frozen? ⟨R, 5, none⟩).trans h.f5
 ·
  simpa using h.lt
set_option maxRecDepth 100000 in
set_option maxHeartbeats 800000 in
theorem takes_no {w : World} {R n : Nat} {s : ByteArray} {q : Rs} (h : Rdr w R s n q) (hs : (s.size : Int) ≤ 4096) (c : Nat) (hc : c < 256) (hq : headIs c q.rest = false) :
  Calls Tryz.prog 109 #[.pointer (some ⟨R, 0, none⟩), .int .u8 c] w fun e w' => e = .returned (.bool false) ∧ Gr w w' := by
 have Q := fun w (h : Rdr w R s n q) => is_no h hs c hc hq
 clear hq
 go_enter Tryz.func109, Tryz.ntmps109
 go_wp2_with (go_at_call 137; refine (Q _ h).mono ?_; rintro e w1 ⟨rfl, hg⟩)
 go_ret
 exact ⟨rfl, hg⟩
set_option maxRecDepth 100000 in
set_option maxHeartbeats 800000 in
theorem takes_yes {w : World} {R n : Nat} {s : ByteArray} {q : Rs} (h : Rdr w R s n q) (hs : (s.size : Int) ≤ 4096) (c : Nat) (hc : c < 256) (hq : headIs c q.rest = true) :
  Calls Tryz.prog 109 #[.pointer (some ⟨R, 0, none⟩), .int .u8 c] w fun e w' => e = .returned (.bool true) ∧ GX R w w' ∧ Rdr w' R s (n + 1) { q with rest := q.rest.drop 1 } := by
 have Q := fun w (h : Rdr w R s n q) => is_yes h hs c hc hq
 obtain ⟨b, r, hr, -⟩ := headIs_cons hq
 have hle := h.len
 have hn : (n : Int) < 4096 := by rw [hr] at hle; simp at hle; omega
 clear hq hle
 go_enter Tryz.func109, Tryz.ntmps109
 go_wp2_with fail
 refine (Q _ h).mono ?_; rintro e w1 ⟨rfl, hg⟩
 have h1 := h.gr hg
 obtain ⟨c1, f1⟩ := And.intro h1.c1 h1.f1
 clear Q
 go_wp2
 go_ret
 refine ⟨rfl, GX.setCell (p := ⟨R, 1, none⟩) (GX.of_gr hg) (.inl rfl) _, ?_⟩
 have hn := h1.next hr
 rw [hr]
 exact hn
end Go.Proofs.YtjapddfnpmlifaaGreatDoor
namespace Go.Proofs.YtjapddfnpmlifaaGreatDoor
open Go.RowKit
set_option linter.unusedVariables false
set_option linter.unusedSimpArgs false

/-- a set of bytes is handed back, or none; how far the expression is read behind it. -/
def RetBX (R : Nat) (s : ByteArray) (w : World) (x : Option Bs) (q : Rs) (e : Ending) (w' : World) : Prop :=
 ∃ (f : Bs) (n : Nat), e = .returned (.tuple #[.agg (bsA f), .bool x.isSome]) ∧ (∀ g, x = some g → f = g) ∧ GX R w w' ∧ Rdr w' R s n q
theorem built_set : Tryz.prog.built 219 [] = some (bsA noB) := by kernel_rfl
theorem wpList_build0 {P : Program} {ops : Array Oper} {rest : List Oper} {o : Oper} {a : Act} {w : World} {Q : Exit → Act → World → Prop} (hg : o.guard = none) (t : TypeId) (ho : o.op = .build t #[])
  (c : Array Value) (hb : P.built t [] = some c) (h : wpList P ops Q rest (a.put o.dst (.agg c)) w) : wpList P ops Q (o :: rest) a w :=
 wpList_build hg t #[] ho (by simp [hb]) (by simpa [hb] using h)
theorem Rdr.setRow {w : World} {R n : Nat} {s : ByteArray} {q : Rs} (h : Rdr w R s n q) {g : Nat} (hg : R ≠ g) (cs : Array Value) : Rdr (w.setRow g cs) R s n q := by
 have e : (w.setRow g cs).heap[R]? = w.heap[R]? := setRow_other w g R cs hg
 have hc : ∀ i, (w.setRow g cs).cell? ⟨R, i, none⟩ = w.cell? ⟨R, i, none⟩ := fun i => World.cell?_of_block (a := ⟨R, i, none⟩) e
 have hf : ∀ i, (w.setRow g cs).frozen? ⟨R, i, none⟩ = w.frozen? ⟨R, i, none⟩ := fun i => World.frozen?_of_block (a := ⟨R, i, none⟩) e
 exact ⟨h.len, h.rest, (hc 0).trans h.c0, (hc 1).trans h.c1, (hc 2).trans h.c2, (hc 3).trans h.c3, (hc 4).trans h.c4, (hc 5).trans h.c5, (hf 1).trans h.f1, (hf 2).trans h.f2, (hf 3).trans h.f3, (hf 4).trans h.f4, (hf 5).trans h.f5, by simpa using h.lt⟩

set_option maxRecDepth 100000 in
set_option maxHeartbeats 1600000 in
theorem esc_any {w : World} {R n : Nat} {s : ByteArray} {q : Rs} (h : Rdr w R s n q) (hs : (s.size : Int) ≤ 4096) :
  Calls Tryz.prog 158 #[.pointer (some ⟨R, 0, none⟩)] w (RetBX R s w (escS q.rest).1 { q with rest := (escS q.rest).2 }) := by
 obtain ⟨hz, hsz⟩ := zero_of_info info_set
 have g0 : Gr w (w.alloc (Obj.cells (bsA noB) 219)) := (by repeat (first | exact Gr.refl _ | refine Gr.alloc ?_ _ | refine Gr.drew ?_ | refine Gr.setCell ?_ (by first | (simp; done) | (simp; omega) | omega) _ | refine Gr.trans ?_ (by assumption)))
 have r0 : SetAt (w.alloc (Obj.cells (bsA noB) 219)) w.heap.size noB := SetAt.new w noB
 have hRw := h.lt
 match e : q.rest with
 | [] =>
  have Q := fun w (h : Rdr w R s n q) => now_end h hs e
  go_enter Tryz.func158, Tryz.ntmps158
  go_upto_region 1 with (fail)
  generalize (w.alloc (Obj.cells (bsA noB) 219)) = w0 at g0 r0 ⊢
  have h0 := h.gr g0
  clear hz hsz h
  go_upto_region 3 with (go_at_call 135; refine (Q _ h0).mono ?_; rintro e w1 ⟨rfl, hg⟩)
  have h1 := h0.gr hg
  have g1 := Gr.trans g0 hg
  have r1 := r0.gr hg
  clear Q g0 r0 h0 hg
  go_wp2_with (first
   | (refine wpList_build0 rfl 219 rfl (bsA noB) built_set ?_)
   | (refine wpList_store_row rfl 219 (.tmp 2) (.tmp 17) rfl w.heap.size (bsA noB) rfl rfl _ _ r1 (size_bsA _) (by simp only [bsA_size]) (bsA_one _) ?_))
  refine bodyPost_ret (v := .tuple #[.agg (bsA noB), .bool false]) (res_set2 _ 2 3 (by kernel_rfl) _ _ w.heap.size _ _ rfl rfl (SetAt.row r1)) rfl ⟨noB, n, rfl, (fun _ h => by cases h), GX.of_gr (Gr.setRow g1 (Nat.le_refl _) _), ?_⟩
  have h2 := h1.setRow (g := w.heap.size) (by omega) (bsA noB)
  have e' : q = { q with rest := [] } := by rw [← e]
  rw [e'] at h2
  exact h2
 | c :: r =>
  have Q := fun w (h : Rdr w R s n q) => now_some h hs e
  have hle := h.len
  have hn : (n : Int) < 4096 := by rw [e] at hle; simp at hle; omega
  have hc256 : c.toNat < 256 := c.toNat_lt
  have hw0 : R < w.heap.size := h.lt
  clear hle
  have QN := fun w => named_any c.toNat w hc256
  cases hnm : namedB c.toNat with
  | some f =>
   have e1 : nmB c.toNat = f := by simp [nmB, hnm]
   have e2 : isNamed c.toNat = true := by simp [isNamed, hnm]
   have e3 : escS (c :: r) = (some f, r) := by simp [escS, hnm]
   rw [e1, e2] at QN
   rw [e3]
   clear e1 e2 e3 hnm
   go_enter Tryz.func158, Tryz.ntmps158
   go_upto_region 1 with (fail)
   generalize (w.alloc (Obj.cells (bsA noB) 219)) = w0 at g0 r0 ⊢
   have h0 := h.gr g0
   clear hsz h
   go_upto_region 4 with (go_at_call 135; refine (Q _ h0).mono ?_; rintro e w1 ⟨rfl, hg⟩)
   have h1 := h0.gr hg
   have g1 := Gr.trans g0 hg
   have r1 := r0.gr hg
   clear Q g0 r0 h0 hg
   obtain ⟨c1, f1⟩ := And.intro h1.c1 h1.f1
   go_upto_region 5 with (fail)
   have h2 := h1.next e
   have x2 := GX.setCell (p := ⟨R, 1, none⟩) (GX.of_gr g1) (.inl rfl) (.int .i64 ((n : Int) + 1))
   have r2 := r1.other (p := ⟨R, 1, none⟩) (by simp; omega) (.int .i64 ((n : Int) + 1))
   clear c1 f1 h1 g1 r1
   generalize w1.setCell ⟨R, 1, none⟩ (.int .i64 ((n : Int) + 1)) = w2 at h2 x2 r2 ⊢
   go_upto_region 7 with (first
    | (go_at_call 166; refine (QN _).mono ?_; rintro e w3 ⟨rfl, hg3⟩)
    | (refine wpList_store_row rfl 219 (.tmp 6) (.tmp 30) rfl w3.heap.size (bsA f) rfl rfl _ _ (SetAt.new w3 noB) (size_bsA _) (by simp only [bsA_size]) (bsA_one _) ?_))
   have S1 : SetAt ((w3.alloc (.cells (bsA noB) 219)).setRow w3.heap.size (bsA f)) w3.heap.size f := SetAt.row (SetAt.new w3 noB)
   have G1 : Gr w2 ((w3.alloc (.cells (bsA noB) 219)).setRow w3.heap.size (bsA f)) := Gr.setRow (Gr.alloc hg3 _) hg3.size _
   generalize ((w3.alloc (.cells (bsA noB) 219)).setRow w3.heap.size (bsA f)) = w4 at S1 G1 ⊢
   have h4 := h2.gr G1
   have x4 := x2.trans (GX.of_gr G1)
   have r4 := r2.gr G1
   clear QN hg3 h2 x2 r2 G1 hz
   go_wp2_with (first
    | (refine wpList_load_row rfl 219 (.tmp 6) rfl w3.heap.size rfl _ (bsA f) (0, 0) _ S1 und_set rfl (size_bsA _) ?_)
    | (refine wpList_store_row rfl 219 (.tmp 2) (.tmp 33) rfl w.heap.size (bsA f) rfl rfl _ _ r4 (size_bsA _) (by simp only [bsA_size]) (bsA_one _) ?_))
   exact bodyPost_ret (v := .tuple #[.agg (bsA f), .bool true]) (res_set2 _ 2 3 (by kernel_rfl) _ _ w.heap.size _ _ rfl rfl (SetAt.row r4)) rfl ⟨f, n + 1, rfl, (fun g h => by injection h), x4.setRow (.inr (Nat.le_refl _)) _, h4.setRow (g := w.heap.size) (by omega) (bsA f)⟩
  | none =>
   have e1 : nmB c.toNat = noB := by simp [nmB, hnm]
   have e2 : isNamed c.toNat = false := by simp [isNamed, hnm]
   have e3 : escS (c :: r) = (bif isWordB c.toNat then none else some (oneB c.toNat), r) := by simp [escS, hnm]
   rw [e1, e2] at QN
   rw [e3]
   have QW := fun w => isWord_any c.toNat w hc256
   have QO := fun w => one_any c.toNat w hc256
   clear e1 e2 e3 hnm
   cases hwd : isWordB c.toNat
   all_goals
    simp only [hwd, cond_true, cond_false] at QW ⊢
    clear hwd
    go_enter Tryz.func158, Tryz.ntmps158
    go_upto_region 1 with (fail)
    generalize (w.alloc (Obj.cells (bsA noB) 219)) = w0 at g0 r0 ⊢
    have h0 := h.gr g0
    clear hsz h
    go_upto_region 4 with (go_at_call 135; refine (Q _ h0).mono ?_; rintro e w1 ⟨rfl, hg⟩)
    have h1 := h0.gr hg
    have g1 := Gr.trans g0 hg
    have r1 := r0.gr hg
    clear Q g0 r0 h0 hg
    obtain ⟨c1, f1⟩ := And.intro h1.c1 h1.f1
    go_upto_region 5 with (fail)
    have h2 := h1.next e
    have x2 := GX.setCell (p := ⟨R, 1, none⟩) (GX.of_gr g1) (.inl rfl) (.int .i64 ((n : Int) + 1))
    have r2 := r1.other (p := ⟨R, 1, none⟩) (by simp; omega) (.int .i64 ((n : Int) + 1))
    clear c1 f1 h1 g1 r1
    generalize w1.setCell ⟨R, 1, none⟩ (.int .i64 ((n : Int) + 1)) = w2 at h2 x2 r2 ⊢
    go_upto_region 8 with (first
     | (go_at_call 166; refine (QN _).mono ?_; rintro e w3 ⟨rfl, hg3⟩)
     | (refine wpList_store_row rfl 219 (.tmp 6) (.tmp 30) rfl w3.heap.size (bsA noB) rfl rfl _ _ (SetAt.new w3 noB) (size_bsA _) (by simp only [bsA_size]) (bsA_one _) ?_))
    have G1 : Gr w2 ((w3.alloc (.cells (bsA noB) 219)).setRow w3.heap.size (bsA noB)) := Gr.setRow (Gr.alloc hg3 _) hg3.size _
    generalize ((w3.alloc (.cells (bsA noB) 219)).setRow w3.heap.size (bsA noB)) = w4 at G1 ⊢
    clear QN hg3 hz
    go_wp2_with (first
     | (go_at_call 153; refine (QO _).mono ?_; rintro e w5 ⟨rfl, hg5⟩)
     | (go_at_call 167; refine (QW _).mono ?_; rintro e w6 ⟨rfl, hg6⟩; have G6 := Gr.trans G1 (Gr.trans hg5 hg6); have h6 := h2.gr G6; have x6 := x2.trans (GX.of_gr G6); have r6 := r2.gr G6; clear G6)
     | (refine wpList_store_row rfl 219 (.tmp 2) (.tmp 35) rfl w.heap.size (bsA (oneB c.toNat)) rfl rfl _ _ r6 (size_bsA _) (by simp only [bsA_size]) (bsA_one _) ?_))
   ·
    exact bodyPost_ret (v := .tuple #[.agg (bsA (oneB c.toNat)), .bool true]) (res_set2 _ 2 3 (by kernel_rfl) _ _ w.heap.size _ _ rfl rfl (SetAt.row r6)) rfl ⟨oneB c.toNat, n + 1, rfl, (fun g h => by injection h), x6.setRow (.inr (Nat.le_refl _)) _, h6.setRow (g := w.heap.size) (by omega) (bsA (oneB c.toNat))⟩
   ·
    exact bodyPost_ret (v := .tuple #[.agg (bsA (oneB c.toNat)), .bool false]) (res_set2 _ 2 3 (by kernel_rfl) _ _ w.heap.size _ _ rfl rfl (SetAt.row r6)) rfl ⟨oneB c.toNat, n + 1, rfl, (fun g h => by cases h), x6.setRow (.inr (Nat.le_refl _)) _, h6.setRow (g := w.heap.size) (by omega) (bsA (oneB c.toNat))⟩
end Go.Proofs.YtjapddfnpmlifaaGreatDoor
namespace Go.Proofs.YtjapddfnpmlifaaGreatDoor
open Go.RowKit
set_option linter.unusedVariables false
set_option linter.unusedSimpArgs false

theorem res_set4 (fn : Func) (p q r t : Tmp) (h : fn.results = #[.cell p 219, .tmp q, .tmp r, .tmp t]) (tmps : Array Value) (w : World) (g : Nat) (f : Bs) (b c d : Value) (hp : tmps.getD p undef = .pointer (some ⟨g, 0, none⟩)) (hq : tmps.getD q undef = b) (hr : tmps.getD r undef = c) (ht : tmps.getD t undef = d) (hs : SetAt w g f) :
  (results fn tmps).run Tryz.prog w = .ok (.tuple #[.agg (bsA f), b, c, d]) w := by
 have hp' : tmps[p]?.getD undef = .pointer (some ⟨g, 0, none⟩) := by simpa using hp
 have hq' : tmps[q]?.getD undef = b := by simpa using hq
 have hr' : tmps[r]?.getD undef = c := by simpa using hr
 have ht' : tmps[t]?.getD undef = d := by simpa using ht
 simp [results, h, hp', hq', hr', ht', asAddr, run_loadVar_row w g _ 219 (bsA f) (0, 0) _ hs und_set rfl (size_bsA _)]
/-- a set of bytes, a byte, whether it is one of the six, are handed back, or none. -/
def RetD (R : Nat) (s : ByteArray) (w : World) (x : Option (Bs × Nat × Bool)) (q : Rs) (e : Ending) (w' : World) : Prop :=
 ∃ (f : Bs) (c : Nat) (b : Bool) (n : Nat), e = .returned (.tuple #[.agg (bsA f), .int .u8 c, .bool b, .bool x.isSome]) ∧ (∀ g, x = some g → (f, c, b) = g ∧ c < 256) ∧ GX R w w' ∧ Rdr w' R s n q

theorem esc_rest (d : UInt8) (t : List UInt8) : (escS (d :: t)).2 = t := by
 simp only [escS]
 cases namedB d.toNat <;> rfl
set_option maxRecDepth 100000 in
set_option maxHeartbeats 3200000 in
theorem side_any {w : World} {R n : Nat} {s : ByteArray} {q : Rs} (h : Rdr w R s n q) (hs : (s.size : Int) ≤ 4096) :
  Calls Tryz.prog 162 #[.pointer (some ⟨R, 0, none⟩)] w (RetD R s w (sideS q.rest).1 { q with rest := (sideS q.rest).2 }) := by
 obtain ⟨hz, hsz⟩ := zero_of_info info_set
 have g0 : Gr w (w.alloc (Obj.cells (bsA noB) 219)) := (by repeat (first | exact Gr.refl _ | refine Gr.alloc ?_ _ | refine Gr.drew ?_ | refine Gr.setCell ?_ (by first | (simp; done) | (simp; omega) | omega) _ | refine Gr.trans ?_ (by assumption)))
 have r0 : SetAt (w.alloc (Obj.cells (bsA noB) 219)) w.heap.size noB := SetAt.new w noB
 have hRw := h.lt
 match e : q.rest with
 | [] =>
  have Q := fun w (h : Rdr w R s n q) => now_end h hs e
  go_enter Tryz.func162, Tryz.ntmps162
  go_upto_region 1 with (fail)
  generalize (w.alloc (Obj.cells (bsA noB) 219)) = w0 at g0 r0 ⊢
  have h0 := h.gr g0
  clear hz hsz h
  go_upto_region 3 with (go_at_call 135; refine (Q _ h0).mono ?_; rintro e w1 ⟨rfl, hg⟩)
  have h1 := h0.gr hg
  have g1 := Gr.trans g0 hg
  have r1 := r0.gr hg
  clear Q g0 r0 h0 hg
  go_wp2_with (first
   | (refine wpList_load_row rfl 219 (.tmp 2) rfl w.heap.size rfl _ (bsA noB) (0, 0) _ r1 und_set rfl (size_bsA _) ?_)
   | (refine wpList_store_row rfl 219 (.tmp 2) (.tmp 15) rfl w.heap.size (bsA noB) rfl rfl _ _ r1 (size_bsA _) (by simp only [bsA_size]) (bsA_one _) ?_))
  have e' : q = { q with rest := [] } := by rw [← e]
  rw [e'] at h1
  exact bodyPost_ret (v := .tuple #[.agg (bsA noB), .int .u8 0, .bool false, .bool false]) (res_set4 _ 2 3 4 5 (by kernel_rfl) _ _ w.heap.size _ _ _ _ rfl rfl rfl rfl (SetAt.row r1)) rfl ⟨noB, 0, false, n, rfl, (fun _ h => by cases h), (GX.of_gr g1).setRow (.inr (Nat.le_refl _)) _, h1.setRow (g := w.heap.size) (by omega) _⟩
 | c :: r =>
  have Q := fun w (h : Rdr w R s n q) => now_some h hs e
  have hle := h.len
  have hn : (n : Int) < 4096 := by rw [e] at hle; simp at hle; omega
  have hc256 : c.toNat < 256 := c.toNat_lt
  clear hle
  by_cases h92 : c.toNat = 92
  case neg =>
   have q92 : ((c.toNat : Int) != 92) = true := by simp [bne, beq_eq_false_iff_ne.2 (show (c.toNat : Int) ≠ 92 by omega)]
   have e3 : sideS (c :: r) = (some (oneB c.toNat, c.toNat, false), r) := by simp [sideS, beq_eq_false_iff_ne.2 h92]
   rw [e3]
   have QO := fun w => one_any c.toNat w hc256
   clear e3 h92
   go_enter Tryz.func162, Tryz.ntmps162
   go_upto_region 1 with (fail)
   generalize (w.alloc (Obj.cells (bsA noB) 219)) = w0 at g0 r0 ⊢
   have h0 := h.gr g0
   clear hz hsz h
   go_upto_region 4 with (go_at_call 135; refine (Q _ h0).mono ?_; rintro e w1 ⟨rfl, hg⟩)
   have h1 := h0.gr hg
   have g1 := Gr.trans g0 hg
   have r1 := r0.gr hg
   clear Q g0 r0 h0 hg
   obtain ⟨c1, f1⟩ := And.intro h1.c1 h1.f1
   go_upto_region 5 with (fail)
   have h2 := h1.next e
   have x2 := GX.setCell (p := ⟨R, 1, none⟩) (GX.of_gr g1) (.inl rfl) (.int .i64 ((n : Int) + 1))
   have r2 := r1.other (p := ⟨R, 1, none⟩) (by simp; omega) (.int .i64 ((n : Int) + 1))
   clear c1 f1 h1 g1 r1
   generalize w1.setCell ⟨R, 1, none⟩ (.int .i64 ((n : Int) + 1)) = w2 at h2 x2 r2 ⊢
   go_wp2_with (first
    | (go_at_call 153; refine (QO _).mono ?_; rintro e w5 ⟨rfl, hg5⟩; have h5 := h2.gr hg5; have x5 := x2.trans (GX.of_gr hg5); have r5 := r2.gr hg5)
    | (refine wpList_store_row rfl 219 (.tmp 2) (.tmp 28) rfl w.heap.size (bsA (oneB c.toNat)) rfl rfl _ _ r5 (size_bsA _) (by simp only [bsA_size]) (bsA_one _) ?_))
   exact bodyPost_ret (v := .tuple #[.agg (bsA (oneB c.toNat)), .int .u8 c.toNat, .bool false, .bool true]) (res_set4 _ 2 3 4 5 (by kernel_rfl) _ _ w.heap.size _ _ _ _ rfl rfl rfl rfl (SetAt.row r5)) rfl ⟨(oneB c.toNat), c.toNat, false, n + 1, rfl, (fun g h => ⟨by injection h, hc256⟩), x5.setRow (.inr (Nat.le_refl _)) _, h5.setRow (g := w.heap.size) (by omega) _⟩
  case pos =>
   have q92 : ((c.toNat : Int) != 92) = false := by rw [h92]; rfl
   match r, e with
   | [], e =>
    have e3 : sideS (c :: []) = (none, []) := by simp [sideS, h92]
    rw [e3]
    clear e3 h92
    go_enter Tryz.func162, Tryz.ntmps162
    go_upto_region 1 with (fail)
    generalize (w.alloc (Obj.cells (bsA noB) 219)) = w0 at g0 r0 ⊢
    have h0 := h.gr g0
    clear hz hsz h
    go_upto_region 4 with (go_at_call 135; refine (Q _ h0).mono ?_; rintro e w1 ⟨rfl, hg⟩)
    have h1 := h0.gr hg
    have g1 := Gr.trans g0 hg
    have r1 := r0.gr hg
    clear Q g0 r0 h0 hg
    obtain ⟨c1, f1⟩ := And.intro h1.c1 h1.f1
    go_upto_region 5 with (fail)
    have h2 := h1.next e
    have x2 := GX.setCell (p := ⟨R, 1, none⟩) (GX.of_gr g1) (.inl rfl) (.int .i64 ((n : Int) + 1))
    have r2 := r1.other (p := ⟨R, 1, none⟩) (by simp; omega) (.int .i64 ((n : Int) + 1))
    clear c1 f1 h1 g1 r1
    generalize w1.setCell ⟨R, 1, none⟩ (.int .i64 ((n : Int) + 1)) = w2 at h2 x2 r2 ⊢
    have Q := fun w (h : Rdr w R s (n + 1) { q with rest := [] }) => now_end h hs rfl
    go_upto_region 9 with (go_at_call 135; refine (Q _ h2).mono ?_; rintro e w3 ⟨rfl, hg⟩)
    have h3 := h2.gr hg
    have x3 := x2.trans (GX.of_gr hg)
    have r3 := r2.gr hg
    clear Q h2 x2 r2 hg
    go_wp2_with (first
     | (refine wpList_load_row rfl 219 (.tmp 2) rfl w.heap.size rfl _ (bsA noB) (0, 0) _ r3 und_set rfl (size_bsA _) ?_)
     | (refine wpList_store_row rfl 219 (.tmp 2) (.tmp 39) rfl w.heap.size (bsA noB) rfl rfl _ _ r3 (size_bsA _) (by simp only [bsA_size]) (bsA_one _) ?_))
    exact bodyPost_ret (v := .tuple #[.agg (bsA noB), .int .u8 0, .bool false, .bool false]) (res_set4 _ 2 3 4 5 (by kernel_rfl) _ _ w.heap.size _ _ _ _ rfl rfl rfl rfl (SetAt.row r3)) rfl ⟨noB, 0, false, n + 1, rfl, (fun _ h => by cases h), x3.setRow (.inr (Nat.le_refl _)) _, h3.setRow (g := w.heap.size) (by omega) _⟩
   | d :: t, e =>
    have hd256 : d.toNat < 256 := d.toNat_lt
    have QN := fun w => named_any d.toNat w hd256
    have et := esc_rest d t
    have QE : ∀ w, Rdr w R s (n + 1) { q with rest := d :: t } → Calls Tryz.prog 158 #[.pointer (some ⟨R, 0, none⟩)] w (RetBX R s w (escS (d :: t)).1 { q with rest := t }) := fun w h => by
     have h0 := esc_any h hs
     simp only [esc_rest] at h0
     exact h0
    cases hx : (escS (d :: t)).1 with
    | some f =>
     have e3 : sideS (c :: d :: t) = (some (f, d.toNat, isNamed d.toNat), t) := by
      have : escS (d :: t) = (some f, t) := Prod.ext hx et
      simp [sideS, h92, this]
     rw [e3]
     rw [hx] at QE
     clear e3 h92 et hx
     go_enter Tryz.func162, Tryz.ntmps162
     go_upto_region 1 with (fail)
     generalize (w.alloc (Obj.cells (bsA noB) 219)) = w0 at g0 r0 ⊢
     have h0 := h.gr g0
     clear hz hsz h
     go_upto_region 4 with (go_at_call 135; refine (Q _ h0).mono ?_; rintro e w1 ⟨rfl, hg⟩)
     have h1 := h0.gr hg
     have g1 := Gr.trans g0 hg
     have r1 := r0.gr hg
     clear Q g0 r0 h0 hg
     obtain ⟨c1, f1⟩ := And.intro h1.c1 h1.f1
     go_upto_region 5 with (fail)
     have h2 := h1.next e
     have x2 := GX.setCell (p := ⟨R, 1, none⟩) (GX.of_gr g1) (.inl rfl) (.int .i64 ((n : Int) + 1))
     have r2 := r1.other (p := ⟨R, 1, none⟩) (by simp; omega) (.int .i64 ((n : Int) + 1))
     clear c1 f1 h1 g1 r1
     generalize w1.setCell ⟨R, 1, none⟩ (.int .i64 ((n : Int) + 1)) = w2 at h2 x2 r2 ⊢
     have Q := fun w (h : Rdr w R s (n + 1) { q with rest := d :: t }) => now_some h hs rfl
     go_upto_region 12 with (first
      | (go_at_call 135; refine (Q _ h2).mono ?_; rintro e w3 ⟨rfl, hg⟩; have h3 := h2.gr hg; have x3 := x2.trans (GX.of_gr hg); have r3 := r2.gr hg; clear Q h2 x2 r2 hg)
      | (go_at_call 166; refine (QN _).mono ?_; rintro e w4 ⟨rfl, hg⟩; have h4 := h3.gr hg; have x4 := x3.trans (GX.of_gr hg); have r4 := r3.gr hg; clear h3 x3 r3 hg)
      | (go_at_call 158; refine (QE _ h4).mono ?_; rintro e w5 ⟨f', n5, rfl, hf, hg, h5⟩; obtain rfl := hf f rfl; have x5 := x4.trans hg; have r5 := r4.gx hg (by omega); clear hf hg h4 x4 r4)
      | (refine wpList_store_row rfl 219 (.tmp 2) (.tmp 48) rfl w.heap.size (bsA f') rfl rfl _ _ r5 (size_bsA _) (by simp only [bsA_size]) (bsA_one _) ?_))
     have h6 := h5.setRow (g := w.heap.size) (by omega) (bsA f')
     have x6 := x5.setRow (g := w.heap.size) (.inr (Nat.le_refl _)) (bsA f')
     have r6 := SetAt.row (f := f') r5
     generalize w5.setRow w.heap.size (bsA f') = w6 at h6 x6 r6 ⊢
     clear h5 x5 r5 QE QN
     go_wp2_with (first
      | (refine wpList_load_row rfl 219 (.tmp 2) rfl w.heap.size rfl _ (bsA f') (0, 0) _ r6 und_set rfl (size_bsA _) ?_)
      | (refine wpList_store_row rfl 219 (.tmp 2) (.tmp 50) rfl w.heap.size (bsA f') rfl rfl _ _ r6 (size_bsA _) (by simp only [bsA_size]) (bsA_one _) ?_))
     exact bodyPost_ret (v := .tuple #[.agg (bsA f'), .int .u8 d.toNat, .bool (isNamed d.toNat), .bool true]) (res_set4 _ 2 3 4 5 (by kernel_rfl) _ _ w.heap.size _ _ _ _ rfl rfl rfl rfl (SetAt.row r6)) rfl ⟨f', d.toNat, (isNamed d.toNat), n5, rfl, (fun g h => ⟨by injection h, hd256⟩), x6.setRow (.inr (Nat.le_refl _)) _, h6.setRow (g := w.heap.size) (by omega) _⟩
    | none =>
     have e3 : sideS (c :: d :: t) = (none, t) := by
      have : escS (d :: t) = (none, t) := Prod.ext hx et
      simp [sideS, h92, this]
     rw [e3]
     rw [hx] at QE
     clear e3 h92 et hx
     go_enter Tryz.func162, Tryz.ntmps162
     go_upto_region 1 with (fail)
     generalize (w.alloc (Obj.cells (bsA noB) 219)) = w0 at g0 r0 ⊢
     have h0 := h.gr g0
     clear hz hsz h
     go_upto_region 4 with (go_at_call 135; refine (Q _ h0).mono ?_; rintro e w1 ⟨rfl, hg⟩)
     have h1 := h0.gr hg
     have g1 := Gr.trans g0 hg
     have r1 := r0.gr hg
     clear Q g0 r0 h0 hg
     obtain ⟨c1, f1⟩ := And.intro h1.c1 h1.f1
     go_upto_region 5 with (fail)
     have h2 := h1.next e
     have x2 := GX.setCell (p := ⟨R, 1, none⟩) (GX.of_gr g1) (.inl rfl) (.int .i64 ((n : Int) + 1))
     have r2 := r1.other (p := ⟨R, 1, none⟩) (by simp; omega) (.int .i64 ((n : Int) + 1))
     clear c1 f1 h1 g1 r1
     generalize w1.setCell ⟨R, 1, none⟩ (.int .i64 ((n : Int) + 1)) = w2 at h2 x2 r2 ⊢
     have Q := fun w (h : Rdr w R s (n + 1) { q with rest := d :: t }) => now_some h hs rfl
     go_upto_region 12 with (first
      | (go_at_call 135; refine (Q _ h2).mono ?_; rintro e w3 ⟨rfl, hg⟩; have h3 := h2.gr hg; have x3 := x2.trans (GX.of_gr hg); have r3 := r2.gr hg; clear Q h2 x2 r2 hg)
      | (go_at_call 166; refine (QN _).mono ?_; rintro e w4 ⟨rfl, hg⟩; have h4 := h3.gr hg; have x4 := x3.trans (GX.of_gr hg); have r4 := r3.gr hg; clear h3 x3 r3 hg)
      | (go_at_call 158; refine (QE _ h4).mono ?_; rintro e w5 ⟨f', n5, rfl, hf, hg, h5⟩; have x5 := x4.trans hg; have r5 := r4.gx hg (by omega); clear hf hg h4 x4 r4)
      | (refine wpList_store_row rfl 219 (.tmp 2) (.tmp 48) rfl w.heap.size (bsA f') rfl rfl _ _ r5 (size_bsA _) (by simp only [bsA_size]) (bsA_one _) ?_))
     have h6 := h5.setRow (g := w.heap.size) (by omega) (bsA f')
     have x6 := x5.setRow (g := w.heap.size) (.inr (Nat.le_refl _)) (bsA f')
     have r6 := SetAt.row (f := f') r5
     generalize w5.setRow w.heap.size (bsA f') = w6 at h6 x6 r6 ⊢
     clear h5 x5 r5 QE QN
     go_wp2_with (first
      | (refine wpList_load_row rfl 219 (.tmp 2) rfl w.heap.size rfl _ (bsA f') (0, 0) _ r6 und_set rfl (size_bsA _) ?_)
      | (refine wpList_store_row rfl 219 (.tmp 2) (.tmp 50) rfl w.heap.size (bsA f') rfl rfl _ _ r6 (size_bsA _) (by simp only [bsA_size]) (bsA_one _) ?_))
     exact bodyPost_ret (v := .tuple #[.agg (bsA f'), .int .u8 d.toNat, .bool (isNamed d.toNat), .bool false]) (res_set4 _ 2 3 4 5 (by kernel_rfl) _ _ w.heap.size _ _ _ _ rfl rfl rfl rfl (SetAt.row r6)) rfl ⟨f', d.toNat, (isNamed d.toNat), n5, rfl, (fun g h => by cases h), x6.setRow (.inr (Nat.le_refl _)) _, h6.setRow (g := w.heap.size) (by omega) _⟩
end Go.Proofs.YtjapddfnpmlifaaGreatDoor
namespace Go.Proofs.YtjapddfnpmlifaaGreatDoor
set_option linter.unusedVariables false
set_option linter.unusedSimpArgs false
open Go

section
variable {P : Program} {ops : Array Oper} {Q : Exit → Act → World → Prop} {md : Region.Mode} {S : World → Prop} {z : Nat}

def wpAnyZ (P : Program) (md : Region.Mode) (ops : Array Oper) (Q : Exit → Act → World → Prop) (S : World → Prop) (z : Nat) : Nat → Array Bool → Act → World → Prop
 | 0, listed, a, w => Region.ready md ops listed = [] ∧ Q .normal a w
 | fuel + 1, listed, a, w =>
  (Region.ready md ops listed = [] → Q .normal a w) ∧
  ∀ i ∈ Region.ready md ops listed, wpOp P ops Q i (fun a' w' => (i ≠ z → S w') ∧ wpAnyZ P md ops Q S z fuel (listed.setIfInBounds i true) a' w') a w

theorem wpAny_of_Z : ∀ (fuel : Nat) (listed : Array Bool) (a : Act) (w : World), wpAnyZ P md ops Q S z fuel listed a w → wpAny P md ops Q fuel listed a w
 | 0, _, _, _, h => h
 | fuel + 1, _, _, _, h => ⟨h.1, fun i hi => wpOp_mono (fun a' w' h' => wpAny_of_Z fuel _ a' w' h'.2) (h.2 i hi)⟩

/-- z comes last: who may come up ahead of i is not z. -/
def lastB (md : Region.Mode) (ops : Array Oper) (z : Nat) : Bool := decide (z < ops.size) && decide (ops.size ≤ z + 1) && Region.sinkB md ops z && Region.chainB md ops z
def closedB (md : Region.Mode) (ops : Array Oper) (z : Nat) (listed : Array Bool) : Bool :=
 decide (listed.size = ops.size) && ((List.range ops.size).all fun j => !listed.getD j false || ((ops[j]?).map (·.after.all fun e => !Region.binds md e || listed.getD e.on false)).getD true) && (List.range ops.size).all fun t => decide (t < z) || !listed.getD t true
theorem closed_inv {listed : Array Bool} (h : closedB md ops z listed = true) : HeadInv md ops z listed := by
 unfold closedB at h
 simp only [Bool.and_eq_true, decide_eq_true_eq] at h
 obtain ⟨⟨h0, h1⟩, h2⟩ := h
 refine ⟨h0, fun j oj hj hl e he hb => ?_, fun t ht ht' => ?_⟩
 ·
  have h3 := List.all_eq_true.1 h1 j (List.mem_range.2 (Array.getElem?_eq_some_iff.1 hj).1)
  rw [hl, hj] at h3
  simp only [Bool.not_true, Bool.false_or, Option.map_some, Option.getD_some] at h3
  have h4 := Array.all_eq_true'.1 h3 e he
  rw [hb] at h4
  simpa using h4
 ·
  have h3 := List.all_eq_true.1 h2 t (List.mem_range.2 ht')
  simp only [Bool.or_eq_true, decide_eq_true_eq, Bool.not_eq_true'] at h3
  rcases h3 with h3 | h3
  ·
   omega
  ·
   exact h3

theorem wpAnyZ_first {i : Nat} {oi : Oper} {v : Value} (hi : ops[i]? = some oi) (hiz : i < z) (hsel : ∀ (j : Nat) (o : Oper) cs b, ops[j]? = some o → o.op ≠ .select cs b)
  (hlast : lastB md ops z = true) (hQ : ∀ c a w, Q (.panic c) (a.put oi.dst v) w → Q (.panic c) a w) :
  ∀ (fuel : Nat) (listed : Array Bool) (a : Act) (w : World), HeadInv md ops z listed →
   (∀ j oj, ops[j]? = some oj → j ≠ i → listed.getD j true = false → (∀ e ∈ oj.after, Region.binds md e = true → e.on ≠ i) → oi.apart ops oj = true) →
   i ∈ Region.ready md ops listed → YieldsIf P ops S oi v a → S w →
   wpAnyZ P md ops Q S z fuel (listed.setIfInBounds i true) (a.put oi.dst v) w → wpAnyZ P md ops Q S z (fuel + 1) listed a w := by
 have hl := hlast
 unfold lastB at hl
 simp only [Bool.and_eq_true, decide_eq_true_eq] at hl
 obtain ⟨⟨⟨hzs, hze⟩, hsink⟩, hchain⟩ := hl
 intro fuel
 induction fuel with
 | zero =>
  intro listed a w _ _ hr hy hS H
  refine ⟨fun h => (by rw [h] at hr; cases hr), fun j hj => ?_⟩
  by_cases hji : j = i
  ·
   subst hji; exact hy.wpOp hi hS ⟨fun _ => hS, H⟩
  ·
   have := ready_mono hj hji
   rw [H.1] at this
   cases this
 | succ fuel ih =>
  intro listed a w inv hfree hr hy hS H
  refine ⟨fun h => (by rw [h] at hr; cases hr), fun j hj => ?_⟩
  by_cases hji : j = i
  ·
   subst hji; exact hy.wpOp hi hS ⟨fun _ => hS, H⟩
  ·
   have h1 := H.2 j (ready_mono hj hji)
   obtain ⟨hjun, oj, hoj, hall⟩ := mem_ready.1 hj
   have hiun := (mem_ready.1 hr).1
   have hjz : j < z := by
    rcases Nat.lt_or_ge j z with h | h
    ·
     exact h
    ·
     exact absurd hj (tail_waits hsink hchain hzs inv _ i rfl hiz hiun j h)
   have hnot : ∀ e ∈ oj.after, Region.binds md e = true → e.on ≠ i := fun e he hb heq => by
    have h1 := hall e he hb
    rw [heq, getD_both hiun] at h1
    cases h1
   have h2 := wpOp_putIf hoj (hfree j oj hoj hji hjun hnot) (fun cs b => hsel i oi cs b hi) (fun cs b => hsel j oj cs b hoj) hQ hy h1
   have hfree' : ∀ k ok, ops[k]? = some ok → k ≠ i → (listed.setIfInBounds j true).getD k true = false →
     (∀ e ∈ ok.after, Region.binds md e = true → e.on ≠ i) → oi.apart ops ok = true := fun k ok hk hki hun hno => by
    refine hfree k ok hk hki ?_ hno
    by_cases hjk : j = k
    ·
     subst hjk; exact hjun
    ·
     rw [getD_set_ne true hjk] at hun; exact hun
   refine wpOp_mono (fun a' w' h3 => ⟨h3.2.1, ih (listed.setIfInBounds j true) a' w' (inv.set hj hjz) hfree' (ready_mono hr (Ne.symm hji)) h3.1 (h3.2.1 (by omega)) ?_⟩) h2
   rw [Array.setIfInBounds_comm _ _ hji]
   exact h3.2.2

/-- Take number i first. -/
theorem wpAnyZ_take {i : Nat} {oi : Oper} {v : Value} {fuel : Nat} {listed : Array Bool} {a : Act} {w : World} (hi : ops[i]? = some oi) (hlast : (decide (i < z) && lastB md ops z && closedB md ops z listed && Region.noSelect ops && Region.free md ops listed i && (Region.ready md ops listed).contains i) = true)
  (hQ : ∀ c a w, Q (.panic c) (a.put oi.dst v) w → Q (.panic c) a w) (hw : Region.wanted oi (yielded ops a.tmps) = true) (hy : ∀ w, S w → (execOp a.eval oi).run P w = .ok (.value v) w) (hS : S w)
  (h : wpAnyZ P md ops Q S z fuel (listed.setIfInBounds i true) (a.put oi.dst v) w) : wpAnyZ P md ops Q S z (fuel + 1) listed a w := by
 simp only [Bool.and_eq_true, decide_eq_true_eq] at hlast
 obtain ⟨⟨⟨⟨⟨h0, h1⟩, h2⟩, h3⟩, h4⟩, h5⟩ := hlast
 exact wpAnyZ_first hi h0 (Region.noSelect_spec h3) h1 hQ fuel listed a w (closed_inv h2) (Region.free_spec hi h4) (by simpa using h5) (Or.inl ⟨hw, hy⟩) hS h

def AllReadyZ (P : Program) (md : Region.Mode) (ops : Array Oper) (Q : Exit → Act → World → Prop) (S : World → Prop) (z fuel : Nat) (listed : Array Bool) (a : Act) (w : World) (rs : List Nat) : Prop :=
 ∀ i ∈ rs, wpOp P ops Q i (fun a' w' => (i ≠ z → S w') ∧ wpAnyZ P md ops Q S z fuel (listed.setIfInBounds i true) a' w') a w
theorem AllReadyZ.nil {fuel : Nat} {listed : Array Bool} {a : Act} {w : World} : AllReadyZ P md ops Q S z fuel listed a w [] := fun _ h => by cases h
theorem AllReadyZ.cons {fuel : Nat} {listed : Array Bool} {a : Act} {w : World} {i : Nat} {o : Oper} {rs : List Nat} (ho : ops[i]? = some o) (hw : Region.wanted o (yielded ops a.tmps) = true)
  (h : ∀ K' : Act → World → Prop, Shut (∀ a w, (i ≠ z → S w) → ((i ≠ z → S w) → wpAnyZ P md ops Q S z fuel (listed.setIfInBounds i true) a w) → K' a w) → Oper.wp P o a w K' Q)
  (hs : AllReadyZ P md ops Q S z fuel listed a w rs) : AllReadyZ P md ops Q S z fuel listed a w (i :: rs) := fun j hj => by
 rcases List.mem_cons.1 hj with rfl | hj
 ·
  exact wpOp_step ho (fun K' hK => by rw [if_pos hw]; exact h K' (fun a w hS hW => hK a w ⟨hS, hW hS⟩))
 ·
  exact hs j hj
theorem wpAnyZ_ready {rs : List Nat} {fuel : Nat} {listed : Array Bool} {a : Act} {w : World} (hr : Region.ready md ops listed = rs) (hne : rs ≠ [])
  (h : AllReadyZ P md ops Q S z fuel listed a w rs) : wpAnyZ P md ops Q S z (fuel + 1) listed a w :=
 ⟨fun h0 => absurd (hr ▸ h0) hne, hr ▸ h⟩
theorem wpAnyZ_done {listed : Array Bool} {a : Act} {w : World} (hr : Region.ready md ops listed = []) (h : Q .normal a w) : ∀ fuel, wpAnyZ P md ops Q S z fuel listed a w
 | 0 => ⟨hr, h⟩
 | _ + 1 => ⟨fun _ => h, by rw [hr]; simp⟩
theorem wp_region_Z (z : Nat) (S : World → Prop) {id : Nat} {a : Act} {w : World} (hm : P.follows .mixedOrders = true)
  (h : wpAnyZ P .any ops Q S z ops.size (Array.replicate ops.size false) a w.drew) : (Code.region id ops true).wp P Q a w :=
 wp_region_any hm (wpAny_of_Z _ _ _ _ h)
end
end Go.Proofs.YtjapddfnpmlifaaGreatDoor
