/- The contract of rex.reader.escaped: what stands behind a stroke. -/
import Derived.Test.YtpcmdijgepbilaaRxText
namespace Go.Proofs.Ytpcmdijgepbilaa
open Go.RowKit
set_option linter.unusedVariables false
set_option linter.unusedSimpArgs false

/-- a set of bytes is handed back, or none; how far the expression is read behind it. -/
def RetB (R : Nat) (s : ByteArray) (w : World) (x : Option Bs) (q : Rs) (e : Ending) (w' : World) : Prop :=
  ∃ (f : Bs) (n : Nat), e = .returned (.tuple #[.agg (bsA f), .bool x.isSome]) ∧ (∀ g, x = some g → f = g) ∧ GX R w w' ∧ Rdr w' R s n q
theorem built_set : Try.prog.built 73 [] = some (bsA noB) := by kernel_rfl
theorem wpList_build0 {P : Program} {ops : Array Oper} {rest : List Oper} {o : Oper} {a : Act} {w : World} {Q : Exit → Act → World → Prop} (hg : o.guard = none) (t : TypeId) (ho : o.op = .build t #[])
    (c : Array Value) (hb : P.built t [] = some c) (h : wpList P ops Q rest (a.put o.dst (.agg c)) w) : wpList P ops Q (o :: rest) a w :=
  wpList_build hg t #[] ho (by simp [hb]) (by simpa [hb] using h)
theorem Rdr.setRow {w : World} {R n : Nat} {s : ByteArray} {q : Rs} (h : Rdr w R s n q) {g : Nat} (hg : R ≠ g) (cs : Array Value) : Rdr (w.setRow g cs) R s n q := by
  have e : (w.setRow g cs).heap[R]? = w.heap[R]? := setRow_other w g R cs hg
  have hc : ∀ i, (w.setRow g cs).cell? ⟨R, i, none⟩ = w.cell? ⟨R, i, none⟩ := fun i => World.cell?_of_block (a := ⟨R, i, none⟩) e
  have hf : ∀ i, (w.setRow g cs).frozen? ⟨R, i, none⟩ = w.frozen? ⟨R, i, none⟩ := fun i => World.frozen?_of_block (a := ⟨R, i, none⟩) e
  exact ⟨h.len, h.rest, (hc 0).trans h.c0, (hc 1).trans h.c1, (hc 2).trans h.c2, (hc 3).trans h.c3, (hc 4).trans h.c4, (hc 5).trans h.c5, (hf 1).trans h.f1, (hf 2).trans h.f2, (hf 3).trans h.f3, (hf 4).trans h.f4, (hf 5).trans h.f5, by simpa using h.lt⟩

set_option maxRecDepth 100000 in
set_option maxHeartbeats 1600000 in
theorem esc_any {w : World} {R n : Nat} {s : ByteArray} {q : Rs} (h : Rdr w R s n q) (hs : (s.size : Int) ≤ 4096) :
    Calls Try.prog 40 #[.pointer (some ⟨R, 0, none⟩)] w (RetB R s w (escS q.rest).1 { q with rest := (escS q.rest).2 }) := by
  obtain ⟨hz, hsz⟩ := zero_of_info info_set
  have g0 : Gr w (w.alloc (Obj.cells (bsA noB) 73)) := (by repeat (first | exact Gr.refl _ | refine Gr.alloc ?_ _ | refine Gr.drew ?_ | refine Gr.setCell ?_ (by first | (simp; done) | (simp; omega) | omega) _ | refine Gr.trans ?_ (by assumption)))
  have r0 : SetAt (w.alloc (Obj.cells (bsA noB) 73)) w.heap.size noB := SetAt.new w noB
  have hRw := h.lt
  match e : q.rest with
  | [] =>
    have Q := fun w (h : Rdr w R s n q) => now_end h hs e
    go_enter Try.func40, Try.ntmps40
    go_upto_region 1 with (fail)
    generalize (w.alloc (Obj.cells (bsA noB) 73)) = w0 at g0 r0 ⊢
    have h0 := h.gr g0
    clear hz hsz h
    go_upto_region 3 with (go_at_call 27; refine (Q _ h0).mono ?_; rintro e w1 ⟨rfl, hg⟩)
    have h1 := h0.gr hg
    have g1 := Gr.trans g0 hg
    have r1 := r0.gr hg
    clear Q g0 r0 h0 hg
    go_wp2_with (first
      | (refine wpList_build0 rfl 73 rfl (bsA noB) built_set ?_)
      | (refine wpList_store_row rfl 73 (.tmp 2) (.tmp 17) rfl w.heap.size (bsA noB) rfl rfl _ _ r1 (size_bsA _) (by simp only [bsA_size]) (bsA_one _) ?_))
    refine bodyPost_ret (v := .tuple #[.agg (bsA noB), .bool false]) (res_set2 _ 2 3 (by kernel_rfl) _ _ w.heap.size _ _ rfl rfl (SetAt.row r1)) rfl ⟨noB, n, rfl, (fun _ h => by cases h), GX.of_gr (Gr.setRow g1 (Nat.le_refl _) _), ?_⟩
    have h2 := h1.setRow (g := w.heap.size) (by omega) (bsA noB)
    have e' : q = { q with rest := [] } := by rw [← e]
    rw [e'] at h2
    exact h2
  | c :: r =>
    have Q := fun w (h : Rdr w R s n q) => now_some h hs e
    have hle := h.len
    have hn : (n : Int) < 4096 := by rw [e] at hle; simp at hle; omega
    have hc256 : c.toNat < 256 := c.toNat_lt
    have hw0 : R < w.heap.size := h.lt
    clear hle
    have QN := fun w => named_any c.toNat w hc256
    cases hnm : namedB c.toNat with
    | some f =>
      have e1 : nmB c.toNat = f := by simp [nmB, hnm]
      have e2 : isNamed c.toNat = true := by simp [isNamed, hnm]
      have e3 : escS (c :: r) = (some f, r) := by simp [escS, hnm]
      rw [e1, e2] at QN
      rw [e3]
      clear e1 e2 e3 hnm
      go_enter Try.func40, Try.ntmps40
      go_upto_region 1 with (fail)
      generalize (w.alloc (Obj.cells (bsA noB) 73)) = w0 at g0 r0 ⊢
      have h0 := h.gr g0
      clear hsz h
      go_upto_region 4 with (go_at_call 27; refine (Q _ h0).mono ?_; rintro e w1 ⟨rfl, hg⟩)
      have h1 := h0.gr hg
      have g1 := Gr.trans g0 hg
      have r1 := r0.gr hg
      clear Q g0 r0 h0 hg
      obtain ⟨c1, f1⟩ := And.intro h1.c1 h1.f1
      go_upto_region 5 with (fail)
      have h2 := h1.next e
      have x2 := GX.setCell (p := ⟨R, 1, none⟩) (GX.of_gr g1) (.inl rfl) (.int .i64 ((n : Int) + 1))
      have r2 := r1.other (p := ⟨R, 1, none⟩) (by simp; omega) (.int .i64 ((n : Int) + 1))
      clear c1 f1 h1 g1 r1
      generalize w1.setCell ⟨R, 1, none⟩ (.int .i64 ((n : Int) + 1)) = w2 at h2 x2 r2 ⊢
      go_upto_region 7 with (first
        | (go_at_call 49; refine (QN _).mono ?_; rintro e w3 ⟨rfl, hg3⟩)
        | (refine wpList_store_row rfl 73 (.tmp 6) (.tmp 30) rfl w3.heap.size (bsA f) rfl rfl _ _ (SetAt.new w3 noB) (size_bsA _) (by simp only [bsA_size]) (bsA_one _) ?_))
      have S1 : SetAt ((w3.alloc (.cells (bsA noB) 73)).setRow w3.heap.size (bsA f)) w3.heap.size f := SetAt.row (SetAt.new w3 noB)
      have G1 : Gr w2 ((w3.alloc (.cells (bsA noB) 73)).setRow w3.heap.size (bsA f)) := Gr.setRow (Gr.alloc hg3 _) hg3.size _
      generalize ((w3.alloc (.cells (bsA noB) 73)).setRow w3.heap.size (bsA f)) = w4 at S1 G1 ⊢
      have h4 := h2.gr G1
      have x4 := x2.trans (GX.of_gr G1)
      have r4 := r2.gr G1
      clear QN hg3 h2 x2 r2 G1 hz
      go_wp2_with (first
        | (refine wpList_load_row rfl 73 (.tmp 6) rfl w3.heap.size rfl _ (bsA f) (0, 0) _ S1 und_set rfl (size_bsA _) ?_)
        | (refine wpList_store_row rfl 73 (.tmp 2) (.tmp 33) rfl w.heap.size (bsA f) rfl rfl _ _ r4 (size_bsA _) (by simp only [bsA_size]) (bsA_one _) ?_))
      exact bodyPost_ret (v := .tuple #[.agg (bsA f), .bool true]) (res_set2 _ 2 3 (by kernel_rfl) _ _ w.heap.size _ _ rfl rfl (SetAt.row r4)) rfl ⟨f, n + 1, rfl, (fun g h => by injection h), x4.setRow (.inr (Nat.le_refl _)) _, h4.setRow (g := w.heap.size) (by omega) (bsA f)⟩
    | none =>
      have e1 : nmB c.toNat = noB := by simp [nmB, hnm]
      have e2 : isNamed c.toNat = false := by simp [isNamed, hnm]
      have e3 : escS (c :: r) = (bif isWordB c.toNat then none else some (oneB c.toNat), r) := by simp [escS, hnm]
      rw [e1, e2] at QN
      rw [e3]
      have QW := fun w => isWord_any c.toNat w hc256
      have QO := fun w => one_any c.toNat w hc256
      clear e1 e2 e3 hnm
      cases hwd : isWordB c.toNat
      all_goals
        simp only [hwd, cond_true, cond_false] at QW ⊢
        clear hwd
        go_enter Try.func40, Try.ntmps40
        go_upto_region 1 with (fail)
        generalize (w.alloc (Obj.cells (bsA noB) 73)) = w0 at g0 r0 ⊢
        have h0 := h.gr g0
        clear hsz h
        go_upto_region 4 with (go_at_call 27; refine (Q _ h0).mono ?_; rintro e w1 ⟨rfl, hg⟩)
        have h1 := h0.gr hg
        have g1 := Gr.trans g0 hg
        have r1 := r0.gr hg
        clear Q g0 r0 h0 hg
        obtain ⟨c1, f1⟩ := And.intro h1.c1 h1.f1
        go_upto_region 5 with (fail)
        have h2 := h1.next e
        have x2 := GX.setCell (p := ⟨R, 1, none⟩) (GX.of_gr g1) (.inl rfl) (.int .i64 ((n : Int) + 1))
        have r2 := r1.other (p := ⟨R, 1, none⟩) (by simp; omega) (.int .i64 ((n : Int) + 1))
        clear c1 f1 h1 g1 r1
        generalize w1.setCell ⟨R, 1, none⟩ (.int .i64 ((n : Int) + 1)) = w2 at h2 x2 r2 ⊢
        go_upto_region 8 with (first
          | (go_at_call 49; refine (QN _).mono ?_; rintro e w3 ⟨rfl, hg3⟩)
          | (refine wpList_store_row rfl 73 (.tmp 6) (.tmp 30) rfl w3.heap.size (bsA noB) rfl rfl _ _ (SetAt.new w3 noB) (size_bsA _) (by simp only [bsA_size]) (bsA_one _) ?_))
        have G1 : Gr w2 ((w3.alloc (.cells (bsA noB) 73)).setRow w3.heap.size (bsA noB)) := Gr.setRow (Gr.alloc hg3 _) hg3.size _
        generalize ((w3.alloc (.cells (bsA noB) 73)).setRow w3.heap.size (bsA noB)) = w4 at G1 ⊢
        clear QN hg3 hz
        go_wp2_with (first
          | (go_at_call 35; refine (QO _).mono ?_; rintro e w5 ⟨rfl, hg5⟩)
          | (go_at_call 50; refine (QW _).mono ?_; rintro e w6 ⟨rfl, hg6⟩; have G6 := Gr.trans G1 (Gr.trans hg5 hg6); have h6 := h2.gr G6; have x6 := x2.trans (GX.of_gr G6); have r6 := r2.gr G6; clear G6)
          | (refine wpList_store_row rfl 73 (.tmp 2) (.tmp 35) rfl w.heap.size (bsA (oneB c.toNat)) rfl rfl _ _ r6 (size_bsA _) (by simp only [bsA_size]) (bsA_one _) ?_))
      · exact bodyPost_ret (v := .tuple #[.agg (bsA (oneB c.toNat)), .bool true]) (res_set2 _ 2 3 (by kernel_rfl) _ _ w.heap.size _ _ rfl rfl (SetAt.row r6)) rfl ⟨oneB c.toNat, n + 1, rfl, (fun g h => by injection h), x6.setRow (.inr (Nat.le_refl _)) _, h6.setRow (g := w.heap.size) (by omega) (bsA (oneB c.toNat))⟩
      · exact bodyPost_ret (v := .tuple #[.agg (bsA (oneB c.toNat)), .bool false]) (res_set2 _ 2 3 (by kernel_rfl) _ _ w.heap.size _ _ rfl rfl (SetAt.row r6)) rfl ⟨oneB c.toNat, n + 1, rfl, (fun g h => by cases h), x6.setRow (.inr (Nat.le_refl _)) _, h6.setRow (g := w.heap.size) (by omega) (bsA (oneB c.toNat))⟩
end Go.Proofs.Ytpcmdijgepbilaa
