/- The contract of rex.reader.escaped: what stands behind a stroke. · The contract of rex.reader.side: a byte of a class, or one of the six. · The contract of rex.reader.ranges: may a hyphen that is next make a range? -/
import Derived.Test.YtbdichmkgcngbaaGreatRunRxPairs
import Derived.Test.YtbdichmkgcngbaaGreatRunPkVis
import Derived.Test.YtbdichmkgcngbaaGreatRunRegZ
import Derived.IntWalk
import Derived.Deep.Light
namespace Go.Proofs.YtbdichmkgcngbaaGreat
open Go.RowKit
set_option linter.unusedVariables false
set_option linter.unusedSimpArgs false

/-- a set of bytes is handed back, or none; how far the expression is read behind it. -/
def RetBX (R : Nat) (s : ByteArray) (w : World) (x : Option Bs) (q : Rs) (e : Ending) (w' : World) : Prop :=
 ∃ (f : Bs) (n : Nat), e = .returned (.tuple #[.agg (bsA f), .bool x.isSome]) ∧ (∀ g, x = some g → f = g) ∧ GX R w w' ∧ Rdr w' R s n q
theorem built_set : Tryz.prog.built 175 [] = some (bsA noB) := by kernel_rfl
theorem wpList_build0 {P : Program} {ops : Array Oper} {rest : List Oper} {o : Oper} {a : Act} {w : World} {Q : Exit → Act → World → Prop} (hg : o.guard = none) (t : TypeId) (ho : o.op = .build t #[])
  (c : Array Value) (hb : P.built t [] = some c) (h : wpList P ops Q rest (a.put o.dst (.agg c)) w) : wpList P ops Q (o :: rest) a w :=
 wpList_build hg t #[] ho (by simp [hb]) (by simpa [hb] using h)
theorem Rdr.setRow {w : World} {R n : Nat} {s : ByteArray} {q : Rs} (h : Rdr w R s n q) {g : Nat} (hg : R ≠ g) (cs : Array Value) : Rdr (w.setRow g cs) R s n q := by
 have e : (w.setRow g cs).heap[R]? = w.heap[R]? := setRow_other w g R cs hg
 have hc : ∀ i, (w.setRow g cs).cell? ⟨R, i, none⟩ = w.cell? ⟨R, i, none⟩ := fun i => World.cell?_of_block (a := ⟨R, i, none⟩) e
 have hf : ∀ i, (w.setRow g cs).frozen? ⟨R, i, none⟩ = w.frozen? ⟨R, i, none⟩ := fun i => World.frozen?_of_block (a := ⟨R, i, none⟩) e
 exact ⟨h.len, h.rest, (hc 0).trans h.c0, (hc 1).trans h.c1, (hc 2).trans h.c2, (hc 3).trans h.c3, (hc 4).trans h.c4, (hc 5).trans h.c5, (hf 1).trans h.f1, (hf 2).trans h.f2, (hf 3).trans h.f3, (hf 4).trans h.f4, (hf 5).trans h.f5, by simpa using h.lt⟩

set_option maxRecDepth 100000 in
set_option maxHeartbeats 1600000 in
theorem esc_any {w : World} {R n : Nat} {s : ByteArray} {q : Rs} (h : Rdr w R s n q) (hs : (s.size : Int) ≤ 4096) :
  Calls Tryz.prog 148 #[.pointer (some ⟨R, 0, none⟩)] w (RetBX R s w (escS q.rest).1 { q with rest := (escS q.rest).2 }) := by
 obtain ⟨hz, hsz⟩ := zero_of_info info_set
 have g0 : Gr w (w.alloc (Obj.cells (bsA noB) 175)) := (by repeat (first | exact Gr.refl _ | refine Gr.alloc ?_ _ | refine Gr.drew ?_ | refine Gr.setCell ?_ (by first | (simp; done) | (simp; omega) | omega) _ | refine Gr.trans ?_ (by assumption)))
 have r0 : SetAt (w.alloc (Obj.cells (bsA noB) 175)) w.heap.size noB := SetAt.new w noB
 have hRw := h.lt
 match e : q.rest with
 | [] =>
  have Q := fun w (h : Rdr w R s n q) => now_end h hs e
  go_enter Tryz.func148, Tryz.ntmps148
  go_upto_region 1 with (fail)
  generalize (w.alloc (Obj.cells (bsA noB) 175)) = w0 at g0 r0 ⊢
  have h0 := h.gr g0
  clear hz hsz h
  go_upto_region 3 with (go_at_call 105; refine (Q _ h0).mono ?_; rintro e w1 ⟨rfl, hg⟩)
  have h1 := h0.gr hg
  have g1 := Gr.trans g0 hg
  have r1 := r0.gr hg
  clear Q g0 r0 h0 hg
  go_wp2_with (first
   | (refine wpList_build0 rfl 175 rfl (bsA noB) built_set ?_)
   | (refine wpList_store_row rfl 175 (.tmp 2) (.tmp 17) rfl w.heap.size (bsA noB) rfl rfl _ _ r1 (size_bsA _) (by simp only [bsA_size]) (bsA_one _) ?_))
  refine bodyPost_ret (v := .tuple #[.agg (bsA noB), .bool false]) (res_set2 _ 2 3 (by kernel_rfl) _ _ w.heap.size _ _ rfl rfl (SetAt.row r1)) rfl ⟨noB, n, rfl, (fun _ h => by cases h), GX.of_gr (Gr.setRow g1 (Nat.le_refl _) _), ?_⟩
  have h2 := h1.setRow (g := w.heap.size) (by omega) (bsA noB)
  have e' : q = { q with rest := [] } := by rw [← e]
  rw [e'] at h2
  exact h2
 | c :: r =>
  have Q := fun w (h : Rdr w R s n q) => now_some h hs e
  have hle := h.len
  have hn : (n : Int) < 4096 := by rw [e] at hle; simp at hle; omega
  have hc256 : c.toNat < 256 := c.toNat_lt
  have hw0 : R < w.heap.size := h.lt
  clear hle
  have QN := fun w => named_any c.toNat w hc256
  cases hnm : namedB c.toNat with
  | some f =>
   have e1 : nmB c.toNat = f := by simp [nmB, hnm]
   have e2 : isNamed c.toNat = true := by simp [isNamed, hnm]
   have e3 : escS (c :: r) = (some f, r) := by simp [escS, hnm]
   rw [e1, e2] at QN
   rw [e3]
   clear e1 e2 e3 hnm
   go_enter Tryz.func148, Tryz.ntmps148
   go_upto_region 1 with (fail)
   generalize (w.alloc (Obj.cells (bsA noB) 175)) = w0 at g0 r0 ⊢
   have h0 := h.gr g0
   clear hsz h
   go_upto_region 4 with (go_at_call 105; refine (Q _ h0).mono ?_; rintro e w1 ⟨rfl, hg⟩)
   have h1 := h0.gr hg
   have g1 := Gr.trans g0 hg
   have r1 := r0.gr hg
   clear Q g0 r0 h0 hg
   obtain ⟨c1, f1⟩ := And.intro h1.c1 h1.f1
   go_upto_region 5 with (fail)
   have h2 := h1.next e
   have x2 := GX.setCell (p := ⟨R, 1, none⟩) (GX.of_gr g1) (.inl rfl) (.int .i64 ((n : Int) + 1))
   have r2 := r1.other (p := ⟨R, 1, none⟩) (by simp; omega) (.int .i64 ((n : Int) + 1))
   clear c1 f1 h1 g1 r1
   generalize w1.setCell ⟨R, 1, none⟩ (.int .i64 ((n : Int) + 1)) = w2 at h2 x2 r2 ⊢
   go_upto_region 7 with (first
    | (go_at_call 161; refine (QN _).mono ?_; rintro e w3 ⟨rfl, hg3⟩)
    | (refine wpList_store_row rfl 175 (.tmp 6) (.tmp 30) rfl w3.heap.size (bsA f) rfl rfl _ _ (SetAt.new w3 noB) (size_bsA _) (by simp only [bsA_size]) (bsA_one _) ?_))
   have S1 : SetAt ((w3.alloc (.cells (bsA noB) 175)).setRow w3.heap.size (bsA f)) w3.heap.size f := SetAt.row (SetAt.new w3 noB)
   have G1 : Gr w2 ((w3.alloc (.cells (bsA noB) 175)).setRow w3.heap.size (bsA f)) := Gr.setRow (Gr.alloc hg3 _) hg3.size _
   generalize ((w3.alloc (.cells (bsA noB) 175)).setRow w3.heap.size (bsA f)) = w4 at S1 G1 ⊢
   have h4 := h2.gr G1
   have x4 := x2.trans (GX.of_gr G1)
   have r4 := r2.gr G1
   clear QN hg3 h2 x2 r2 G1 hz
   go_wp2_with (first
    | (refine wpList_load_row rfl 175 (.tmp 6) rfl w3.heap.size rfl _ (bsA f) (0, 0) _ S1 und_set rfl (size_bsA _) ?_)
    | (refine wpList_store_row rfl 175 (.tmp 2) (.tmp 33) rfl w.heap.size (bsA f) rfl rfl _ _ r4 (size_bsA _) (by simp only [bsA_size]) (bsA_one _) ?_))
   exact bodyPost_ret (v := .tuple #[.agg (bsA f), .bool true]) (res_set2 _ 2 3 (by kernel_rfl) _ _ w.heap.size _ _ rfl rfl (SetAt.row r4)) rfl ⟨f, n + 1, rfl, (fun g h => by injection h), x4.setRow (.inr (Nat.le_refl _)) _, h4.setRow (g := w.heap.size) (by omega) (bsA f)⟩
  | none =>
   have e1 : nmB c.toNat = noB := by simp [nmB, hnm]
   have e2 : isNamed c.toNat = false := by simp [isNamed, hnm]
   have e3 : escS (c :: r) = (bif isWordB c.toNat then none else some (oneB c.toNat), r) := by simp [escS, hnm]
   rw [e1, e2] at QN
   rw [e3]
   have QW := fun w => isWord_any c.toNat w hc256
   have QO := fun w => one_any c.toNat w hc256
   clear e1 e2 e3 hnm
   cases hwd : isWordB c.toNat
   all_goals
    simp only [hwd, cond_true, cond_false] at QW ⊢
    clear hwd
    go_enter Tryz.func148, Tryz.ntmps148
    go_upto_region 1 with (fail)
    generalize (w.alloc (Obj.cells (bsA noB) 175)) = w0 at g0 r0 ⊢
    have h0 := h.gr g0
    clear hsz h
    go_upto_region 4 with (go_at_call 105; refine (Q _ h0).mono ?_; rintro e w1 ⟨rfl, hg⟩)
    have h1 := h0.gr hg
    have g1 := Gr.trans g0 hg
    have r1 := r0.gr hg
    clear Q g0 r0 h0 hg
    obtain ⟨c1, f1⟩ := And.intro h1.c1 h1.f1
    go_upto_region 5 with (fail)
    have h2 := h1.next e
    have x2 := GX.setCell (p := ⟨R, 1, none⟩) (GX.of_gr g1) (.inl rfl) (.int .i64 ((n : Int) + 1))
    have r2 := r1.other (p := ⟨R, 1, none⟩) (by simp; omega) (.int .i64 ((n : Int) + 1))
    clear c1 f1 h1 g1 r1
    generalize w1.setCell ⟨R, 1, none⟩ (.int .i64 ((n : Int) + 1)) = w2 at h2 x2 r2 ⊢
    go_upto_region 8 with (first
     | (go_at_call 161; refine (QN _).mono ?_; rintro e w3 ⟨rfl, hg3⟩)
     | (refine wpList_store_row rfl 175 (.tmp 6) (.tmp 30) rfl w3.heap.size (bsA noB) rfl rfl _ _ (SetAt.new w3 noB) (size_bsA _) (by simp only [bsA_size]) (bsA_one _) ?_))
    have G1 : Gr w2 ((w3.alloc (.cells (bsA noB) 175)).setRow w3.heap.size (bsA noB)) := Gr.setRow (Gr.alloc hg3 _) hg3.size _
    generalize ((w3.alloc (.cells (bsA noB) 175)).setRow w3.heap.size (bsA noB)) = w4 at G1 ⊢
    clear QN hg3 hz
    go_wp2_with (first
     | (go_at_call 143; refine (QO _).mono ?_; rintro e w5 ⟨rfl, hg5⟩)
     | (go_at_call 162; refine (QW _).mono ?_; rintro e w6 ⟨rfl, hg6⟩; have G6 := Gr.trans G1 (Gr.trans hg5 hg6); have h6 := h2.gr G6; have x6 := x2.trans (GX.of_gr G6); have r6 := r2.gr G6; clear G6)
     | (refine wpList_store_row rfl 175 (.tmp 2) (.tmp 35) rfl w.heap.size (bsA (oneB c.toNat)) rfl rfl _ _ r6 (size_bsA _) (by simp only [bsA_size]) (bsA_one _) ?_))
   ·
    exact bodyPost_ret (v := .tuple #[.agg (bsA (oneB c.toNat)), .bool true]) (res_set2 _ 2 3 (by kernel_rfl) _ _ w.heap.size _ _ rfl rfl (SetAt.row r6)) rfl ⟨oneB c.toNat, n + 1, rfl, (fun g h => by injection h), x6.setRow (.inr (Nat.le_refl _)) _, h6.setRow (g := w.heap.size) (by omega) (bsA (oneB c.toNat))⟩
   ·
    exact bodyPost_ret (v := .tuple #[.agg (bsA (oneB c.toNat)), .bool false]) (res_set2 _ 2 3 (by kernel_rfl) _ _ w.heap.size _ _ rfl rfl (SetAt.row r6)) rfl ⟨oneB c.toNat, n + 1, rfl, (fun g h => by cases h), x6.setRow (.inr (Nat.le_refl _)) _, h6.setRow (g := w.heap.size) (by omega) (bsA (oneB c.toNat))⟩
end Go.Proofs.YtbdichmkgcngbaaGreat
namespace Go.Proofs.YtbdichmkgcngbaaGreat
open Go.RowKit
set_option linter.unusedVariables false
set_option linter.unusedSimpArgs false

theorem res_set4 (fn : Func) (p q r t : Tmp) (h : fn.results = #[.cell p 175, .tmp q, .tmp r, .tmp t]) (tmps : Array Value) (w : World) (g : Nat) (f : Bs) (b c d : Value) (hp : tmps.getD p undef = .pointer (some ⟨g, 0, none⟩)) (hq : tmps.getD q undef = b) (hr : tmps.getD r undef = c) (ht : tmps.getD t undef = d) (hs : SetAt w g f) :
  (results fn tmps).run Tryz.prog w = .ok (.tuple #[.agg (bsA f), b, c, d]) w := by
 have hp' : tmps[p]?.getD undef = .pointer (some ⟨g, 0, none⟩) := by simpa using hp
 have hq' : tmps[q]?.getD undef = b := by simpa using hq
 have hr' : tmps[r]?.getD undef = c := by simpa using hr
 have ht' : tmps[t]?.getD undef = d := by simpa using ht
 simp [results, h, hp', hq', hr', ht', asAddr, run_loadVar_row w g _ 175 (bsA f) (0, 0) _ hs und_set rfl (size_bsA _)]
/-- a set of bytes, a byte, whether it is one of the six, are handed back, or none. -/
def RetD (R : Nat) (s : ByteArray) (w : World) (x : Option (Bs × Nat × Bool)) (q : Rs) (e : Ending) (w' : World) : Prop :=
 ∃ (f : Bs) (c : Nat) (b : Bool) (n : Nat), e = .returned (.tuple #[.agg (bsA f), .int .u8 c, .bool b, .bool x.isSome]) ∧ (∀ g, x = some g → (f, c, b) = g ∧ c < 256) ∧ GX R w w' ∧ Rdr w' R s n q

theorem esc_rest (d : UInt8) (t : List UInt8) : (escS (d :: t)).2 = t := by
 simp only [escS]
 cases namedB d.toNat <;> rfl
set_option maxRecDepth 100000 in
set_option maxHeartbeats 3200000 in
theorem side_any {w : World} {R n : Nat} {s : ByteArray} {q : Rs} (h : Rdr w R s n q) (hs : (s.size : Int) ≤ 4096) :
  Calls Tryz.prog 157 #[.pointer (some ⟨R, 0, none⟩)] w (RetD R s w (sideS q.rest).1 { q with rest := (sideS q.rest).2 }) := by
 obtain ⟨hz, hsz⟩ := zero_of_info info_set
 have g0 : Gr w (w.alloc (Obj.cells (bsA noB) 175)) := (by repeat (first | exact Gr.refl _ | refine Gr.alloc ?_ _ | refine Gr.drew ?_ | refine Gr.setCell ?_ (by first | (simp; done) | (simp; omega) | omega) _ | refine Gr.trans ?_ (by assumption)))
 have r0 : SetAt (w.alloc (Obj.cells (bsA noB) 175)) w.heap.size noB := SetAt.new w noB
 have hRw := h.lt
 match e : q.rest with
 | [] =>
  have Q := fun w (h : Rdr w R s n q) => now_end h hs e
  go_enter Tryz.func157, Tryz.ntmps157
  go_upto_region 1 with (fail)
  generalize (w.alloc (Obj.cells (bsA noB) 175)) = w0 at g0 r0 ⊢
  have h0 := h.gr g0
  clear hz hsz h
  go_upto_region 3 with (go_at_call 105; refine (Q _ h0).mono ?_; rintro e w1 ⟨rfl, hg⟩)
  have h1 := h0.gr hg
  have g1 := Gr.trans g0 hg
  have r1 := r0.gr hg
  clear Q g0 r0 h0 hg
  go_wp2_with (first
   | (refine wpList_load_row rfl 175 (.tmp 2) rfl w.heap.size rfl _ (bsA noB) (0, 0) _ r1 und_set rfl (size_bsA _) ?_)
   | (refine wpList_store_row rfl 175 (.tmp 2) (.tmp 15) rfl w.heap.size (bsA noB) rfl rfl _ _ r1 (size_bsA _) (by simp only [bsA_size]) (bsA_one _) ?_))
  have e' : q = { q with rest := [] } := by rw [← e]
  rw [e'] at h1
  exact bodyPost_ret (v := .tuple #[.agg (bsA noB), .int .u8 0, .bool false, .bool false]) (res_set4 _ 2 3 4 5 (by kernel_rfl) _ _ w.heap.size _ _ _ _ rfl rfl rfl rfl (SetAt.row r1)) rfl ⟨noB, 0, false, n, rfl, (fun _ h => by cases h), (GX.of_gr g1).setRow (.inr (Nat.le_refl _)) _, h1.setRow (g := w.heap.size) (by omega) _⟩
 | c :: r =>
  have Q := fun w (h : Rdr w R s n q) => now_some h hs e
  have hle := h.len
  have hn : (n : Int) < 4096 := by rw [e] at hle; simp at hle; omega
  have hc256 : c.toNat < 256 := c.toNat_lt
  clear hle
  by_cases h92 : c.toNat = 92
  case neg =>
   have q92 : ((c.toNat : Int) != 92) = true := by simp [bne, beq_eq_false_iff_ne.2 (show (c.toNat : Int) ≠ 92 by omega)]
   have e3 : sideS (c :: r) = (some (oneB c.toNat, c.toNat, false), r) := by simp [sideS, beq_eq_false_iff_ne.2 h92]
   rw [e3]
   have QO := fun w => one_any c.toNat w hc256
   clear e3 h92
   go_enter Tryz.func157, Tryz.ntmps157
   go_upto_region 1 with (fail)
   generalize (w.alloc (Obj.cells (bsA noB) 175)) = w0 at g0 r0 ⊢
   have h0 := h.gr g0
   clear hz hsz h
   go_upto_region 4 with (go_at_call 105; refine (Q _ h0).mono ?_; rintro e w1 ⟨rfl, hg⟩)
   have h1 := h0.gr hg
   have g1 := Gr.trans g0 hg
   have r1 := r0.gr hg
   clear Q g0 r0 h0 hg
   obtain ⟨c1, f1⟩ := And.intro h1.c1 h1.f1
   go_upto_region 5 with (fail)
   have h2 := h1.next e
   have x2 := GX.setCell (p := ⟨R, 1, none⟩) (GX.of_gr g1) (.inl rfl) (.int .i64 ((n : Int) + 1))
   have r2 := r1.other (p := ⟨R, 1, none⟩) (by simp; omega) (.int .i64 ((n : Int) + 1))
   clear c1 f1 h1 g1 r1
   generalize w1.setCell ⟨R, 1, none⟩ (.int .i64 ((n : Int) + 1)) = w2 at h2 x2 r2 ⊢
   go_wp2_with (first
    | (go_at_call 143; refine (QO _).mono ?_; rintro e w5 ⟨rfl, hg5⟩; have h5 := h2.gr hg5; have x5 := x2.trans (GX.of_gr hg5); have r5 := r2.gr hg5)
    | (refine wpList_store_row rfl 175 (.tmp 2) (.tmp 28) rfl w.heap.size (bsA (oneB c.toNat)) rfl rfl _ _ r5 (size_bsA _) (by simp only [bsA_size]) (bsA_one _) ?_))
   exact bodyPost_ret (v := .tuple #[.agg (bsA (oneB c.toNat)), .int .u8 c.toNat, .bool false, .bool true]) (res_set4 _ 2 3 4 5 (by kernel_rfl) _ _ w.heap.size _ _ _ _ rfl rfl rfl rfl (SetAt.row r5)) rfl ⟨(oneB c.toNat), c.toNat, false, n + 1, rfl, (fun g h => ⟨by injection h, hc256⟩), x5.setRow (.inr (Nat.le_refl _)) _, h5.setRow (g := w.heap.size) (by omega) _⟩
  case pos =>
   have q92 : ((c.toNat : Int) != 92) = false := by rw [h92]; rfl
   match r, e with
   | [], e =>
    have e3 : sideS (c :: []) = (none, []) := by simp [sideS, h92]
    rw [e3]
    clear e3 h92
    go_enter Tryz.func157, Tryz.ntmps157
    go_upto_region 1 with (fail)
    generalize (w.alloc (Obj.cells (bsA noB) 175)) = w0 at g0 r0 ⊢
    have h0 := h.gr g0
    clear hz hsz h
    go_upto_region 4 with (go_at_call 105; refine (Q _ h0).mono ?_; rintro e w1 ⟨rfl, hg⟩)
    have h1 := h0.gr hg
    have g1 := Gr.trans g0 hg
    have r1 := r0.gr hg
    clear Q g0 r0 h0 hg
    obtain ⟨c1, f1⟩ := And.intro h1.c1 h1.f1
    go_upto_region 5 with (fail)
    have h2 := h1.next e
    have x2 := GX.setCell (p := ⟨R, 1, none⟩) (GX.of_gr g1) (.inl rfl) (.int .i64 ((n : Int) + 1))
    have r2 := r1.other (p := ⟨R, 1, none⟩) (by simp; omega) (.int .i64 ((n : Int) + 1))
    clear c1 f1 h1 g1 r1
    generalize w1.setCell ⟨R, 1, none⟩ (.int .i64 ((n : Int) + 1)) = w2 at h2 x2 r2 ⊢
    have Q := fun w (h : Rdr w R s (n + 1) { q with rest := [] }) => now_end h hs rfl
    go_upto_region 9 with (go_at_call 105; refine (Q _ h2).mono ?_; rintro e w3 ⟨rfl, hg⟩)
    have h3 := h2.gr hg
    have x3 := x2.trans (GX.of_gr hg)
    have r3 := r2.gr hg
    clear Q h2 x2 r2 hg
    go_wp2_with (first
     | (refine wpList_load_row rfl 175 (.tmp 2) rfl w.heap.size rfl _ (bsA noB) (0, 0) _ r3 und_set rfl (size_bsA _) ?_)
     | (refine wpList_store_row rfl 175 (.tmp 2) (.tmp 39) rfl w.heap.size (bsA noB) rfl rfl _ _ r3 (size_bsA _) (by simp only [bsA_size]) (bsA_one _) ?_))
    exact bodyPost_ret (v := .tuple #[.agg (bsA noB), .int .u8 0, .bool false, .bool false]) (res_set4 _ 2 3 4 5 (by kernel_rfl) _ _ w.heap.size _ _ _ _ rfl rfl rfl rfl (SetAt.row r3)) rfl ⟨noB, 0, false, n + 1, rfl, (fun _ h => by cases h), x3.setRow (.inr (Nat.le_refl _)) _, h3.setRow (g := w.heap.size) (by omega) _⟩
   | d :: t, e =>
    have hd256 : d.toNat < 256 := d.toNat_lt
    have QN := fun w => named_any d.toNat w hd256
    have et := esc_rest d t
    have QE : ∀ w, Rdr w R s (n + 1) { q with rest := d :: t } → Calls Tryz.prog 148 #[.pointer (some ⟨R, 0, none⟩)] w (RetBX R s w (escS (d :: t)).1 { q with rest := t }) := fun w h => by
     have h0 := esc_any h hs
     simp only [esc_rest] at h0
     exact h0
    cases hx : (escS (d :: t)).1 with
    | some f =>
     have e3 : sideS (c :: d :: t) = (some (f, d.toNat, isNamed d.toNat), t) := by
      have : escS (d :: t) = (some f, t) := Prod.ext hx et
      simp [sideS, h92, this]
     rw [e3]
     rw [hx] at QE
     clear e3 h92 et hx
     go_enter Tryz.func157, Tryz.ntmps157
     go_upto_region 1 with (fail)
     generalize (w.alloc (Obj.cells (bsA noB) 175)) = w0 at g0 r0 ⊢
     have h0 := h.gr g0
     clear hz hsz h
     go_upto_region 4 with (go_at_call 105; refine (Q _ h0).mono ?_; rintro e w1 ⟨rfl, hg⟩)
     have h1 := h0.gr hg
     have g1 := Gr.trans g0 hg
     have r1 := r0.gr hg
     clear Q g0 r0 h0 hg
     obtain ⟨c1, f1⟩ := And.intro h1.c1 h1.f1
     go_upto_region 5 with (fail)
     have h2 := h1.next e
     have x2 := GX.setCell (p := ⟨R, 1, none⟩) (GX.of_gr g1) (.inl rfl) (.int .i64 ((n : Int) + 1))
     have r2 := r1.other (p := ⟨R, 1, none⟩) (by simp; omega) (.int .i64 ((n : Int) + 1))
     clear c1 f1 h1 g1 r1
     generalize w1.setCell ⟨R, 1, none⟩ (.int .i64 ((n : Int) + 1)) = w2 at h2 x2 r2 ⊢
     have Q := fun w (h : Rdr w R s (n + 1) { q with rest := d :: t }) => now_some h hs rfl
     go_upto_region 12 with (first
      | (go_at_call 105; refine (Q _ h2).mono ?_; rintro e w3 ⟨rfl, hg⟩; have h3 := h2.gr hg; have x3 := x2.trans (GX.of_gr hg); have r3 := r2.gr hg; clear Q h2 x2 r2 hg)
      | (go_at_call 161; refine (QN _).mono ?_; rintro e w4 ⟨rfl, hg⟩; have h4 := h3.gr hg; have x4 := x3.trans (GX.of_gr hg); have r4 := r3.gr hg; clear h3 x3 r3 hg)
      | (go_at_call 148; refine (QE _ h4).mono ?_; rintro e w5 ⟨f', n5, rfl, hf, hg, h5⟩; obtain rfl := hf f rfl; have x5 := x4.trans hg; have r5 := r4.gx hg (by omega); clear hf hg h4 x4 r4)
      | (refine wpList_store_row rfl 175 (.tmp 2) (.tmp 48) rfl w.heap.size (bsA f') rfl rfl _ _ r5 (size_bsA _) (by simp only [bsA_size]) (bsA_one _) ?_))
     have h6 := h5.setRow (g := w.heap.size) (by omega) (bsA f')
     have x6 := x5.setRow (g := w.heap.size) (.inr (Nat.le_refl _)) (bsA f')
     have r6 := SetAt.row (f := f') r5
     generalize w5.setRow w.heap.size (bsA f') = w6 at h6 x6 r6 ⊢
     clear h5 x5 r5 QE QN
     go_wp2_with (first
      | (refine wpList_load_row rfl 175 (.tmp 2) rfl w.heap.size rfl _ (bsA f') (0, 0) _ r6 und_set rfl (size_bsA _) ?_)
      | (refine wpList_store_row rfl 175 (.tmp 2) (.tmp 50) rfl w.heap.size (bsA f') rfl rfl _ _ r6 (size_bsA _) (by simp only [bsA_size]) (bsA_one _) ?_))
     exact bodyPost_ret (v := .tuple #[.agg (bsA f'), .int .u8 d.toNat, .bool (isNamed d.toNat), .bool true]) (res_set4 _ 2 3 4 5 (by kernel_rfl) _ _ w.heap.size _ _ _ _ rfl rfl rfl rfl (SetAt.row r6)) rfl ⟨f', d.toNat, (isNamed d.toNat), n5, rfl, (fun g h => ⟨by injection h, hd256⟩), x6.setRow (.inr (Nat.le_refl _)) _, h6.setRow (g := w.heap.size) (by omega) _⟩
    | none =>
     have e3 : sideS (c :: d :: t) = (none, t) := by
      have : escS (d :: t) = (none, t) := Prod.ext hx et
      simp [sideS, h92, this]
     rw [e3]
     rw [hx] at QE
     clear e3 h92 et hx
     go_enter Tryz.func157, Tryz.ntmps157
     go_upto_region 1 with (fail)
     generalize (w.alloc (Obj.cells (bsA noB) 175)) = w0 at g0 r0 ⊢
     have h0 := h.gr g0
     clear hz hsz h
     go_upto_region 4 with (go_at_call 105; refine (Q _ h0).mono ?_; rintro e w1 ⟨rfl, hg⟩)
     have h1 := h0.gr hg
     have g1 := Gr.trans g0 hg
     have r1 := r0.gr hg
     clear Q g0 r0 h0 hg
     obtain ⟨c1, f1⟩ := And.intro h1.c1 h1.f1
     go_upto_region 5 with (fail)
     have h2 := h1.next e
     have x2 := GX.setCell (p := ⟨R, 1, none⟩) (GX.of_gr g1) (.inl rfl) (.int .i64 ((n : Int) + 1))
     have r2 := r1.other (p := ⟨R, 1, none⟩) (by simp; omega) (.int .i64 ((n : Int) + 1))
     clear c1 f1 h1 g1 r1
     generalize w1.setCell ⟨R, 1, none⟩ (.int .i64 ((n : Int) + 1)) = w2 at h2 x2 r2 ⊢
     have Q := fun w (h : Rdr w R s (n + 1) { q with rest := d :: t }) => now_some h hs rfl
     go_upto_region 12 with (first
      | (go_at_call 105; refine (Q _ h2).mono ?_; rintro e w3 ⟨rfl, hg⟩; have h3 := h2.gr hg; have x3 := x2.trans (GX.of_gr hg); have r3 := r2.gr hg; clear Q h2 x2 r2 hg)
      | (go_at_call 161; refine (QN _).mono ?_; rintro e w4 ⟨rfl, hg⟩; have h4 := h3.gr hg; have x4 := x3.trans (GX.of_gr hg); have r4 := r3.gr hg; clear h3 x3 r3 hg)
      | (go_at_call 148; refine (QE _ h4).mono ?_; rintro e w5 ⟨f', n5, rfl, hf, hg, h5⟩; have x5 := x4.trans hg; have r5 := r4.gx hg (by omega); clear hf hg h4 x4 r4)
      | (refine wpList_store_row rfl 175 (.tmp 2) (.tmp 48) rfl w.heap.size (bsA f') rfl rfl _ _ r5 (size_bsA _) (by simp only [bsA_size]) (bsA_one _) ?_))
     have h6 := h5.setRow (g := w.heap.size) (by omega) (bsA f')
     have x6 := x5.setRow (g := w.heap.size) (.inr (Nat.le_refl _)) (bsA f')
     have r6 := SetAt.row (f := f') r5
     generalize w5.setRow w.heap.size (bsA f') = w6 at h6 x6 r6 ⊢
     clear h5 x5 r5 QE QN
     go_wp2_with (first
      | (refine wpList_load_row rfl 175 (.tmp 2) rfl w.heap.size rfl _ (bsA f') (0, 0) _ r6 und_set rfl (size_bsA _) ?_)
      | (refine wpList_store_row rfl 175 (.tmp 2) (.tmp 50) rfl w.heap.size (bsA f') rfl rfl _ _ r6 (size_bsA _) (by simp only [bsA_size]) (bsA_one _) ?_))
     exact bodyPost_ret (v := .tuple #[.agg (bsA f'), .int .u8 d.toNat, .bool (isNamed d.toNat), .bool false]) (res_set4 _ 2 3 4 5 (by kernel_rfl) _ _ w.heap.size _ _ _ _ rfl rfl rfl rfl (SetAt.row r6)) rfl ⟨f', d.toNat, (isNamed d.toNat), n5, rfl, (fun g h => by cases h), x6.setRow (.inr (Nat.le_refl _)) _, h6.setRow (g := w.heap.size) (by omega) _⟩
end Go.Proofs.YtbdichmkgcngbaaGreat
namespace Go.Proofs.YtbdichmkgcngbaaGreat
open Go.RowKit
set_option linter.unusedVariables false
set_option linter.unusedSimpArgs false

theorem wrap_in (x : Int) (h : 0 ≤ x) (h' : x ≤ 1000000) : IntKind.i64.wrap x = x := IntWalk.i64_in x ⟨by omega, by omega⟩
set_option maxRecDepth 100000 in
set_option maxHeartbeats 3200000 in
theorem rng_no {w : World} {R n : Nat} {s : ByteArray} {q : Rs} (h : Rdr w R s n q) (hs : (s.size : Int) ≤ 4096) (hq : headIs 45 q.rest = false) :
  Calls Tryz.prog 158 #[.pointer (some ⟨R, 0, none⟩)] w fun e w' => e = .returned (.bool false) ∧ Gr w w' := by
 have QI := fun w (h : Rdr w R s n q) => is_no h hs 45 (by decide) hq
 clear hq
 have HF : Hid (∀ W, Gr w W → W.cell? ⟨R, 0, none⟩ = some (.string s) ∧ W.cell? ⟨R, 1, none⟩ = some (.int .i64 n)) := Lib.hid (fun W hW => ⟨(hW.cell (p := ⟨R, 0, none⟩) h.lt).trans h.c0, (hW.cell (p := ⟨R, 1, none⟩) h.lt).trans h.c1⟩)
 go_enter Tryz.func158, Tryz.ntmps158
 go_wp2
 refine region_R (by kernel_rfl) (by kernel_rfl) ?_
 iterate 3 (refine r_val (v := ?_) (by kernel_rfl) (fun W hW => ?_) ?_; rotate_left; (focus go_light; go_simp; rfl); simp only [Pu])
 refine r_call (v := .bool false) (f := ?qf4) (args := ?qa4) (by kernel_rfl) (fun W hW => ?qh4) (fun W hW => ?qc4) ?qr4
 case qh4 => go_light; go_simp; constructor <;> rfl
 case qc4 => exact (QI W (h.gr hW)).mono (fun e w' h => ⟨h.1, Gr.trans hW h.2⟩)
 simp only [Pu]
 iterate 2 (refine r_val (v := ?_) (by kernel_rfl) (fun W hW => ?_) ?_; rotate_left; (focus go_light; go_simp; rfl); simp only [Pu])
 iterate 13 (refine r_skip (by kernel_rfl) ?_; simp only [Pu])
 iterate 2 (refine r_val (v := ?_) (by kernel_rfl) (fun W hW => ?_) ?_; rotate_left; (focus go_light; go_simp; rfl); simp only [Pu])
 iterate 13 (refine r_skip (by kernel_rfl) ?_; simp only [Pu])
 refine r_val (v := ?_) (by kernel_rfl) (fun W hW => ?_) ?_; rotate_left; (focus go_light; go_simp; rfl); simp only [Pu]
 refine r_nil ?_
 intro w1 hg1
 go_wp2
 go_ret
 exact ⟨rfl, hg1⟩

set_option maxRecDepth 100000 in
set_option maxHeartbeats 3200000 in
theorem rng_end {w : World} {R n : Nat} {s : ByteArray} {q : Rs} (h : Rdr w R s n q) (hs : (s.size : Int) ≤ 4096) {c : UInt8} (hc : c.toNat = 45) (hq : q.rest = [c]) :
  Calls Tryz.prog 158 #[.pointer (some ⟨R, 0, none⟩)] w fun e w' => e = .returned (.bool false) ∧ Gr w w' := by
 have QI := fun w (h : Rdr w R s n q) => is_yes h hs 45 (by decide) (by rw [hq]; simp [headIs, hc])
 have hl := h.len
 rw [hq] at hl
 simp at hl
 have hd1 : decide ((n : Int) + 1 ≥ (s.size : Int)) = true := decide_eq_true (by omega)
 have hd1' : (s.size : Int) ≤ (n : Int) + 1 := by omega
 have hwr := wrap_in ((n : Int) + 1) (by omega) (by omega)
 clear hl
 clear hq
 have HF : Hid (∀ W, Gr w W → W.cell? ⟨R, 0, none⟩ = some (.string s) ∧ W.cell? ⟨R, 1, none⟩ = some (.int .i64 n)) := Lib.hid (fun W hW => ⟨(hW.cell (p := ⟨R, 0, none⟩) h.lt).trans h.c0, (hW.cell (p := ⟨R, 1, none⟩) h.lt).trans h.c1⟩)
 go_enter Tryz.func158, Tryz.ntmps158
 go_wp2
 refine region_R (by kernel_rfl) (by kernel_rfl) ?_
 iterate 3 (refine r_val (v := ?_) (by kernel_rfl) (fun W hW => ?_) ?_; rotate_left; (focus go_light; go_simp; rfl); simp only [Pu])
 refine r_call (v := .bool true) (f := ?qf13) (args := ?qa13) (by kernel_rfl) (fun W hW => ?qh13) (fun W hW => ?qc13) ?qr13
 case qh13 => go_light; go_simp; constructor <;> rfl
 case qc13 => exact (QI W (h.gr hW)).mono (fun e w' h => ⟨h.1, Gr.trans hW h.2⟩)
 simp only [Pu]
 iterate 6 (refine r_val (v := ?_) (by kernel_rfl) (fun W hW => ?_) ?_; rotate_left; (focus go_light; go_simp; rfl); simp only [Pu])
 refine r_val (v := ?qv20) (by kernel_rfl) (fun W hW => ?qh20) ?qr20
 case qh20 => obtain ⟨y0, y1⟩ := HF.out W hW; go_light; go_simp; rfl
 simp only [Pu]
 iterate 5 (refine r_val (v := ?_) (by kernel_rfl) (fun W hW => ?_) ?_; rotate_left; (focus go_light; go_simp; rfl); simp only [Pu])
 refine r_val (v := ?qv26) (by kernel_rfl) (fun W hW => ?qh26) ?qr26
 case qh26 => obtain ⟨y0, y1⟩ := HF.out W hW; go_light; go_simp; rfl
 simp only [Pu]
 iterate 4 (refine r_val (v := ?_) (by kernel_rfl) (fun W hW => ?_) ?_; rotate_left; (focus go_light; go_simp; rfl); simp only [Pu])
 iterate 13 (refine r_skip (by kernel_rfl) ?_; simp only [Pu])
 refine r_val (v := ?_) (by kernel_rfl) (fun W hW => ?_) ?_; rotate_left; (focus go_light; go_simp; rfl); simp only [Pu]
 refine r_nil ?_
 intro w1 hg1
 go_wp2
 go_ret
 exact ⟨rfl, hg1⟩

set_option maxRecDepth 100000 in
set_option maxHeartbeats 3200000 in
theorem rng_shut {w : World} {R n : Nat} {s : ByteArray} {q : Rs} (h : Rdr w R s n q) (hs : (s.size : Int) ≤ 4096) {c d : UInt8} {r : List UInt8} (hc : c.toNat = 45) (hq : q.rest = c :: d :: r) (hdd : d.toNat = 93) :
  Calls Tryz.prog 158 #[.pointer (some ⟨R, 0, none⟩)] w fun e w' => e = .returned (.bool false) ∧ Gr w w' := by
 have QI := fun w (h : Rdr w R s n q) => is_yes h hs 45 (by decide) (by rw [hq]; simp [headIs, hc])
 have hl := h.len
 have hr := h.rest
 rw [hq] at hl hr
 simp at hl
 have hd1' : (n : Int) + 1 < (s.size : Int) := by omega
 have hd1 : decide ((s.size : Int) ≤ (n : Int) + 1) = false := decide_eq_false (by omega)
 obtain ⟨hn1, hb1⟩ := drop_byte (s := s) (n := n + 1) (c := d) (r := r) (by rw [← List.drop_drop, hr]; rfl)
 have hwr := wrap_in ((n : Int) + 1) (by omega) (by omega)
 clear hl hr hq
 have hd : ((d.toNat : Int) == 93) = true := beq_iff_eq.2 (by omega)
 clear hdd
 have HF : Hid (∀ W, Gr w W → W.cell? ⟨R, 0, none⟩ = some (.string s) ∧ W.cell? ⟨R, 1, none⟩ = some (.int .i64 n)) := Lib.hid (fun W hW => ⟨(hW.cell (p := ⟨R, 0, none⟩) h.lt).trans h.c0, (hW.cell (p := ⟨R, 1, none⟩) h.lt).trans h.c1⟩)
 go_enter Tryz.func158, Tryz.ntmps158
 go_wp2
 refine region_R (by kernel_rfl) (by kernel_rfl) ?_
 iterate 3 (refine r_val (v := ?_) (by kernel_rfl) (fun W hW => ?_) ?_; rotate_left; (focus go_light; go_simp; rfl); simp only [Pu])
 refine r_call (v := .bool true) (f := ?qf35) (args := ?qa35) (by kernel_rfl) (fun W hW => ?qh35) (fun W hW => ?qc35) ?qr35
 case qh35 => go_light; go_simp; constructor <;> rfl
 case qc35 => exact (QI W (h.gr hW)).mono (fun e w' h => ⟨h.1, Gr.trans hW h.2⟩)
 simp only [Pu]
 iterate 6 (refine r_val (v := ?_) (by kernel_rfl) (fun W hW => ?_) ?_; rotate_left; (focus go_light; go_simp; rfl); simp only [Pu])
 refine r_val (v := ?qv42) (by kernel_rfl) (fun W hW => ?qh42) ?qr42
 case qh42 => obtain ⟨y0, y1⟩ := HF.out W hW; go_light; go_simp; rfl
 simp only [Pu]
 iterate 5 (refine r_val (v := ?_) (by kernel_rfl) (fun W hW => ?_) ?_; rotate_left; (focus go_light; go_simp; rfl); simp only [Pu])
 refine r_val (v := ?qv48) (by kernel_rfl) (fun W hW => ?qh48) ?qr48
 case qh48 => obtain ⟨y0, y1⟩ := HF.out W hW; go_light; go_simp; rfl
 simp only [Pu]
 iterate 8 (refine r_val (v := ?_) (by kernel_rfl) (fun W hW => ?_) ?_; rotate_left; (focus go_light; go_simp; rfl); simp only [Pu])
 refine r_val (v := ?qv57) (by kernel_rfl) (fun W hW => ?qh57) ?qr57
 case qh57 => obtain ⟨y0, y1⟩ := HF.out W hW; go_light; go_simp; rfl
 simp only [Pu]
 iterate 4 (refine r_val (v := ?_) (by kernel_rfl) (fun W hW => ?_) ?_; rotate_left; (focus go_light; go_simp; rfl); simp only [Pu])
 refine r_val (v := ?qv62) (by kernel_rfl) (fun W hW => ?qh62) ?qr62
 case qh62 => obtain ⟨y0, y1⟩ := HF.out W hW; go_light; go_simp; rfl
 simp only [Pu]
 iterate 4 (refine r_val (v := ?_) (by kernel_rfl) (fun W hW => ?_) ?_; rotate_left; (focus go_light; go_simp; rfl); simp only [Pu])
 refine r_nil ?_
 intro w1 hg1
 go_wp2
 go_ret
 exact ⟨rfl, hg1⟩

set_option maxRecDepth 100000 in
set_option maxHeartbeats 3200000 in
theorem rng_plain {w : World} {R n : Nat} {s : ByteArray} {q : Rs} (h : Rdr w R s n q) (hs : (s.size : Int) ≤ 4096) {c d : UInt8} {r : List UInt8} (hc : c.toNat = 45) (hq : q.rest = c :: d :: r) (hdd : d.toNat ≠ 93) (hdd2 : d.toNat ≠ 92) :
  Calls Tryz.prog 158 #[.pointer (some ⟨R, 0, none⟩)] w fun e w' => e = .returned (.bool true) ∧ Gr w w' := by
 have QI := fun w (h : Rdr w R s n q) => is_yes h hs 45 (by decide) (by rw [hq]; simp [headIs, hc])
 have hl := h.len
 have hr := h.rest
 rw [hq] at hl hr
 simp at hl
 have hd1' : (n : Int) + 1 < (s.size : Int) := by omega
 have hd1 : decide ((s.size : Int) ≤ (n : Int) + 1) = false := decide_eq_false (by omega)
 obtain ⟨hn1, hb1⟩ := drop_byte (s := s) (n := n + 1) (c := d) (r := r) (by rw [← List.drop_drop, hr]; rfl)
 have hwr := wrap_in ((n : Int) + 1) (by omega) (by omega)
 clear hl hr hq
 have hd : ((d.toNat : Int) == 93) = false := beq_eq_false_iff_ne.2 (by omega)
 have hd2 : ((d.toNat : Int) != 92) = true := by simp [bne, beq_eq_false_iff_ne.2 (show (d.toNat : Int) ≠ 92 by omega)]
 clear hdd hdd2
 have HF : Hid (∀ W, Gr w W → W.cell? ⟨R, 0, none⟩ = some (.string s) ∧ W.cell? ⟨R, 1, none⟩ = some (.int .i64 n)) := Lib.hid (fun W hW => ⟨(hW.cell (p := ⟨R, 0, none⟩) h.lt).trans h.c0, (hW.cell (p := ⟨R, 1, none⟩) h.lt).trans h.c1⟩)
 go_enter Tryz.func158, Tryz.ntmps158
 go_wp2
 refine region_R (by kernel_rfl) (by kernel_rfl) ?_
 iterate 3 (refine r_val (v := ?_) (by kernel_rfl) (fun W hW => ?_) ?_; rotate_left; (focus go_light; go_simp; rfl); simp only [Pu])
 refine r_call (v := .bool true) (f := ?qf70) (args := ?qa70) (by kernel_rfl) (fun W hW => ?qh70) (fun W hW => ?qc70) ?qr70
 case qh70 => go_light; go_simp; constructor <;> rfl
 case qc70 => exact (QI W (h.gr hW)).mono (fun e w' h => ⟨h.1, Gr.trans hW h.2⟩)
 simp only [Pu]
 iterate 6 (refine r_val (v := ?_) (by kernel_rfl) (fun W hW => ?_) ?_; rotate_left; (focus go_light; go_simp; rfl); simp only [Pu])
 refine r_val (v := ?qv77) (by kernel_rfl) (fun W hW => ?qh77) ?qr77
 case qh77 => obtain ⟨y0, y1⟩ := HF.out W hW; go_light; go_simp; rfl
 simp only [Pu]
 iterate 5 (refine r_val (v := ?_) (by kernel_rfl) (fun W hW => ?_) ?_; rotate_left; (focus go_light; go_simp; rfl); simp only [Pu])
 refine r_val (v := ?qv83) (by kernel_rfl) (fun W hW => ?qh83) ?qr83
 case qh83 => obtain ⟨y0, y1⟩ := HF.out W hW; go_light; go_simp; rfl
 simp only [Pu]
 iterate 8 (refine r_val (v := ?_) (by kernel_rfl) (fun W hW => ?_) ?_; rotate_left; (focus go_light; go_simp; rfl); simp only [Pu])
 refine r_val (v := ?qv92) (by kernel_rfl) (fun W hW => ?qh92) ?qr92
 case qh92 => obtain ⟨y0, y1⟩ := HF.out W hW; go_light; go_simp; rfl
 simp only [Pu]
 iterate 4 (refine r_val (v := ?_) (by kernel_rfl) (fun W hW => ?_) ?_; rotate_left; (focus go_light; go_simp; rfl); simp only [Pu])
 refine r_val (v := ?qv97) (by kernel_rfl) (fun W hW => ?qh97) ?qr97
 case qh97 => obtain ⟨y0, y1⟩ := HF.out W hW; go_light; go_simp; rfl
 simp only [Pu]
 iterate 4 (refine r_val (v := ?_) (by kernel_rfl) (fun W hW => ?_) ?_; rotate_left; (focus go_light; go_simp; rfl); simp only [Pu])
 refine r_nil ?_
 intro w1 hg1
 have h1 := h.gr hg1
 have HF1 : Hid (∀ W, Gr w1 W → W.cell? ⟨R, 0, none⟩ = some (.string s) ∧ W.cell? ⟨R, 1, none⟩ = some (.int .i64 n)) := Lib.hid (fun W hW => ⟨(hW.cell (p := ⟨R, 0, none⟩) h1.lt).trans h1.c0, (hW.cell (p := ⟨R, 1, none⟩) h1.lt).trans h1.c1⟩)
 clear HF
 have HF := HF1
 clear HF1
 go_wp2
 refine region_R (by kernel_rfl) (by kernel_rfl) ?_
 iterate 4 (refine r_val (v := ?_) (by kernel_rfl) (fun W hW => ?_) ?_; rotate_left; (focus go_light; go_simp; rfl); simp only [Pu])
 refine r_val (v := ?qv106) (by kernel_rfl) (fun W hW => ?qh106) ?qr106
 case qh106 => obtain ⟨y0, y1⟩ := HF.out W hW; go_light; go_simp; rfl
 simp only [Pu]
 iterate 4 (refine r_val (v := ?_) (by kernel_rfl) (fun W hW => ?_) ?_; rotate_left; (focus go_light; go_simp; rfl); simp only [Pu])
 refine r_val (v := ?qv111) (by kernel_rfl) (fun W hW => ?qh111) ?qr111
 case qh111 => obtain ⟨y0, y1⟩ := HF.out W hW; go_light; go_simp; rfl
 simp only [Pu]
 iterate 4 (refine r_val (v := ?_) (by kernel_rfl) (fun W hW => ?_) ?_; rotate_left; (focus go_light; go_simp; rfl); simp only [Pu])
 iterate 13 (refine r_skip (by kernel_rfl) ?_; simp only [Pu])
 refine r_val (v := ?_) (by kernel_rfl) (fun W hW => ?_) ?_; rotate_left; (focus go_light; go_simp; rfl); simp only [Pu]
 refine r_nil ?_
 intro w2 hg2
 go_wp2
 go_ret
 exact ⟨rfl, (Gr.trans hg1 hg2)⟩

set_option maxRecDepth 100000 in
set_option maxHeartbeats 3200000 in
theorem rng_last {w : World} {R n : Nat} {s : ByteArray} {q : Rs} (h : Rdr w R s n q) (hs : (s.size : Int) ≤ 4096) {c d : UInt8} (hc : c.toNat = 45) (hq : q.rest = [c, d]) (hdd : d.toNat = 92) :
  Calls Tryz.prog 158 #[.pointer (some ⟨R, 0, none⟩)] w fun e w' => e = .returned (.bool true) ∧ Gr w w' := by
 have QI := fun w (h : Rdr w R s n q) => is_yes h hs 45 (by decide) (by rw [hq]; simp [headIs, hc])
 have hl := h.len
 have hr := h.rest
 rw [hq] at hl hr
 simp at hl
 have hd1' : (n : Int) + 1 < (s.size : Int) := by omega
 have hd1 : decide ((s.size : Int) ≤ (n : Int) + 1) = false := decide_eq_false (by omega)
 obtain ⟨hn1, hb1⟩ := drop_byte (s := s) (n := n + 1) (c := d) (r := []) (by rw [← List.drop_drop, hr]; rfl)
 have hwr := wrap_in ((n : Int) + 1) (by omega) (by omega)
 have hd3 : (s.size : Int) ≤ (n : Int) + 2 := by omega
 have hwr2 := wrap_in ((n : Int) + 2) (by omega) (by omega)
 clear hl hr hq
 have hd : ((d.toNat : Int) == 93) = false := beq_eq_false_iff_ne.2 (by omega)
 have hd2 : ((d.toNat : Int) != 92) = false := by rw [hdd]; rfl
 clear hdd
 have HF : Hid (∀ W, Gr w W → W.cell? ⟨R, 0, none⟩ = some (.string s) ∧ W.cell? ⟨R, 1, none⟩ = some (.int .i64 n)) := Lib.hid (fun W hW => ⟨(hW.cell (p := ⟨R, 0, none⟩) h.lt).trans h.c0, (hW.cell (p := ⟨R, 1, none⟩) h.lt).trans h.c1⟩)
 go_enter Tryz.func158, Tryz.ntmps158
 go_wp2
 refine region_R (by kernel_rfl) (by kernel_rfl) ?_
 iterate 3 (refine r_val (v := ?_) (by kernel_rfl) (fun W hW => ?_) ?_; rotate_left; (focus go_light; go_simp; rfl); simp only [Pu])
 refine r_call (v := .bool true) (f := ?qf120) (args := ?qa120) (by kernel_rfl) (fun W hW => ?qh120) (fun W hW => ?qc120) ?qr120
 case qh120 => go_light; go_simp; constructor <;> rfl
 case qc120 => exact (QI W (h.gr hW)).mono (fun e w' h => ⟨h.1, Gr.trans hW h.2⟩)
 simp only [Pu]
 iterate 6 (refine r_val (v := ?_) (by kernel_rfl) (fun W hW => ?_) ?_; rotate_left; (focus go_light; go_simp; rfl); simp only [Pu])
 refine r_val (v := ?qv127) (by kernel_rfl) (fun W hW => ?qh127) ?qr127
 case qh127 => obtain ⟨y0, y1⟩ := HF.out W hW; go_light; go_simp; rfl
 simp only [Pu]
 iterate 5 (refine r_val (v := ?_) (by kernel_rfl) (fun W hW => ?_) ?_; rotate_left; (focus go_light; go_simp; rfl); simp only [Pu])
 refine r_val (v := ?qv133) (by kernel_rfl) (fun W hW => ?qh133) ?qr133
 case qh133 => obtain ⟨y0, y1⟩ := HF.out W hW; go_light; go_simp; rfl
 simp only [Pu]
 iterate 8 (refine r_val (v := ?_) (by kernel_rfl) (fun W hW => ?_) ?_; rotate_left; (focus go_light; go_simp; rfl); simp only [Pu])
 refine r_val (v := ?qv142) (by kernel_rfl) (fun W hW => ?qh142) ?qr142
 case qh142 => obtain ⟨y0, y1⟩ := HF.out W hW; go_light; go_simp; rfl
 simp only [Pu]
 iterate 4 (refine r_val (v := ?_) (by kernel_rfl) (fun W hW => ?_) ?_; rotate_left; (focus go_light; go_simp; rfl); simp only [Pu])
 refine r_val (v := ?qv147) (by kernel_rfl) (fun W hW => ?qh147) ?qr147
 case qh147 => obtain ⟨y0, y1⟩ := HF.out W hW; go_light; go_simp; rfl
 simp only [Pu]
 iterate 4 (refine r_val (v := ?_) (by kernel_rfl) (fun W hW => ?_) ?_; rotate_left; (focus go_light; go_simp; rfl); simp only [Pu])
 refine r_nil ?_
 intro w1 hg1
 have h1 := h.gr hg1
 have HF1 : Hid (∀ W, Gr w1 W → W.cell? ⟨R, 0, none⟩ = some (.string s) ∧ W.cell? ⟨R, 1, none⟩ = some (.int .i64 n)) := Lib.hid (fun W hW => ⟨(hW.cell (p := ⟨R, 0, none⟩) h1.lt).trans h1.c0, (hW.cell (p := ⟨R, 1, none⟩) h1.lt).trans h1.c1⟩)
 clear HF
 have HF := HF1
 clear HF1
 go_wp2
 refine region_R (by kernel_rfl) (by kernel_rfl) ?_
 iterate 4 (refine r_val (v := ?_) (by kernel_rfl) (fun W hW => ?_) ?_; rotate_left; (focus go_light; go_simp; rfl); simp only [Pu])
 refine r_val (v := ?qv156) (by kernel_rfl) (fun W hW => ?qh156) ?qr156
 case qh156 => obtain ⟨y0, y1⟩ := HF.out W hW; go_light; go_simp; rfl
 simp only [Pu]
 iterate 4 (refine r_val (v := ?_) (by kernel_rfl) (fun W hW => ?_) ?_; rotate_left; (focus go_light; go_simp; rfl); simp only [Pu])
 refine r_val (v := ?qv161) (by kernel_rfl) (fun W hW => ?qh161) ?qr161
 case qh161 => obtain ⟨y0, y1⟩ := HF.out W hW; go_light; go_simp; rfl
 simp only [Pu]
 iterate 8 (refine r_val (v := ?_) (by kernel_rfl) (fun W hW => ?_) ?_; rotate_left; (focus go_light; go_simp; rfl); simp only [Pu])
 refine r_val (v := ?qv170) (by kernel_rfl) (fun W hW => ?qh170) ?qr170
 case qh170 => obtain ⟨y0, y1⟩ := HF.out W hW; go_light; go_simp; rfl
 simp only [Pu]
 iterate 5 (refine r_val (v := ?_) (by kernel_rfl) (fun W hW => ?_) ?_; rotate_left; (focus go_light; go_simp; rfl); simp only [Pu])
 refine r_val (v := ?qv176) (by kernel_rfl) (fun W hW => ?qh176) ?qr176
 case qh176 => obtain ⟨y0, y1⟩ := HF.out W hW; go_light; go_simp; rfl
 simp only [Pu]
 iterate 3 (refine r_val (v := ?_) (by kernel_rfl) (fun W hW => ?_) ?_; rotate_left; (focus go_light; go_simp; rfl); simp only [Pu])
 refine r_nil ?_
 intro w2 hg2
 go_wp2
 go_ret
 exact ⟨rfl, (Gr.trans hg1 hg2)⟩

end Go.Proofs.YtbdichmkgcngbaaGreat
