/- The contract of rex.reader.side: a byte of a class, or one of the six. -/
import Derived.Test.YtpcmdijgepbilaaRxEsc
namespace Go.Proofs.Ytpcmdijgepbilaa
open Go.RowKit
set_option linter.unusedVariables false
set_option linter.unusedSimpArgs false

theorem res_set4 (fn : Func) (p q r t : Tmp) (h : fn.results = #[.cell p 73, .tmp q, .tmp r, .tmp t]) (tmps : Array Value) (w : World) (g : Nat) (f : Bs) (b c d : Value) (hp : tmps.getD p undef = .pointer (some ⟨g, 0, none⟩)) (hq : tmps.getD q undef = b) (hr : tmps.getD r undef = c) (ht : tmps.getD t undef = d) (hs : SetAt w g f) :
    (results fn tmps).run Try.prog w = .ok (.tuple #[.agg (bsA f), b, c, d]) w := by
  have hp' : tmps[p]?.getD undef = .pointer (some ⟨g, 0, none⟩) := by simpa using hp
  have hq' : tmps[q]?.getD undef = b := by simpa using hq
  have hr' : tmps[r]?.getD undef = c := by simpa using hr
  have ht' : tmps[t]?.getD undef = d := by simpa using ht
  simp [results, h, hp', hq', hr', ht', asAddr, run_loadVar_row w g _ 73 (bsA f) (0, 0) _ hs und_set rfl (size_bsA _)]
/-- a set of bytes, a byte, whether it is one of the six, are handed back, or none. -/
def RetD (R : Nat) (s : ByteArray) (w : World) (x : Option (Bs × Nat × Bool)) (q : Rs) (e : Ending) (w' : World) : Prop :=
  ∃ (f : Bs) (c : Nat) (b : Bool) (n : Nat), e = .returned (.tuple #[.agg (bsA f), .int .u8 c, .bool b, .bool x.isSome]) ∧ (∀ g, x = some g → (f, c, b) = g ∧ c < 256) ∧ GX R w w' ∧ Rdr w' R s n q

theorem esc_rest (d : UInt8) (t : List UInt8) : (escS (d :: t)).2 = t := by
  simp only [escS]
  cases namedB d.toNat <;> rfl
set_option maxRecDepth 100000 in
set_option maxHeartbeats 3200000 in
theorem side_any {w : World} {R n : Nat} {s : ByteArray} {q : Rs} (h : Rdr w R s n q) (hs : (s.size : Int) ≤ 4096) :
    Calls Try.prog 45 #[.pointer (some ⟨R, 0, none⟩)] w (RetD R s w (sideS q.rest).1 { q with rest := (sideS q.rest).2 }) := by
  obtain ⟨hz, hsz⟩ := zero_of_info info_set
  have g0 : Gr w (w.alloc (Obj.cells (bsA noB) 73)) := (by repeat (first | exact Gr.refl _ | refine Gr.alloc ?_ _ | refine Gr.drew ?_ | refine Gr.setCell ?_ (by first | (simp; done) | (simp; omega) | omega) _ | refine Gr.trans ?_ (by assumption)))
  have r0 : SetAt (w.alloc (Obj.cells (bsA noB) 73)) w.heap.size noB := SetAt.new w noB
  have hRw := h.lt
  match e : q.rest with
  | [] =>
    have Q := fun w (h : Rdr w R s n q) => now_end h hs e
    go_enter Try.func45, Try.ntmps45
    go_upto_region 1 with (fail)
    generalize (w.alloc (Obj.cells (bsA noB) 73)) = w0 at g0 r0 ⊢
    have h0 := h.gr g0
    clear hz hsz h
    go_upto_region 3 with (go_at_call 27; refine (Q _ h0).mono ?_; rintro e w1 ⟨rfl, hg⟩)
    have h1 := h0.gr hg
    have g1 := Gr.trans g0 hg
    have r1 := r0.gr hg
    clear Q g0 r0 h0 hg
    go_wp2_with (first
      | (refine wpList_load_row rfl 73 (.tmp 2) rfl w.heap.size rfl _ (bsA noB) (0, 0) _ r1 und_set rfl (size_bsA _) ?_)
      | (refine wpList_store_row rfl 73 (.tmp 2) (.tmp 15) rfl w.heap.size (bsA noB) rfl rfl _ _ r1 (size_bsA _) (by simp only [bsA_size]) (bsA_one _) ?_))
    have e' : q = { q with rest := [] } := by rw [← e]
    rw [e'] at h1
    exact bodyPost_ret (v := .tuple #[.agg (bsA noB), .int .u8 0, .bool false, .bool false]) (res_set4 _ 2 3 4 5 (by kernel_rfl) _ _ w.heap.size _ _ _ _ rfl rfl rfl rfl (SetAt.row r1)) rfl ⟨noB, 0, false, n, rfl, (fun _ h => by cases h), (GX.of_gr g1).setRow (.inr (Nat.le_refl _)) _, h1.setRow (g := w.heap.size) (by omega) _⟩
  | c :: r =>
    have Q := fun w (h : Rdr w R s n q) => now_some h hs e
    have hle := h.len
    have hn : (n : Int) < 4096 := by rw [e] at hle; simp at hle; omega
    have hc256 : c.toNat < 256 := c.toNat_lt
    clear hle
    by_cases h92 : c.toNat = 92
    case neg =>
      have q92 : ((c.toNat : Int) != 92) = true := by simp [bne, beq_eq_false_iff_ne.2 (show (c.toNat : Int) ≠ 92 by omega)]
      have e3 : sideS (c :: r) = (some (oneB c.toNat, c.toNat, false), r) := by simp [sideS, beq_eq_false_iff_ne.2 h92]
      rw [e3]
      have QO := fun w => one_any c.toNat w hc256
      clear e3 h92
      go_enter Try.func45, Try.ntmps45
      go_upto_region 1 with (fail)
      generalize (w.alloc (Obj.cells (bsA noB) 73)) = w0 at g0 r0 ⊢
      have h0 := h.gr g0
      clear hz hsz h
      go_upto_region 4 with (go_at_call 27; refine (Q _ h0).mono ?_; rintro e w1 ⟨rfl, hg⟩)
      have h1 := h0.gr hg
      have g1 := Gr.trans g0 hg
      have r1 := r0.gr hg
      clear Q g0 r0 h0 hg
      obtain ⟨c1, f1⟩ := And.intro h1.c1 h1.f1
      go_upto_region 5 with (fail)
      have h2 := h1.next e
      have x2 := GX.setCell (p := ⟨R, 1, none⟩) (GX.of_gr g1) (.inl rfl) (.int .i64 ((n : Int) + 1))
      have r2 := r1.other (p := ⟨R, 1, none⟩) (by simp; omega) (.int .i64 ((n : Int) + 1))
      clear c1 f1 h1 g1 r1
      generalize w1.setCell ⟨R, 1, none⟩ (.int .i64 ((n : Int) + 1)) = w2 at h2 x2 r2 ⊢
      go_wp2_with (first
        | (go_at_call 35; refine (QO _).mono ?_; rintro e w5 ⟨rfl, hg5⟩; have h5 := h2.gr hg5; have x5 := x2.trans (GX.of_gr hg5); have r5 := r2.gr hg5)
        | (refine wpList_store_row rfl 73 (.tmp 2) (.tmp 28) rfl w.heap.size (bsA (oneB c.toNat)) rfl rfl _ _ r5 (size_bsA _) (by simp only [bsA_size]) (bsA_one _) ?_))
      exact bodyPost_ret (v := .tuple #[.agg (bsA (oneB c.toNat)), .int .u8 c.toNat, .bool false, .bool true]) (res_set4 _ 2 3 4 5 (by kernel_rfl) _ _ w.heap.size _ _ _ _ rfl rfl rfl rfl (SetAt.row r5)) rfl ⟨(oneB c.toNat), c.toNat, false, n + 1, rfl, (fun g h => ⟨by injection h, hc256⟩), x5.setRow (.inr (Nat.le_refl _)) _, h5.setRow (g := w.heap.size) (by omega) _⟩
    case pos =>
      have q92 : ((c.toNat : Int) != 92) = false := by rw [h92]; rfl
      match r, e with
      | [], e =>
        have e3 : sideS (c :: []) = (none, []) := by simp [sideS, h92]
        rw [e3]
        clear e3 h92
        go_enter Try.func45, Try.ntmps45
        go_upto_region 1 with (fail)
        generalize (w.alloc (Obj.cells (bsA noB) 73)) = w0 at g0 r0 ⊢
        have h0 := h.gr g0
        clear hz hsz h
        go_upto_region 4 with (go_at_call 27; refine (Q _ h0).mono ?_; rintro e w1 ⟨rfl, hg⟩)
        have h1 := h0.gr hg
        have g1 := Gr.trans g0 hg
        have r1 := r0.gr hg
        clear Q g0 r0 h0 hg
        obtain ⟨c1, f1⟩ := And.intro h1.c1 h1.f1
        go_upto_region 5 with (fail)
        have h2 := h1.next e
        have x2 := GX.setCell (p := ⟨R, 1, none⟩) (GX.of_gr g1) (.inl rfl) (.int .i64 ((n : Int) + 1))
        have r2 := r1.other (p := ⟨R, 1, none⟩) (by simp; omega) (.int .i64 ((n : Int) + 1))
        clear c1 f1 h1 g1 r1
        generalize w1.setCell ⟨R, 1, none⟩ (.int .i64 ((n : Int) + 1)) = w2 at h2 x2 r2 ⊢
        have Q := fun w (h : Rdr w R s (n + 1) { q with rest := [] }) => now_end h hs rfl
        go_upto_region 9 with (go_at_call 27; refine (Q _ h2).mono ?_; rintro e w3 ⟨rfl, hg⟩)
        have h3 := h2.gr hg
        have x3 := x2.trans (GX.of_gr hg)
        have r3 := r2.gr hg
        clear Q h2 x2 r2 hg
        go_wp2_with (first
          | (refine wpList_load_row rfl 73 (.tmp 2) rfl w.heap.size rfl _ (bsA noB) (0, 0) _ r3 und_set rfl (size_bsA _) ?_)
          | (refine wpList_store_row rfl 73 (.tmp 2) (.tmp 39) rfl w.heap.size (bsA noB) rfl rfl _ _ r3 (size_bsA _) (by simp only [bsA_size]) (bsA_one _) ?_))
        exact bodyPost_ret (v := .tuple #[.agg (bsA noB), .int .u8 0, .bool false, .bool false]) (res_set4 _ 2 3 4 5 (by kernel_rfl) _ _ w.heap.size _ _ _ _ rfl rfl rfl rfl (SetAt.row r3)) rfl ⟨noB, 0, false, n + 1, rfl, (fun _ h => by cases h), x3.setRow (.inr (Nat.le_refl _)) _, h3.setRow (g := w.heap.size) (by omega) _⟩
      | d :: t, e =>
        have hd256 : d.toNat < 256 := d.toNat_lt
        have QN := fun w => named_any d.toNat w hd256
        have et := esc_rest d t
        have QE : ∀ w, Rdr w R s (n + 1) { q with rest := d :: t } → Calls Try.prog 40 #[.pointer (some ⟨R, 0, none⟩)] w (RetB R s w (escS (d :: t)).1 { q with rest := t }) := fun w h => by
          have h0 := esc_any h hs
          simp only [esc_rest] at h0
          exact h0
        cases hx : (escS (d :: t)).1 with
        | some f =>
          have e3 : sideS (c :: d :: t) = (some (f, d.toNat, isNamed d.toNat), t) := by
            have : escS (d :: t) = (some f, t) := Prod.ext hx et
            simp [sideS, h92, this]
          rw [e3]
          rw [hx] at QE
          clear e3 h92 et hx
          go_enter Try.func45, Try.ntmps45
          go_upto_region 1 with (fail)
          generalize (w.alloc (Obj.cells (bsA noB) 73)) = w0 at g0 r0 ⊢
          have h0 := h.gr g0
          clear hz hsz h
          go_upto_region 4 with (go_at_call 27; refine (Q _ h0).mono ?_; rintro e w1 ⟨rfl, hg⟩)
          have h1 := h0.gr hg
          have g1 := Gr.trans g0 hg
          have r1 := r0.gr hg
          clear Q g0 r0 h0 hg
          obtain ⟨c1, f1⟩ := And.intro h1.c1 h1.f1
          go_upto_region 5 with (fail)
          have h2 := h1.next e
          have x2 := GX.setCell (p := ⟨R, 1, none⟩) (GX.of_gr g1) (.inl rfl) (.int .i64 ((n : Int) + 1))
          have r2 := r1.other (p := ⟨R, 1, none⟩) (by simp; omega) (.int .i64 ((n : Int) + 1))
          clear c1 f1 h1 g1 r1
          generalize w1.setCell ⟨R, 1, none⟩ (.int .i64 ((n : Int) + 1)) = w2 at h2 x2 r2 ⊢
          have Q := fun w (h : Rdr w R s (n + 1) { q with rest := d :: t }) => now_some h hs rfl
          go_upto_region 12 with (first
            | (go_at_call 27; refine (Q _ h2).mono ?_; rintro e w3 ⟨rfl, hg⟩; have h3 := h2.gr hg; have x3 := x2.trans (GX.of_gr hg); have r3 := r2.gr hg; clear Q h2 x2 r2 hg)
            | (go_at_call 49; refine (QN _).mono ?_; rintro e w4 ⟨rfl, hg⟩; have h4 := h3.gr hg; have x4 := x3.trans (GX.of_gr hg); have r4 := r3.gr hg; clear h3 x3 r3 hg)
            | (go_at_call 40; refine (QE _ h4).mono ?_; rintro e w5 ⟨f', n5, rfl, hf, hg, h5⟩; obtain rfl := hf f rfl; have x5 := x4.trans hg; have r5 := r4.gx hg (by omega); clear hf hg h4 x4 r4)
            | (refine wpList_store_row rfl 73 (.tmp 2) (.tmp 48) rfl w.heap.size (bsA f') rfl rfl _ _ r5 (size_bsA _) (by simp only [bsA_size]) (bsA_one _) ?_))
          have h6 := h5.setRow (g := w.heap.size) (by omega) (bsA f')
          have x6 := x5.setRow (g := w.heap.size) (.inr (Nat.le_refl _)) (bsA f')
          have r6 := SetAt.row (f := f') r5
          generalize w5.setRow w.heap.size (bsA f') = w6 at h6 x6 r6 ⊢
          clear h5 x5 r5 QE QN
          go_wp2_with (first
            | (refine wpList_load_row rfl 73 (.tmp 2) rfl w.heap.size rfl _ (bsA f') (0, 0) _ r6 und_set rfl (size_bsA _) ?_)
            | (refine wpList_store_row rfl 73 (.tmp 2) (.tmp 50) rfl w.heap.size (bsA f') rfl rfl _ _ r6 (size_bsA _) (by simp only [bsA_size]) (bsA_one _) ?_))
          exact bodyPost_ret (v := .tuple #[.agg (bsA f'), .int .u8 d.toNat, .bool (isNamed d.toNat), .bool true]) (res_set4 _ 2 3 4 5 (by kernel_rfl) _ _ w.heap.size _ _ _ _ rfl rfl rfl rfl (SetAt.row r6)) rfl ⟨f', d.toNat, (isNamed d.toNat), n5, rfl, (fun g h => ⟨by injection h, hd256⟩), x6.setRow (.inr (Nat.le_refl _)) _, h6.setRow (g := w.heap.size) (by omega) _⟩
        | none =>
          have e3 : sideS (c :: d :: t) = (none, t) := by
            have : escS (d :: t) = (none, t) := Prod.ext hx et
            simp [sideS, h92, this]
          rw [e3]
          rw [hx] at QE
          clear e3 h92 et hx
          go_enter Try.func45, Try.ntmps45
          go_upto_region 1 with (fail)
          generalize (w.alloc (Obj.cells (bsA noB) 73)) = w0 at g0 r0 ⊢
          have h0 := h.gr g0
          clear hz hsz h
          go_upto_region 4 with (go_at_call 27; refine (Q _ h0).mono ?_; rintro e w1 ⟨rfl, hg⟩)
          have h1 := h0.gr hg
          have g1 := Gr.trans g0 hg
          have r1 := r0.gr hg
          clear Q g0 r0 h0 hg
          obtain ⟨c1, f1⟩ := And.intro h1.c1 h1.f1
          go_upto_region 5 with (fail)
          have h2 := h1.next e
          have x2 := GX.setCell (p := ⟨R, 1, none⟩) (GX.of_gr g1) (.inl rfl) (.int .i64 ((n : Int) + 1))
          have r2 := r1.other (p := ⟨R, 1, none⟩) (by simp; omega) (.int .i64 ((n : Int) + 1))
          clear c1 f1 h1 g1 r1
          generalize w1.setCell ⟨R, 1, none⟩ (.int .i64 ((n : Int) + 1)) = w2 at h2 x2 r2 ⊢
          have Q := fun w (h : Rdr w R s (n + 1) { q with rest := d :: t }) => now_some h hs rfl
          go_upto_region 12 with (first
            | (go_at_call 27; refine (Q _ h2).mono ?_; rintro e w3 ⟨rfl, hg⟩; have h3 := h2.gr hg; have x3 := x2.trans (GX.of_gr hg); have r3 := r2.gr hg; clear Q h2 x2 r2 hg)
            | (go_at_call 49; refine (QN _).mono ?_; rintro e w4 ⟨rfl, hg⟩; have h4 := h3.gr hg; have x4 := x3.trans (GX.of_gr hg); have r4 := r3.gr hg; clear h3 x3 r3 hg)
            | (go_at_call 40; refine (QE _ h4).mono ?_; rintro e w5 ⟨f', n5, rfl, hf, hg, h5⟩; have x5 := x4.trans hg; have r5 := r4.gx hg (by omega); clear hf hg h4 x4 r4)
            | (refine wpList_store_row rfl 73 (.tmp 2) (.tmp 48) rfl w.heap.size (bsA f') rfl rfl _ _ r5 (size_bsA _) (by simp only [bsA_size]) (bsA_one _) ?_))
          have h6 := h5.setRow (g := w.heap.size) (by omega) (bsA f')
          have x6 := x5.setRow (g := w.heap.size) (.inr (Nat.le_refl _)) (bsA f')
          have r6 := SetAt.row (f := f') r5
          generalize w5.setRow w.heap.size (bsA f') = w6 at h6 x6 r6 ⊢
          clear h5 x5 r5 QE QN
          go_wp2_with (first
            | (refine wpList_load_row rfl 73 (.tmp 2) rfl w.heap.size rfl _ (bsA f') (0, 0) _ r6 und_set rfl (size_bsA _) ?_)
            | (refine wpList_store_row rfl 73 (.tmp 2) (.tmp 50) rfl w.heap.size (bsA f') rfl rfl _ _ r6 (size_bsA _) (by simp only [bsA_size]) (bsA_one _) ?_))
          exact bodyPost_ret (v := .tuple #[.agg (bsA f'), .int .u8 d.toNat, .bool (isNamed d.toNat), .bool false]) (res_set4 _ 2 3 4 5 (by kernel_rfl) _ _ w.heap.size _ _ _ _ rfl rfl rfl rfl (SetAt.row r6)) rfl ⟨f', d.toNat, (isNamed d.toNat), n5, rfl, (fun g h => by cases h), x6.setRow (.inr (Nat.le_refl _)) _, h6.setRow (g := w.heap.size) (by omega) _⟩
end Go.Proofs.Ytpcmdijgepbilaa
