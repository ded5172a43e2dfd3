/- The writer of a program in memory; what its functions leave alone; the contracts of rex.writer's lays and full. -/
import Derived.Test.YtpcmdijgepbilaaRxRead
import Derived.Test.YtpcmdijgepbilaaRxLay
namespace Go.Proofs.Ytpcmdijgepbilaa
set_option linter.unusedVariables false
set_option linter.unusedSimpArgs false
open Go.RowKit

theorem info_inst : (Try.prog.info? 35).map (fun i => (i.zero, i.size, i.bytes)) = some (some (.agg #[.int .i64 0, .int .i64 0, .int .i64 0, .string ⟨#[]⟩]), 4, 40) := by kernel_rfl
/-- the writer in block B: what it has laid, and where. -/
def WrtA (w : World) (B : Nat) (A : Option Addr) (code : List In) : Prop :=
  ∃ c, w.cell? ⟨B, 0, none⟩ = some (.slice A code.length c) ∧ w.frozen? ⟨B, 0, none⟩ = false ∧ w.ownsRow (B + 1) 35 4 (.slice A code.length c) code.length (icells code) ∧ B < w.heap.size
def blk (A : Option Addr) : Option Nat := A.map (·.block)
/-- the writer goes on: what else there was is as it was. -/
structure WX (B : Nat) (w : World) (g : Option Nat) (w' : World) (g' : Option Nat) : Prop where
  os : w'.os = w.os
  tape : w'.tape = w.tape
  output : w'.output = w.output
  size : w.heap.size ≤ w'.heap.size
  block : ∀ k, k < w.heap.size → k ≠ B → g ≠ some k → w'.heap[k]? = w.heap[k]?
  row : ∀ k, g' = some k → g = some k ∨ w.heap.size ≤ k
theorem WX.refl (B : Nat) (w : World) (g : Option Nat) : WX B w g w g := ⟨rfl, rfl, rfl, Nat.le_refl _, fun _ _ _ _ => rfl, fun _ h => .inl h⟩
theorem WX.trans {B : Nat} {w w1 w2 : World} {g g1 g2 : Option Nat} (h : WX B w g w1 g1) (k : WX B w1 g1 w2 g2) : WX B w g w2 g2 := by
  refine ⟨k.os.trans h.os, k.tape.trans h.tape, k.output.trans h.output, Nat.le_trans h.size k.size, fun i hi hn hg => ?_, fun i hi => ?_⟩
  · refine (k.block i (Nat.lt_of_lt_of_le hi h.size) hn fun e => ?_).trans (h.block i hi hn hg)
    rcases h.row i e with e | e
    · exact hg e
    · omega
  · rcases k.row i hi with e | e
    · exact h.row i e
    · exact .inr (Nat.le_trans h.size e)
theorem WX.gr {B : Nat} {w w' : World} (g : Option Nat) (h : Gr w w') : WX B w g w' g := ⟨h.os, h.tape, h.output, h.size, fun k hk _ _ => Below.block h k hk, fun _ h => .inl h⟩
theorem WX.set {B : Nat} {w w' : World} {g g' : Option Nat} (h : WX B w g w' g') {p : Addr} (hp : p.block = B ∨ g' = some p.block) (u : Value) : WX B w g (w'.setCell p u) g' := by
  refine ⟨h.os, h.tape, h.output, Nat.le_trans h.size (by simp), fun k hk hn hg => ?_, h.row⟩
  refine (heap_setCell_other w' p k u fun e => ?_).trans (h.block k hk hn hg)
  rcases hp with e2 | e2
  · omega
  · rcases h.row _ e2 with e3 | e3
    · exact hg (e ▸ e3)
    · omega
theorem WX.grown {B : Nat} {w w' : World} {g g' : Option Nat} (h : w.grownBy w' g) (hg : g' = g ∨ g' = some w.heap.size) : WX B w g w' g' :=
  ⟨h.os, h.tape, h.output, h.size, fun k hk _ hn => h.block k hk (fun e => hn e.symm), fun k hk => by
    rcases hg with e | e
    · exact .inl (e ▸ hk)
    · rw [e] at hk; injection hk with hk; exact .inr (Nat.le_of_eq hk)⟩
theorem WX.same {B lo hi : Nat} {w w' : World} {g g' : Option Nat} (h : WX B w g w' g') (hB : hi ≤ B) (hg : ∀ k, g = some k → B ≤ k) (hs : B < w.heap.size) : Same lo hi w w' :=
  ⟨Nat.le_trans hB (Nat.le_trans (Nat.le_of_lt hs) h.size), fun k h0 h1 => h.block k (by omega) (by omega) fun e => by have := hg k e; omega⟩
theorem WX.below {B : Nat} {w w' : World} {g g' : Option Nat} (h : WX B w g w' g') (hg : ∀ k, g = some k → B ≤ k) (hs : B < w.heap.size) : Below B w w' :=
  ⟨h.os, h.tape, h.output, h.size, fun k hk => h.block k (by omega) (by omega) fun e => by have := hg k e; omega⟩
section
variable {w w' : World} {B : Nat} {A : Option Addr} {code : List In}
theorem WrtA.lt (h : WrtA w B A code) : B < w.heap.size := h.choose_spec.2.2.2
theorem WrtA.row (h : WrtA w B A code) : ∀ k, blk A = some k → B < k ∧ k < w.heap.size := by
  obtain ⟨c, h1, h2, h3, h4⟩ := h
  intro k hk
  have := h3.lt k (by
    cases A with
    | none => cases hk
    | some a => exact hk)
  omega
theorem WrtA.kept (h : WrtA w B A code) (hs : w.heap.size ≤ w'.heap.size) (hb : w'.heap[B]? = w.heap[B]?) (hk : ∀ k, blk A = some k → w'.heap[k]? = w.heap[k]?) : WrtA w' B A code := by
  obtain ⟨c, h1, h2, h3, h4⟩ := h
  refine ⟨c, (World.cell?_of_block (a := ⟨B, 0, none⟩) hb).trans h1, (World.frozen?_of_block (a := ⟨B, 0, none⟩) hb).trans h2, ?_, Nat.lt_of_lt_of_le h4 hs⟩
  obtain ⟨k1, ⟨hv, k2⟩ | ⟨g, cap, cur, hv, hb', hh, k2⟩⟩ := h3
  · exact ⟨k1, .inl ⟨hv, k2⟩⟩
  · refine ⟨k1, .inr ⟨g, cap, cur, hv, hb', (hk g ?_).trans hh, k2⟩⟩
    injection hv with hv1
    rw [hv1]; rfl
theorem WrtA.gr (h : WrtA w B A code) (g : Gr w w') : WrtA w' B A code :=
  h.kept g.size (Below.block g B h.lt) fun k hk => Below.block g k (h.row k hk).2
theorem WrtA.grown {row : Option Nat} (h : WrtA w B A code) (g : w.grownBy w' row) (hB : row ≠ some B) (hA : ∀ k, row = some k → blk A ≠ some k) : WrtA w' B A code :=
  h.kept g.size (g.block B h.lt (fun e => hB e.symm)) fun k hk => g.block k (h.row k hk).2 (fun e => hA k e.symm hk)
end

set_option maxRecDepth 100000 in
set_option maxHeartbeats 3200000 in
theorem full_any {w : World} {B : Nat} {A : Option Addr} {code : List In} (h : WrtA w B A code) :
    Calls Try.prog 15 #[.pointer (some ⟨B, 0, none⟩)] w fun e w' => e = .returned (.bool (decide (1024 < (code.length : Int)))) ∧ w = w' := by
  obtain ⟨c, h1, h2, -, h4⟩ := h
  go_enter Try.func15, Try.ntmps15
  go_wp2
  go_ret
  exact ⟨rfl, rfl⟩

set_option maxRecDepth 100000 in
set_option maxHeartbeats 3200000 in
theorem lays_any {w : World} {B : Nat} {A : Option Addr} {code : List In} (h : WrtA w B A code) (ad : Addr) (m c' : Nat) (news : List In) (hn : news.length = m) (h0 : 0 < m) (hr : Rd w 4 (some ad) m (icells news)) (hb : code.length + m ≤ 4096) :
    Calls Try.prog 13 #[.pointer (some ⟨B, 0, none⟩), .slice (some ad) m c'] w fun e w' => e = .returned (.int .i64 code.length) ∧ ∃ A', WrtA w' B A' (code ++ news) ∧ WX B w (blk A) w' (blk A') := by
  obtain ⟨i0, hi0, hz0, hz1, hz2⟩ := info_parts info_inst
  obtain ⟨c, h1, h2, own, h4⟩ := h
  have hvl := own.lt
  go_enter Try.func13, Try.ntmps13
  go_wp2_with (at_builtin; refine wpList_append_rd rfl (.tmp 15) (.tmp 16) 22 rfl (B + 1) 35 i0 _ 4 40 Try.underlying22 hi0 hz0 hz1 hz2 rfl (by decide) _ code.length _ rfl own (some ad) m c' (icells news) rfl hr (icells_one _) (by unfold maxLen; omega) (by omega) (by omega) ?_; intro v' w9 own9 hgr9 hob9; obtain ⟨A9, c9, hv9⟩ := own_form own9; subst hv9; have e9 : w9.heap[B]? = w.heap[B]? := hgr9.block B h4 (fun e => (by have := hvl B e.symm; omega)); have hc9 := (World.cell?_of_block (a := ⟨B, 0, none⟩) e9).trans h1; have hf9 := (World.frozen?_of_block (a := ⟨B, 0, none⟩) e9).trans h2; have hz9 : B < w9.heap.size := Nat.lt_of_lt_of_le h4 hgr9.size)
  go_ret
  have hx : ∀ (A : Option Addr) (n c : Nat), (Value.slice A n c).ownBlock = blk A := fun A n c => by cases A <;> rfl
  have hgr : w.grownBy w9 (Value.slice A code.length c).ownBlock := hgr9
  have hob : (Value.slice A9 (code.length + m) c9).ownBlock = (Value.slice A code.length c).ownBlock ∨ (Value.slice A9 (code.length + m) c9).ownBlock = some w.heap.size := hob9
  rw [hx] at hgr
  rw [hx, hx] at hob
  refine ⟨rfl, A9, ⟨c9, ?_, by simpa using hf9, ?_, by simpa using hz9⟩, (WX.grown (B := B) hgr hob).set (p := ⟨B, 0, none⟩) (.inl rfl) _⟩
  · rw [List.length_append, hn]
    go_simp
  · rw [List.length_append, hn, icells_append]
    exact own_set own9 (p := ⟨B, 0, none⟩) (Nat.lt_succ_self _) _
end Go.Proofs.Ytpcmdijgepbilaa
