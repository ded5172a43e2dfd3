/- The writer of a program in memory; what its functions leave alone; the contracts of rex.writer's lays and full. · The store of one cell, as a law of its own. No program in sight. · The contract of rex.writer.splits. · The contract of rex.writer.piece, one theorem a kind of piece. -/
import Derived.Test.YtjapddfnpmlifaaGreatDoorRunRxRow
import Derived.Great.BuildSlice
import Derived.WalkKit
import Derived.Test.YtjapddfnpmlifaaGreatDoorRunRxText
namespace Go.Proofs.YtjapddfnpmlifaaGreatDoor
set_option linter.unusedVariables false
set_option linter.unusedSimpArgs false
open Go.RowKit

theorem info_inst : (Tryz.prog.info? 163).map (fun i => (i.zero, i.size, i.bytes)) = some (some (.agg #[.int .i64 0, .int .i64 0, .int .i64 0, .string ⟨#[]⟩]), 4, 40) := by kernel_rfl
/-- the writer in block B: what it has laid, and where. -/
def WrtA (w : World) (B : Nat) (A : Option Addr) (code : List In) : Prop :=
 ∃ c, w.cell? ⟨B, 0, none⟩ = some (.slice A code.length c) ∧ w.frozen? ⟨B, 0, none⟩ = false ∧ w.ownsRow (B + 1) 163 4 (.slice A code.length c) code.length (icells code) ∧ B < w.heap.size
def blk (A : Option Addr) : Option Nat := A.map (·.block)
/-- the writer goes on: what else there was is as it was. -/
structure WX (B : Nat) (w : World) (g : Option Nat) (w' : World) (g' : Option Nat) : Prop where
 os : w'.os = w.os
 tape : w'.tape = w.tape
 output : w'.output = w.output
 size : w.heap.size ≤ w'.heap.size
 block : ∀ k, k < w.heap.size → k ≠ B → g ≠ some k → w'.heap[k]? = w.heap[k]?
 row : ∀ k, g' = some k → g = some k ∨ w.heap.size ≤ k
theorem WX.refl (B : Nat) (w : World) (g : Option Nat) : WX B w g w g := ⟨rfl, rfl, rfl, Nat.le_refl _, fun _ _ _ _ => rfl, fun _ h => .inl h⟩
theorem WX.trans {B : Nat} {w w1 w2 : World} {g g1 g2 : Option Nat} (h : WX B w g w1 g1) (k : WX B w1 g1 w2 g2) : WX B w g w2 g2 := by
 refine ⟨k.os.trans h.os, k.tape.trans h.tape, k.output.trans h.output, Nat.le_trans h.size k.size, fun i hi hn hg => ?_, fun i hi => ?_⟩
 ·
  refine (k.block i (Nat.lt_of_lt_of_le hi h.size) hn fun e => ?_).trans (h.block i hi hn hg)
  rcases h.row i e with e | e
  ·
   exact hg e
  ·
   omega
 ·
  rcases k.row i hi with e | e
  ·
   exact h.row i e
  ·
   exact .inr (Nat.le_trans h.size e)
theorem WX.gr {B : Nat} {w w' : World} (g : Option Nat) (h : Gr w w') : WX B w g w' g := ⟨h.os, h.tape, h.output, h.size, fun k hk _ _ => Below.block h k hk, fun _ h => .inl h⟩
theorem WX.set {B : Nat} {w w' : World} {g g' : Option Nat} (h : WX B w g w' g') {p : Addr} (hp : p.block = B ∨ g' = some p.block) (u : Value) : WX B w g (w'.setCell p u) g' := by
 refine ⟨h.os, h.tape, h.output, Nat.le_trans h.size (by simp), fun k hk hn hg => ?_, h.row⟩
 refine (heap_setCell_other w' p k u fun e => ?_).trans (h.block k hk hn hg)
 rcases hp with e2 | e2
 ·
  omega
 ·
  rcases h.row _ e2 with e3 | e3
  ·
   exact hg (e ▸ e3)
  ·
   omega
theorem WX.grown {B : Nat} {w w' : World} {g g' : Option Nat} (h : w.grownBy w' g) (hg : g' = g ∨ g' = some w.heap.size) : WX B w g w' g' :=
 ⟨h.os, h.tape, h.output, h.size, fun k hk _ hn => h.block k hk (fun e => hn e.symm), fun k hk => by
  rcases hg with e | e
  ·
   exact .inl (e ▸ hk)
  ·
   rw [e] at hk; injection hk with hk; exact .inr (Nat.le_of_eq hk)⟩
theorem WX.same {B lo hi : Nat} {w w' : World} {g g' : Option Nat} (h : WX B w g w' g') (hB : hi ≤ B) (hg : ∀ k, g = some k → B ≤ k) (hs : B < w.heap.size) : Same lo hi w w' :=
 ⟨Nat.le_trans hB (Nat.le_trans (Nat.le_of_lt hs) h.size), fun k h0 h1 => h.block k (by omega) (by omega) fun e => by have := hg k e; omega⟩
theorem WX.below {B : Nat} {w w' : World} {g g' : Option Nat} (h : WX B w g w' g') (hg : ∀ k, g = some k → B ≤ k) (hs : B < w.heap.size) : Below B w w' :=
 ⟨h.os, h.tape, h.output, h.size, fun k hk => h.block k (by omega) (by omega) fun e => by have := hg k e; omega⟩
section
variable {w w' : World} {B : Nat} {A : Option Addr} {code : List In}
theorem WrtA.lt (h : WrtA w B A code) : B < w.heap.size := h.choose_spec.2.2.2
theorem WrtA.row (h : WrtA w B A code) : ∀ k, blk A = some k → B < k ∧ k < w.heap.size := by
 obtain ⟨c, h1, h2, h3, h4⟩ := h
 intro k hk
 have := h3.lt k (by
  cases A with
  | none => cases hk
  | some a => exact hk)
 omega
theorem WrtA.kept (h : WrtA w B A code) (hs : w.heap.size ≤ w'.heap.size) (hb : w'.heap[B]? = w.heap[B]?) (hk : ∀ k, blk A = some k → w'.heap[k]? = w.heap[k]?) : WrtA w' B A code := by
 obtain ⟨c, h1, h2, h3, h4⟩ := h
 refine ⟨c, (World.cell?_of_block (a := ⟨B, 0, none⟩) hb).trans h1, (World.frozen?_of_block (a := ⟨B, 0, none⟩) hb).trans h2, ?_, Nat.lt_of_lt_of_le h4 hs⟩
 obtain ⟨k1, ⟨hv, k2⟩ | ⟨g, cap, cur, hv, hb', hh, k2⟩⟩ := h3
 ·
  exact ⟨k1, .inl ⟨hv, k2⟩⟩
 ·
  refine ⟨k1, .inr ⟨g, cap, cur, hv, hb', (hk g ?_).trans hh, k2⟩⟩
  injection hv with hv1
  rw [hv1]; rfl
theorem WrtA.gr (h : WrtA w B A code) (g : Gr w w') : WrtA w' B A code :=
 h.kept g.size (Below.block g B h.lt) fun k hk => Below.block g k (h.row k hk).2
theorem WrtA.grown {row : Option Nat} (h : WrtA w B A code) (g : w.grownBy w' row) (hB : row ≠ some B) (hA : ∀ k, row = some k → blk A ≠ some k) : WrtA w' B A code :=
 h.kept g.size (g.block B h.lt (fun e => hB e.symm)) fun k hk => g.block k (h.row k hk).2 (fun e => hA k e.symm hk)
end

set_option maxRecDepth 100000 in
set_option maxHeartbeats 3200000 in
theorem full_any {w : World} {B : Nat} {A : Option Addr} {code : List In} (h : WrtA w B A code) :
  Calls Tryz.prog 82 #[.pointer (some ⟨B, 0, none⟩)] w fun e w' => e = .returned (.bool (decide (1024 < (code.length : Int)))) ∧ w = w' := by
 obtain ⟨c, h1, h2, -, h4⟩ := h
 go_enter Tryz.func82, Tryz.ntmps82
 go_wp2
 go_ret
 exact ⟨rfl, rfl⟩

set_option maxRecDepth 100000 in
set_option maxHeartbeats 3200000 in
theorem lays_any {w : World} {B : Nat} {A : Option Addr} {code : List In} (h : WrtA w B A code) (ad : Addr) (m c' : Nat) (news : List In) (hn : news.length = m) (h0 : 0 < m) (hr : Rd w 4 (some ad) m (icells news)) (hb : code.length + m ≤ 4096) :
  Calls Tryz.prog 80 #[.pointer (some ⟨B, 0, none⟩), .slice (some ad) m c'] w fun e w' => e = .returned (.int .i64 code.length) ∧ ∃ A', WrtA w' B A' (code ++ news) ∧ WX B w (blk A) w' (blk A') := by
 obtain ⟨i0, hi0, hz0, hz1, hz2⟩ := info_parts info_inst
 obtain ⟨c, h1, h2, own, h4⟩ := h
 have hvl := own.lt
 go_enter Tryz.func80, Tryz.ntmps80
 go_wp2_with (at_builtin; refine wpList_append_rd rfl (.tmp 15) (.tmp 16) 69 rfl (B + 1) 163 i0 _ 4 40 Tryz.underlying69 hi0 hz0 hz1 hz2 rfl (by decide) _ code.length _ rfl own (some ad) m c' (icells news) rfl hr (icells_one _) (by unfold maxLen; omega) (by omega) (by omega) ?_; intro v' w9 own9 hgr9 hob9; obtain ⟨A9, c9, hv9⟩ := own_form own9; subst hv9; have e9 : w9.heap[B]? = w.heap[B]? := hgr9.block B h4 (fun e => (by have := hvl B e.symm; omega)); have hc9 := (World.cell?_of_block (a := ⟨B, 0, none⟩) e9).trans h1; have hf9 := (World.frozen?_of_block (a := ⟨B, 0, none⟩) e9).trans h2; have hz9 : B < w9.heap.size := Nat.lt_of_lt_of_le h4 hgr9.size)
 go_ret
 have hx : ∀ (A : Option Addr) (n c : Nat), (Value.slice A n c).ownBlock = blk A := fun A n c => by cases A <;> rfl
 have hgr : w.grownBy w9 (Value.slice A code.length c).ownBlock := hgr9
 have hob : (Value.slice A9 (code.length + m) c9).ownBlock = (Value.slice A code.length c).ownBlock ∨ (Value.slice A9 (code.length + m) c9).ownBlock = some w.heap.size := hob9
 rw [hx] at hgr
 rw [hx, hx] at hob
 refine ⟨rfl, A9, ⟨c9, ?_, by simpa using hf9, ?_, by simpa using hz9⟩, (WX.grown (B := B) hgr hob).set (p := ⟨B, 0, none⟩) (.inl rfl) _⟩
 ·
  rw [List.length_append, hn]
  go_simp
 ·
  rw [List.length_append, hn, icells_append]
  exact own_setX own9 (p := ⟨B, 0, none⟩) (Nat.lt_succ_self _) _
end Go.Proofs.YtjapddfnpmlifaaGreatDoor
namespace Go.Proofs.YtjapddfnpmlifaaGreatDoor
open Go.RowKit

section
variable {P : Program}
theorem Addr.add_0 (p : Addr) : p.add 0 = p := rfl
theorem run_storeVar_cell (w : World) (p : Addr) (ty : TypeId) (u old : Value) (hc : w.cell? p = some old) (hf : w.frozen? p = false) (hi : (P.info? ty).map (·.size) = some 1) (h1 : u.oneCell' = true) : (storeVar ty p u).run P w = .ok () (w.setCell p u) := by
 have hcs : u.cells = #[u] := by cases u <;> first | rfl | cases h1
 have hst : (store p u).run P w = .ok () (w.setCell p u) := by
  rw [run_store P w _ u _ h1, hc]
  simp [hf]
 cases hq : P.info? ty with
 | none => simp [hq] at hi
 | some i =>
  have hs : i.size = 1 := by simpa [hq] using hi
  simp [storeVar, sizeOf, typeInfo, hq, hcs, hs, storeCells, Addr.add_0, hst]
theorem wp_store_cell {o : Oper} {a : Act} {w : World} {K : Act → World → Prop} {Q : Exit → Act → World → Prop} (ty : TypeId) (x y : Operand) (ho : o.op = .store ty x y)
  (p : Addr) (u old : Value) (hx : a.eval x = .pointer (some p)) (hy : a.eval y = u) (hc : w.cell? p = some old) (hf : w.frozen? p = false) (hi : (P.info? ty).map (·.size) = some 1) (h1 : u.oneCell' = true)
  (h : K (a.put o.dst undef) (w.setCell p u)) : o.wp P a w K Q := by
 unfold Oper.wp execOp
 simp only [ho, hx, hy, Instr.storeAt, Instr.sureAddr, Sem.run_bind, Sem.run_pure, Result.andThen_ok, run_storeVar_cell w p ty u old hc hf hi h1]
 exact h
end
end Go.Proofs.YtjapddfnpmlifaaGreatDoor
namespace Go.Proofs.YtjapddfnpmlifaaGreatDoor
set_option linter.unusedVariables false
set_option linter.unusedSimpArgs false
open Go.RowKit

theorem icells_set (code : List In) : ∀ (i : Nat) (h : i < code.length) (x y : Int), ((icells code).set (i * 4 + 1) (.int .i64 x)).set (i * 4 + 2) (.int .i64 y) = icells (code.set i ⟨code[i].op, x, y, code[i].ps⟩) := by
 induction code with
 | nil => intro i h; simp at h
 | cons v l ih =>
  intro i h x y
  match i, h with
  | 0, _ => rfl
  | i + 1, h =>
   have h' : i < l.length := by simpa using h
   have e1 : (i + 1) * 4 + 1 = (i * 4 + 1) + 1 + 1 + 1 + 1 := by omega
   have e2 : (i + 1) * 4 + 2 = (i * 4 + 2) + 1 + 1 + 1 + 1 := by omega
   rw [icells_cons, e1, e2]
   simp only [List.set_cons_succ, List.getElem_cons_succ, icells_cons]
   rw [ih i h' x y]
/-- the cells that splits reads and sets. -/
def SpS (B g n c i : Nat) (W : World) : Prop := W.cell? ⟨B, 0, none⟩ = some (.slice (some ⟨g, 0, none⟩) n c) ∧ (∀ j, W.frozen? ⟨g, j, none⟩ = false) ∧ (∃ u, W.cell? ⟨g, i * 4 + 1, none⟩ = some u) ∧ ∃ u, W.cell? ⟨g, i * 4 + 2, none⟩ = some u
theorem SpS.set {B g n c i : Nat} {W : World} (h : SpS B g n c i W) (hB : B ≠ g) (u : Value) : SpS B g n c i (W.setCell ⟨g, i * 4 + 1, none⟩ u) := by
 obtain ⟨h0, h1, ⟨u1, h2⟩, u2, h3⟩ := h
 refine ⟨(World.cell?_setCell_other W _ ⟨B, 0, none⟩ _ (by first | (simp; done) | (simp; omega))).trans h0, fun j => by rw [World.frozen?_setCell]; exact h1 j, ?_, u2, (World.cell?_setCell_other W _ ⟨g, i * 4 + 2, none⟩ _ (by first | (simp; done) | (simp; omega))).trans h3⟩
 exact ⟨u, by go_simp⟩
theorem WrtA.form {w : World} {B : Nat} {A : Option Addr} {code : List In} (h : WrtA w B A code) (h0 : 0 < code.length) : ∃ g, A = some ⟨g, 0, none⟩ := by
 obtain ⟨c, _, _, own, _⟩ := h
 obtain ⟨_, ⟨_, h0'⟩ | ⟨g', cap, cur, hv, _⟩⟩ := own
 ·
  omega
 ·
  injection hv with hv1 _ _
  exact ⟨g', hv1⟩
set_option maxRecDepth 100000 in
set_option maxHeartbeats 3200000 in
theorem splits_false {w : World} {B : Nat} {A : Option Addr} {code : List In} (h : WrtA w B A code) (hb : code.length ≤ 4096) (i : Nat) (hi : i < code.length) (x y : Int) :
  Calls Tryz.prog 111 #[.pointer (some ⟨B, 0, none⟩), .int .i64 i, .int .i64 x, .int .i64 y, .bool false] w fun e w' => e = .returned (.tuple #[]) ∧ WrtA w' B A (code.set i ⟨code[i].op, x, y, code[i].ps⟩) ∧ WX B w (blk A) w' (blk A) := by
 obtain ⟨g, rfl⟩ := h.form (by omega)
 obtain ⟨c, h1, h2, own, h4⟩ := h
 obtain ⟨hgl, hgs⟩ := own.lt g rfl
 have hn4 := own.1
 obtain ⟨n, hn⟩ : ∃ n, n = code.length := ⟨_, rfl⟩
 have hin : i < n := by omega
 have hi' : (i : Int) < n := by omega
 obtain ⟨res, hres⟩ : ∃ res, code.set i ⟨code[i].op, x, y, code[i].ps⟩ = res := ⟨_, rfl⟩
 rw [hres]
 have hrl : res.length = n := by rw [← hres, hn]; simp
 have hst := icells_set code i hi x y
 rw [hres] at hst
 rw [← hn] at h1 own hn4
 obtain ⟨cs, hcs⟩ : ∃ cs, icells code = cs := ⟨_, rfl⟩
 rw [hcs] at own hn4 hst
 obtain ⟨cr, hcr⟩ : ∃ cr, icells res = cr := ⟨_, rfl⟩
 rw [hcr] at hst
 have Hst := Lib.hid hst
 have Hcr := Lib.hid hcr
 have Hrl := Lib.hid hrl
 obtain ⟨u1, hu1⟩ : ∃ u, w.cell? ⟨g, i * 4 + 1, none⟩ = some u := by
  have := own.cellAt (i * 4 + 1) (by omega)
  rw [List.getElem?_eq_getElem (by omega)] at this
  exact ⟨_, this⟩
 obtain ⟨u2, hu2⟩ : ∃ u, w.cell? ⟨g, i * 4 + 2, none⟩ = some u := by
  have := own.cellAt (i * 4 + 2) (by omega)
  rw [List.getElem?_eq_getElem (by omega)] at this
  exact ⟨_, this⟩
 have hf1 := own.frozenAt (i * 4 + 1)
 have hf2 := own.frozenAt (i * 4 + 2)
 have hfa := own.frozenAt
 have Hown := Lib.hid own
 clear hn hres hn4 hst hcr hcs hrl own hi hb
 go_enter Tryz.func111, Tryz.ntmps111
 go_upto_region 2 with (fail)
 have hS0 : SpS B g n c i w.drew := ⟨h1, hfa, ⟨u1, hu1⟩, ⟨u2, hu2⟩⟩
 refine wp_region_Z 17 (SpS B g n c i) (by kernel_rfl) ?_
 have hBg : B ≠ g := by omega
 clear hfa h1
 refine wpAnyZ_take (i := 0) (v := ?v1) rfl (by kernel_rfl) (fun _ _ _ h => h) (by rfl) (fun W hS => ?h1) hS0 ?r1
 case h1 => go_simp; rfl
 simp only [Act.put, List.getElem_toArray, List.getElem_cons_succ, List.getElem_cons_zero, List.setIfInBounds_toArray, List.set_cons_zero, List.set_cons_succ]
 refine wpAnyZ_take (i := 1) (v := ?v2) rfl (by kernel_rfl) (fun _ _ _ h => h) (by rfl) (fun W hS => ?h2) hS0 ?r2
 case h2 => go_simp; rfl
 simp only [Act.put, List.getElem_toArray, List.getElem_cons_succ, List.getElem_cons_zero, List.setIfInBounds_toArray, List.set_cons_zero, List.set_cons_succ]
 refine wpAnyZ_take (i := 2) (v := ?v3) rfl (by kernel_rfl) (fun _ _ _ h => h) (by rfl) (fun W hS => ?h3) hS0 ?r3
 case h3 => go_simp; rfl
 simp only [Act.put, List.getElem_toArray, List.getElem_cons_succ, List.getElem_cons_zero, List.setIfInBounds_toArray, List.set_cons_zero, List.set_cons_succ]
 refine wpAnyZ_take (i := 3) (v := ?v4) rfl (by kernel_rfl) (fun _ _ _ h => h) (by rfl) (fun W hS => ?h4) hS0 ?r4
 case h4 => obtain ⟨s0, -, -, -⟩ := hS; go_simp; rfl
 simp only [Act.put, List.getElem_toArray, List.getElem_cons_succ, List.getElem_cons_zero, List.setIfInBounds_toArray, List.set_cons_zero, List.set_cons_succ]
 refine wpAnyZ_take (i := 4) (v := ?v5) rfl (by kernel_rfl) (fun _ _ _ h => h) (by rfl) (fun W hS => ?h5) hS0 ?r5
 case h5 => go_simp; rfl
 simp only [Act.put, List.getElem_toArray, List.getElem_cons_succ, List.getElem_cons_zero, List.setIfInBounds_toArray, List.set_cons_zero, List.set_cons_succ]
 refine wpAnyZ_take (i := 5) (v := ?v6) rfl (by kernel_rfl) (fun _ _ _ h => h) (by rfl) (fun W hS => ?h6) hS0 ?r6
 case h6 => go_simp; rfl
 simp only [Act.put, List.getElem_toArray, List.getElem_cons_succ, List.getElem_cons_zero, List.setIfInBounds_toArray, List.set_cons_zero, List.set_cons_succ]
 refine wpAnyZ_take (i := 6) (v := ?v7) rfl (by kernel_rfl) (fun _ _ _ h => h) (by rfl) (fun W hS => ?h7) hS0 ?r7
 case h7 => go_simp; rfl
 simp only [Act.put, List.getElem_toArray, List.getElem_cons_succ, List.getElem_cons_zero, List.setIfInBounds_toArray, List.set_cons_zero, List.set_cons_succ]
 refine wpAnyZ_take (i := 7) (v := ?v8) rfl (by kernel_rfl) (fun _ _ _ h => h) (by rfl) (fun W hS => ?h8) hS0 ?r8
 case h8 => go_simp; rfl
 simp only [Act.put, List.getElem_toArray, List.getElem_cons_succ, List.getElem_cons_zero, List.setIfInBounds_toArray, List.set_cons_zero, List.set_cons_succ]
 refine wpAnyZ_take (i := 8) (v := ?v9) rfl (by kernel_rfl) (fun _ _ _ h => h) (by rfl) (fun W hS => ?h9) hS0 ?r9
 case h9 => obtain ⟨s0, -, -, -⟩ := hS; go_simp; rfl
 simp only [Act.put, List.getElem_toArray, List.getElem_cons_succ, List.getElem_cons_zero, List.setIfInBounds_toArray, List.set_cons_zero, List.set_cons_succ]
 refine wpAnyZ_take (i := 9) (v := ?v10) rfl (by kernel_rfl) (fun _ _ _ h => h) (by rfl) (fun W hS => ?h10) hS0 ?r10
 case h10 => go_simp; rfl
 simp only [Act.put, List.getElem_toArray, List.getElem_cons_succ, List.getElem_cons_zero, List.setIfInBounds_toArray, List.set_cons_zero, List.set_cons_succ]
 refine wpAnyZ_take (i := 10) (v := ?v11) rfl (by kernel_rfl) (fun _ _ _ h => h) (by rfl) (fun W hS => ?h11) hS0 ?r11
 case h11 => go_simp; rfl
 simp only [Act.put, List.getElem_toArray, List.getElem_cons_succ, List.getElem_cons_zero, List.setIfInBounds_toArray, List.set_cons_zero, List.set_cons_succ]
 refine wpAnyZ_take (i := 11) (v := ?v12) rfl (by kernel_rfl) (fun _ _ _ h => h) (by rfl) (fun W hS => ?h12) hS0 ?r12
 case h12 => go_simp; rfl
 simp only [Act.put, List.getElem_toArray, List.getElem_cons_succ, List.getElem_cons_zero, List.setIfInBounds_toArray, List.set_cons_zero, List.set_cons_succ]
 refine wpAnyZ_take (i := 12) (v := ?v13) rfl (by kernel_rfl) (fun _ _ _ h => h) (by rfl) (fun W hS => ?h13) hS0 ?r13
 case h13 => go_simp; rfl
 simp only [Act.put, List.getElem_toArray, List.getElem_cons_succ, List.getElem_cons_zero, List.setIfInBounds_toArray, List.set_cons_zero, List.set_cons_succ]
 refine wpAnyZ_take (i := 13) (v := ?v14) rfl (by kernel_rfl) (fun _ _ _ h => h) (by rfl) (fun W hS => ?h14) hS0 ?r14
 case h14 => go_simp; rfl
 simp only [Act.put, List.getElem_toArray, List.getElem_cons_succ, List.getElem_cons_zero, List.setIfInBounds_toArray, List.set_cons_zero, List.set_cons_succ]
 refine wpAnyZ_ready (rs := [14]) (by kernel_rfl) (by simp) ?_
 refine AllReadyZ.cons (i := 14) rfl (by kernel_rfl) ?x314 AllReadyZ.nil
 intro K hK
 simp only [List.getElem_toArray, List.getElem_cons_succ, List.getElem_cons_zero]
 refine wp_store_cell _ _ _ rfl ⟨g, i * 4 + 1, none⟩ (.int .i64 x) u1 ?a1 ?a2 hu1 hf1 (by kernel_rfl) rfl ?a3
 case a1 => first | rfl | (simp [Act.eval, Addr.add]; done)
 case a2 => first | rfl | (simp [Act.eval]; done)
 refine hK.out _ _ (fun _ => ?zs1) (fun _ => ?zr1)
 case zs1 => exact SpS.set hS0 hBg _
 clear hK K
 simp only [Pu, List.getElem_toArray, List.getElem_cons_succ, List.getElem_cons_zero]
 have hS1 := SpS.set hS0 hBg (.int .i64 x)
 obtain ⟨V1, hV1⟩ : ∃ V1, V1 = w.drew.setCell ⟨g, i * 4 + 1, none⟩ (.int .i64 x) := ⟨_, rfl⟩
 rw [← hV1] at hS1 ⊢
 refine wpAnyZ_take (i := 15) (v := ?v15) rfl (by kernel_rfl) (fun _ _ _ h => h) (by rfl) (fun W hS => ?h15) hS1 ?r15
 case h15 => go_simp; rfl
 simp only [Act.put, List.getElem_toArray, List.getElem_cons_succ, List.getElem_cons_zero, List.setIfInBounds_toArray, List.set_cons_zero, List.set_cons_succ]
 refine wpAnyZ_take (i := 16) (v := ?v16) rfl (by kernel_rfl) (fun _ _ _ h => h) (by rfl) (fun W hS => ?h16) hS1 ?r16
 case h16 => go_simp; rfl
 simp only [Act.put, List.getElem_toArray, List.getElem_cons_succ, List.getElem_cons_zero, List.setIfInBounds_toArray, List.set_cons_zero, List.set_cons_succ]
 refine wpAnyZ_ready (rs := [17]) (by kernel_rfl) (by simp) ?_
 refine AllReadyZ.cons (i := 17) rfl (by kernel_rfl) ?x317 AllReadyZ.nil
 intro K hK
 simp only [List.getElem_toArray, List.getElem_cons_succ, List.getElem_cons_zero]
 obtain ⟨u2', hu2'⟩ := hS1.2.2.2
 refine wp_store_cell _ _ _ rfl ⟨g, i * 4 + 2, none⟩ (.int .i64 y) u2' ?b1 ?b2 hu2' (hS1.2.1 _) (by kernel_rfl) rfl ?b3
 case b1 => first | rfl | (simp [Act.eval, Addr.add]; done)
 case b2 => first | rfl | (simp [Act.eval]; done)
 refine hK.out _ _ (fun hnz => absurd rfl hnz) (fun _ => ?zr2)
 clear hK K
 simp only [Pu, List.getElem_toArray, List.getElem_cons_succ, List.getElem_cons_zero]
 refine wpAnyZ_done (by kernel_rfl) ?_ _
 subst hV1
 go_wp2
 go_end0
 have own := Hown.out
 obtain ⟨o1, -⟩ := own.drew.stored (i * 4 + 1) (.int .i64 x)
 obtain ⟨o2, -⟩ := o1.stored (i * 4 + 2) (.int .i64 y)
 rw [Hst.out, ← Hcr.out] at o2
 refine ⟨rfl, ⟨c, ?_, ?_, ?_, ?_⟩, ((WX.gr (some g) (Gr.drew (Gr.refl w))).set (p := ⟨g, i * 4 + 1, none⟩) (.inr rfl) _).set (p := ⟨g, i * 4 + 2, none⟩) (.inr rfl) _⟩
 ·
  rw [Hrl.out]
  exact (World.cell?_setCell_other _ _ ⟨B, 0, none⟩ _ (by first | (simp; done) | (simp; omega))).trans ((World.cell?_setCell_other _ _ ⟨B, 0, none⟩ _ (by first | (simp; done) | (simp; omega))).trans hS0.1)
 ·
  rw [World.frozen?_setCell, World.frozen?_setCell]; exact h2
 ·
  rw [Hrl.out]; exact o2
 ·
  simpa using h4

set_option maxRecDepth 100000 in
set_option maxHeartbeats 3200000 in
theorem splits_true {w : World} {B : Nat} {A : Option Addr} {code : List In} (h : WrtA w B A code) (hb : code.length ≤ 4096) (i : Nat) (hi : i < code.length) (x y : Int) :
  Calls Tryz.prog 111 #[.pointer (some ⟨B, 0, none⟩), .int .i64 i, .int .i64 x, .int .i64 y, .bool true] w fun e w' => e = .returned (.tuple #[]) ∧ WrtA w' B A (code.set i ⟨code[i].op, y, x, code[i].ps⟩) ∧ WX B w (blk A) w' (blk A) := by
 obtain ⟨g, rfl⟩ := h.form (by omega)
 obtain ⟨c, h1, h2, own, h4⟩ := h
 obtain ⟨hgl, hgs⟩ := own.lt g rfl
 have hn4 := own.1
 obtain ⟨n, hn⟩ : ∃ n, n = code.length := ⟨_, rfl⟩
 have hin : i < n := by omega
 have hi' : (i : Int) < n := by omega
 obtain ⟨res, hres⟩ : ∃ res, code.set i ⟨code[i].op, y, x, code[i].ps⟩ = res := ⟨_, rfl⟩
 rw [hres]
 have hrl : res.length = n := by rw [← hres, hn]; simp
 have hst := icells_set code i hi y x
 rw [hres] at hst
 rw [← hn] at h1 own hn4
 obtain ⟨cs, hcs⟩ : ∃ cs, icells code = cs := ⟨_, rfl⟩
 rw [hcs] at own hn4 hst
 obtain ⟨cr, hcr⟩ : ∃ cr, icells res = cr := ⟨_, rfl⟩
 rw [hcr] at hst
 have Hst := Lib.hid hst
 have Hcr := Lib.hid hcr
 have Hrl := Lib.hid hrl
 obtain ⟨u1, hu1⟩ : ∃ u, w.cell? ⟨g, i * 4 + 1, none⟩ = some u := by
  have := own.cellAt (i * 4 + 1) (by omega)
  rw [List.getElem?_eq_getElem (by omega)] at this
  exact ⟨_, this⟩
 obtain ⟨u2, hu2⟩ : ∃ u, w.cell? ⟨g, i * 4 + 2, none⟩ = some u := by
  have := own.cellAt (i * 4 + 2) (by omega)
  rw [List.getElem?_eq_getElem (by omega)] at this
  exact ⟨_, this⟩
 have hf1 := own.frozenAt (i * 4 + 1)
 have hf2 := own.frozenAt (i * 4 + 2)
 have hfa := own.frozenAt
 have Hown := Lib.hid own
 clear hn hres hn4 hst hcr hcs hrl own hi hb
 go_enter Tryz.func111, Tryz.ntmps111
 go_upto_region 2 with (fail)
 have hS0 : SpS B g n c i w.drew := ⟨h1, hfa, ⟨u1, hu1⟩, ⟨u2, hu2⟩⟩
 refine wp_region_Z 17 (SpS B g n c i) (by kernel_rfl) ?_
 have hBg : B ≠ g := by omega
 clear hfa h1
 refine wpAnyZ_take (i := 0) (v := ?v1) rfl (by kernel_rfl) (fun _ _ _ h => h) (by rfl) (fun W hS => ?h1) hS0 ?r1
 case h1 => go_simp; rfl
 simp only [Act.put, List.getElem_toArray, List.getElem_cons_succ, List.getElem_cons_zero, List.setIfInBounds_toArray, List.set_cons_zero, List.set_cons_succ]
 refine wpAnyZ_take (i := 1) (v := ?v2) rfl (by kernel_rfl) (fun _ _ _ h => h) (by rfl) (fun W hS => ?h2) hS0 ?r2
 case h2 => go_simp; rfl
 simp only [Act.put, List.getElem_toArray, List.getElem_cons_succ, List.getElem_cons_zero, List.setIfInBounds_toArray, List.set_cons_zero, List.set_cons_succ]
 refine wpAnyZ_take (i := 2) (v := ?v3) rfl (by kernel_rfl) (fun _ _ _ h => h) (by rfl) (fun W hS => ?h3) hS0 ?r3
 case h3 => go_simp; rfl
 simp only [Act.put, List.getElem_toArray, List.getElem_cons_succ, List.getElem_cons_zero, List.setIfInBounds_toArray, List.set_cons_zero, List.set_cons_succ]
 refine wpAnyZ_take (i := 3) (v := ?v4) rfl (by kernel_rfl) (fun _ _ _ h => h) (by rfl) (fun W hS => ?h4) hS0 ?r4
 case h4 => obtain ⟨s0, -, -, -⟩ := hS; go_simp; rfl
 simp only [Act.put, List.getElem_toArray, List.getElem_cons_succ, List.getElem_cons_zero, List.setIfInBounds_toArray, List.set_cons_zero, List.set_cons_succ]
 refine wpAnyZ_take (i := 4) (v := ?v5) rfl (by kernel_rfl) (fun _ _ _ h => h) (by rfl) (fun W hS => ?h5) hS0 ?r5
 case h5 => go_simp; rfl
 simp only [Act.put, List.getElem_toArray, List.getElem_cons_succ, List.getElem_cons_zero, List.setIfInBounds_toArray, List.set_cons_zero, List.set_cons_succ]
 refine wpAnyZ_take (i := 5) (v := ?v6) rfl (by kernel_rfl) (fun _ _ _ h => h) (by rfl) (fun W hS => ?h6) hS0 ?r6
 case h6 => go_simp; rfl
 simp only [Act.put, List.getElem_toArray, List.getElem_cons_succ, List.getElem_cons_zero, List.setIfInBounds_toArray, List.set_cons_zero, List.set_cons_succ]
 refine wpAnyZ_take (i := 6) (v := ?v7) rfl (by kernel_rfl) (fun _ _ _ h => h) (by rfl) (fun W hS => ?h7) hS0 ?r7
 case h7 => go_simp; rfl
 simp only [Act.put, List.getElem_toArray, List.getElem_cons_succ, List.getElem_cons_zero, List.setIfInBounds_toArray, List.set_cons_zero, List.set_cons_succ]
 refine wpAnyZ_take (i := 7) (v := ?v8) rfl (by kernel_rfl) (fun _ _ _ h => h) (by rfl) (fun W hS => ?h8) hS0 ?r8
 case h8 => go_simp; rfl
 simp only [Act.put, List.getElem_toArray, List.getElem_cons_succ, List.getElem_cons_zero, List.setIfInBounds_toArray, List.set_cons_zero, List.set_cons_succ]
 refine wpAnyZ_take (i := 8) (v := ?v9) rfl (by kernel_rfl) (fun _ _ _ h => h) (by rfl) (fun W hS => ?h9) hS0 ?r9
 case h9 => obtain ⟨s0, -, -, -⟩ := hS; go_simp; rfl
 simp only [Act.put, List.getElem_toArray, List.getElem_cons_succ, List.getElem_cons_zero, List.setIfInBounds_toArray, List.set_cons_zero, List.set_cons_succ]
 refine wpAnyZ_take (i := 9) (v := ?v10) rfl (by kernel_rfl) (fun _ _ _ h => h) (by rfl) (fun W hS => ?h10) hS0 ?r10
 case h10 => go_simp; rfl
 simp only [Act.put, List.getElem_toArray, List.getElem_cons_succ, List.getElem_cons_zero, List.setIfInBounds_toArray, List.set_cons_zero, List.set_cons_succ]
 refine wpAnyZ_take (i := 10) (v := ?v11) rfl (by kernel_rfl) (fun _ _ _ h => h) (by rfl) (fun W hS => ?h11) hS0 ?r11
 case h11 => go_simp; rfl
 simp only [Act.put, List.getElem_toArray, List.getElem_cons_succ, List.getElem_cons_zero, List.setIfInBounds_toArray, List.set_cons_zero, List.set_cons_succ]
 refine wpAnyZ_take (i := 11) (v := ?v12) rfl (by kernel_rfl) (fun _ _ _ h => h) (by rfl) (fun W hS => ?h12) hS0 ?r12
 case h12 => go_simp; rfl
 simp only [Act.put, List.getElem_toArray, List.getElem_cons_succ, List.getElem_cons_zero, List.setIfInBounds_toArray, List.set_cons_zero, List.set_cons_succ]
 refine wpAnyZ_take (i := 12) (v := ?v13) rfl (by kernel_rfl) (fun _ _ _ h => h) (by rfl) (fun W hS => ?h13) hS0 ?r13
 case h13 => go_simp; rfl
 simp only [Act.put, List.getElem_toArray, List.getElem_cons_succ, List.getElem_cons_zero, List.setIfInBounds_toArray, List.set_cons_zero, List.set_cons_succ]
 refine wpAnyZ_take (i := 13) (v := ?v14) rfl (by kernel_rfl) (fun _ _ _ h => h) (by rfl) (fun W hS => ?h14) hS0 ?r14
 case h14 => go_simp; rfl
 simp only [Act.put, List.getElem_toArray, List.getElem_cons_succ, List.getElem_cons_zero, List.setIfInBounds_toArray, List.set_cons_zero, List.set_cons_succ]
 refine wpAnyZ_ready (rs := [14]) (by kernel_rfl) (by simp) ?_
 refine AllReadyZ.cons (i := 14) rfl (by kernel_rfl) ?x314 AllReadyZ.nil
 intro K hK
 simp only [List.getElem_toArray, List.getElem_cons_succ, List.getElem_cons_zero]
 refine wp_store_cell _ _ _ rfl ⟨g, i * 4 + 1, none⟩ (.int .i64 y) u1 ?a1 ?a2 hu1 hf1 (by kernel_rfl) rfl ?a3
 case a1 => first | rfl | (simp [Act.eval, Addr.add]; done)
 case a2 => first | rfl | (simp [Act.eval]; done)
 refine hK.out _ _ (fun _ => ?zs1) (fun _ => ?zr1)
 case zs1 => exact SpS.set hS0 hBg _
 clear hK K
 simp only [Pu, List.getElem_toArray, List.getElem_cons_succ, List.getElem_cons_zero]
 have hS1 := SpS.set hS0 hBg (.int .i64 y)
 obtain ⟨V1, hV1⟩ : ∃ V1, V1 = w.drew.setCell ⟨g, i * 4 + 1, none⟩ (.int .i64 y) := ⟨_, rfl⟩
 rw [← hV1] at hS1 ⊢
 refine wpAnyZ_take (i := 15) (v := ?v15) rfl (by kernel_rfl) (fun _ _ _ h => h) (by rfl) (fun W hS => ?h15) hS1 ?r15
 case h15 => go_simp; rfl
 simp only [Act.put, List.getElem_toArray, List.getElem_cons_succ, List.getElem_cons_zero, List.setIfInBounds_toArray, List.set_cons_zero, List.set_cons_succ]
 refine wpAnyZ_take (i := 16) (v := ?v16) rfl (by kernel_rfl) (fun _ _ _ h => h) (by rfl) (fun W hS => ?h16) hS1 ?r16
 case h16 => go_simp; rfl
 simp only [Act.put, List.getElem_toArray, List.getElem_cons_succ, List.getElem_cons_zero, List.setIfInBounds_toArray, List.set_cons_zero, List.set_cons_succ]
 refine wpAnyZ_ready (rs := [17]) (by kernel_rfl) (by simp) ?_
 refine AllReadyZ.cons (i := 17) rfl (by kernel_rfl) ?x317 AllReadyZ.nil
 intro K hK
 simp only [List.getElem_toArray, List.getElem_cons_succ, List.getElem_cons_zero]
 obtain ⟨u2', hu2'⟩ := hS1.2.2.2
 refine wp_store_cell _ _ _ rfl ⟨g, i * 4 + 2, none⟩ (.int .i64 x) u2' ?b1 ?b2 hu2' (hS1.2.1 _) (by kernel_rfl) rfl ?b3
 case b1 => first | rfl | (simp [Act.eval, Addr.add]; done)
 case b2 => first | rfl | (simp [Act.eval]; done)
 refine hK.out _ _ (fun hnz => absurd rfl hnz) (fun _ => ?zr2)
 clear hK K
 simp only [Pu, List.getElem_toArray, List.getElem_cons_succ, List.getElem_cons_zero]
 refine wpAnyZ_done (by kernel_rfl) ?_ _
 subst hV1
 go_wp2
 go_end0
 have own := Hown.out
 obtain ⟨o1, -⟩ := own.drew.stored (i * 4 + 1) (.int .i64 y)
 obtain ⟨o2, -⟩ := o1.stored (i * 4 + 2) (.int .i64 x)
 rw [Hst.out, ← Hcr.out] at o2
 refine ⟨rfl, ⟨c, ?_, ?_, ?_, ?_⟩, ((WX.gr (some g) (Gr.drew (Gr.refl w))).set (p := ⟨g, i * 4 + 1, none⟩) (.inr rfl) _).set (p := ⟨g, i * 4 + 2, none⟩) (.inr rfl) _⟩
 ·
  rw [Hrl.out]
  exact (World.cell?_setCell_other _ _ ⟨B, 0, none⟩ _ (by first | (simp; done) | (simp; omega))).trans ((World.cell?_setCell_other _ _ ⟨B, 0, none⟩ _ (by first | (simp; done) | (simp; omega))).trans hS0.1)
 ·
  rw [World.frozen?_setCell, World.frozen?_setCell]; exact h2
 ·
  rw [Hrl.out]; exact o2
 ·
  simpa using h4
end Go.Proofs.YtjapddfnpmlifaaGreatDoor
namespace Go.Proofs.YtjapddfnpmlifaaGreatDoor
set_option linter.unusedVariables false
set_option linter.unusedSimpArgs false
open Go.RowKit

/-- the writer has laid. -/
def RetW (w : World) (B : Nat) (A : Option Addr) (res : List In) (e : Ending) (w' : World) : Prop :=
 e = .returned (.tuple #[]) ∧ ∃ A', WrtA w' B A' res ∧ WX B w (blk A) w' (blk A')
theorem Rd.inst (w : World) (v : In) : Rd (w.alloc (.cells #[.int .i64 v.op, .int .i64 v.x, .int .i64 v.y, .string ⟨v.ps.toArray⟩] 163)) 4 (some ⟨w.heap.size, 0, none⟩) 1 (icells [v]) := by
 refine ⟨rfl, fun _ => ⟨_, rfl, by simp, fun j u hu => ?_⟩⟩
 have := (World.ownsRow_lit (base := 0) (e := 163) (size := 4) w #[.int .i64 v.op, .int .i64 v.x, .int .i64 v.y, .string ⟨v.ps.toArray⟩] 1 (Nat.zero_le _) (by decide) rfl).cells (g := w.heap.size) rfl j u (by simpa [icells] using hu)
 exact this
/-- a contract of lays, of one instruction that has been made. -/
theorem lays_one {w : World} {B : Nat} {A : Option Addr} {code : List In} (h : WrtA w B A code) (v : In) (hb : code.length ≤ 4000) :
  Calls Tryz.prog 80 #[.pointer (some ⟨B, 0, none⟩), .slice (some ⟨w.heap.size, 0, none⟩) 1 1] (w.alloc (.cells #[.int .i64 v.op, .int .i64 v.x, .int .i64 v.y, .string ⟨v.ps.toArray⟩] 163)) fun e w' => e = .returned (.int .i64 code.length) ∧ ∃ A', WrtA w' B A' (code ++ [v]) ∧ WX B w (blk A) w' (blk A') := by
 have g := Gr.alloc (Gr.refl w) (.cells #[.int .i64 v.op, .int .i64 v.x, .int .i64 v.y, .string ⟨v.ps.toArray⟩] 163)
 refine (lays_any (h.gr g) _ 1 1 [v] rfl (by decide) (Rd.inst w v) (by omega)).mono ?_
 rintro e w' ⟨he, A', h1, h2⟩
 exact ⟨he, A', h1, (WX.gr _ g).trans h2⟩

set_option maxRecDepth 100000 in
set_option maxHeartbeats 3200000 in
theorem put_leaf {w : World} {B : Nat} {A : Option Addr} {code : List In} (hB : WrtA w B A code) (hl : code.length ≤ 1020) {b op : Nat} {ps : List UInt8} (hop : op < 10) (hbs : b < w.heap.size) (hn : Node w b op ps (.slice none 0 0) 0 false) :
  Calls Tryz.prog 81 #[.pointer (some ⟨B, 0, none⟩), .pointer (some ⟨b, 0, none⟩)] w (RetW w B A (code ++ [⟨op, 0, 0, ps⟩])) := by
 obtain ⟨n0, n1, n2, n3, n4⟩ := hn
 have hful : decide (1024 < (code.length : Int)) = false := by simp; omega
 have t10 : ((op : Int) == 10) = false := by simp; omega
 have t11 : ((op : Int) == 11) = false := by simp; omega
 have t12 : ((op : Int) == 12) = false := by simp; omega
 have t42 : ((op : Int) == 42) = false := by simp; omega
 have t43 : ((op : Int) == 43) = false := by simp; omega
 have t63 : ((op : Int) == 63) = false := by simp; omega
 obtain ⟨L, hL⟩ : ∃ L, L = code.length := ⟨_, rfl⟩
 go_enter Tryz.func81, Tryz.ntmps81
 go_upto_region 2 with (go_at_call 82; refine (full_any hB).mono ?_; rintro e w1 ⟨rfl, rfl⟩)
 clear t10 t11 t12 t42 t43 t63 hful n2 n3 n4
 have hS0 : Gr w w.drew := Gr.drew (Gr.refl w)
 refine wp_region_Z 11 (fun W => Gr w W) (by kernel_rfl) ?_
 refine wpAnyZ_take (i := 0) (v := ?v1) rfl (by kernel_rfl) (fun _ _ _ h => h) (by rfl) (fun W hS => ?h1) hS0 ?r1
 case h1 => go_simp; rfl
 simp only [Act.put, List.getElem_toArray, List.getElem_cons_succ, List.getElem_cons_zero, List.setIfInBounds_toArray, List.set_cons_zero, List.set_cons_succ]
 refine wpAnyZ_take (i := 1) (v := ?v2) rfl (by kernel_rfl) (fun _ _ _ h => h) (by rfl) (fun W hS => ?h2) hS0 ?r2
 case h2 => go_simp; rfl
 simp only [Act.put, List.getElem_toArray, List.getElem_cons_succ, List.getElem_cons_zero, List.setIfInBounds_toArray, List.set_cons_zero, List.set_cons_succ]
 refine wpAnyZ_take (i := 2) (v := ?v3) rfl (by kernel_rfl) (fun _ _ _ h => h) (by rfl) (fun W hS => ?h3) hS0 ?r3
 case h3 => go_simp; rfl
 simp only [Act.put, List.getElem_toArray, List.getElem_cons_succ, List.getElem_cons_zero, List.setIfInBounds_toArray, List.set_cons_zero, List.set_cons_succ]
 refine wpAnyZ_take (i := 3) (v := ?v4) rfl (by kernel_rfl) (fun _ _ _ h => h) (by rfl) (fun W hS => ?h4) hS0 ?r4
 case h4 => go_simp; rfl
 simp only [Act.put, List.getElem_toArray, List.getElem_cons_succ, List.getElem_cons_zero, List.setIfInBounds_toArray, List.set_cons_zero, List.set_cons_succ]
 refine wpAnyZ_take (i := 4) (v := ?v5) rfl (by kernel_rfl) (fun _ _ _ h => h) (by rfl) (fun W hS => ?h5) hS0 ?r5
 case h5 => have g0 := (Below.cell hS (p := ⟨b, 0, none⟩) hbs).trans n0; go_simp; rfl
 simp only [Act.put, List.getElem_toArray, List.getElem_cons_succ, List.getElem_cons_zero, List.setIfInBounds_toArray, List.set_cons_zero, List.set_cons_succ]
 refine wpAnyZ_take (i := 5) (v := ?v6) rfl (by kernel_rfl) (fun _ _ _ h => h) (by rfl) (fun W hS => ?h6) hS0 ?r6
 case h6 => go_simp; rfl
 simp only [Act.put, List.getElem_toArray, List.getElem_cons_succ, List.getElem_cons_zero, List.setIfInBounds_toArray, List.set_cons_zero, List.set_cons_succ]
 refine wpAnyZ_take (i := 6) (v := ?v7) rfl (by kernel_rfl) (fun _ _ _ h => h) (by rfl) (fun W hS => ?h7) hS0 ?r7
 case h7 => go_simp; rfl
 simp only [Act.put, List.getElem_toArray, List.getElem_cons_succ, List.getElem_cons_zero, List.setIfInBounds_toArray, List.set_cons_zero, List.set_cons_succ]
 refine wpAnyZ_take (i := 7) (v := ?v8) rfl (by kernel_rfl) (fun _ _ _ h => h) (by rfl) (fun W hS => ?h8) hS0 ?r8
 case h8 => go_simp; rfl
 simp only [Act.put, List.getElem_toArray, List.getElem_cons_succ, List.getElem_cons_zero, List.setIfInBounds_toArray, List.set_cons_zero, List.set_cons_succ]
 refine wpAnyZ_take (i := 8) (v := ?v9) rfl (by kernel_rfl) (fun _ _ _ h => h) (by rfl) (fun W hS => ?h9) hS0 ?r9
 case h9 => have g1 := (Below.cell hS (p := ⟨b, 1, none⟩) hbs).trans n1; go_simp; rfl
 simp only [Act.put, List.getElem_toArray, List.getElem_cons_succ, List.getElem_cons_zero, List.setIfInBounds_toArray, List.set_cons_zero, List.set_cons_succ]
 refine wpAnyZ_take (i := 9) (v := ?v10) rfl (by kernel_rfl) (fun _ _ _ h => h) (by rfl) (fun W hS => ?h10) hS0 ?r10
 case h10 => go_simp; rfl
 simp only [Act.put, List.getElem_toArray, List.getElem_cons_succ, List.getElem_cons_zero, List.setIfInBounds_toArray, List.set_cons_zero, List.set_cons_succ]
 clear n0 n1
 refine wpAnyZ_ready (rs := [10]) (by kernel_rfl) (by simp) ?_
 refine AllReadyZ.cons (i := 10) rfl (by kernel_rfl) ?x310 AllReadyZ.nil
 intro K hK
 simp only [List.getElem_toArray, List.getElem_cons_succ, List.getElem_cons_zero]
 go_simp
 refine hK.out _ _ (fun _ => ?zs1) (fun _ => ?zr1)
 case zs1 => exact Gr.alloc hS0 _
 clear hK K
 try (simp only [Pu, List.getElem_toArray, List.getElem_cons_succ, List.getElem_cons_zero])
 refine wpAnyZ_ready (rs := [11]) (by kernel_rfl) (by simp) ?_
 refine AllReadyZ.cons (i := 11) rfl (by kernel_rfl) ?x311 AllReadyZ.nil
 intro K hK
 simp only [List.getElem_toArray, List.getElem_cons_succ, List.getElem_cons_zero]
 go_simp
 have hB1 := hB.gr hS0
 refine (lays_one hB1 ⟨op, 0, 0, ps⟩ (by omega)).mono ?_
 rintro e w' ⟨rfl, A', k1, k2⟩
 go_wp2_with fail
 refine hK.out _ _ (fun hnz => absurd rfl hnz) (fun _ => ?zr2)
 clear hK K
 try (simp only [Pu, List.getElem_toArray, List.getElem_cons_succ, List.getElem_cons_zero])
 refine wpAnyZ_done (by kernel_rfl) ?_ _
 go_wp2
 go_end0
 exact ⟨rfl, A', k1, (WX.gr _ hS0).trans k2⟩

end Go.Proofs.YtjapddfnpmlifaaGreatDoor
