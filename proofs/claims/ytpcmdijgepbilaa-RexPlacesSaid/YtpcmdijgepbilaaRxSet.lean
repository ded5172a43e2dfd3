/- Contracts of the sets of bytes of the program's package rex: a run of bytes is added, all other bytes, two sets as one, one byte, the six, is it a word's byte. -/
import Derived.Test.YtpcmdijgepbilaaProg
import Derived.Test.YtpcmdijgepbilaaRxMem
import Derived.WalkLawsBesides
import Derived.WalkSpells
import Derived.Deep.WholeRow
import Derived.Deep.Cut
import Derived.Deep.CutBlock
namespace Go.Proofs.Ytpcmdijgepbilaa
open Go.RowKit
set_option linter.unusedVariables false
set_option linter.unusedSimpArgs false

theorem info_set : (Try.prog.info? 73).map (fun i => (i.zero, i.size)) = some (some (.agg (bsA noB)), 256) := by kernel_rfl
/-- block g holds a set. -/
def SetAt (w : World) (g : Nat) (f : Bs) : Prop := w.heap[g]? = some (.cells (bsA f) 73 (0, 0))
theorem SetAt.cell {w : World} {g : Nat} {f : Bs} (h : SetAt w g f) {i : Nat} (hi : i < 256) : w.cell? ⟨g, i, none⟩ = some (.bool (f i)) :=
  (cell_of_row w g i _ _ _ h).trans (bsA_at f hi)
theorem SetAt.free {w : World} {g : Nat} {f : Bs} (h : SetAt w g f) (i : Nat) : w.frozen? ⟨g, i, none⟩ = false := frozen_of_row w g i _ _ h
theorem SetAt.set {w : World} {g : Nat} {f : Bs} (h : SetAt w g f) (i : Nat) (b : Bool) : SetAt (w.setCell ⟨g, i, none⟩ (.bool b)) g (fun k => bif k == i then b else f k) :=
  (heap_setCell_same w g i _ _ (.bool b) h).trans (by rw [bsA_set])
theorem SetAt.lt {w : World} {g : Nat} {f : Bs} (h : SetAt w g f) : g < w.heap.size := (Array.getElem?_eq_some_iff.1 h).1
theorem SetAt.eq {w : World} {g : Nat} {f h : Bs} (k : SetAt w g f) (e : ∀ i, i < 256 → f i = h i) : SetAt w g h := by unfold SetAt; rw [← bsA_eq e]; exact k
theorem SetAt.gr {w w' : World} {g : Nat} {f : Bs} (h : SetAt w g f) (x : Gr w w') : SetAt w' g f := (Below.block x g h.lt).trans h
theorem SetAt.gx {w w' : World} {g R : Nat} {f : Bs} (h : SetAt w g f) (x : GX R w w') (hn : g ≠ R) : SetAt w' g f := (x.block g h.lt hn).trans h
theorem SetAt.other {w : World} {g : Nat} {f : Bs} (h : SetAt w g f) {p : Addr} (hn : g ≠ p.block) (u : Value) : SetAt (w.setCell p u) g f := (heap_setCell_other w p g u hn).trans h
theorem SetAt.new (w : World) (f : Bs) : SetAt (w.alloc (.cells (bsA f) 73)) w.heap.size f := heap_alloc_new w _

def upB (a c : Nat) : Bs := fun i => Nat.ble a i && Nat.blt i c

set_option maxRecDepth 100000 in
set_option maxHeartbeats 1600000 in
theorem adds_any (g : Nat) (f : Bs) (a b : Nat) (w : World) (ha : a < 256) (hb : b < 256) (hg : SetAt w g f) :
    Calls Try.prog 47 #[.pointer (some ⟨g, 0, none⟩), .int .u8 a, .int .u8 b] w fun e w' => e = .returned (.tuple #[]) ∧ GX g w w' ∧ SetAt w' g (orB f (runB a b)) := by
  have h1 : (a : Int) < 256 := by omega
  have h2 : (b : Int) < 256 := by omega
  go_enter Try.func47, Try.ntmps47
  go_wp2
  go_loopw [6] (fun i wr => ∃ c : Nat, a ≤ c ∧ c ≤ max a (b + 1) ∧ i = .int .i64 c ∧ GX g w wr ∧ SetAt wr g (orB f (upB a c))) (fun i _ => (b + 1) - (intOf i).toNat)
  case atStart =>
    refine ⟨a, Nat.le_refl _, by omega, rfl, GX.refl _ _, hg.eq fun i _ => ?_⟩
    have : (Nat.ble a i && Nat.blt i a) = false := by rw [Bool.eq_false_iff]; intro h; simp at h; omega
    simp [orB, upB, this]
  case round =>
    obtain ⟨c, hac, hcb, rfl, hgx, hs⟩ := hrel
    by_cases hlt : c ≤ b
    · have hc := hs.cell (i := c) (by omega)
      have hf := hs.free c
      have h3 : (c : Int) < 256 := by omega
      have HS := hs.set c true
      have HG := GX.setCell hgx (p := ⟨g, c, none⟩) (.inl rfl) (.bool true)
      go_wp2
      go_roundw
      case rel =>
        refine ⟨c + 1, by omega, by omega, by go_num, HG, HS.eq fun i _ => ?_⟩
        unfold orB upB
        by_cases hi : i = c
        · subst hi; simp; omega
        · have : (i == c) = false := by simpa using hi
          simp only [this, cond_false]
          congr 1
          rw [Bool.eq_iff_iff]; simp; omega
      case measure => simp [intOf]; omega
    · have hgt : ¬ ((c : Int) ≤ b) := by omega
      go_wp2
      go_end0
      refine ⟨rfl, hgx, hs.eq fun i _ => ?_⟩
      unfold orB upB runB
      congr 1
      rw [Bool.eq_iff_iff]; simp; omega
theorem und_set : Try.prog.underlying 73 = some (.array 256 4) := by kernel_rfl
theorem size_set : (Try.prog.info? 73).map (·.size) = some 256 := (zero_of_info info_set).2
theorem bsA_one (f : Bs) : (bsA f).all (·.oneCell') = true := by
  rw [Array.all_eq_true_iff_forall_mem]
  intro v hv
  simp only [bsA, List.mem_toArray, List.mem_map] at hv
  obtain ⟨i, _, rfl⟩ := hv
  rfl
theorem size_bsA (f : Bs) : (Try.prog.info? 73).map (·.size) = some (bsA f).size := by rw [bsA_size]; exact size_set
theorem SetAt.row {w : World} {g : Nat} {f h : Bs} (k : SetAt w g h) : SetAt (w.setRow g (bsA f)) g f := setRow_heap w g (bsA h) (bsA f) _ _ k
theorem GX.setRow {R : Nat} {a w : World} (h : GX R a w) {g : Nat} (hp : g = R ∨ a.heap.size ≤ g) (cs : Array Value) : GX R a (w.setRow g cs) :=
  ⟨h.os, h.tape, h.output, by simpa using h.size, fun k hk hn => (setRow_other w g k cs (by omega)).trans (h.block k hk hn)⟩
theorem Gr.setRow {a w : World} (h : Gr a w) {g : Nat} (hp : a.heap.size ≤ g) (cs : Array Value) : Gr a (w.setRow g cs) :=
  ⟨h.os, h.tape, h.output, by simpa using h.size, fun k hk => (setRow_other w g k cs (by omega)).trans (Below.block h k hk)⟩

set_option maxRecDepth 100000 in
set_option maxHeartbeats 1600000 in
theorem not_any (f : Bs) (w : World) :
    Calls Try.prog 36 #[.agg (bsA f)] w fun e w' => e = .returned (.agg (bsA (notB f))) ∧ Gr w w' := by
  obtain ⟨hz, hsz⟩ := zero_of_info info_set
  have g0 : Gr w ((w.alloc (Obj.cells (bsA f) 73)).alloc (Obj.cells (bsA noB) 73)) := (by repeat (first | exact Gr.refl _ | refine Gr.alloc ?_ _ | refine Gr.drew ?_ | refine Gr.setCell ?_ (by first | (simp; done) | (simp; omega) | omega) _ | refine Gr.trans ?_ (by assumption)))
  have s0 : SetAt ((w.alloc (Obj.cells (bsA f) 73)).alloc (Obj.cells (bsA noB) 73)) w.heap.size f := (SetAt.new w f).gr (Gr.alloc (Gr.refl _) _)
  have s1 : SetAt ((w.alloc (Obj.cells (bsA f) 73)).alloc (Obj.cells (bsA noB) 73)) (w.heap.size + 1) noB := by
    have := SetAt.new (w.alloc (Obj.cells (bsA f) 73)) noB
    simpa using this
  go_enter Try.func36, Try.ntmps36
  go_wp2
  generalize ((w.alloc (Obj.cells (bsA f) 73)).alloc (Obj.cells (bsA noB) 73)) = w0 at g0 s0 s1 ⊢
  clear hz hsz
  go_loopw [4] (fun i wr => ∃ c : Nat, c ≤ 256 ∧ i = .int .i64 c ∧ Gr w wr ∧ SetAt wr w.heap.size (fun k => bif decide (k < c) then !f k else f k) ∧ SetAt wr (w.heap.size + 1) noB) (fun i _ => 256 - (intOf i).toNat)
  case atStart => exact ⟨0, by omega, rfl, g0, s0, s1⟩
  case round =>
    clear g0 s0 s1
    obtain ⟨c, hc, rfl, hgr, hs, ht⟩ := hrel
    by_cases hlt : c < 256
    · have h3 : (c : Int) < 256 := by omega
      have hcell := hs.cell hlt
      rw [show (bif decide (c < c) then !f c else f c) = f c by simp] at hcell
      have hf := hs.free c
      have HS := hs.set c (!f c)
      have HT := ht.other (p := ⟨w.heap.size, c, none⟩) (by simp) (.bool (!f c))
      have HG := Gr.setCell hgr (p := ⟨w.heap.size, c, none⟩) (Nat.le_refl _) (.bool (!f c))
      go_wp2
      go_roundw
      case rel =>
        refine ⟨c + 1, by omega, by go_num, HG, HS.eq fun i _ => ?_, HT⟩
        by_cases hi : i = c
        · subst hi; simp
        · have e1 : (i == c) = false := by simpa using hi
          have e2 : decide (i < c + 1) = decide (i < c) := by rw [decide_eq_decide]; omega
          simp only [e1, cond_false, e2]
      case measure => simp [intOf]; omega
    · have hc' : c = 256 := by omega
      subst hc'
      have hs' : SetAt wr w.heap.size (notB f) := hs.eq fun i hi => by simp [notB, hi]
      clear hs
      go_wp2_with (first
        | (refine wpList_load_row rfl 73 (.tmp 1) rfl w.heap.size rfl _ (bsA (notB f)) (0, 0) _ hs' und_set rfl (size_bsA _) ?_)
        | (refine wpList_store_row rfl 73 (.tmp 2) (.tmp 14) rfl (w.heap.size + 1) (bsA (notB f)) rfl rfl _ _ ht (size_bsA _) (by simp only [bsA_size]) (bsA_one _) ?_))
      refine bodyPost_ret (v := .agg (bsA (notB f))) (results_cell_row (p := 2) (by kernel_rfl) _ _ (w.heap.size + 1) _ _ (0, 0) _ rfl (SetAt.row ht) und_set rfl (size_bsA _)) rfl ⟨rfl, Gr.setRow hgr (by omega) _⟩

set_option maxRecDepth 100000 in
set_option maxHeartbeats 1600000 in
theorem with_any (f h : Bs) (w : World) :
    Calls Try.prog 48 #[.agg (bsA f), .agg (bsA h)] w fun e w' => e = .returned (.agg (bsA (orB f h))) ∧ Gr w w' := by
  obtain ⟨hz, hsz⟩ := zero_of_info info_set
  have g0 : Gr w (((w.alloc (Obj.cells (bsA f) 73)).alloc (Obj.cells (bsA h) 73)).alloc (Obj.cells (bsA noB) 73)) := (by repeat (first | exact Gr.refl _ | refine Gr.alloc ?_ _ | refine Gr.drew ?_ | refine Gr.setCell ?_ (by first | (simp; done) | (simp; omega) | omega) _ | refine Gr.trans ?_ (by assumption)))
  have s0 : SetAt (((w.alloc (Obj.cells (bsA f) 73)).alloc (Obj.cells (bsA h) 73)).alloc (Obj.cells (bsA noB) 73)) w.heap.size f := (SetAt.new w f).gr (Gr.alloc (Gr.alloc (Gr.refl _) _) _)
  have s2 : SetAt (((w.alloc (Obj.cells (bsA f) 73)).alloc (Obj.cells (bsA h) 73)).alloc (Obj.cells (bsA noB) 73)) (w.heap.size + 1) h := by
    have := (SetAt.new (w.alloc (Obj.cells (bsA f) 73)) h).gr (Gr.alloc (Gr.refl _) (Obj.cells (bsA noB) 73))
    simpa using this
  have s1 : SetAt (((w.alloc (Obj.cells (bsA f) 73)).alloc (Obj.cells (bsA h) 73)).alloc (Obj.cells (bsA noB) 73)) (w.heap.size + 1 + 1) noB := by
    have := SetAt.new ((w.alloc (Obj.cells (bsA f) 73)).alloc (Obj.cells (bsA h) 73)) noB
    simpa using this
  go_enter Try.func48, Try.ntmps48
  go_wp2
  generalize (((w.alloc (Obj.cells (bsA f) 73)).alloc (Obj.cells (bsA h) 73)).alloc (Obj.cells (bsA noB) 73)) = w0 at g0 s0 s1 s2 ⊢
  clear hz hsz
  go_loopw [6] (fun i wr => ∃ c : Nat, c ≤ 256 ∧ i = .int .i64 c ∧ Gr w wr ∧ SetAt wr w.heap.size (fun k => bif decide (k < c) then f k || h k else f k) ∧ SetAt wr (w.heap.size + 1) h ∧ SetAt wr (w.heap.size + 1 + 1) noB) (fun i _ => 256 - (intOf i).toNat)
  case atStart => exact ⟨0, by omega, rfl, g0, s0, s2, s1⟩
  case round =>
    clear g0 s0 s1 s2
    obtain ⟨c, hc, rfl, hgr, hs, hh, ht⟩ := hrel
    by_cases hlt : c < 256
    · have h3 : (c : Int) < 256 := by omega
      have hcell := hs.cell hlt
      rw [show (bif decide (c < c) then f c || h c else f c) = f c by simp] at hcell
      have hcell2 := hh.cell hlt
      have hf := hs.free c
      have HS := hs.set c (f c || h c)
      have HT := ht.other (p := ⟨w.heap.size, c, none⟩) (by simp; omega) (.bool (f c || h c))
      have HH := hh.other (p := ⟨w.heap.size, c, none⟩) (by simp) (.bool (f c || h c))
      have HG := Gr.setCell hgr (p := ⟨w.heap.size, c, none⟩) (Nat.le_refl _) (.bool (f c || h c))
      have HSX : ∀ i, i < 256 → (bif i == c then f c || h c else bif decide (i < c) then f i || h i else f i) = (bif decide (i < c + 1) then f i || h i else f i) := by
        intro i _
        by_cases hi : i = c
        · subst hi; simp
        · have e1 : (i == c) = false := by simpa using hi
          have e2 : decide (i < c + 1) = decide (i < c) := by rw [decide_eq_decide]; omega
          simp only [e1, cond_false, e2]
      have HS := HS.eq HSX
      clear HSX
      have HS := Lib.hid HS
      have HT := Lib.hid HT
      have HH := Lib.hid HH
      have HG := Lib.hid HG
      cases hb : f c
      all_goals
        simp only [hb, Bool.true_or, Bool.false_or] at hcell HS HT HH HG
        clear hb
        go_wp2
        go_roundw
        case rel => exact ⟨c + 1, by omega, by go_num, HG.out, HS.out, HH.out, HT.out⟩
        case measure => simp [intOf]; omega
    · have hc' : c = 256 := by omega
      subst hc'
      have hs' : SetAt wr w.heap.size (orB f h) := hs.eq fun i hi => by simp [orB, hi]
      clear hs
      go_wp2_with (first
        | (refine wpList_load_row rfl 73 (.tmp 2) rfl w.heap.size rfl _ (bsA (orB f h)) (0, 0) _ hs' und_set rfl (size_bsA _) ?_)
        | (refine wpList_store_row rfl 73 (.tmp 4) (.tmp 20) rfl (w.heap.size + 1 + 1) (bsA (orB f h)) rfl rfl _ _ ht (size_bsA _) (by simp only [bsA_size]) (bsA_one _) ?_))
      refine bodyPost_ret (v := .agg (bsA (orB f h))) (results_cell_row (p := 4) (by kernel_rfl) _ _ (w.heap.size + 1 + 1) _ _ (0, 0) _ rfl (SetAt.row ht) und_set rfl (size_bsA _)) rfl ⟨rfl, Gr.setRow hgr (by omega) _⟩

set_option maxRecDepth 100000 in
set_option maxHeartbeats 1600000 in
theorem one_any (c : Nat) (w : World) (hc : c < 256) :
    Calls Try.prog 35 #[.int .u8 c] w fun e w' => e = .returned (.agg (bsA (oneB c))) ∧ Gr w w' := by
  obtain ⟨hz, hsz⟩ := zero_of_info info_set
  have h3 : (c : Int) < 256 := by omega
  have g0 : Gr w ((w.alloc (Obj.cells (bsA noB) 73)).alloc (Obj.cells (bsA noB) 73)) := (by repeat (first | exact Gr.refl _ | refine Gr.alloc ?_ _ | refine Gr.drew ?_ | refine Gr.setCell ?_ (by first | (simp; done) | (simp; omega) | omega) _ | refine Gr.trans ?_ (by assumption)))
  have s0 : SetAt ((w.alloc (Obj.cells (bsA noB) 73)).alloc (Obj.cells (bsA noB) 73)) w.heap.size noB := (SetAt.new w noB).gr (Gr.alloc (Gr.refl _) _)
  have s1 : SetAt ((w.alloc (Obj.cells (bsA noB) 73)).alloc (Obj.cells (bsA noB) 73)) (w.heap.size + 1) noB := by
    have := SetAt.new (w.alloc (Obj.cells (bsA noB) 73)) noB
    simpa using this
  go_enter Try.func35, Try.ntmps35
  go_upto_region 2 with (fail)
  generalize ((w.alloc (Obj.cells (bsA noB) 73)).alloc (Obj.cells (bsA noB) 73)) = w0 at g0 s0 s1 ⊢
  clear hz hsz
  have hcell := s1.cell hc
  have hf := s1.free c
  have S1 := (s1.set c true).eq (h := oneB c) (fun i _ => by unfold oneB noB; cases i == c <;> rfl)
  have S0 := s0.other (p := ⟨w.heap.size + 1, c, none⟩) (by simp) (.bool true)
  have G0 := Gr.setCell g0 (p := ⟨w.heap.size + 1, c, none⟩) (by simp) (.bool true)
  go_wp2_with (first
        | (refine wpList_load_row rfl 73 (.tmp 3) rfl (w.heap.size + 1) rfl _ (bsA (oneB c)) (0, 0) _ S1 und_set rfl (size_bsA _) ?_)
        | (refine wpList_store_row rfl 73 (.tmp 2) (.tmp 6) rfl (w.heap.size) (bsA (oneB c)) rfl rfl _ _ S0 (size_bsA _) (by simp only [bsA_size]) (bsA_one _) ?_))
  refine bodyPost_ret (v := .agg (bsA (oneB c))) (results_cell_row (p := 2) (by kernel_rfl) _ _ (w.heap.size) _ _ (0, 0) _ rfl (SetAt.row S0) und_set rfl (size_bsA _)) rfl ⟨rfl, Gr.setRow G0 (Nat.le_refl _) _⟩

end Go.Proofs.Ytpcmdijgepbilaa
