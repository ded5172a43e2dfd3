/- The reference's pairs; its six put together. -/
import Derived.Test.YtpcmdijgepbilaaRfSet
namespace Go.Proofs.Ytpcmdijgepbilaa
set_option linter.unusedVariables false
set_option linter.unusedSimpArgs false
open Go.RowKit

theorem SetQ.grown {w w' : World} {g : Nat} {f : Bs} {row : Option Nat} (h : SetQ w g f) (x : w.grownBy w' row) (hn : some g ≠ row) : SetQ w' g f := (x.block g h.lt hn).trans h
set_option maxRecDepth 100000 in
set_option maxHeartbeats 3200000 in
theorem rpairs_any (f : Bs) (w : World) :
    Calls Try.prog 43 #[.agg (bsA f)] w fun e w' => e = .returned (.string ⟨(pairsS f).toArray⟩) ∧ Gr w w' := by
  obtain ⟨i0, hi, hz0, hz1, hz2⟩ := info_parts info_u8
  have g0 : Gr w (w.alloc (Obj.cells (bsA f) 72)) := (by repeat (first | exact Gr.refl _ | refine Gr.alloc ?_ _ | refine Gr.drew ?_ | refine Gr.setCell ?_ (by first | (simp; done) | (simp; omega) | omega) _ | refine Gr.trans ?_ (by assumption)))
  have s0 : SetQ (w.alloc (Obj.cells (bsA f) 72)) w.heap.size f := SetQ.new w f
  go_enter Try.func43, Try.ntmps43
  go_wp2
  generalize (w.alloc (Obj.cells (bsA f) 72)) = w0 at g0 s0 ⊢
  go_loopw [3, 4] (fun v i wr => ∃ k : Nat, k ≤ 256 ∧ i = .int .i64 k ∧ Gr w wr ∧ SetQ wr w.heap.size f ∧ wr.ownsRow (w.heap.size + 1) 5 1 v (pairsT f k).length (bcells (pairsT f k))) (fun _ i _ => 256 - (intOf i).toNat)
  case atStart => exact ⟨0, by omega, rfl, g0, s0, World.ownsRow_nil _ _ _ _⟩
  case round =>
    clear g0 s0
    obtain ⟨k, hk, rfl, hgr, hs, hown⟩ := hrel
    have hle := pairsT_len f k
    by_cases hlt : k < 256
    · have hcell := hs.cell hlt
      have h3 : (k : Int) < 256 := by omega
      cases hb : f k
      case false =>
        rw [hb] at hcell
        have HN := Lib.hid (pairsT_no hb)
        clear hb
        go_wp2
        go_roundw
        case rel => exact ⟨k + 1, by omega, by go_num, hgr, hs, by rw [HN.out]; exact hown⟩
        case measure => simp [intOf]; omega
      rw [hb] at hcell
      have HP := fun s e => pairsT_in (s := s) (e := e) hb
      have hB := Lib.hid hb
      clear hb
      by_cases hK0 : k = 0
      · by_cases hK2 : k = 255
        · omega
        cases hN : f (k + 1)
        · have hk0 : ((k : Int) == 0) = true := beq_iff_eq.2 (by omega)
          have hk2 : ((k : Int) == 255) = false := beq_eq_false_iff_ne.2 (by omega)
          have hk3 : (k : Int) ≤ 254 := by omega
          have hcn := hs.cell (i := k + 1) (by omega)
          rw [hN] at hcn
          have HPN := Lib.hid (HP true true (by simp [hK0]) (by simp [hN, hK2]))
          clear HP hK0 hK2 
          have HN := Lib.hid hN
          clear hN
          have hm1 := Lib.hid (show (pairsT f k).length + 1 ≤ maxLen by unfold maxLen; omega)
          have hm2 := Lib.hid (show (pairsT f k).length + 1 + 1 ≤ maxLen by unfold maxLen; omega)
          have hn1 := Lib.hid (show ((pairsT f k).length + 1) * 1 ≤ 140737488355328 by omega)
          have hn2 := Lib.hid (show ((pairsT f k).length + 1 + 1) * 1 ≤ 140737488355328 by omega)
          have hb1 := Lib.hid (show w.heap.size + 1 ≤ wr.heap.size from hs.lt)
          go_wp2_with (first
            | (at_builtin
               refine wpList_append_rd rfl (.tmp 23) (.tmp 26) 39 rfl (w.heap.size + 1) 5 i0 _ 1 1 und_bytes hi hz0 hz1 hz2 rfl (by decide) _ _ _ rfl (hown.alloc _) (some ⟨wr.heap.size, 0, none⟩) 1 _ [.int .u8 k] rfl (Rd.byte rfl 5 _) (one1 _) hm1.out hn1.out (Nat.le_trans hb1.out (Nat.le_of_lt (by simp))) ?_
               intro v1 w1 hown1 hgr1 hat1
               have hl1 := hown.lt
               have gg1 : Gr w w1 := Gr.grown (Gr.alloc hgr _) hgr1 (fun j hj => by have := (hl1 j hj).1; omega)
               have ss1 : SetQ w1 w.heap.size f := (hs.gr (Gr.alloc (Gr.refl _) _)).grown hgr1 (fun e => by have := (hl1 _ e.symm).1; omega)
               have hb2 := Lib.hid (Nat.le_trans hb1.out (Nat.le_trans (Nat.le_of_lt (by simp)) hgr1.size))
               have hcell1 := ss1.cell hlt
               rw [hB.out] at hcell1
               have hcn1 := ss1.cell (i := k + 1) (by omega)
               rw [HN.out] at hcn1
               clear hgr1 hat1 hl1 hown hs hgr)
            | (at_builtin
               refine wpList_append_rd rfl (.tmp 42) (.tmp 45) 39 rfl (w.heap.size + 1) 5 i0 _ 1 1 und_bytes hi hz0 hz1 hz2 rfl (by decide) _ _ _ rfl (hown1.alloc _) (some ⟨w1.heap.size, 0, none⟩) 1 _ [.int .u8 k] rfl (Rd.byte rfl 5 _) (one1 _) hm2.out hn2.out (Nat.le_trans hb2.out (Nat.le_of_lt (by simp))) ?_
               intro v2 w2 hown2 hgr2 hat2
               have hl2 := hown1.lt
               have gg2 : Gr w w2 := Gr.grown (Gr.alloc gg1 _) hgr2 (fun j hj => by have := (hl2 j hj).1; omega)
               have ss2 : SetQ w2 w.heap.size f := (ss1.gr (Gr.alloc (Gr.refl _) _)).grown hgr2 (fun e => by have := (hl2 _ e.symm).1; omega)
               have hb3 := Lib.hid (Nat.le_trans hb2.out (Nat.le_trans (Nat.le_of_lt (by simp)) hgr2.size))
               have hcell2 := ss2.cell hlt
               rw [hB.out] at hcell2
               clear hgr2 hat2 hl2 hown1 ss1 gg1))
          go_roundw
          case rel => exact ⟨k + 1, by omega, by go_num, gg2, ss2, by rw [HPN.out]; simpa only [cond_true, cond_false, List.length_append, List.length_cons, List.length_nil, List.append_nil, List.nil_append, bcells_append, byteCell hlt, List.append_assoc, Nat.zero_add, Nat.add_zero, Nat.add_assoc] using hown2⟩
          case measure => simp [intOf]; omega
        · have hk0 : ((k : Int) == 0) = true := beq_iff_eq.2 (by omega)
          have hk2 : ((k : Int) == 255) = false := beq_eq_false_iff_ne.2 (by omega)
          have hk3 : (k : Int) ≤ 254 := by omega
          have hcn := hs.cell (i := k + 1) (by omega)
          rw [hN] at hcn
          have HPN := Lib.hid (HP true false (by simp [hK0]) (by simp [hN, hK2]))
          clear HP hK0 hK2 
          have HN := Lib.hid hN
          clear hN
          have hm1 := Lib.hid (show (pairsT f k).length + 1 ≤ maxLen by unfold maxLen; omega)
          have hm2 := Lib.hid (show (pairsT f k).length + 1 + 1 ≤ maxLen by unfold maxLen; omega)
          have hn1 := Lib.hid (show ((pairsT f k).length + 1) * 1 ≤ 140737488355328 by omega)
          have hn2 := Lib.hid (show ((pairsT f k).length + 1 + 1) * 1 ≤ 140737488355328 by omega)
          have hb1 := Lib.hid (show w.heap.size + 1 ≤ wr.heap.size from hs.lt)
          go_wp2_with (first
            | (at_builtin
               refine wpList_append_rd rfl (.tmp 23) (.tmp 26) 39 rfl (w.heap.size + 1) 5 i0 _ 1 1 und_bytes hi hz0 hz1 hz2 rfl (by decide) _ _ _ rfl (hown.alloc _) (some ⟨wr.heap.size, 0, none⟩) 1 _ [.int .u8 k] rfl (Rd.byte rfl 5 _) (one1 _) hm1.out hn1.out (Nat.le_trans hb1.out (Nat.le_of_lt (by simp))) ?_
               intro v1 w1 hown1 hgr1 hat1
               have hl1 := hown.lt
               have gg1 : Gr w w1 := Gr.grown (Gr.alloc hgr _) hgr1 (fun j hj => by have := (hl1 j hj).1; omega)
               have ss1 : SetQ w1 w.heap.size f := (hs.gr (Gr.alloc (Gr.refl _) _)).grown hgr1 (fun e => by have := (hl1 _ e.symm).1; omega)
               have hb2 := Lib.hid (Nat.le_trans hb1.out (Nat.le_trans (Nat.le_of_lt (by simp)) hgr1.size))
               have hcell1 := ss1.cell hlt
               rw [hB.out] at hcell1
               have hcn1 := ss1.cell (i := k + 1) (by omega)
               rw [HN.out] at hcn1
               clear hgr1 hat1 hl1 hown hs hgr))
          go_roundw
          case rel => exact ⟨k + 1, by omega, by go_num, gg1, ss1, by rw [HPN.out]; simpa only [cond_true, cond_false, List.length_append, List.length_cons, List.length_nil, List.append_nil, List.nil_append, bcells_append, byteCell hlt, List.append_assoc, Nat.zero_add, Nat.add_zero, Nat.add_assoc] using hown1⟩
          case measure => simp [intOf]; omega
      cases hP : f (k - 1)
      · by_cases hK2 : k = 255
        · have hk0 : ((k : Int) == 0) = false := beq_eq_false_iff_ne.2 (by omega)
          have hk1 : 1 ≤ (k : Int) := by omega
          have hcp := hs.cell (i := k - 1) (by omega)
          rw [hP] at hcp
          have hk2 : ((k : Int) == 255) = true := beq_iff_eq.2 (by omega)
          have HPN := Lib.hid (HP true true (by simp [hP, hK0]) (by simp [hK2]))
          clear HP hK0 hK2 hP 
          have hm1 := Lib.hid (show (pairsT f k).length + 1 ≤ maxLen by unfold maxLen; omega)
          have hm2 := Lib.hid (show (pairsT f k).length + 1 + 1 ≤ maxLen by unfold maxLen; omega)
          have hn1 := Lib.hid (show ((pairsT f k).length + 1) * 1 ≤ 140737488355328 by omega)
          have hn2 := Lib.hid (show ((pairsT f k).length + 1 + 1) * 1 ≤ 140737488355328 by omega)
          have hb1 := Lib.hid (show w.heap.size + 1 ≤ wr.heap.size from hs.lt)
          go_wp2_with (first
            | (at_builtin
               refine wpList_append_rd rfl (.tmp 23) (.tmp 26) 39 rfl (w.heap.size + 1) 5 i0 _ 1 1 und_bytes hi hz0 hz1 hz2 rfl (by decide) _ _ _ rfl (hown.alloc _) (some ⟨wr.heap.size, 0, none⟩) 1 _ [.int .u8 k] rfl (Rd.byte rfl 5 _) (one1 _) hm1.out hn1.out (Nat.le_trans hb1.out (Nat.le_of_lt (by simp))) ?_
               intro v1 w1 hown1 hgr1 hat1
               have hl1 := hown.lt
               have gg1 : Gr w w1 := Gr.grown (Gr.alloc hgr _) hgr1 (fun j hj => by have := (hl1 j hj).1; omega)
               have ss1 : SetQ w1 w.heap.size f := (hs.gr (Gr.alloc (Gr.refl _) _)).grown hgr1 (fun e => by have := (hl1 _ e.symm).1; omega)
               have hb2 := Lib.hid (Nat.le_trans hb1.out (Nat.le_trans (Nat.le_of_lt (by simp)) hgr1.size))
               have hcell1 := ss1.cell hlt
               rw [hB.out] at hcell1
               clear hgr1 hat1 hl1 hown hs hgr)
            | (at_builtin
               refine wpList_append_rd rfl (.tmp 42) (.tmp 45) 39 rfl (w.heap.size + 1) 5 i0 _ 1 1 und_bytes hi hz0 hz1 hz2 rfl (by decide) _ _ _ rfl (hown1.alloc _) (some ⟨w1.heap.size, 0, none⟩) 1 _ [.int .u8 k] rfl (Rd.byte rfl 5 _) (one1 _) hm2.out hn2.out (Nat.le_trans hb2.out (Nat.le_of_lt (by simp))) ?_
               intro v2 w2 hown2 hgr2 hat2
               have hl2 := hown1.lt
               have gg2 : Gr w w2 := Gr.grown (Gr.alloc gg1 _) hgr2 (fun j hj => by have := (hl2 j hj).1; omega)
               have ss2 : SetQ w2 w.heap.size f := (ss1.gr (Gr.alloc (Gr.refl _) _)).grown hgr2 (fun e => by have := (hl2 _ e.symm).1; omega)
               have hb3 := Lib.hid (Nat.le_trans hb2.out (Nat.le_trans (Nat.le_of_lt (by simp)) hgr2.size))
               have hcell2 := ss2.cell hlt
               rw [hB.out] at hcell2
               clear hgr2 hat2 hl2 hown1 ss1 gg1))
          go_roundw
          case rel => exact ⟨k + 1, by omega, by go_num, gg2, ss2, by rw [HPN.out]; simpa only [cond_true, cond_false, List.length_append, List.length_cons, List.length_nil, List.append_nil, List.nil_append, bcells_append, byteCell hlt, List.append_assoc, Nat.zero_add, Nat.add_zero, Nat.add_assoc] using hown2⟩
          case measure => simp [intOf]; omega
        cases hN : f (k + 1)
        · have hk0 : ((k : Int) == 0) = false := beq_eq_false_iff_ne.2 (by omega)
          have hk1 : 1 ≤ (k : Int) := by omega
          have hcp := hs.cell (i := k - 1) (by omega)
          rw [hP] at hcp
          have hk2 : ((k : Int) == 255) = false := beq_eq_false_iff_ne.2 (by omega)
          have hk3 : (k : Int) ≤ 254 := by omega
          have hcn := hs.cell (i := k + 1) (by omega)
          rw [hN] at hcn
          have HPN := Lib.hid (HP true true (by simp [hP, hK0]) (by simp [hN, hK2]))
          clear HP hK0 hK2 hP 
          have HN := Lib.hid hN
          clear hN
          have hm1 := Lib.hid (show (pairsT f k).length + 1 ≤ maxLen by unfold maxLen; omega)
          have hm2 := Lib.hid (show (pairsT f k).length + 1 + 1 ≤ maxLen by unfold maxLen; omega)
          have hn1 := Lib.hid (show ((pairsT f k).length + 1) * 1 ≤ 140737488355328 by omega)
          have hn2 := Lib.hid (show ((pairsT f k).length + 1 + 1) * 1 ≤ 140737488355328 by omega)
          have hb1 := Lib.hid (show w.heap.size + 1 ≤ wr.heap.size from hs.lt)
          go_wp2_with (first
            | (at_builtin
               refine wpList_append_rd rfl (.tmp 23) (.tmp 26) 39 rfl (w.heap.size + 1) 5 i0 _ 1 1 und_bytes hi hz0 hz1 hz2 rfl (by decide) _ _ _ rfl (hown.alloc _) (some ⟨wr.heap.size, 0, none⟩) 1 _ [.int .u8 k] rfl (Rd.byte rfl 5 _) (one1 _) hm1.out hn1.out (Nat.le_trans hb1.out (Nat.le_of_lt (by simp))) ?_
               intro v1 w1 hown1 hgr1 hat1
               have hl1 := hown.lt
               have gg1 : Gr w w1 := Gr.grown (Gr.alloc hgr _) hgr1 (fun j hj => by have := (hl1 j hj).1; omega)
               have ss1 : SetQ w1 w.heap.size f := (hs.gr (Gr.alloc (Gr.refl _) _)).grown hgr1 (fun e => by have := (hl1 _ e.symm).1; omega)
               have hb2 := Lib.hid (Nat.le_trans hb1.out (Nat.le_trans (Nat.le_of_lt (by simp)) hgr1.size))
               have hcell1 := ss1.cell hlt
               rw [hB.out] at hcell1
               have hcn1 := ss1.cell (i := k + 1) (by omega)
               rw [HN.out] at hcn1
               clear hgr1 hat1 hl1 hown hs hgr)
            | (at_builtin
               refine wpList_append_rd rfl (.tmp 42) (.tmp 45) 39 rfl (w.heap.size + 1) 5 i0 _ 1 1 und_bytes hi hz0 hz1 hz2 rfl (by decide) _ _ _ rfl (hown1.alloc _) (some ⟨w1.heap.size, 0, none⟩) 1 _ [.int .u8 k] rfl (Rd.byte rfl 5 _) (one1 _) hm2.out hn2.out (Nat.le_trans hb2.out (Nat.le_of_lt (by simp))) ?_
               intro v2 w2 hown2 hgr2 hat2
               have hl2 := hown1.lt
               have gg2 : Gr w w2 := Gr.grown (Gr.alloc gg1 _) hgr2 (fun j hj => by have := (hl2 j hj).1; omega)
               have ss2 : SetQ w2 w.heap.size f := (ss1.gr (Gr.alloc (Gr.refl _) _)).grown hgr2 (fun e => by have := (hl2 _ e.symm).1; omega)
               have hb3 := Lib.hid (Nat.le_trans hb2.out (Nat.le_trans (Nat.le_of_lt (by simp)) hgr2.size))
               have hcell2 := ss2.cell hlt
               rw [hB.out] at hcell2
               clear hgr2 hat2 hl2 hown1 ss1 gg1))
          go_roundw
          case rel => exact ⟨k + 1, by omega, by go_num, gg2, ss2, by rw [HPN.out]; simpa only [cond_true, cond_false, List.length_append, List.length_cons, List.length_nil, List.append_nil, List.nil_append, bcells_append, byteCell hlt, List.append_assoc, Nat.zero_add, Nat.add_zero, Nat.add_assoc] using hown2⟩
          case measure => simp [intOf]; omega
        · have hk0 : ((k : Int) == 0) = false := beq_eq_false_iff_ne.2 (by omega)
          have hk1 : 1 ≤ (k : Int) := by omega
          have hcp := hs.cell (i := k - 1) (by omega)
          rw [hP] at hcp
          have hk2 : ((k : Int) == 255) = false := beq_eq_false_iff_ne.2 (by omega)
          have hk3 : (k : Int) ≤ 254 := by omega
          have hcn := hs.cell (i := k + 1) (by omega)
          rw [hN] at hcn
          have HPN := Lib.hid (HP true false (by simp [hP, hK0]) (by simp [hN, hK2]))
          clear HP hK0 hK2 hP 
          have HN := Lib.hid hN
          clear hN
          have hm1 := Lib.hid (show (pairsT f k).length + 1 ≤ maxLen by unfold maxLen; omega)
          have hm2 := Lib.hid (show (pairsT f k).length + 1 + 1 ≤ maxLen by unfold maxLen; omega)
          have hn1 := Lib.hid (show ((pairsT f k).length + 1) * 1 ≤ 140737488355328 by omega)
          have hn2 := Lib.hid (show ((pairsT f k).length + 1 + 1) * 1 ≤ 140737488355328 by omega)
          have hb1 := Lib.hid (show w.heap.size + 1 ≤ wr.heap.size from hs.lt)
          go_wp2_with (first
            | (at_builtin
               refine wpList_append_rd rfl (.tmp 23) (.tmp 26) 39 rfl (w.heap.size + 1) 5 i0 _ 1 1 und_bytes hi hz0 hz1 hz2 rfl (by decide) _ _ _ rfl (hown.alloc _) (some ⟨wr.heap.size, 0, none⟩) 1 _ [.int .u8 k] rfl (Rd.byte rfl 5 _) (one1 _) hm1.out hn1.out (Nat.le_trans hb1.out (Nat.le_of_lt (by simp))) ?_
               intro v1 w1 hown1 hgr1 hat1
               have hl1 := hown.lt
               have gg1 : Gr w w1 := Gr.grown (Gr.alloc hgr _) hgr1 (fun j hj => by have := (hl1 j hj).1; omega)
               have ss1 : SetQ w1 w.heap.size f := (hs.gr (Gr.alloc (Gr.refl _) _)).grown hgr1 (fun e => by have := (hl1 _ e.symm).1; omega)
               have hb2 := Lib.hid (Nat.le_trans hb1.out (Nat.le_trans (Nat.le_of_lt (by simp)) hgr1.size))
               have hcell1 := ss1.cell hlt
               rw [hB.out] at hcell1
               have hcn1 := ss1.cell (i := k + 1) (by omega)
               rw [HN.out] at hcn1
               clear hgr1 hat1 hl1 hown hs hgr))
          go_roundw
          case rel => exact ⟨k + 1, by omega, by go_num, gg1, ss1, by rw [HPN.out]; simpa only [cond_true, cond_false, List.length_append, List.length_cons, List.length_nil, List.append_nil, List.nil_append, bcells_append, byteCell hlt, List.append_assoc, Nat.zero_add, Nat.add_zero, Nat.add_assoc] using hown1⟩
          case measure => simp [intOf]; omega
      · by_cases hK2 : k = 255
        · have hk0 : ((k : Int) == 0) = false := beq_eq_false_iff_ne.2 (by omega)
          have hk1 : 1 ≤ (k : Int) := by omega
          have hcp := hs.cell (i := k - 1) (by omega)
          rw [hP] at hcp
          have hk2 : ((k : Int) == 255) = true := beq_iff_eq.2 (by omega)
          have HPN := Lib.hid (HP false true (by simp [hP, hK0]) (by simp [hK2]))
          clear HP hK0 hK2 hP 
          have hm1 := Lib.hid (show (pairsT f k).length + 1 ≤ maxLen by unfold maxLen; omega)
          have hm2 := Lib.hid (show (pairsT f k).length + 1 + 1 ≤ maxLen by unfold maxLen; omega)
          have hn1 := Lib.hid (show ((pairsT f k).length + 1) * 1 ≤ 140737488355328 by omega)
          have hn2 := Lib.hid (show ((pairsT f k).length + 1 + 1) * 1 ≤ 140737488355328 by omega)
          have hb1 := Lib.hid (show w.heap.size + 1 ≤ wr.heap.size from hs.lt)
          have hb2 := hb1
          have hm2 := hm1
          have hn2 := hn1
          go_wp2_with (first
            | (at_builtin
               refine wpList_append_rd rfl (.tmp 42) (.tmp 45) 39 rfl (w.heap.size + 1) 5 i0 _ 1 1 und_bytes hi hz0 hz1 hz2 rfl (by decide) _ _ _ rfl (hown.alloc _) (some ⟨wr.heap.size, 0, none⟩) 1 _ [.int .u8 k] rfl (Rd.byte rfl 5 _) (one1 _) hm2.out hn2.out (Nat.le_trans hb2.out (Nat.le_of_lt (by simp))) ?_
               intro v2 w2 hown2 hgr2 hat2
               have hl2 := hown.lt
               have gg2 : Gr w w2 := Gr.grown (Gr.alloc hgr _) hgr2 (fun j hj => by have := (hl2 j hj).1; omega)
               have ss2 : SetQ w2 w.heap.size f := (hs.gr (Gr.alloc (Gr.refl _) _)).grown hgr2 (fun e => by have := (hl2 _ e.symm).1; omega)
               have hb3 := Lib.hid (Nat.le_trans hb2.out (Nat.le_trans (Nat.le_of_lt (by simp)) hgr2.size))
               have hcell2 := ss2.cell hlt
               rw [hB.out] at hcell2
               clear hgr2 hat2 hl2 hown hs hgr))
          go_roundw
          case rel => exact ⟨k + 1, by omega, by go_num, gg2, ss2, by rw [HPN.out]; simpa only [cond_true, cond_false, List.length_append, List.length_cons, List.length_nil, List.append_nil, List.nil_append, bcells_append, byteCell hlt, List.append_assoc, Nat.zero_add, Nat.add_zero, Nat.add_assoc] using hown2⟩
          case measure => simp [intOf]; omega
        cases hN : f (k + 1)
        · have hk0 : ((k : Int) == 0) = false := beq_eq_false_iff_ne.2 (by omega)
          have hk1 : 1 ≤ (k : Int) := by omega
          have hcp := hs.cell (i := k - 1) (by omega)
          rw [hP] at hcp
          have hk2 : ((k : Int) == 255) = false := beq_eq_false_iff_ne.2 (by omega)
          have hk3 : (k : Int) ≤ 254 := by omega
          have hcn := hs.cell (i := k + 1) (by omega)
          rw [hN] at hcn
          have HPN := Lib.hid (HP false true (by simp [hP, hK0]) (by simp [hN, hK2]))
          clear HP hK0 hK2 hP 
          have HN := Lib.hid hN
          clear hN
          have hm1 := Lib.hid (show (pairsT f k).length + 1 ≤ maxLen by unfold maxLen; omega)
          have hm2 := Lib.hid (show (pairsT f k).length + 1 + 1 ≤ maxLen by unfold maxLen; omega)
          have hn1 := Lib.hid (show ((pairsT f k).length + 1) * 1 ≤ 140737488355328 by omega)
          have hn2 := Lib.hid (show ((pairsT f k).length + 1 + 1) * 1 ≤ 140737488355328 by omega)
          have hb1 := Lib.hid (show w.heap.size + 1 ≤ wr.heap.size from hs.lt)
          have hb2 := hb1
          have hm2 := hm1
          have hn2 := hn1
          go_wp2_with (first
            | (at_builtin
               refine wpList_append_rd rfl (.tmp 42) (.tmp 45) 39 rfl (w.heap.size + 1) 5 i0 _ 1 1 und_bytes hi hz0 hz1 hz2 rfl (by decide) _ _ _ rfl (hown.alloc _) (some ⟨wr.heap.size, 0, none⟩) 1 _ [.int .u8 k] rfl (Rd.byte rfl 5 _) (one1 _) hm2.out hn2.out (Nat.le_trans hb2.out (Nat.le_of_lt (by simp))) ?_
               intro v2 w2 hown2 hgr2 hat2
               have hl2 := hown.lt
               have gg2 : Gr w w2 := Gr.grown (Gr.alloc hgr _) hgr2 (fun j hj => by have := (hl2 j hj).1; omega)
               have ss2 : SetQ w2 w.heap.size f := (hs.gr (Gr.alloc (Gr.refl _) _)).grown hgr2 (fun e => by have := (hl2 _ e.symm).1; omega)
               have hb3 := Lib.hid (Nat.le_trans hb2.out (Nat.le_trans (Nat.le_of_lt (by simp)) hgr2.size))
               have hcell2 := ss2.cell hlt
               rw [hB.out] at hcell2
               clear hgr2 hat2 hl2 hown hs hgr))
          go_roundw
          case rel => exact ⟨k + 1, by omega, by go_num, gg2, ss2, by rw [HPN.out]; simpa only [cond_true, cond_false, List.length_append, List.length_cons, List.length_nil, List.append_nil, List.nil_append, bcells_append, byteCell hlt, List.append_assoc, Nat.zero_add, Nat.add_zero, Nat.add_assoc] using hown2⟩
          case measure => simp [intOf]; omega
        · have hk0 : ((k : Int) == 0) = false := beq_eq_false_iff_ne.2 (by omega)
          have hk1 : 1 ≤ (k : Int) := by omega
          have hcp := hs.cell (i := k - 1) (by omega)
          rw [hP] at hcp
          have hk2 : ((k : Int) == 255) = false := beq_eq_false_iff_ne.2 (by omega)
          have hk3 : (k : Int) ≤ 254 := by omega
          have hcn := hs.cell (i := k + 1) (by omega)
          rw [hN] at hcn
          have HPN := Lib.hid (HP false false (by simp [hP, hK0]) (by simp [hN, hK2]))
          clear HP hK0 hK2 hP 
          have HN := Lib.hid hN
          clear hN
          go_wp2
          go_roundw
          case rel => exact ⟨k + 1, by omega, by go_num, hgr, hs, by rw [HPN.out]; simpa only [cond_true, cond_false, List.length_append, List.length_cons, List.length_nil, List.append_nil, List.nil_append, bcells_append, byteCell hlt, List.append_assoc, Nat.zero_add, Nat.add_zero, Nat.add_assoc] using hown⟩
          case measure => simp [intOf]; omega
    · have hk' : k = 256 := by omega
      subst hk'
      have hconv := conv_own und_bytes und_u8 und_str hown
      clear hown hle
      go_wp2
      go_ret
      exact ⟨rfl, hgr⟩

set_option maxRecDepth 100000 in
set_option maxHeartbeats 1600000 in
theorem six_none (c : Nat) (hc : c < 256) (hn : c ≠ 100 ∧ c ≠ 68 ∧ c ≠ 119 ∧ c ≠ 87 ∧ c ≠ 115 ∧ c ≠ 83) (w : World) : Calls Try.prog 57 #[.int .u8 c] w fun e w' => e = .returned (.tuple #[.agg (bsA noB), .bool false]) ∧ Gr w w' := by
  obtain ⟨hz, hsz⟩ := zero_of_info info_arr
  have q100 : ((c : Int) == 100) = false := beq_eq_false_iff_ne.2 (by omega)
  have q68 : ((c : Int) == 68) = false := beq_eq_false_iff_ne.2 (by omega)
  have q119 : ((c : Int) == 119) = false := beq_eq_false_iff_ne.2 (by omega)
  have q87 : ((c : Int) == 87) = false := beq_eq_false_iff_ne.2 (by omega)
  have q115 : ((c : Int) == 115) = false := beq_eq_false_iff_ne.2 (by omega)
  have q83 : ((c : Int) == 83) = false := beq_eq_false_iff_ne.2 (by omega)
  have g0 : Gr w ((w.alloc (Obj.cells (bsA noB) 72)).alloc (Obj.cells (bsA noB) 72)) := (by repeat (first | exact Gr.refl _ | refine Gr.alloc ?_ _ | refine Gr.drew ?_ | refine Gr.setCell ?_ (by first | (simp; done) | (simp; omega) | omega) _ | refine Gr.trans ?_ (by assumption)))
  have s0 : SetQ ((w.alloc (Obj.cells (bsA noB) 72)).alloc (Obj.cells (bsA noB) 72)) w.heap.size noB := (SetQ.new w noB).gr (Gr.alloc (Gr.refl _) _)
  have s1 : SetQ ((w.alloc (Obj.cells (bsA noB) 72)).alloc (Obj.cells (bsA noB) 72)) (w.heap.size + 1) noB := by
    have := SetQ.new (w.alloc (Obj.cells (bsA noB) 72)) noB
    simpa using this
  clear hn
  go_enter Try.func57, Try.ntmps57
  go_wp2
  generalize ((w.alloc (Obj.cells (bsA noB) 72)).alloc (Obj.cells (bsA noB) 72)) = w0 at g0 s0 s1 ⊢
  clear hz hsz
  go_loopw [5] (fun i wr => i = .int .i64 0 ∧ wr = w0) (fun i _ => 1)
  case atStart => exact ⟨rfl, rfl⟩
  case round =>
    obtain ⟨rfl, rfl⟩ := hrel
    go_wp2_with (first
      | (refine wpList_load_row rfl 72 (.tmp 4) rfl (w.heap.size + 1) rfl _ (bsA noB) (0, 0) _ s1 und_arr rfl (size_bsQ _) ?_)
      | (refine wpList_store_row rfl 72 (.tmp 2) (.tmp 15) rfl w.heap.size (bsA noB) rfl rfl _ _ s0 (size_bsQ _) (by simp only [bsA_size]) (bsA_one _) ?_))
    exact bodyPost_ret (v := .tuple #[.agg (bsA noB), .bool false]) (res_arr2 _ 2 3 (by kernel_rfl) _ _ w.heap.size _ _ rfl rfl (SetQ.row s0)) rfl ⟨rfl, Gr.setRow g0 (Nat.le_refl _) _⟩
theorem six_some (c : Nat) {f : Bs} (h : namedB c = some f) (w : World) : Calls Try.prog 57 #[.int .u8 c] w fun e w' => e = .returned (.tuple #[.agg (bsA f), .bool true]) ∧ Gr w w' := by
  by_cases h100 : c = 100
  · subst h100
    injection h with h
    subst h
    exact six_100 w
  by_cases h68 : c = 68
  · subst h68
    injection h with h
    subst h
    exact six_68 w
  by_cases h119 : c = 119
  · subst h119
    injection h with h
    subst h
    exact six_119 w
  by_cases h87 : c = 87
  · subst h87
    injection h with h
    subst h
    exact six_87 w
  by_cases h115 : c = 115
  · subst h115
    injection h with h
    subst h
    exact six_115 w
  by_cases h83 : c = 83
  · subst h83
    injection h with h
    subst h
    exact six_83 w
  unfold namedB at h
  rw [beq_eq_false_iff_ne.2 h100, beq_eq_false_iff_ne.2 h68, beq_eq_false_iff_ne.2 h119, beq_eq_false_iff_ne.2 h87, beq_eq_false_iff_ne.2 h115, beq_eq_false_iff_ne.2 h83] at h
  cases h
theorem named_no {c : Nat} (h : namedB c = none) : c ≠ 100 ∧ c ≠ 68 ∧ c ≠ 119 ∧ c ≠ 87 ∧ c ≠ 115 ∧ c ≠ 83 := by
  refine ⟨?_, ?_, ?_, ?_, ?_, ?_⟩ <;> (intro e; subst e; cases h)
theorem six_any (c : Nat) (hc : c < 256) (w : World) : Calls Try.prog 57 #[.int .u8 c] w fun e w' => e = .returned (.tuple #[.agg (bsA (nmB c)), .bool (isNamed c)]) ∧ Gr w w' := by
  cases h : namedB c with
  | none =>
    rw [show nmB c = noB by simp [nmB, h], show isNamed c = false by simp [isNamed, h]]
    exact six_none c hc (named_no h) w
  | some f =>
    rw [show nmB c = f by simp [nmB, h], show isNamed c = true by simp [isNamed, h]]
    exact six_some c h w
end Go.Proofs.Ytpcmdijgepbilaa
