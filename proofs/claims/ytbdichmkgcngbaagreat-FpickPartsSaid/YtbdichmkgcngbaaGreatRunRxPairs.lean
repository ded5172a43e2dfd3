/- The contracts of rex.isWord and of rex's set.pairs: the runs of a set of bytes as a string. · Contracts of rex.text's now, is, takes: the byte that is next. -/
import Derived.Test.YtbdichmkgcngbaaGreatRunRxSet
import Derived.Deep.QuietTactic
import Derived.BigQuiet
namespace Go.Proofs.YtbdichmkgcngbaaGreat
open Go.RowKit
set_option linter.unusedVariables false
set_option linter.unusedSimpArgs false

def bcells (l : List UInt8) : List Value := l.map fun b => .int .u8 (b.toNat : Int)
theorem bcells_append (l m : List UInt8) : bcells (l ++ m) = bcells l ++ bcells m := by simp [bcells]
theorem bcells_one (l : List UInt8) : ∀ u ∈ bcells l, u.oneCell' = true := by
 intro u hu
 simp only [bcells, List.mem_map] at hu
 obtain ⟨b, _, rfl⟩ := hu
 rfl
/-- 'string(b)' of a row of the call's own. -/
theorem conv_own {P : Program} {w : World} {src dst e : TypeId} {base : Nat} {v : Value} {l : List UInt8} (hs : P.underlying src = some (.slice e)) (he : P.underlying e = some (.int .u8)) (hd : P.underlying dst = some .string)
  (h : w.ownsRow base e 1 v l.length (bcells l)) : (convert src dst v).run P w = .ok (.string ⟨l.toArray⟩) w := by
 obtain ⟨_, ⟨rfl, h0⟩ | ⟨g, cap, cur, rfl, _⟩⟩ := id h
 ·
  have hl : l = [] := List.eq_nil_of_length_eq_zero h0
  subst hl
  rw [run_convert_bytes_string w src dst e none 0 0 hs he hd]
  simp [Conv.bytesToString]
  rfl
 ·
  exact run_convert_bytes_back w src dst e _ cap l hs he hd (fun j hj => h.cells (g := g) rfl j _ (by simp [bcells, hj]))
/-- a new array that holds one byte. -/
theorem Rd.byte {W : World} {B : Nat} (hB : B = W.heap.size) (T : TypeId) (u : Value) : Rd (W.alloc (.cells #[u] T)) 1 (some ⟨B, 0, none⟩) 1 [u] := by
 subst hB
 refine ⟨rfl, fun _ => ⟨_, rfl, by simp, fun j x hx => ?_⟩⟩
 have e : (⟨W.heap.size, 0, none⟩ : Addr).add j = ⟨W.heap.size, j, none⟩ := by
  unfold Addr.add; split
  ·
   rename_i h; subst h; rfl
  ·
   rw [Nat.zero_add]
 rw [e]
 exact (cell_of_row _ _ _ _ _ _ (heap_alloc_new W _)).trans (by simpa using hx)

theorem one1 {k : IntKind} (n : Int) : ∀ u ∈ [Value.int k n], u.oneCell' = true := by
 intro u hu
 rw [List.mem_singleton.1 hu]
 rfl
theorem und_bytes : Tryz.prog.underlying 188 = some (.slice 5) := by kernel_rfl
theorem und_u8 : Tryz.prog.underlying 5 = some (.int .u8) := by kernel_rfl
theorem und_str : Tryz.prog.underlying 9 = some .string := by kernel_rfl
theorem info_u8 : (Tryz.prog.info? 5).map (fun i => (i.zero, i.size, i.bytes)) = some (some (.int .u8 0), 1, 1) := by kernel_rfl

theorem pairsT_len (f : Bs) (k : Nat) : (pairsT f k).length ≤ 2 * k := by
 induction k with
 | zero => exact Nat.le_refl _
 | succ k ih =>
  unfold pairsT
  simp only [List.length_append]
  have a : ∀ b : Bool, (bif b then [UInt8.ofNat k] else []).length ≤ 1 := fun b => by cases b <;> simp
  have a1 := a (f k && (k == 0 || !f (k - 1)))
  have a2 := a (f k && (k == 255 || !f (k + 1)))
  omega
theorem pairsT_no {f : Bs} {k : Nat} (h : f k = false) : pairsT f (k + 1) = pairsT f k := by simp [pairsT, h]
theorem pairsT_in {f : Bs} {k : Nat} {s e : Bool} (h : f k = true) (hs : (k == 0 || !f (k - 1)) = s) (he : (k == 255 || !f (k + 1)) = e) :
  pairsT f (k + 1) = pairsT f k ++ ((bif s then [UInt8.ofNat k] else []) ++ (bif e then [UInt8.ofNat k] else [])) := by
 simp only [pairsT, h, hs, he, Bool.true_and]
theorem byteCell {k : Nat} (h : k < 256) : bcells [UInt8.ofNat k] = [.int .u8 k] := by
 have : (UInt8.ofNat k).toNat = k := by simp [Nat.mod_eq_of_lt h]
 simp [bcells, this]

set_option maxRecDepth 100000 in
set_option maxHeartbeats 1600000 in
theorem isWord_any (c : Nat) (w : World) (hc : c < 256) :
  Calls Tryz.prog 162 #[.int .u8 c] w fun e w' => e = .returned (.bool (isWordB c)) ∧ Gr w w' := by
 obtain ⟨hz, hsz⟩ := zero_of_info info_set
 have h3 : (c : Int) < 256 := by omega
 have Q := fun w => named_any 119 w (by decide)
 simp only [show nmB 119 = wordB from rfl, show isNamed 119 = true from rfl] at Q
 go_enter Tryz.func162, Tryz.ntmps162
 go_upto_region 2 with (first
  | (go_at_call 161; refine (Q _).mono ?_; rintro e w1 ⟨rfl, hg1⟩)
  | (refine wpList_store_row rfl 175 (.tmp 3) (.tmp 7) rfl w1.heap.size (bsA wordB) rfl rfl _ _ (SetAt.new w1 noB) (size_bsA _) (by simp only [bsA_size]) (bsA_one _) ?_))
 have S1 : SetAt ((w1.alloc (.cells (bsA noB) 175)).setRow w1.heap.size (bsA wordB)) w1.heap.size wordB := SetAt.row (SetAt.new w1 noB)
 have G1 : Gr w ((w1.alloc (.cells (bsA noB) 175)).setRow w1.heap.size (bsA wordB)) := Gr.setRow (Gr.alloc hg1 _) hg1.size _
 generalize ((w1.alloc (.cells (bsA noB) 175)).setRow w1.heap.size (bsA wordB)) = w2 at S1 G1 ⊢
 clear hz hsz Q hg1
 have hcell := S1.cell hc
 clear S1
 by_cases h95 : c = 95
 ·
  subst h95
  go_wp2
  go_ret
  exact ⟨rfl, G1⟩
 ·
  have hq : ((c : Int) != 95) = true := by simp [bne, beq_eq_false_iff_ne.2 (show (c : Int) ≠ 95 by omega)]
  have hr : isWordB c = wordB c := by simp [isWordB, beq_eq_false_iff_ne.2 h95]
  have HR := Lib.hid hr
  clear hr
  cases hb : wordB c
  all_goals
   rw [hb] at hcell HR
   clear hb
   go_wp2
   go_ret
   exact ⟨by rw [HR.out]; rfl, G1⟩

theorem und_bool : Tryz.prog.underlying 4 = some .bool := by kernel_rfl
theorem SetAt.grown {w w' : World} {g : Nat} {f : Bs} {row : Option Nat} (h : SetAt w g f) (x : w.grownBy w' row) (hn : some g ≠ row) : SetAt w' g f := (x.block g h.lt hn).trans h
set_option maxRecDepth 100000 in
set_option maxHeartbeats 3200000 in
theorem pairs_any (f : Bs) (w : World) :
  Calls Tryz.prog 145 #[.agg (bsA f)] w fun e w' => e = .returned (.string ⟨(pairsS f).toArray⟩) ∧ Gr w w' := by
 obtain ⟨i0, hi, hz0, hz1, hz2⟩ := info_parts info_u8
 have g0 : Gr w (w.alloc (Obj.cells (bsA f) 175)) := (by repeat (first | exact Gr.refl _ | refine Gr.alloc ?_ _ | refine Gr.drew ?_ | refine Gr.setCell ?_ (by first | (simp; done) | (simp; omega) | omega) _ | refine Gr.trans ?_ (by assumption)))
 have s0 : SetAt (w.alloc (Obj.cells (bsA f) 175)) w.heap.size f := SetAt.new w f
 go_enter Tryz.func145, Tryz.ntmps145
 go_wp2
 generalize (w.alloc (Obj.cells (bsA f) 175)) = w0 at g0 s0 ⊢
 go_loopw [3, 5] (fun v i wr => ∃ k : Nat, k ≤ 256 ∧ i = .int .i64 k ∧ Gr w wr ∧ SetAt wr w.heap.size f ∧ wr.ownsRow (w.heap.size + 1) 5 1 v (pairsT f k).length (bcells (pairsT f k))) (fun _ i _ => 256 - (intOf i).toNat)
 case atStart => exact ⟨0, by omega, rfl, g0, s0, World.ownsRow_nil _ _ _ _⟩
 case round =>
  clear g0 s0
  obtain ⟨k, hk, rfl, hgr, hs, hown⟩ := hrel
  have hle := pairsT_len f k
  by_cases hlt : k < 256
  ·
   have hcell := hs.cell hlt
   have h3 : (k : Int) < 256 := by omega
   cases hb : f k
   case false =>
    rw [hb] at hcell
    have HN := Lib.hid (pairsT_no hb)
    clear hb
    go_wp2
    go_roundw
    case rel => exact ⟨k + 1, by omega, by go_num, hgr, hs, by rw [HN.out]; exact hown⟩
    case measure => simp [intOf]; omega
   rw [hb] at hcell
   have HP := fun s e => pairsT_in (s := s) (e := e) hb
   have hB := Lib.hid hb
   clear hb
   by_cases hK0 : k = 0
   ·
    by_cases hK2 : k = 255
    ·
     omega
    cases hN : f (k + 1)
    ·
     have hk0 : ((k : Int) == 0) = true := beq_iff_eq.2 (by omega)
     have hk2 : ((k : Int) == 255) = false := beq_eq_false_iff_ne.2 (by omega)
     have hk3 : (k : Int) ≤ 254 := by omega
     have hcn := hs.cell (i := k + 1) (by omega)
     rw [hN] at hcn
     have HPN := Lib.hid (HP true true (by simp [hK0]) (by simp [hN, hK2]))
     clear HP hK0 hK2 
     have HN := Lib.hid hN
     clear hN
     have hm1 := Lib.hid (show (pairsT f k).length + 1 ≤ maxLen by unfold maxLen; omega)
     have hm2 := Lib.hid (show (pairsT f k).length + 1 + 1 ≤ maxLen by unfold maxLen; omega)
     have hn1 := Lib.hid (show ((pairsT f k).length + 1) * 1 ≤ 140737488355328 by omega)
     have hn2 := Lib.hid (show ((pairsT f k).length + 1 + 1) * 1 ≤ 140737488355328 by omega)
     have hb1 := Lib.hid (show w.heap.size + 1 ≤ wr.heap.size from hs.lt)
     go_wp2_with (first
      | (
        at_builtin
        refine wpList_append_rd rfl (.tmp 22) (.tmp 25) 188 rfl (w.heap.size + 1) 5 i0 _ 1 1 und_bytes hi hz0 hz1 hz2 rfl (by decide) _ _ _ rfl (hown.alloc _) (some ⟨wr.heap.size, 0, none⟩) 1 _ [.int .u8 k] rfl (Rd.byte rfl 5 _) (one1 _) hm1.out hn1.out (Nat.le_trans hb1.out (Nat.le_of_lt (by simp))) ?_
        intro v1 w1 hown1 hgr1 hat1
        have hl1 := hown.lt
        have gg1 : Gr w w1 := Gr.grown (Gr.alloc hgr _) hgr1 (fun j hj => by have := (hl1 j hj).1; omega)
        have ss1 : SetAt w1 w.heap.size f := (hs.gr (Gr.alloc (Gr.refl _) _)).grown hgr1 (fun e => by have := (hl1 _ e.symm).1; omega)
        have hb2 := Lib.hid (Nat.le_trans hb1.out (Nat.le_trans (Nat.le_of_lt (by simp)) hgr1.size))
        have hcell1 := ss1.cell hlt
        rw [hB.out] at hcell1
        have hcn1 := ss1.cell (i := k + 1) (by omega)
        rw [HN.out] at hcn1
        clear hgr1 hat1 hl1 hown hs hgr)
      | (
        at_builtin
        refine wpList_append_rd rfl (.tmp 41) (.tmp 44) 188 rfl (w.heap.size + 1) 5 i0 _ 1 1 und_bytes hi hz0 hz1 hz2 rfl (by decide) _ _ _ rfl (hown1.alloc _) (some ⟨w1.heap.size, 0, none⟩) 1 _ [.int .u8 k] rfl (Rd.byte rfl 5 _) (one1 _) hm2.out hn2.out (Nat.le_trans hb2.out (Nat.le_of_lt (by simp))) ?_
        intro v2 w2 hown2 hgr2 hat2
        have hl2 := hown1.lt
        have gg2 : Gr w w2 := Gr.grown (Gr.alloc gg1 _) hgr2 (fun j hj => by have := (hl2 j hj).1; omega)
        have ss2 : SetAt w2 w.heap.size f := (ss1.gr (Gr.alloc (Gr.refl _) _)).grown hgr2 (fun e => by have := (hl2 _ e.symm).1; omega)
        have hb3 := Lib.hid (Nat.le_trans hb2.out (Nat.le_trans (Nat.le_of_lt (by simp)) hgr2.size))
        have hcell2 := ss2.cell hlt
        rw [hB.out] at hcell2
        clear hgr2 hat2 hl2 hown1 ss1 gg1))
     go_roundw
     case rel => exact ⟨k + 1, by omega, by go_num, gg2, ss2, by rw [HPN.out]; simpa only [cond_true, cond_false, List.length_append, List.length_cons, List.length_nil, List.append_nil, List.nil_append, bcells_append, byteCell hlt, List.append_assoc, Nat.zero_add, Nat.add_zero, Nat.add_assoc] using hown2⟩
     case measure => simp [intOf]; omega
    ·
     have hk0 : ((k : Int) == 0) = true := beq_iff_eq.2 (by omega)
     have hk2 : ((k : Int) == 255) = false := beq_eq_false_iff_ne.2 (by omega)
     have hk3 : (k : Int) ≤ 254 := by omega
     have hcn := hs.cell (i := k + 1) (by omega)
     rw [hN] at hcn
     have HPN := Lib.hid (HP true false (by simp [hK0]) (by simp [hN, hK2]))
     clear HP hK0 hK2 
     have HN := Lib.hid hN
     clear hN
     have hm1 := Lib.hid (show (pairsT f k).length + 1 ≤ maxLen by unfold maxLen; omega)
     have hm2 := Lib.hid (show (pairsT f k).length + 1 + 1 ≤ maxLen by unfold maxLen; omega)
     have hn1 := Lib.hid (show ((pairsT f k).length + 1) * 1 ≤ 140737488355328 by omega)
     have hn2 := Lib.hid (show ((pairsT f k).length + 1 + 1) * 1 ≤ 140737488355328 by omega)
     have hb1 := Lib.hid (show w.heap.size + 1 ≤ wr.heap.size from hs.lt)
     go_wp2_with (first
      | (
        at_builtin
        refine wpList_append_rd rfl (.tmp 22) (.tmp 25) 188 rfl (w.heap.size + 1) 5 i0 _ 1 1 und_bytes hi hz0 hz1 hz2 rfl (by decide) _ _ _ rfl (hown.alloc _) (some ⟨wr.heap.size, 0, none⟩) 1 _ [.int .u8 k] rfl (Rd.byte rfl 5 _) (one1 _) hm1.out hn1.out (Nat.le_trans hb1.out (Nat.le_of_lt (by simp))) ?_
        intro v1 w1 hown1 hgr1 hat1
        have hl1 := hown.lt
        have gg1 : Gr w w1 := Gr.grown (Gr.alloc hgr _) hgr1 (fun j hj => by have := (hl1 j hj).1; omega)
        have ss1 : SetAt w1 w.heap.size f := (hs.gr (Gr.alloc (Gr.refl _) _)).grown hgr1 (fun e => by have := (hl1 _ e.symm).1; omega)
        have hb2 := Lib.hid (Nat.le_trans hb1.out (Nat.le_trans (Nat.le_of_lt (by simp)) hgr1.size))
        have hcell1 := ss1.cell hlt
        rw [hB.out] at hcell1
        have hcn1 := ss1.cell (i := k + 1) (by omega)
        rw [HN.out] at hcn1
        clear hgr1 hat1 hl1 hown hs hgr))
     go_roundw
     case rel => exact ⟨k + 1, by omega, by go_num, gg1, ss1, by rw [HPN.out]; simpa only [cond_true, cond_false, List.length_append, List.length_cons, List.length_nil, List.append_nil, List.nil_append, bcells_append, byteCell hlt, List.append_assoc, Nat.zero_add, Nat.add_zero, Nat.add_assoc] using hown1⟩
     case measure => simp [intOf]; omega
   cases hP : f (k - 1)
   ·
    by_cases hK2 : k = 255
    ·
     have hk0 : ((k : Int) == 0) = false := beq_eq_false_iff_ne.2 (by omega)
     have hk1 : 1 ≤ (k : Int) := by omega
     have hcp := hs.cell (i := k - 1) (by omega)
     rw [hP] at hcp
     have hk2 : ((k : Int) == 255) = true := beq_iff_eq.2 (by omega)
     have HPN := Lib.hid (HP true true (by simp [hP, hK0]) (by simp [hK2]))
     clear HP hK0 hK2 hP 
     have hm1 := Lib.hid (show (pairsT f k).length + 1 ≤ maxLen by unfold maxLen; omega)
     have hm2 := Lib.hid (show (pairsT f k).length + 1 + 1 ≤ maxLen by unfold maxLen; omega)
     have hn1 := Lib.hid (show ((pairsT f k).length + 1) * 1 ≤ 140737488355328 by omega)
     have hn2 := Lib.hid (show ((pairsT f k).length + 1 + 1) * 1 ≤ 140737488355328 by omega)
     have hb1 := Lib.hid (show w.heap.size + 1 ≤ wr.heap.size from hs.lt)
     go_wp2_with (first
      | (
        at_builtin
        refine wpList_append_rd rfl (.tmp 22) (.tmp 25) 188 rfl (w.heap.size + 1) 5 i0 _ 1 1 und_bytes hi hz0 hz1 hz2 rfl (by decide) _ _ _ rfl (hown.alloc _) (some ⟨wr.heap.size, 0, none⟩) 1 _ [.int .u8 k] rfl (Rd.byte rfl 5 _) (one1 _) hm1.out hn1.out (Nat.le_trans hb1.out (Nat.le_of_lt (by simp))) ?_
        intro v1 w1 hown1 hgr1 hat1
        have hl1 := hown.lt
        have gg1 : Gr w w1 := Gr.grown (Gr.alloc hgr _) hgr1 (fun j hj => by have := (hl1 j hj).1; omega)
        have ss1 : SetAt w1 w.heap.size f := (hs.gr (Gr.alloc (Gr.refl _) _)).grown hgr1 (fun e => by have := (hl1 _ e.symm).1; omega)
        have hb2 := Lib.hid (Nat.le_trans hb1.out (Nat.le_trans (Nat.le_of_lt (by simp)) hgr1.size))
        have hcell1 := ss1.cell hlt
        rw [hB.out] at hcell1
        clear hgr1 hat1 hl1 hown hs hgr)
      | (
        at_builtin
        refine wpList_append_rd rfl (.tmp 41) (.tmp 44) 188 rfl (w.heap.size + 1) 5 i0 _ 1 1 und_bytes hi hz0 hz1 hz2 rfl (by decide) _ _ _ rfl (hown1.alloc _) (some ⟨w1.heap.size, 0, none⟩) 1 _ [.int .u8 k] rfl (Rd.byte rfl 5 _) (one1 _) hm2.out hn2.out (Nat.le_trans hb2.out (Nat.le_of_lt (by simp))) ?_
        intro v2 w2 hown2 hgr2 hat2
        have hl2 := hown1.lt
        have gg2 : Gr w w2 := Gr.grown (Gr.alloc gg1 _) hgr2 (fun j hj => by have := (hl2 j hj).1; omega)
        have ss2 : SetAt w2 w.heap.size f := (ss1.gr (Gr.alloc (Gr.refl _) _)).grown hgr2 (fun e => by have := (hl2 _ e.symm).1; omega)
        have hb3 := Lib.hid (Nat.le_trans hb2.out (Nat.le_trans (Nat.le_of_lt (by simp)) hgr2.size))
        have hcell2 := ss2.cell hlt
        rw [hB.out] at hcell2
        clear hgr2 hat2 hl2 hown1 ss1 gg1))
     go_roundw
     case rel => exact ⟨k + 1, by omega, by go_num, gg2, ss2, by rw [HPN.out]; simpa only [cond_true, cond_false, List.length_append, List.length_cons, List.length_nil, List.append_nil, List.nil_append, bcells_append, byteCell hlt, List.append_assoc, Nat.zero_add, Nat.add_zero, Nat.add_assoc] using hown2⟩
     case measure => simp [intOf]; omega
    cases hN : f (k + 1)
    ·
     have hk0 : ((k : Int) == 0) = false := beq_eq_false_iff_ne.2 (by omega)
     have hk1 : 1 ≤ (k : Int) := by omega
     have hcp := hs.cell (i := k - 1) (by omega)
     rw [hP] at hcp
     have hk2 : ((k : Int) == 255) = false := beq_eq_false_iff_ne.2 (by omega)
     have hk3 : (k : Int) ≤ 254 := by omega
     have hcn := hs.cell (i := k + 1) (by omega)
     rw [hN] at hcn
     have HPN := Lib.hid (HP true true (by simp [hP, hK0]) (by simp [hN, hK2]))
     clear HP hK0 hK2 hP 
     have HN := Lib.hid hN
     clear hN
     have hm1 := Lib.hid (show (pairsT f k).length + 1 ≤ maxLen by unfold maxLen; omega)
     have hm2 := Lib.hid (show (pairsT f k).length + 1 + 1 ≤ maxLen by unfold maxLen; omega)
     have hn1 := Lib.hid (show ((pairsT f k).length + 1) * 1 ≤ 140737488355328 by omega)
     have hn2 := Lib.hid (show ((pairsT f k).length + 1 + 1) * 1 ≤ 140737488355328 by omega)
     have hb1 := Lib.hid (show w.heap.size + 1 ≤ wr.heap.size from hs.lt)
     go_wp2_with (first
      | (
        at_builtin
        refine wpList_append_rd rfl (.tmp 22) (.tmp 25) 188 rfl (w.heap.size + 1) 5 i0 _ 1 1 und_bytes hi hz0 hz1 hz2 rfl (by decide) _ _ _ rfl (hown.alloc _) (some ⟨wr.heap.size, 0, none⟩) 1 _ [.int .u8 k] rfl (Rd.byte rfl 5 _) (one1 _) hm1.out hn1.out (Nat.le_trans hb1.out (Nat.le_of_lt (by simp))) ?_
        intro v1 w1 hown1 hgr1 hat1
        have hl1 := hown.lt
        have gg1 : Gr w w1 := Gr.grown (Gr.alloc hgr _) hgr1 (fun j hj => by have := (hl1 j hj).1; omega)
        have ss1 : SetAt w1 w.heap.size f := (hs.gr (Gr.alloc (Gr.refl _) _)).grown hgr1 (fun e => by have := (hl1 _ e.symm).1; omega)
        have hb2 := Lib.hid (Nat.le_trans hb1.out (Nat.le_trans (Nat.le_of_lt (by simp)) hgr1.size))
        have hcell1 := ss1.cell hlt
        rw [hB.out] at hcell1
        have hcn1 := ss1.cell (i := k + 1) (by omega)
        rw [HN.out] at hcn1
        clear hgr1 hat1 hl1 hown hs hgr)
      | (
        at_builtin
        refine wpList_append_rd rfl (.tmp 41) (.tmp 44) 188 rfl (w.heap.size + 1) 5 i0 _ 1 1 und_bytes hi hz0 hz1 hz2 rfl (by decide) _ _ _ rfl (hown1.alloc _) (some ⟨w1.heap.size, 0, none⟩) 1 _ [.int .u8 k] rfl (Rd.byte rfl 5 _) (one1 _) hm2.out hn2.out (Nat.le_trans hb2.out (Nat.le_of_lt (by simp))) ?_
        intro v2 w2 hown2 hgr2 hat2
        have hl2 := hown1.lt
        have gg2 : Gr w w2 := Gr.grown (Gr.alloc gg1 _) hgr2 (fun j hj => by have := (hl2 j hj).1; omega)
        have ss2 : SetAt w2 w.heap.size f := (ss1.gr (Gr.alloc (Gr.refl _) _)).grown hgr2 (fun e => by have := (hl2 _ e.symm).1; omega)
        have hb3 := Lib.hid (Nat.le_trans hb2.out (Nat.le_trans (Nat.le_of_lt (by simp)) hgr2.size))
        have hcell2 := ss2.cell hlt
        rw [hB.out] at hcell2
        clear hgr2 hat2 hl2 hown1 ss1 gg1))
     go_roundw
     case rel => exact ⟨k + 1, by omega, by go_num, gg2, ss2, by rw [HPN.out]; simpa only [cond_true, cond_false, List.length_append, List.length_cons, List.length_nil, List.append_nil, List.nil_append, bcells_append, byteCell hlt, List.append_assoc, Nat.zero_add, Nat.add_zero, Nat.add_assoc] using hown2⟩
     case measure => simp [intOf]; omega
    ·
     have hk0 : ((k : Int) == 0) = false := beq_eq_false_iff_ne.2 (by omega)
     have hk1 : 1 ≤ (k : Int) := by omega
     have hcp := hs.cell (i := k - 1) (by omega)
     rw [hP] at hcp
     have hk2 : ((k : Int) == 255) = false := beq_eq_false_iff_ne.2 (by omega)
     have hk3 : (k : Int) ≤ 254 := by omega
     have hcn := hs.cell (i := k + 1) (by omega)
     rw [hN] at hcn
     have HPN := Lib.hid (HP true false (by simp [hP, hK0]) (by simp [hN, hK2]))
     clear HP hK0 hK2 hP 
     have HN := Lib.hid hN
     clear hN
     have hm1 := Lib.hid (show (pairsT f k).length + 1 ≤ maxLen by unfold maxLen; omega)
     have hm2 := Lib.hid (show (pairsT f k).length + 1 + 1 ≤ maxLen by unfold maxLen; omega)
     have hn1 := Lib.hid (show ((pairsT f k).length + 1) * 1 ≤ 140737488355328 by omega)
     have hn2 := Lib.hid (show ((pairsT f k).length + 1 + 1) * 1 ≤ 140737488355328 by omega)
     have hb1 := Lib.hid (show w.heap.size + 1 ≤ wr.heap.size from hs.lt)
     go_wp2_with (first
      | (
        at_builtin
        refine wpList_append_rd rfl (.tmp 22) (.tmp 25) 188 rfl (w.heap.size + 1) 5 i0 _ 1 1 und_bytes hi hz0 hz1 hz2 rfl (by decide) _ _ _ rfl (hown.alloc _) (some ⟨wr.heap.size, 0, none⟩) 1 _ [.int .u8 k] rfl (Rd.byte rfl 5 _) (one1 _) hm1.out hn1.out (Nat.le_trans hb1.out (Nat.le_of_lt (by simp))) ?_
        intro v1 w1 hown1 hgr1 hat1
        have hl1 := hown.lt
        have gg1 : Gr w w1 := Gr.grown (Gr.alloc hgr _) hgr1 (fun j hj => by have := (hl1 j hj).1; omega)
        have ss1 : SetAt w1 w.heap.size f := (hs.gr (Gr.alloc (Gr.refl _) _)).grown hgr1 (fun e => by have := (hl1 _ e.symm).1; omega)
        have hb2 := Lib.hid (Nat.le_trans hb1.out (Nat.le_trans (Nat.le_of_lt (by simp)) hgr1.size))
        have hcell1 := ss1.cell hlt
        rw [hB.out] at hcell1
        have hcn1 := ss1.cell (i := k + 1) (by omega)
        rw [HN.out] at hcn1
        clear hgr1 hat1 hl1 hown hs hgr))
     go_roundw
     case rel => exact ⟨k + 1, by omega, by go_num, gg1, ss1, by rw [HPN.out]; simpa only [cond_true, cond_false, List.length_append, List.length_cons, List.length_nil, List.append_nil, List.nil_append, bcells_append, byteCell hlt, List.append_assoc, Nat.zero_add, Nat.add_zero, Nat.add_assoc] using hown1⟩
     case measure => simp [intOf]; omega
   ·
    by_cases hK2 : k = 255
    ·
     have hk0 : ((k : Int) == 0) = false := beq_eq_false_iff_ne.2 (by omega)
     have hk1 : 1 ≤ (k : Int) := by omega
     have hcp := hs.cell (i := k - 1) (by omega)
     rw [hP] at hcp
     have hk2 : ((k : Int) == 255) = true := beq_iff_eq.2 (by omega)
     have HPN := Lib.hid (HP false true (by simp [hP, hK0]) (by simp [hK2]))
     clear HP hK0 hK2 hP 
     have hm1 := Lib.hid (show (pairsT f k).length + 1 ≤ maxLen by unfold maxLen; omega)
     have hm2 := Lib.hid (show (pairsT f k).length + 1 + 1 ≤ maxLen by unfold maxLen; omega)
     have hn1 := Lib.hid (show ((pairsT f k).length + 1) * 1 ≤ 140737488355328 by omega)
     have hn2 := Lib.hid (show ((pairsT f k).length + 1 + 1) * 1 ≤ 140737488355328 by omega)
     have hb1 := Lib.hid (show w.heap.size + 1 ≤ wr.heap.size from hs.lt)
     have hb2 := hb1
     have hm2 := hm1
     have hn2 := hn1
     go_wp2_with (first
      | (
        at_builtin
        refine wpList_append_rd rfl (.tmp 41) (.tmp 44) 188 rfl (w.heap.size + 1) 5 i0 _ 1 1 und_bytes hi hz0 hz1 hz2 rfl (by decide) _ _ _ rfl (hown.alloc _) (some ⟨wr.heap.size, 0, none⟩) 1 _ [.int .u8 k] rfl (Rd.byte rfl 5 _) (one1 _) hm2.out hn2.out (Nat.le_trans hb2.out (Nat.le_of_lt (by simp))) ?_
        intro v2 w2 hown2 hgr2 hat2
        have hl2 := hown.lt
        have gg2 : Gr w w2 := Gr.grown (Gr.alloc hgr _) hgr2 (fun j hj => by have := (hl2 j hj).1; omega)
        have ss2 : SetAt w2 w.heap.size f := (hs.gr (Gr.alloc (Gr.refl _) _)).grown hgr2 (fun e => by have := (hl2 _ e.symm).1; omega)
        have hb3 := Lib.hid (Nat.le_trans hb2.out (Nat.le_trans (Nat.le_of_lt (by simp)) hgr2.size))
        have hcell2 := ss2.cell hlt
        rw [hB.out] at hcell2
        clear hgr2 hat2 hl2 hown hs hgr))
     go_roundw
     case rel => exact ⟨k + 1, by omega, by go_num, gg2, ss2, by rw [HPN.out]; simpa only [cond_true, cond_false, List.length_append, List.length_cons, List.length_nil, List.append_nil, List.nil_append, bcells_append, byteCell hlt, List.append_assoc, Nat.zero_add, Nat.add_zero, Nat.add_assoc] using hown2⟩
     case measure => simp [intOf]; omega
    cases hN : f (k + 1)
    ·
     have hk0 : ((k : Int) == 0) = false := beq_eq_false_iff_ne.2 (by omega)
     have hk1 : 1 ≤ (k : Int) := by omega
     have hcp := hs.cell (i := k - 1) (by omega)
     rw [hP] at hcp
     have hk2 : ((k : Int) == 255) = false := beq_eq_false_iff_ne.2 (by omega)
     have hk3 : (k : Int) ≤ 254 := by omega
     have hcn := hs.cell (i := k + 1) (by omega)
     rw [hN] at hcn
     have HPN := Lib.hid (HP false true (by simp [hP, hK0]) (by simp [hN, hK2]))
     clear HP hK0 hK2 hP 
     have HN := Lib.hid hN
     clear hN
     have hm1 := Lib.hid (show (pairsT f k).length + 1 ≤ maxLen by unfold maxLen; omega)
     have hm2 := Lib.hid (show (pairsT f k).length + 1 + 1 ≤ maxLen by unfold maxLen; omega)
     have hn1 := Lib.hid (show ((pairsT f k).length + 1) * 1 ≤ 140737488355328 by omega)
     have hn2 := Lib.hid (show ((pairsT f k).length + 1 + 1) * 1 ≤ 140737488355328 by omega)
     have hb1 := Lib.hid (show w.heap.size + 1 ≤ wr.heap.size from hs.lt)
     have hb2 := hb1
     have hm2 := hm1
     have hn2 := hn1
     go_wp2_with (first
      | (
        at_builtin
        refine wpList_append_rd rfl (.tmp 41) (.tmp 44) 188 rfl (w.heap.size + 1) 5 i0 _ 1 1 und_bytes hi hz0 hz1 hz2 rfl (by decide) _ _ _ rfl (hown.alloc _) (some ⟨wr.heap.size, 0, none⟩) 1 _ [.int .u8 k] rfl (Rd.byte rfl 5 _) (one1 _) hm2.out hn2.out (Nat.le_trans hb2.out (Nat.le_of_lt (by simp))) ?_
        intro v2 w2 hown2 hgr2 hat2
        have hl2 := hown.lt
        have gg2 : Gr w w2 := Gr.grown (Gr.alloc hgr _) hgr2 (fun j hj => by have := (hl2 j hj).1; omega)
        have ss2 : SetAt w2 w.heap.size f := (hs.gr (Gr.alloc (Gr.refl _) _)).grown hgr2 (fun e => by have := (hl2 _ e.symm).1; omega)
        have hb3 := Lib.hid (Nat.le_trans hb2.out (Nat.le_trans (Nat.le_of_lt (by simp)) hgr2.size))
        have hcell2 := ss2.cell hlt
        rw [hB.out] at hcell2
        clear hgr2 hat2 hl2 hown hs hgr))
     go_roundw
     case rel => exact ⟨k + 1, by omega, by go_num, gg2, ss2, by rw [HPN.out]; simpa only [cond_true, cond_false, List.length_append, List.length_cons, List.length_nil, List.append_nil, List.nil_append, bcells_append, byteCell hlt, List.append_assoc, Nat.zero_add, Nat.add_zero, Nat.add_assoc] using hown2⟩
     case measure => simp [intOf]; omega
    ·
     have hk0 : ((k : Int) == 0) = false := beq_eq_false_iff_ne.2 (by omega)
     have hk1 : 1 ≤ (k : Int) := by omega
     have hcp := hs.cell (i := k - 1) (by omega)
     rw [hP] at hcp
     have hk2 : ((k : Int) == 255) = false := beq_eq_false_iff_ne.2 (by omega)
     have hk3 : (k : Int) ≤ 254 := by omega
     have hcn := hs.cell (i := k + 1) (by omega)
     rw [hN] at hcn
     have HPN := Lib.hid (HP false false (by simp [hP, hK0]) (by simp [hN, hK2]))
     clear HP hK0 hK2 hP 
     have HN := Lib.hid hN
     clear hN
     go_wp2
     go_roundw
     case rel => exact ⟨k + 1, by omega, by go_num, hgr, hs, by rw [HPN.out]; simpa only [cond_true, cond_false, List.length_append, List.length_cons, List.length_nil, List.append_nil, List.nil_append, bcells_append, byteCell hlt, List.append_assoc, Nat.zero_add, Nat.add_zero, Nat.add_assoc] using hown⟩
     case measure => simp [intOf]; omega
  ·
   have hk' : k = 256 := by omega
   subst hk'
   have hconv := conv_own und_bytes und_u8 und_str hown
   clear hown hle
   go_wp2
   go_ret
   exact ⟨rfl, hgr⟩
end Go.Proofs.YtbdichmkgcngbaaGreat
namespace Go.Proofs.YtbdichmkgcngbaaGreat
open Go.RowKit
set_option linter.unusedVariables false
set_option linter.unusedSimpArgs false

theorem Gr.drewM {a w : World} (h : Gr a w) (n : Nat) : Gr a (w.drewN n) := ⟨h.os, h.tape, h.output, h.size, h.block⟩
theorem drop_byte {s : ByteArray} {n : Nat} {c : UInt8} {r : List UInt8} (h : s.data.toList.drop n = c :: r) : ∃ hn : n < s.size, s[n] = c := by
 have hl : n < s.data.toList.length := by
  rcases Nat.lt_or_ge n s.data.toList.length with h1 | h1
  ·
   exact h1
  ·
   rw [List.drop_eq_nil_of_le h1] at h; cases h
 refine ⟨by simpa using hl, ?_⟩
 rw [List.drop_eq_getElem_cons hl] at h
 injection h with h1 _
theorem Rdr.byte {w : World} {R n : Nat} {s : ByteArray} {q : Rs} (h : Rdr w R s n q) {c : UInt8} {r : List UInt8} (hq : q.rest = c :: r) : ∃ hn : n < s.size, s[n] = c :=
 drop_byte (h.rest.trans hq)

set_option maxRecDepth 100000 in
set_option maxHeartbeats 800000 in
theorem now_end {w : World} {R n : Nat} {s : ByteArray} {q : Rs} (h : Rdr w R s n q) (hs : (s.size : Int) ≤ 4096) (hq : q.rest = []) :
  Calls Tryz.prog 105 #[.pointer (some ⟨R, 0, none⟩)] w fun e w' => e = .returned (.tuple #[.int .u8 0, .bool false]) ∧ Gr w w' := by
 have hl := h.len
 rw [hq] at hl
 have hn : s.size ≤ n := by simp at hl; omega
 obtain ⟨c0, c1⟩ := And.intro h.c0 h.c1
 clear h hq hl
 go_enter Tryz.func105, Tryz.ntmps105
 go_wp2
 go_quiet (fail)
 go_wp2
 go_ret2
 exact ⟨rfl, Gr.drewM (Gr.refl _) _⟩
set_option maxRecDepth 100000 in
set_option maxHeartbeats 800000 in
theorem now_some {w : World} {R n : Nat} {s : ByteArray} {q : Rs} (h : Rdr w R s n q) (hs : (s.size : Int) ≤ 4096) {c : UInt8} {r : List UInt8} (hq : q.rest = c :: r) :
  Calls Tryz.prog 105 #[.pointer (some ⟨R, 0, none⟩)] w fun e w' => e = .returned (.tuple #[.int .u8 c.toNat, .bool true]) ∧ Gr w w' := by
 obtain ⟨hn, hb⟩ := h.byte hq
 obtain ⟨c0, c1⟩ := And.intro h.c0 h.c1
 have hn' : (n : Int) < s.size := by omega
 clear h hq
 go_enter Tryz.func105, Tryz.ntmps105
 go_wp2
 go_quiet (fail)
 go_wp2
 go_quiet (fail)
 go_wp2
 go_ret2
 exact ⟨rfl, Gr.drewM (Gr.drewM (Gr.refl _) _) _⟩

set_option maxRecDepth 100000 in
set_option maxHeartbeats 800000 in
theorem is_no {w : World} {R n : Nat} {s : ByteArray} {q : Rs} (h : Rdr w R s n q) (hs : (s.size : Int) ≤ 4096) (c : Nat) (hc : c < 256) (hq : headIs c q.rest = false) :
  Calls Tryz.prog 107 #[.pointer (some ⟨R, 0, none⟩), .int .u8 c] w fun e w' => e = .returned (.bool false) ∧ Gr w w' := by
 match e : q.rest with
 | [] =>
  have Q := fun w (h : Rdr w R s n q) => now_end h hs e
  go_enter Tryz.func107, Tryz.ntmps107
  go_wp2_with (go_at_call 105; refine (Q _ h).mono ?_; rintro e w1 ⟨rfl, hg⟩)
  go_ret
  exact ⟨rfl, hg⟩
 | b :: r =>
  rw [e] at hq
  have hne : ((b.toNat : Int) == (c : Int)) = false := by
   have : ¬ b.toNat = c := by simpa [headIs] using hq
   exact beq_eq_false_iff_ne.2 (by omega)
  have hne' : (b.toNat == c) = false := by simpa [headIs] using hq
  have Q := fun w (h : Rdr w R s n q) => now_some h hs e
  clear hq
  go_enter Tryz.func107, Tryz.ntmps107
  go_wp2_with (go_at_call 105; refine (Q _ h).mono ?_; rintro e w1 ⟨rfl, hg⟩)
  go_ret
  exact ⟨rfl, hg⟩
set_option maxRecDepth 100000 in
set_option maxHeartbeats 800000 in
theorem is_yes {w : World} {R n : Nat} {s : ByteArray} {q : Rs} (h : Rdr w R s n q) (hs : (s.size : Int) ≤ 4096) (c : Nat) (hc : c < 256) (hq : headIs c q.rest = true) :
  Calls Tryz.prog 107 #[.pointer (some ⟨R, 0, none⟩), .int .u8 c] w fun e w' => e = .returned (.bool true) ∧ Gr w w' := by
 match e : q.rest with
 | [] => rw [e] at hq; cases hq
 | b :: r =>
  rw [e] at hq
  have hb : b.toNat = c := by simpa [headIs] using hq
  subst hb
  have Q := fun w (h : Rdr w R s n q) => now_some h hs e
  clear hq
  go_enter Tryz.func107, Tryz.ntmps107
  go_wp2_with (go_at_call 105; refine (Q _ h).mono ?_; rintro e w1 ⟨rfl, hg⟩)
  go_ret
  exact ⟨rfl, hg⟩

theorem headIs_cons {c : Nat} {l : List UInt8} (h : headIs c l = true) : ∃ b r, l = b :: r ∧ b.toNat = c := by
 cases l with
 | nil => cases h
 | cons b r => exact ⟨b, r, rfl, by simpa [headIs] using h⟩
/-- one byte further. -/
theorem Rdr.next {w : World} {R n : Nat} {s : ByteArray} {q : Rs} (h : Rdr w R s n q) {c : UInt8} {r : List UInt8} (hq : q.rest = c :: r) : Rdr (w.setCell ⟨R, 1, none⟩ (.int .i64 ((n : Int) + 1))) R s (n + 1) { q with rest := r } := by
 have hl := h.len
 have hr := h.rest
 rw [hq] at hl hr
 refine ⟨by simp at hl ⊢; omega, ?_, ?_, ?_, ?_, ?_, ?_, ?_, ?_, ?_, ?_, ?_, ?_, ?_⟩
 ·
  show s.data.toList.drop (n + 1) = r
  rw [← List.drop_drop, hr]; rfl
 ·
  exact (World.cell?_setCell_other w ⟨R, 1, none⟩ ⟨R, 0, none⟩ _ (by simp)).trans h.c0
 ·
  have := h.c1; have := h.f1; go_simp
 ·
  exact (World.cell?_setCell_other w ⟨R, 1, none⟩ ⟨R, 2, none⟩ _ (by simp)).trans h.c2
 ·
  exact (World.cell?_setCell_other w ⟨R, 1, none⟩ ⟨R, 3, none⟩ _ (by simp)).trans h.c3
 ·
  exact (World.cell?_setCell_other w ⟨R, 1, none⟩ ⟨R, 4, none⟩ _ (by simp)).trans h.c4
 ·
  exact (World.cell?_setCell_other w ⟨R, 1, none⟩ ⟨R, 5, none⟩ _ (by simp)).trans h.c5
 ·
  exact (by simp : (w.setCell ⟨R, 1, none⟩ _).frozen? ⟨R, 1, none⟩ = w.frozen? ⟨R, 1, none⟩).trans h.f1
 ·
  exact (by simp : (w.setCell ⟨R, 1, none⟩ _).frozen? ⟨R, 2, none⟩ = w.frozen? ⟨R, 2, none⟩).trans h.f2
 ·
  exact (by simp : (w.setCell ⟨R, 1, none⟩ _).frozen? ⟨R, 3, none⟩ = w.frozen? ⟨R, 3, none⟩).trans h.f3
 ·
  exact (by simp : (w.setCell ⟨R, 1, none⟩ _).frozen? ⟨R, 4, none⟩ = w.frozen? ⟨R, 4, none⟩).trans h.f4
 ·
  exact (by simp : (w.setCell ⟨R, 1, none⟩ _).frozen? ⟨R, 5, none⟩ = w.frozen? ⟨R, 5, none⟩).trans h.f5
 ·
  simpa using h.lt
set_option maxRecDepth 100000 in
set_option maxHeartbeats 800000 in
theorem takes_no {w : World} {R n : Nat} {s : ByteArray} {q : Rs} (h : Rdr w R s n q) (hs : (s.size : Int) ≤ 4096) (c : Nat) (hc : c < 256) (hq : headIs c q.rest = false) :
  Calls Tryz.prog 81 #[.pointer (some ⟨R, 0, none⟩), .int .u8 c] w fun e w' => e = .returned (.bool false) ∧ Gr w w' := by
 have Q := fun w (h : Rdr w R s n q) => is_no h hs c hc hq
 clear hq
 go_enter Tryz.func81, Tryz.ntmps81
 go_wp2_with (go_at_call 107; refine (Q _ h).mono ?_; rintro e w1 ⟨rfl, hg⟩)
 go_ret
 exact ⟨rfl, hg⟩
set_option maxRecDepth 100000 in
set_option maxHeartbeats 800000 in
theorem takes_yes {w : World} {R n : Nat} {s : ByteArray} {q : Rs} (h : Rdr w R s n q) (hs : (s.size : Int) ≤ 4096) (c : Nat) (hc : c < 256) (hq : headIs c q.rest = true) :
  Calls Tryz.prog 81 #[.pointer (some ⟨R, 0, none⟩), .int .u8 c] w fun e w' => e = .returned (.bool true) ∧ GX R w w' ∧ Rdr w' R s (n + 1) { q with rest := q.rest.drop 1 } := by
 have Q := fun w (h : Rdr w R s n q) => is_yes h hs c hc hq
 obtain ⟨b, r, hr, -⟩ := headIs_cons hq
 have hle := h.len
 have hn : (n : Int) < 4096 := by rw [hr] at hle; simp at hle; omega
 clear hq hle
 go_enter Tryz.func81, Tryz.ntmps81
 go_wp2_with fail
 refine (Q _ h).mono ?_; rintro e w1 ⟨rfl, hg⟩
 have h1 := h.gr hg
 obtain ⟨c1, f1⟩ := And.intro h1.c1 h1.f1
 clear Q
 go_wp2
 go_ret
 refine ⟨rfl, GX.setCell (p := ⟨R, 1, none⟩) (GX.of_gr hg) (.inl rfl) _, ?_⟩
 have hn := h1.next hr
 rw [hr]
 exact hn
end Go.Proofs.YtbdichmkgcngbaaGreat
