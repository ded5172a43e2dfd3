import Derived.Test.YtnphdacibageiaaGreatRunPrWalk
import Derived.Test.YtnphdacibageiaaGreatRunPkVis
import Derived.Deep.Cut
import Derived.Deep.CutRange
import Derived.Deep.Light
set_option linter.all false
set_option maxRecDepth 1000000
set_option maxHeartbeats 12800000
namespace Go.Proofs.YtnphdacibageiaaGreat
open Go.RowKit
theorem SetQ.grown {w w':World} {g:Nat} {f:Bs} {row:Option Nat} (h:SetQ w g f) (x:w.grownBy w' row) (hn:some g≠row):SetQ w' g f:=(x.block g h.lt hn).trans h
theorem rpairs_any (f:Bs) (w:World) :
  Calls Tryz.prog 159 #[.agg (bsA f)] w fun e w'=>e= .returned (.string ⟨(pairsS f).toArray⟩)∧Gr w w':=by
 obtain ⟨i0,hi,hz0,hz1,hz2⟩:=info_parts info_u8
 have g0:Gr w (w.alloc (Obj.cells (bsA f) 178)):=gq
 have s0:SetQ (w.alloc (Obj.cells (bsA f) 178)) w.heap.size f:=SetQ.new w f
 go_enter Tryz.func159,Tryz.ntmps159
 go_wp2
 generalize (w.alloc (Obj.cells (bsA f) 178))=w0 at g0 s0 ⊢
 go_loopw [3,4] (fun v i wr=>∃k:Nat,k≤256∧i= .int .i64 k∧Gr w wr∧SetQ wr w.heap.size f∧wr.ownsRow (w.heap.size+1) 5 1 v (pairsT f k).length (bcells (pairsT f k))) (fun _ i _=>256-(intOf i).toNat)
 case atStart=>exact ⟨0,by omega,rfl,g0,s0,World.ownsRow_nil _ _ _ _⟩
 case round=>
  clear g0 s0
  obtain ⟨k,hk,rfl,hgr,hs,hown⟩:=hrel
  have hle:=pairsT_len f k
  by_cases hlt:k<256
  ·
   have hcell:=hs.cell hlt
   have h3:(k:Int)<256:=by omega
   cases hb:f k
   case false=>
    rw[hb] at hcell
    have HN:=Lib.hid (pairsT_no hb)
    clear hb
    go_wp2
    go_roundw
    case rel=>exact ⟨k+1,by omega,by go_num,hgr,hs,by rw[HN.out];exact hown⟩
    case measure=>simp[intOf];omega
   rw[hb] at hcell
   have HP:=fun s e=>pairsT_in (s:=s) (e:=e) hb
   have hB:=Lib.hid hb
   clear hb
   by_cases hK0:k=0
   ·
    by_cases hK2:k=255
    ·
     omega
    cases hN:f (k+1)
    ·
     have hk0:((k:Int)==0)=true:=beq_iff_eq.2 (by omega)
     have hk2:((k:Int)==255)=false:=beq_eq_false_iff_ne.2 (by omega)
     have hk3:(k:Int)≤254:=by omega
     have hcn:=hs.cell (i:=k+1) (by omega)
     rw[hN] at hcn
     have HPN:=Lib.hid (HP true true (by simp[hK0]) (by simp[hN,hK2]))
     clear HP hK0 hK2 
     have HN:=Lib.hid hN
     clear hN
     have hm1:=Lib.hid (show (pairsT f k).length+1≤maxLen by unfold maxLen;omega)
     have hm2:=Lib.hid (show (pairsT f k).length+1+1≤maxLen by unfold maxLen;omega)
     have hn1:=Lib.hid (show ((pairsT f k).length+1)*1≤140737488355328 by omega)
     have hn2:=Lib.hid (show ((pairsT f k).length+1+1)*1≤140737488355328 by omega)
     have hb1:=Lib.hid (show w.heap.size+1≤wr.heap.size from hs.lt)
     go_wp2_with (first
      | (
        at_builtin
        refine wpList_append_rd rfl (.tmp 23) (.tmp 26) 189 rfl (w.heap.size+1) 5 i0 _ 1 1 und_bytes hi hz0 hz1 hz2 rfl (by decide) _ _ _ rfl (hown.alloc _) (some ⟨wr.heap.size,0,none⟩) 1 _ [.int .u8 k] rfl (Rd.byte rfl 5 _) (one1 _) hm1.out hn1.out (Nat.le_trans hb1.out (Nat.le_of_lt (by simp))) ?_
        intro v1 w1 hown1 hgr1 hat1
        have hl1:=hown.lt
        have gg1:Gr w w1:=Gr.grown (Gr.alloc hgr _) hgr1 (fun j hj=>by have:=(hl1 j hj).1;omega)
        have ss1:SetQ w1 w.heap.size f:=(hs.gr (Gr.alloc (Gr.refl _) _)).grown hgr1 (fun e=>by have:=(hl1 _ e.symm).1;omega)
        have hb2:=Lib.hid (Nat.le_trans hb1.out (Nat.le_trans (Nat.le_of_lt (by simp)) hgr1.size))
        have hcell1:=ss1.cell hlt
        rw[hB.out] at hcell1
        have hcn1:=ss1.cell (i:=k+1) (by omega)
        rw[HN.out] at hcn1
        clear hgr1 hat1 hl1 hown hs hgr)
      | (
        at_builtin
        refine wpList_append_rd rfl (.tmp 42) (.tmp 45) 189 rfl (w.heap.size+1) 5 i0 _ 1 1 und_bytes hi hz0 hz1 hz2 rfl (by decide) _ _ _ rfl (hown1.alloc _) (some ⟨w1.heap.size,0,none⟩) 1 _ [.int .u8 k] rfl (Rd.byte rfl 5 _) (one1 _) hm2.out hn2.out (Nat.le_trans hb2.out (Nat.le_of_lt (by simp))) ?_
        intro v2 w2 hown2 hgr2 hat2
        have hl2:=hown1.lt
        have gg2:Gr w w2:=Gr.grown (Gr.alloc gg1 _) hgr2 (fun j hj=>by have:=(hl2 j hj).1;omega)
        have ss2:SetQ w2 w.heap.size f:=(ss1.gr (Gr.alloc (Gr.refl _) _)).grown hgr2 (fun e=>by have:=(hl2 _ e.symm).1;omega)
        have hb3:=Lib.hid (Nat.le_trans hb2.out (Nat.le_trans (Nat.le_of_lt (by simp)) hgr2.size))
        have hcell2:=ss2.cell hlt
        rw[hB.out] at hcell2
        clear hgr2 hat2 hl2 hown1 ss1 gg1))
     go_roundw
     case rel=>exact ⟨k+1,by omega,by go_num,gg2,ss2,by rw[HPN.out];simpa only[cond_true,cond_false,List.length_append,List.length_cons,List.length_nil,List.append_nil,List.nil_append,bcells_append,byteCell hlt,List.append_assoc,Nat.zero_add,Nat.add_zero,Nat.add_assoc] using hown2⟩
     case measure=>simp[intOf];omega
    ·
     have hk0:((k:Int)==0)=true:=beq_iff_eq.2 (by omega)
     have hk2:((k:Int)==255)=false:=beq_eq_false_iff_ne.2 (by omega)
     have hk3:(k:Int)≤254:=by omega
     have hcn:=hs.cell (i:=k+1) (by omega)
     rw[hN] at hcn
     have HPN:=Lib.hid (HP true false (by simp[hK0]) (by simp[hN,hK2]))
     clear HP hK0 hK2 
     have HN:=Lib.hid hN
     clear hN
     have hm1:=Lib.hid (show (pairsT f k).length+1≤maxLen by unfold maxLen;omega)
     have hm2:=Lib.hid (show (pairsT f k).length+1+1≤maxLen by unfold maxLen;omega)
     have hn1:=Lib.hid (show ((pairsT f k).length+1)*1≤140737488355328 by omega)
     have hn2:=Lib.hid (show ((pairsT f k).length+1+1)*1≤140737488355328 by omega)
     have hb1:=Lib.hid (show w.heap.size+1≤wr.heap.size from hs.lt)
     go_wp2_with (first
      | (
        at_builtin
        refine wpList_append_rd rfl (.tmp 23) (.tmp 26) 189 rfl (w.heap.size+1) 5 i0 _ 1 1 und_bytes hi hz0 hz1 hz2 rfl (by decide) _ _ _ rfl (hown.alloc _) (some ⟨wr.heap.size,0,none⟩) 1 _ [.int .u8 k] rfl (Rd.byte rfl 5 _) (one1 _) hm1.out hn1.out (Nat.le_trans hb1.out (Nat.le_of_lt (by simp))) ?_
        intro v1 w1 hown1 hgr1 hat1
        have hl1:=hown.lt
        have gg1:Gr w w1:=Gr.grown (Gr.alloc hgr _) hgr1 (fun j hj=>by have:=(hl1 j hj).1;omega)
        have ss1:SetQ w1 w.heap.size f:=(hs.gr (Gr.alloc (Gr.refl _) _)).grown hgr1 (fun e=>by have:=(hl1 _ e.symm).1;omega)
        have hb2:=Lib.hid (Nat.le_trans hb1.out (Nat.le_trans (Nat.le_of_lt (by simp)) hgr1.size))
        have hcell1:=ss1.cell hlt
        rw[hB.out] at hcell1
        have hcn1:=ss1.cell (i:=k+1) (by omega)
        rw[HN.out] at hcn1
        clear hgr1 hat1 hl1 hown hs hgr))
     go_roundw
     case rel=>exact ⟨k+1,by omega,by go_num,gg1,ss1,by rw[HPN.out];simpa only[cond_true,cond_false,List.length_append,List.length_cons,List.length_nil,List.append_nil,List.nil_append,bcells_append,byteCell hlt,List.append_assoc,Nat.zero_add,Nat.add_zero,Nat.add_assoc] using hown1⟩
     case measure=>simp[intOf];omega
   cases hP:f (k-1)
   ·
    by_cases hK2:k=255
    ·
     have hk0:((k:Int)==0)=false:=beq_eq_false_iff_ne.2 (by omega)
     have hk1:1≤(k:Int):=by omega
     have hcp:=hs.cell (i:=k-1) (by omega)
     rw[hP] at hcp
     have hk2:((k:Int)==255)=true:=beq_iff_eq.2 (by omega)
     have HPN:=Lib.hid (HP true true (by simp[hP,hK0]) (by simp[hK2]))
     clear HP hK0 hK2 hP 
     have hm1:=Lib.hid (show (pairsT f k).length+1≤maxLen by unfold maxLen;omega)
     have hm2:=Lib.hid (show (pairsT f k).length+1+1≤maxLen by unfold maxLen;omega)
     have hn1:=Lib.hid (show ((pairsT f k).length+1)*1≤140737488355328 by omega)
     have hn2:=Lib.hid (show ((pairsT f k).length+1+1)*1≤140737488355328 by omega)
     have hb1:=Lib.hid (show w.heap.size+1≤wr.heap.size from hs.lt)
     go_wp2_with (first
      | (
        at_builtin
        refine wpList_append_rd rfl (.tmp 23) (.tmp 26) 189 rfl (w.heap.size+1) 5 i0 _ 1 1 und_bytes hi hz0 hz1 hz2 rfl (by decide) _ _ _ rfl (hown.alloc _) (some ⟨wr.heap.size,0,none⟩) 1 _ [.int .u8 k] rfl (Rd.byte rfl 5 _) (one1 _) hm1.out hn1.out (Nat.le_trans hb1.out (Nat.le_of_lt (by simp))) ?_
        intro v1 w1 hown1 hgr1 hat1
        have hl1:=hown.lt
        have gg1:Gr w w1:=Gr.grown (Gr.alloc hgr _) hgr1 (fun j hj=>by have:=(hl1 j hj).1;omega)
        have ss1:SetQ w1 w.heap.size f:=(hs.gr (Gr.alloc (Gr.refl _) _)).grown hgr1 (fun e=>by have:=(hl1 _ e.symm).1;omega)
        have hb2:=Lib.hid (Nat.le_trans hb1.out (Nat.le_trans (Nat.le_of_lt (by simp)) hgr1.size))
        have hcell1:=ss1.cell hlt
        rw[hB.out] at hcell1
        clear hgr1 hat1 hl1 hown hs hgr)
      | (
        at_builtin
        refine wpList_append_rd rfl (.tmp 42) (.tmp 45) 189 rfl (w.heap.size+1) 5 i0 _ 1 1 und_bytes hi hz0 hz1 hz2 rfl (by decide) _ _ _ rfl (hown1.alloc _) (some ⟨w1.heap.size,0,none⟩) 1 _ [.int .u8 k] rfl (Rd.byte rfl 5 _) (one1 _) hm2.out hn2.out (Nat.le_trans hb2.out (Nat.le_of_lt (by simp))) ?_
        intro v2 w2 hown2 hgr2 hat2
        have hl2:=hown1.lt
        have gg2:Gr w w2:=Gr.grown (Gr.alloc gg1 _) hgr2 (fun j hj=>by have:=(hl2 j hj).1;omega)
        have ss2:SetQ w2 w.heap.size f:=(ss1.gr (Gr.alloc (Gr.refl _) _)).grown hgr2 (fun e=>by have:=(hl2 _ e.symm).1;omega)
        have hb3:=Lib.hid (Nat.le_trans hb2.out (Nat.le_trans (Nat.le_of_lt (by simp)) hgr2.size))
        have hcell2:=ss2.cell hlt
        rw[hB.out] at hcell2
        clear hgr2 hat2 hl2 hown1 ss1 gg1))
     go_roundw
     case rel=>exact ⟨k+1,by omega,by go_num,gg2,ss2,by rw[HPN.out];simpa only[cond_true,cond_false,List.length_append,List.length_cons,List.length_nil,List.append_nil,List.nil_append,bcells_append,byteCell hlt,List.append_assoc,Nat.zero_add,Nat.add_zero,Nat.add_assoc] using hown2⟩
     case measure=>simp[intOf];omega
    cases hN:f (k+1)
    ·
     have hk0:((k:Int)==0)=false:=beq_eq_false_iff_ne.2 (by omega)
     have hk1:1≤(k:Int):=by omega
     have hcp:=hs.cell (i:=k-1) (by omega)
     rw[hP] at hcp
     have hk2:((k:Int)==255)=false:=beq_eq_false_iff_ne.2 (by omega)
     have hk3:(k:Int)≤254:=by omega
     have hcn:=hs.cell (i:=k+1) (by omega)
     rw[hN] at hcn
     have HPN:=Lib.hid (HP true true (by simp[hP,hK0]) (by simp[hN,hK2]))
     clear HP hK0 hK2 hP 
     have HN:=Lib.hid hN
     clear hN
     have hm1:=Lib.hid (show (pairsT f k).length+1≤maxLen by unfold maxLen;omega)
     have hm2:=Lib.hid (show (pairsT f k).length+1+1≤maxLen by unfold maxLen;omega)
     have hn1:=Lib.hid (show ((pairsT f k).length+1)*1≤140737488355328 by omega)
     have hn2:=Lib.hid (show ((pairsT f k).length+1+1)*1≤140737488355328 by omega)
     have hb1:=Lib.hid (show w.heap.size+1≤wr.heap.size from hs.lt)
     go_wp2_with (first
      | (
        at_builtin
        refine wpList_append_rd rfl (.tmp 23) (.tmp 26) 189 rfl (w.heap.size+1) 5 i0 _ 1 1 und_bytes hi hz0 hz1 hz2 rfl (by decide) _ _ _ rfl (hown.alloc _) (some ⟨wr.heap.size,0,none⟩) 1 _ [.int .u8 k] rfl (Rd.byte rfl 5 _) (one1 _) hm1.out hn1.out (Nat.le_trans hb1.out (Nat.le_of_lt (by simp))) ?_
        intro v1 w1 hown1 hgr1 hat1
        have hl1:=hown.lt
        have gg1:Gr w w1:=Gr.grown (Gr.alloc hgr _) hgr1 (fun j hj=>by have:=(hl1 j hj).1;omega)
        have ss1:SetQ w1 w.heap.size f:=(hs.gr (Gr.alloc (Gr.refl _) _)).grown hgr1 (fun e=>by have:=(hl1 _ e.symm).1;omega)
        have hb2:=Lib.hid (Nat.le_trans hb1.out (Nat.le_trans (Nat.le_of_lt (by simp)) hgr1.size))
        have hcell1:=ss1.cell hlt
        rw[hB.out] at hcell1
        have hcn1:=ss1.cell (i:=k+1) (by omega)
        rw[HN.out] at hcn1
        clear hgr1 hat1 hl1 hown hs hgr)
      | (
        at_builtin
        refine wpList_append_rd rfl (.tmp 42) (.tmp 45) 189 rfl (w.heap.size+1) 5 i0 _ 1 1 und_bytes hi hz0 hz1 hz2 rfl (by decide) _ _ _ rfl (hown1.alloc _) (some ⟨w1.heap.size,0,none⟩) 1 _ [.int .u8 k] rfl (Rd.byte rfl 5 _) (one1 _) hm2.out hn2.out (Nat.le_trans hb2.out (Nat.le_of_lt (by simp))) ?_
        intro v2 w2 hown2 hgr2 hat2
        have hl2:=hown1.lt
        have gg2:Gr w w2:=Gr.grown (Gr.alloc gg1 _) hgr2 (fun j hj=>by have:=(hl2 j hj).1;omega)
        have ss2:SetQ w2 w.heap.size f:=(ss1.gr (Gr.alloc (Gr.refl _) _)).grown hgr2 (fun e=>by have:=(hl2 _ e.symm).1;omega)
        have hb3:=Lib.hid (Nat.le_trans hb2.out (Nat.le_trans (Nat.le_of_lt (by simp)) hgr2.size))
        have hcell2:=ss2.cell hlt
        rw[hB.out] at hcell2
        clear hgr2 hat2 hl2 hown1 ss1 gg1))
     go_roundw
     case rel=>exact ⟨k+1,by omega,by go_num,gg2,ss2,by rw[HPN.out];simpa only[cond_true,cond_false,List.length_append,List.length_cons,List.length_nil,List.append_nil,List.nil_append,bcells_append,byteCell hlt,List.append_assoc,Nat.zero_add,Nat.add_zero,Nat.add_assoc] using hown2⟩
     case measure=>simp[intOf];omega
    ·
     have hk0:((k:Int)==0)=false:=beq_eq_false_iff_ne.2 (by omega)
     have hk1:1≤(k:Int):=by omega
     have hcp:=hs.cell (i:=k-1) (by omega)
     rw[hP] at hcp
     have hk2:((k:Int)==255)=false:=beq_eq_false_iff_ne.2 (by omega)
     have hk3:(k:Int)≤254:=by omega
     have hcn:=hs.cell (i:=k+1) (by omega)
     rw[hN] at hcn
     have HPN:=Lib.hid (HP true false (by simp[hP,hK0]) (by simp[hN,hK2]))
     clear HP hK0 hK2 hP 
     have HN:=Lib.hid hN
     clear hN
     have hm1:=Lib.hid (show (pairsT f k).length+1≤maxLen by unfold maxLen;omega)
     have hm2:=Lib.hid (show (pairsT f k).length+1+1≤maxLen by unfold maxLen;omega)
     have hn1:=Lib.hid (show ((pairsT f k).length+1)*1≤140737488355328 by omega)
     have hn2:=Lib.hid (show ((pairsT f k).length+1+1)*1≤140737488355328 by omega)
     have hb1:=Lib.hid (show w.heap.size+1≤wr.heap.size from hs.lt)
     go_wp2_with (first
      | (
        at_builtin
        refine wpList_append_rd rfl (.tmp 23) (.tmp 26) 189 rfl (w.heap.size+1) 5 i0 _ 1 1 und_bytes hi hz0 hz1 hz2 rfl (by decide) _ _ _ rfl (hown.alloc _) (some ⟨wr.heap.size,0,none⟩) 1 _ [.int .u8 k] rfl (Rd.byte rfl 5 _) (one1 _) hm1.out hn1.out (Nat.le_trans hb1.out (Nat.le_of_lt (by simp))) ?_
        intro v1 w1 hown1 hgr1 hat1
        have hl1:=hown.lt
        have gg1:Gr w w1:=Gr.grown (Gr.alloc hgr _) hgr1 (fun j hj=>by have:=(hl1 j hj).1;omega)
        have ss1:SetQ w1 w.heap.size f:=(hs.gr (Gr.alloc (Gr.refl _) _)).grown hgr1 (fun e=>by have:=(hl1 _ e.symm).1;omega)
        have hb2:=Lib.hid (Nat.le_trans hb1.out (Nat.le_trans (Nat.le_of_lt (by simp)) hgr1.size))
        have hcell1:=ss1.cell hlt
        rw[hB.out] at hcell1
        have hcn1:=ss1.cell (i:=k+1) (by omega)
        rw[HN.out] at hcn1
        clear hgr1 hat1 hl1 hown hs hgr))
     go_roundw
     case rel=>exact ⟨k+1,by omega,by go_num,gg1,ss1,by rw[HPN.out];simpa only[cond_true,cond_false,List.length_append,List.length_cons,List.length_nil,List.append_nil,List.nil_append,bcells_append,byteCell hlt,List.append_assoc,Nat.zero_add,Nat.add_zero,Nat.add_assoc] using hown1⟩
     case measure=>simp[intOf];omega
   ·
    by_cases hK2:k=255
    ·
     have hk0:((k:Int)==0)=false:=beq_eq_false_iff_ne.2 (by omega)
     have hk1:1≤(k:Int):=by omega
     have hcp:=hs.cell (i:=k-1) (by omega)
     rw[hP] at hcp
     have hk2:((k:Int)==255)=true:=beq_iff_eq.2 (by omega)
     have HPN:=Lib.hid (HP false true (by simp[hP,hK0]) (by simp[hK2]))
     clear HP hK0 hK2 hP 
     have hm1:=Lib.hid (show (pairsT f k).length+1≤maxLen by unfold maxLen;omega)
     have hm2:=Lib.hid (show (pairsT f k).length+1+1≤maxLen by unfold maxLen;omega)
     have hn1:=Lib.hid (show ((pairsT f k).length+1)*1≤140737488355328 by omega)
     have hn2:=Lib.hid (show ((pairsT f k).length+1+1)*1≤140737488355328 by omega)
     have hb1:=Lib.hid (show w.heap.size+1≤wr.heap.size from hs.lt)
     have hb2:=hb1
     have hm2:=hm1
     have hn2:=hn1
     go_wp2_with (first
      | (
        at_builtin
        refine wpList_append_rd rfl (.tmp 42) (.tmp 45) 189 rfl (w.heap.size+1) 5 i0 _ 1 1 und_bytes hi hz0 hz1 hz2 rfl (by decide) _ _ _ rfl (hown.alloc _) (some ⟨wr.heap.size,0,none⟩) 1 _ [.int .u8 k] rfl (Rd.byte rfl 5 _) (one1 _) hm2.out hn2.out (Nat.le_trans hb2.out (Nat.le_of_lt (by simp))) ?_
        intro v2 w2 hown2 hgr2 hat2
        have hl2:=hown.lt
        have gg2:Gr w w2:=Gr.grown (Gr.alloc hgr _) hgr2 (fun j hj=>by have:=(hl2 j hj).1;omega)
        have ss2:SetQ w2 w.heap.size f:=(hs.gr (Gr.alloc (Gr.refl _) _)).grown hgr2 (fun e=>by have:=(hl2 _ e.symm).1;omega)
        have hb3:=Lib.hid (Nat.le_trans hb2.out (Nat.le_trans (Nat.le_of_lt (by simp)) hgr2.size))
        have hcell2:=ss2.cell hlt
        rw[hB.out] at hcell2
        clear hgr2 hat2 hl2 hown hs hgr))
     go_roundw
     case rel=>exact ⟨k+1,by omega,by go_num,gg2,ss2,by rw[HPN.out];simpa only[cond_true,cond_false,List.length_append,List.length_cons,List.length_nil,List.append_nil,List.nil_append,bcells_append,byteCell hlt,List.append_assoc,Nat.zero_add,Nat.add_zero,Nat.add_assoc] using hown2⟩
     case measure=>simp[intOf];omega
    cases hN:f (k+1)
    ·
     have hk0:((k:Int)==0)=false:=beq_eq_false_iff_ne.2 (by omega)
     have hk1:1≤(k:Int):=by omega
     have hcp:=hs.cell (i:=k-1) (by omega)
     rw[hP] at hcp
     have hk2:((k:Int)==255)=false:=beq_eq_false_iff_ne.2 (by omega)
     have hk3:(k:Int)≤254:=by omega
     have hcn:=hs.cell (i:=k+1) (by omega)
     rw[hN] at hcn
     have HPN:=Lib.hid (HP false true (by simp[hP,hK0]) (by simp[hN,hK2]))
     clear HP hK0 hK2 hP 
     have HN:=Lib.hid hN
     clear hN
     have hm1:=Lib.hid (show (pairsT f k).length+1≤maxLen by unfold maxLen;omega)
     have hm2:=Lib.hid (show (pairsT f k).length+1+1≤maxLen by unfold maxLen;omega)
     have hn1:=Lib.hid (show ((pairsT f k).length+1)*1≤140737488355328 by omega)
     have hn2:=Lib.hid (show ((pairsT f k).length+1+1)*1≤140737488355328 by omega)
     have hb1:=Lib.hid (show w.heap.size+1≤wr.heap.size from hs.lt)
     have hb2:=hb1
     have hm2:=hm1
     have hn2:=hn1
     go_wp2_with (first
      | (
        at_builtin
        refine wpList_append_rd rfl (.tmp 42) (.tmp 45) 189 rfl (w.heap.size+1) 5 i0 _ 1 1 und_bytes hi hz0 hz1 hz2 rfl (by decide) _ _ _ rfl (hown.alloc _) (some ⟨wr.heap.size,0,none⟩) 1 _ [.int .u8 k] rfl (Rd.byte rfl 5 _) (one1 _) hm2.out hn2.out (Nat.le_trans hb2.out (Nat.le_of_lt (by simp))) ?_
        intro v2 w2 hown2 hgr2 hat2
        have hl2:=hown.lt
        have gg2:Gr w w2:=Gr.grown (Gr.alloc hgr _) hgr2 (fun j hj=>by have:=(hl2 j hj).1;omega)
        have ss2:SetQ w2 w.heap.size f:=(hs.gr (Gr.alloc (Gr.refl _) _)).grown hgr2 (fun e=>by have:=(hl2 _ e.symm).1;omega)
        have hb3:=Lib.hid (Nat.le_trans hb2.out (Nat.le_trans (Nat.le_of_lt (by simp)) hgr2.size))
        have hcell2:=ss2.cell hlt
        rw[hB.out] at hcell2
        clear hgr2 hat2 hl2 hown hs hgr))
     go_roundw
     case rel=>exact ⟨k+1,by omega,by go_num,gg2,ss2,by rw[HPN.out];simpa only[cond_true,cond_false,List.length_append,List.length_cons,List.length_nil,List.append_nil,List.nil_append,bcells_append,byteCell hlt,List.append_assoc,Nat.zero_add,Nat.add_zero,Nat.add_assoc] using hown2⟩
     case measure=>simp[intOf];omega
    ·
     have hk0:((k:Int)==0)=false:=beq_eq_false_iff_ne.2 (by omega)
     have hk1:1≤(k:Int):=by omega
     have hcp:=hs.cell (i:=k-1) (by omega)
     rw[hP] at hcp
     have hk2:((k:Int)==255)=false:=beq_eq_false_iff_ne.2 (by omega)
     have hk3:(k:Int)≤254:=by omega
     have hcn:=hs.cell (i:=k+1) (by omega)
     rw[hN] at hcn
     have HPN:=Lib.hid (HP false false (by simp[hP,hK0]) (by simp[hN,hK2]))
     clear HP hK0 hK2 hP 
     have HN:=Lib.hid hN
     clear hN
     go_wp2
     go_roundw
     case rel=>exact ⟨k+1,by omega,by go_num,hgr,hs,by rw[HPN.out];simpa only[cond_true,cond_false,List.length_append,List.length_cons,List.length_nil,List.append_nil,List.nil_append,bcells_append,byteCell hlt,List.append_assoc,Nat.zero_add,Nat.add_zero,Nat.add_assoc] using hown⟩
     case measure=>simp[intOf];omega
  ·
   have hk':k=256:=by omega
   subst hk'
   have hconv:=conv_own und_bytes und_u8 und_str hown
   clear hown hle
   go_wp2
   go_ret
   exact ⟨rfl,hgr⟩
def Sm (l:List In):Prop:=∀v∈l, -100000≤v.x∧v.x≤100000∧ -100000≤v.y∧v.y≤100000
theorem Rd.rinst (w:World) (v:In):Rd (w.alloc (.cells #[.int .i64 v.op, .int .i64 v.x, .int .i64 v.y, .string ⟨v.ps.toArray⟩] 143)) 4 (some ⟨w.heap.size,0,none⟩) 1 (icells [v]):=by
 refine ⟨rfl,fun _=>⟨_,rfl,by simp,fun j u hu=>?_⟩⟩
 have:=(World.ownsRow_lit (base:=0) (e:=143) (size:=4) w #[.int .i64 v.op, .int .i64 v.x, .int .i64 v.y, .string ⟨v.ps.toArray⟩] 1 (Nat.zero_le _) (by decide) rfl).cells (g:=w.heap.size) rfl j u (by simpa [icells] using hu)
 exact this
def LyS (R t:Nat) (A:Option Addr) (L c:Nat) (op x y:Int) (ps:List UInt8) (W:World):Prop:=
 W.cell? ⟨R,5,none⟩=some (.slice A L c)∧W.frozen? ⟨R,5,none⟩=false∧W.cell? ⟨t,0,none⟩=some (.int .i64 op)∧W.cell? ⟨t,1,none⟩=some (.int .i64 x)∧W.cell? ⟨t,2,none⟩=some (.int .i64 y)∧W.cell? ⟨t,3,none⟩=some (.string ⟨ps.toArray⟩)∧R<W.heap.size∧t<W.heap.size
theorem LyS.kept {R t L c:Nat} {A:Option Addr} {op x y:Int} {ps:List UInt8} {W W':World} (h:LyS R t A L c op x y ps W) (hs:W.heap.size≤W'.heap.size) (hR:W'.heap[R]?=W.heap[R]?) (ht:W'.heap[t]?=W.heap[t]?):LyS R t A L c op x y ps W':=by
 obtain ⟨h0,h1,h2,h3,h4,h5,h6,h7⟩:=h
 exact ⟨(World.cell?_of_block (a:=⟨R,5,none⟩) hR).trans h0,(World.frozen?_of_block (a:=⟨R,5,none⟩) hR).trans h1,(World.cell?_of_block (a:=⟨t,0,none⟩) ht).trans h2,(World.cell?_of_block (a:=⟨t,1,none⟩) ht).trans h3,(World.cell?_of_block (a:=⟨t,2,none⟩) ht).trans h4,(World.cell?_of_block (a:=⟨t,3,none⟩) ht).trans h5,Nat.lt_of_lt_of_le h6 hs,Nat.lt_of_lt_of_le h7 hs⟩
theorem LyS.gr {R t L c:Nat} {A:Option Addr} {op x y:Int} {ps:List UInt8} {W W':World} (h:LyS R t A L c op x y ps W) (g:Gr W W'):LyS R t A L c op x y ps W':=h.kept g.size (Below.block g R h.2.2.2.2.2.2.1) (Below.block g t h.2.2.2.2.2.2.2)
def RetLX (w:World) (R:Nat) (s:ByteArray) (n d e g:Nat) (A:Option Addr) (res:List In) (v:Value) (x:Ending) (w':World):Prop:=
 x= .returned v∧∃A',RfW w' R s n d e g A' res∧WX R w (blk A) w' (blk A')
theorem RfC.laid {w w9:World} {R n d e g c c9 m:Nat} {s:ByteArray} {A A9:Option Addr} {code news:List In} (h:RfC w R s n d e g A code c) (hn:news.length=m) (own9:w9.ownsRow (R+1) 143 4 (.slice A9 (code.length+m) c9) (code.length+m) (icells code++icells news)) {V:World} (gV:Gr w V) (hgr:V.grownBy w9 (blk A)) (hob:blk A9=blk A∨blk A9=some V.heap.size) :
  RfW (w9.setCell ⟨R,5,none⟩ (.slice A9 (code.length+m) c9)) R s n d e g A9 (code++news)∧WX R w (blk A) (w9.setCell ⟨R,5,none⟩ (.slice A9 (code.length+m) c9)) (blk A9):=by
 have hrow:∀k,blk A=some k→R<k∧k<w.heap.size:=RfW.row ⟨c,h⟩
 have hRA:some R≠blk A:=fun e=>by have:=(hrow R e.symm).1;omega
 have hlt:=h.lt
 have hR9:w9.heap[R]?=w.heap[R]?:=(hgr.block R (Nat.lt_of_lt_of_le hlt gV.size) hRA).trans (Below.block gV R hlt)
 have hx:∀i,w9.cell? ⟨R,i,none⟩=w.cell? ⟨R,i,none⟩:=fun i=>World.cell?_of_block (a:=⟨R,i,none⟩) hR9
 have hy:∀i,w9.frozen? ⟨R,i,none⟩=w.frozen? ⟨R,i,none⟩:=fun i=>World.frozen?_of_block (a:=⟨R,i,none⟩) hR9
 have hz9:R<w9.heap.size:=Nat.lt_of_lt_of_le (Nat.lt_of_lt_of_le hlt gV.size) hgr.size
 have hlen:(code++news).length=code.length+m:=by rw[List.length_append,hn]
 have o:∀j,j≠5→(w9.setCell ⟨R,5,none⟩ (.slice A9 (code.length+m) c9)).cell? ⟨R,j,none⟩=w9.cell? ⟨R,j,none⟩:=fun j hj=>World.cell?_setCell_other w9 ⟨R,5,none⟩ ⟨R,j,none⟩ _ (by first|(simp;done)|(simp;omega))
 have k5:=(hx 5).trans h.c5
 have k6:=(hy 5).trans h.f5
 refine ⟨⟨c9,(o 0 (by decide)).trans ((hx 0).trans h.c0),(o 1 (by decide)).trans ((hx 1).trans h.c1),(o 2 (by decide)).trans ((hx 2).trans h.c2),(o 3 (by decide)).trans ((hx 3).trans h.c3),(o 4 (by decide)).trans ((hx 4).trans h.c4),?_,by rw[World.frozen?_setCell];exact (hy 1).trans h.f1,by rw[World.frozen?_setCell];exact (hy 2).trans h.f2,by rw[World.frozen?_setCell];exact (hy 3).trans h.f3,by rw[World.frozen?_setCell];exact (hy 4).trans h.f4,by rw[World.frozen?_setCell];exact (hy 5).trans h.f5,?_,by simpa using hz9⟩,?_⟩
 ·
  rw[hlen]
  clear hx hy o hgr hob own9 hR9
  go_simp
 ·
  rw[hlen,icells_append]
  exact own_setX own9 (p:=⟨R,5,none⟩) (Nat.lt_succ_self _) _
 ·
  have x1:WX R w (blk A) V (blk A):=WX.gr _ gV
  exact (x1.trans (WX.grown (B:=R) hgr hob)).set (p:=⟨R,5,none⟩) (.inl rfl) _
theorem rlay_any {w:World} {R n d e g:Nat} {s:ByteArray} {A:Option Addr} {code:List In} (h:RfW w R s n d e g A code) (op x y:Int) (ps:List UInt8) (hb:code.length≤4000) :
  Calls Tryz.prog 92 #[.pointer (some ⟨R,0,none⟩), .agg #[.int .i64 op, .int .i64 x, .int .i64 y, .string ⟨ps.toArray⟩]] w (RetLX w R s n d e g A (code++[⟨op,x,y,ps⟩]) (.int .i64 code.length)):=by
 obtain ⟨i0,hi0,hz0,hz1,hz2⟩:=info_parts info_rinst
 obtain ⟨c,h⟩:=h
 have hS:LyS R w.heap.size A code.length c op x y ps ((w.alloc (.cells #[.int .i64 op, .int .i64 x, .int .i64 y, .string ⟨ps.toArray⟩] 143)).drew):=by
  have hc5:=h.c5
  have hf5:=h.f5
  have hlt:=h.lt
  refine ⟨(Below.cell (Gr.alloc (Gr.refl w) _) (p:=⟨R,5,none⟩) hlt).trans hc5,(Below.frozen (Gr.alloc (Gr.refl w) _) (p:=⟨R,5,none⟩) hlt).trans hf5,?_,?_,?_,?_,by simp;omega,by simp⟩
  all_goals go_simp
 have own8:=h.own
 have hvl:=own8.lt
 have hlt:=h.lt
 have Hh:=Lib.hid h
 clear h
 go_enter Tryz.func92,Tryz.ntmps92
 go_upto_region 1 with (fail)
 have hS0:=hS
 clear hS
 obtain ⟨V,hV⟩:∃V,V=(w.alloc (.cells #[.int .i64 op, .int .i64 x, .int .i64 y, .string ⟨ps.toArray⟩] 143)).drew:=⟨_,rfl⟩
 have gV:Gr w V:=by rw[hV];exact (Gr.alloc (Gr.refl w) _).drew
 have hVz:V.heap.size=w.heap.size+1:=by rw[hV];simp
 refine wp_region_Z 12 (LyS R w.heap.size A code.length c op x y ps) (by kernel_rfl) ?_
 rw[←hV] at hS0 ⊢
 have HV:=Lib.hid (And.intro hV hVz)
 clear hV hVz
 refine zu 0 rfl hS0 (fun W hS=>by go_simp;rfl) ?_
 refine zu 1 rfl hS0 (fun W hS=>by go_simp;rfl) ?_
 refine zu 2 rfl hS0 (fun W hS=>by go_simp;rfl) ?_
 refine zu 3 rfl hS0 (fun W hS=>by go_simp;rfl) ?_
 refine zu 4 rfl hS0 (fun W hS=>by go_simp;rfl) ?_
 refine zu 5 rfl hS0 (fun W hS=>by obtain ⟨s0, -⟩:=hS;go_simp;rfl) ?_
 refine zu 6 rfl hS0 (fun W hS=>by obtain ⟨-, -,t0,t1,t2,t3, -⟩:=hS;go_simp;rfl) ?_
 refine wpAnyZ_ready (rs:=[7]) (by kernel_rfl) (by simp) ?_
 refine AllReadyZ.cons (i:=7) rfl (by kernel_rfl) ?zx7 AllReadyZ.nil
 intro K hK
 simp only[List.getElem_toArray,List.getElem_cons_succ,List.getElem_cons_zero]
 have hS7:=hS0.gr (Gr.alloc (Gr.refl _) (.cells #[.int .i64 op, .int .i64 x, .int .i64 y, .string ⟨ps.toArray⟩] 143))
 have ownV:V.ownsRow (R+1) 143 4 (.slice A code.length c) code.length (icells code):=by rw[HV.out.1];exact own8.alloc _
 have own7:=ownV.alloc (.cells #[.int .i64 op, .int .i64 x, .int .i64 y, .string ⟨ps.toArray⟩] 143)
 have hrx:=Rd.rinst V ⟨op,x,y,ps⟩
 clear own8 ownV
 go_simp
 refine hK.out _ _ (fun hnz=>?zs7) (fun _=>?zr7)
 case zs7=>exact hS7
 clear hK K
 try (simp only[Pu,List.getElem_toArray,List.getElem_cons_succ,List.getElem_cons_zero])
 refine wpAnyZ_ready (rs:=[8]) (by kernel_rfl) (by simp) ?_
 refine AllReadyZ.cons (i:=8) rfl (by kernel_rfl) ?zx8 AllReadyZ.nil
 intro K hK
 simp only[List.getElem_toArray,List.getElem_cons_succ,List.getElem_cons_zero]
 refine wp_append_rdX (.tmp 10) (.tmp 12) 97 rfl (R+1) 143 i0 _ 4 40 Tryz.underlying97 hi0 hz0 hz1 hz2 rfl (by decide) _ code.length _ rfl own7 ⟨V.heap.size,0,none⟩ 1 _ (icells [⟨op,x,y,ps⟩]) rfl hrx (by decide) (icells_one _) (by unfold maxLen;omega) (by omega) (by have:=gV.size;simp;omega) ?_
 intro v' w9 own9 hgr9 hob9
 obtain ⟨A9,c9,hv9⟩:=own_form own9
 subst hv9
 have hx:∀(A:Option Addr) (n c:Nat),(Value.slice A n c).ownBlock=blk A:=fun A n c=>by cases A<;>rfl
 have hgr9:(V.alloc (.cells #[.int .i64 op, .int .i64 x, .int .i64 y, .string ⟨ps.toArray⟩] 143)).grownBy w9 (Value.slice A code.length c).ownBlock:=hgr9
 have hob9:(Value.slice A9 (code.length+1) c9).ownBlock=(Value.slice A code.length c).ownBlock∨(Value.slice A9 (code.length+1) c9).ownBlock=some (V.alloc (.cells #[.int .i64 op, .int .i64 x, .int .i64 y, .string ⟨ps.toArray⟩] 143)).heap.size:=hob9
 rw[hx] at hgr9
 rw[hx,hx] at hob9
 have hS9:LyS R w.heap.size A code.length c op x y ps w9:=hS7.kept hgr9.size (hgr9.block R hS7.2.2.2.2.2.2.1 (fun e=>by have:=(hvl R (by rw[hx];exact e.symm)).1;omega)) (hgr9.block w.heap.size hS7.2.2.2.2.2.2.2 (fun e=>by have:=(hvl w.heap.size (by rw[hx];exact e.symm)).2;omega))
 have Hg9:=Lib.hid (And.intro own9 (And.intro hgr9 hob9))
 clear own9 hgr9 hob9 hS7 own7 hrx
 refine hK.out _ _ (fun hnz=>?zs8) (fun _=>?zr8)
 case zs8=>exact hS9
 clear hK K
 try (simp only[Pu,List.getElem_toArray,List.getElem_cons_succ,List.getElem_cons_zero])
 refine wpAnyZ_ready (rs:=[9]) (by kernel_rfl) (by simp) ?_
 refine AllReadyZ.cons (i:=9) rfl (by kernel_rfl) ?zx9 AllReadyZ.nil
 intro K hK
 simp only[List.getElem_toArray,List.getElem_cons_succ,List.getElem_cons_zero]
 go_simp
 refine hK.out _ _ (fun hnz=>?zs9) (fun _=>?zr9)
 case zs9=>exact hS9
 clear hK K
 try (simp only[Pu,List.getElem_toArray,List.getElem_cons_succ,List.getElem_cons_zero])
 refine wpAnyZ_ready (rs:=[10]) (by kernel_rfl) (by simp) ?_
 refine AllReadyZ.cons (i:=10) rfl (by kernel_rfl) ?zx10 AllReadyZ.nil
 intro K hK
 simp only[List.getElem_toArray,List.getElem_cons_succ,List.getElem_cons_zero]
 go_simp
 refine hK.out _ _ (fun hnz=>?zs10) (fun _=>?zr10)
 case zs10=>exact hS9
 clear hK K
 try (simp only[Pu,List.getElem_toArray,List.getElem_cons_succ,List.getElem_cons_zero])
 refine wpAnyZ_ready (rs:=[11]) (by kernel_rfl) (by simp) ?_
 refine AllReadyZ.cons (i:=11) rfl (by kernel_rfl) ?zx11 AllReadyZ.nil
 intro K hK
 simp only[List.getElem_toArray,List.getElem_cons_succ,List.getElem_cons_zero]
 go_simp
 refine hK.out _ _ (fun hnz=>?zs11) (fun _=>?zr11)
 case zs11=>exact hS9
 clear hK K
 try (simp only[Pu,List.getElem_toArray,List.getElem_cons_succ,List.getElem_cons_zero])
 refine wpAnyZ_ready (rs:=[12]) (by kernel_rfl) (by simp) ?_
 refine AllReadyZ.cons (i:=12) rfl (by kernel_rfl) ?zx12 AllReadyZ.nil
 intro K hK
 simp only[List.getElem_toArray,List.getElem_cons_succ,List.getElem_cons_zero]
 obtain ⟨s0,s1, -, -, -, -,hzR, -⟩:=id hS9
 go_simp
 refine hK.out _ _ (fun hnz=>?zs12) (fun _=>?zr12)
 case zs12=>exact absurd rfl hnz
 clear hK K
 try (simp only[Pu,List.getElem_toArray,List.getElem_cons_succ,List.getElem_cons_zero])
 refine wpAnyZ_done (by kernel_rfl) ?_ _
 clear s1
 go_wp2
 go_ret
 obtain ⟨own9,hgr9,hob9⟩:=Hg9.out
 obtain ⟨f1,f2⟩:=Hh.out.laid (news:=[⟨op,x,y,ps⟩]) (m:=1) rfl own9 (gV.alloc _) hgr9 hob9
 exact ⟨rfl,A9,f1,f2⟩
def PtS (R:Nat) (A:Option Addr) (L c:Nat) (W:World):Prop:=W.cell? ⟨R,5,none⟩=some (.slice A L c)∧W.frozen? ⟨R,5,none⟩=false∧R<W.heap.size
theorem PtS.kept {R L c:Nat} {A:Option Addr} {W W':World} (h:PtS R A L c W) (hs:W.heap.size≤W'.heap.size) (hR:W'.heap[R]?=W.heap[R]?):PtS R A L c W':=
 ⟨(World.cell?_of_block (a:=⟨R,5,none⟩) hR).trans h.1,(World.frozen?_of_block (a:=⟨R,5,none⟩) hR).trans h.2.1,Nat.lt_of_lt_of_le h.2.2 hs⟩
theorem PtS.gr {R L c:Nat} {A:Option Addr} {W W':World} (h:PtS R A L c W) (g:Gr W W'):PtS R A L c W':=h.kept g.size (Below.block g R h.2.2)
theorem icells_drop (L:List In) (m:Nat) (h:m≤L.length):icells (L.drop m)=(icells L).drop (m*4):=by
 have h1:icells (L.take m)++icells (L.drop m)=icells L:=by rw[←icells_append,List.take_append_drop]
 rw[←h1,List.drop_left' (by rw[icells_length,List.length_take];congr 1;omega)]
theorem icells_take (L:List In) (m:Nat) (h:m≤L.length):icells (L.take m)=(icells L).take (m*4):=by
 have h1:icells (L.take m)++icells (L.drop m)=icells L:=by rw[←icells_append,List.take_append_drop]
 rw[←h1,List.take_left' (by rw[icells_length,List.length_take];congr 1;omega)]
theorem Ri.drop {w:World} {A:Option Addr} {L:List In} (h:Ri w A L) {m c:Nat} (hm:m≤L.length) (hc:L.length≤c):Rd w 4 (if c=m then A else A.map fun ad=>ad.add (m*4)) (L.length-m) (icells (L.drop m)):=by
 refine ⟨by rw[icells_length,List.length_drop],fun h0=>?_⟩
 rw[if_neg (by omega)]
 obtain ⟨ad,e,hb,hc⟩:=h.2 (by omega)
 subst e
 refine ⟨ad.add (m*4),rfl,by rw[add_blk];exact hb,fun j u hu=>?_⟩
 rw[icells_drop L m hm,List.getElem?_drop] at hu
 rw[add_two]
 exact hc _ u hu
theorem Ri.takes {w:World} {A:Option Addr} {L:List In} (h:Ri w A L) {m:Nat} (hm:m≤L.length):Rd w 4 A m (icells (L.take m)):=by
 refine ⟨by rw[icells_length,List.length_take];congr 1;omega,fun h0=>?_⟩
 obtain ⟨ad,e,hb,hc⟩:=h.2 (by omega)
 refine ⟨ad,e,hb,fun j u hu=>?_⟩
 rw[icells_take L m hm] at hu
 rw[List.getElem?_take] at hu
 split at hu
 ·
  exact hc j u hu
 ·
  cases hu
theorem Sm.drop {l:List In} (h:Sm l) (m:Nat):Sm (l.drop m):=fun v hv=>h v (List.mem_of_mem_drop hv)
theorem RfW.row' {w:World} {R n d e g k:Nat} {s:ByteArray} {A:Option Addr} {code:List In} (h:RfW w R s n d e g A code) {cs:Array Value} (hR:k≠R) (hk:blk A≠some k):RfW (w.setRow k cs) R s n d e g A code:=
 h.kept (by simp) (setRow_other w k R cs (by omega)) fun j hj=>setRow_other w k j cs (fun e=>hk (by rw[hj];congr 1))
structure CQ (R:Nat) (w0:World) (G:Bs) (s:ByteArray) (n d e g:Nat) (A:Option Addr) (code:List In) (W:World):Prop where
 x:GX R w0 W
 b:SetQ W w0.heap.size noB
 a:SetQ W (w0.heap.size+1) G
 r:RfW W R s n d e g A code
section
variable {R n d e g:Nat} {w0:World} {G:Bs} {s:ByteArray} {A:Option Addr} {code:List In} {W W':World}
theorem CQ.gr (h:CQ R w0 G s n d e g A code W) (k:Gr W W'):CQ R w0 G s n d e g A code W':=⟨h.x.trans (GX.of_gr k),h.b.gr k,h.a.gr k,h.r.gr k⟩
theorem CQ.rd (h:CQ R w0 G s n d e g A code W) (x:GX R W W') {n':Nat} (r:RfW W' R s n' d e g A code) (hR:R<w0.heap.size):CQ R w0 G s n' d e g A code W':=⟨h.x.trans x,h.b.gx x (by omega),h.a.gx x (by omega),r⟩
theorem CQ.cell (h:CQ R w0 G s n d e g A code W) (hR:R<w0.heap.size) {H:Bs} (i:Nat) (v:Bool) (hA:∀k,blk A=some k→k<w0.heap.size) (hH:∀j,j<256→(bif j==i then v else G j)=H j):CQ R w0 H s n d e g A code (W.setCell ⟨w0.heap.size+1,i,none⟩ (.bool v)):=
 ⟨h.x.setCell (.inr (by show w0.heap.size≤w0.heap.size+1;omega)) _,h.b.other (by show w0.heap.size≠w0.heap.size+1;omega) _,(h.a.set i v).eq hH,h.r.kept (by simp) (heap_setCell_other W _ R _ (by show R≠w0.heap.size+1;omega)) fun k hk=>heap_setCell_other W _ k _ (by have:=hA k hk;show k≠w0.heap.size+1;omega)⟩
end
theorem RfW.n {w:World} {R n d e g:Nat} {s:ByteArray} {A:Option Addr} {code:List In} (h:RfW w R s n d e g A code):rdN R w=n:=by
 obtain ⟨c,h⟩:=h
 unfold rdN;rw[h.c1];simp[intOf]
def RetK (w:World) (R:Nat) (s:ByteArray) (d e g:Nat) (A:Option Addr) (code:List In) (T:Option Bs×List UInt8) (x:Ending) (w':World):Prop:=
 ∃f n',x= .returned (.tuple #[.agg (bsA f), .bool T.1.isSome])∧RfW w' R s n' d e g A code∧GX R w w'∧n'≤s.size+1∧(∀F,T.1=some F→f=F∧s.data.toList.drop n'=T.2∧n'≤s.size)
def bytesS (c:Nat) (r:List UInt8):Option Bs×List UInt8:=
 bif c==46 then (some (notB (oneB 10)),r) else bif c==91 then classS r else bif c==92 then escS r else bif spcB c then (none,r) else (some (oneB c),r)
theorem CQ.start {w:World} {R n d e g:Nat} {s:ByteArray} {A:Option Addr} {code:List In} (h:RfW w R s n d e g A code):CQ R w noB s n d e g A code ((w.alloc (Obj.cells (bsA noB) 178)).alloc (Obj.cells (bsA noB) 178)):=by
 have g:Gr w ((w.alloc (Obj.cells (bsA noB) 178)).alloc (Obj.cells (bsA noB) 178)):=Gr.alloc (Gr.alloc (Gr.refl _) _) _
 refine ⟨GX.of_gr g,(SetQ.new w noB).gr (Gr.alloc (Gr.refl _) _),?_,h.gr g⟩
 have:=SetQ.new (w.alloc (Obj.cells (bsA noB) 178)) noB
 simpa using this
theorem rset_plain {w:World} {R n d e g:Nat} {s:ByteArray} {A:Option Addr} {code:List In} (h:RfW w R s n d e g A code) (hs:(s.size:Int)≤4096) (hn:n<s.size) (h46:s[n].toNat≠46) (h91:s[n].toNat≠91) (h92:s[n].toNat≠92) (hsp:spcB (s[n].toNat)=false):Calls Tryz.prog 158 #[.pointer (some ⟨R,0,none⟩)] w (RetK w R s d e g A code (some (oneB s[n].toNat),s.data.toList.drop (n+1))):=by
 have HSP:Hid (∀W,Calls Tryz.prog 164 #[.int .u8 s[n].toNat] W fun x w'=>x= .returned (.bool false)∧W=w'):=Lib.hid fun W=>by
  have t:=special_any (s[n].toNat) (s[n].toNat_lt) W
  rw[hsp] at t
  exact t
 clear hsp
 have hc:s[n].toNat<256:=s[n].toNat_lt
 have hc3:((s[n].toNat:Nat):Int)<256:=by omega
 have hRw:=h.lt
 have hAw:∀k,blk A=some k→k<w.heap.size:=fun k hk=>(h.row k hk).2
 obtain ⟨hz0,hsz0⟩:=zero_of_info info_arr
 have C0:CQ R w noB s n d e g A code ((w.alloc (Obj.cells (bsA noB) 178)).alloc (Obj.cells (bsA noB) 178)):=CQ.start h
 have hn3:(n:Int)<(s.size:Int):=by omega
 have hn4:(n:Int)<4096:=by omega
 have hq46:((s[n].toNat:Int)==46)=false:=by simp;omega
 have hq91:((s[n].toNat:Int)==91)=false:=by simp;omega
 have hq92:((s[n].toNat:Int)==92)=false:=by simp;omega
 clear h
 go_enter Tryz.func158,Tryz.ntmps158
 go_upto_region 2 with (fail)
 generalize ((w.alloc (Obj.cells (bsA noB) 178)).alloc (Obj.cells (bsA noB) 178))=w1 at C0 ⊢
 have hz:R<w1.heap.size:=C0.r.lt
 obtain ⟨cc1,hc1⟩:=id C0.r
 obtain ⟨c0,c1⟩:=And.intro hc1.c0 hc1.c1
 clear hc1
 refine region_Q (by kernel_rfl) (by kernel_rfl) ?_
 iterate 3 (refine qv ?_;simp only[Pu])
 refine q_val (v:=?qv59) (by rfl) (fun W hW=>?qh59) ?qr59
 case qh59=>have q0:=(Below.cell hW (p:=⟨R,0,none⟩) hz).trans c0;go_simp;rfl
 simp only[Pu]
 iterate 3 (refine qv ?_;simp only[Pu])
 refine q_val (v:=?qv63) (by rfl) (fun W hW=>?qh63) ?qr63
 case qh63=>have q1:=(Below.cell hW (p:=⟨R,1,none⟩) hz).trans c1;go_simp;rfl
 simp only[Pu]
 iterate 2 (refine qv ?_;simp only[Pu])
 refine wpQuiet_nil ?_
 intro w2 hw2
 have C2:=C0.gr hw2
 clear C0 c0 c1 hw2 hz
 obtain ⟨cc2,hc2⟩:=id C2.r
 obtain ⟨c1,f1⟩:=And.intro hc2.c1 hc2.f1
 clear hc2
 go_upto_region 23 with (go_at_call 164;refine (HSP.out _).mono ?_;rintro x w9 ⟨rfl,rfl⟩)
 have C3:=C2.rd (GX.setCell (p:=⟨R,1,none⟩) (GX.refl R w2) (.inl rfl) (.int .i64 ((n:Int)+1))) (by have t:=C2.r.setAt (n+1);rwa [show ((n+1:Nat):Int)=(n:Int)+1 by omega] at t) hRw
 clear C2 c1 f1
 generalize w2.setCell ⟨R,1,none⟩ (.int .i64 ((n:Int)+1))=w3 at C3 ⊢
 have hcell:=C3.a.cell hc
 have hf:=C3.a.free s[n].toNat
 simp only[noB] at hcell
 go_upto_region 24 with (fail)
 have C7:CQ R w (oneB s[n].toNat) s (n+1) d e g A code (w3.setCell ⟨w.heap.size+1,s[n].toNat,none⟩ (.bool true)):=C3.cell hRw s[n].toNat true hAw fun j _=>by simp only[oneB,noB];cases (j==s[n].toNat)<;>rfl
 generalize w3.setCell ⟨w.heap.size+1,s[n].toNat,none⟩ (.bool true)=w7 at C7 ⊢
 clear C3 hcell hf
 go_wp2_with (first
  | (refine wpList_load_row rfl 178 (.tmp 4) rfl ((w.heap.size+1)) rfl _ (bsA (oneB s[n].toNat)) (0,0) _ C7.a und_arr rfl (size_bsQ _) ?_)
  | (refine wpList_store_row rfl 178 (.tmp 2) (.tmp 77) rfl (w.heap.size) (bsA (oneB s[n].toNat)) rfl rfl _ _ C7.b (size_bsQ _) (by simp only[bsA_size]) (bsA_one _) ?_))
 refine bodyPost_ret (v:= .tuple #[.agg (bsA (oneB s[n].toNat)), .bool true]) (res_arr2 _ 2 3 (by kernel_rfl) _ _ w.heap.size _ _ rfl rfl (SetQ.row C7.b)) rfl ?_
 exact ⟨_,n+1,rfl,C7.r.row' (by omega) (fun e=>by have:=hAw _ e;omega),C7.x.setRow (.inr (Nat.le_refl _)) _,by omega,fun F hF=>by injection hF with hF;exact ⟨hF,rfl,by omega⟩⟩
def errE (q:Rs):Nat:=bif q.over then 12 else bif q.bad then 8 else 0
def RfS (w:World) (R:Nat) (s:ByteArray) (n:Nat) (q:Rs) (A:Option Addr) (code:List In):Prop:=
 RfW w R s n q.deep 0 q.groups A code∧s.data.toList.drop n=q.rest∧n≤s.size
def RetR (w:World) (R:Nat) (s:ByteArray) (q:Rs) (A:Option Addr) (code:List In) (p:Pc) (q':Rs) (x:Ending) (w':World):Prop:=
 x= .returned (.tuple #[])∧∃n' d' g' A' code',RfW w' R s n' d' (errE q') g' A' code'∧WX R w (blk A) w' (blk A')∧
  (code.length≤code'.length∧code'.length+2*(bif q'.bad then 0 else q'.rest.length)≤code.length+2*q.rest.length)∧
  (q'.bad=false→q'.over=false∧code'=code++p.lay code.length∧s.data.toList.drop n'=q'.rest∧n'≤s.size∧d'=q'.deep∧g'=q'.groups)
theorem RfS.gr {w w':World} {R n:Nat} {s:ByteArray} {q:Rs} {A:Option Addr} {code:List In} (h:RfS w R s n q A code) (g:Gr w w'):RfS w' R s n q A code:=⟨h.1.gr g,h.2⟩
theorem WX.of_gx {B:Nat} {w w':World} (h:GX B w w') (g:Option Nat):WX B w g w' g:=⟨h.os,h.tape,h.output,h.size,fun k hk hn _=>h.block k hk hn,fun _ h=> .inl h⟩
theorem ratom_some {w:World} {R n:Nat} {s:ByteArray} {A:Option Addr} {code:List In} {q:Rs} (h:RfS w R s n q A code) (hs:(s.size:Int)≤4096) {c:UInt8} {r:List UInt8} (hq:q.rest=c::r) (h40:c.toNat≠40) (h94:c.toNat≠94) (h36:c.toNat≠36) (hqb:q.over=false∧q.bad=false) (hb:code.length≤4000) {F:Bs} {t:List UInt8} (hT:bytesS c.toNat r=(some F,t)) (ht:t.length≤r.length) (HS0:∀W,RfW W R s n q.deep 0 q.groups A code→n<s.size→Calls Tryz.prog 158 #[.pointer (some ⟨R,0,none⟩)] W (RetK W R s q.deep 0 q.groups A code (some F,t))):Calls Tryz.prog 147 #[.pointer (some ⟨R,0,none⟩)] w (RetR w R s q A code ((setS q (some F,t)).1) ((setS q (some F,t)).2)):=by
 have HS1:=Lib.hid HS0
 clear HS0
 obtain ⟨hz0,hsz0⟩:=zero_of_info info_arr
 obtain ⟨h,hd, -⟩:=h
 have hl0:n<s.data.toList.length:=by
  rcases Nat.lt_or_ge n s.data.toList.length with h1|h1
  ·
   exact h1
  ·
   rw[List.drop_eq_nil_of_le h1,hq] at hd;cases hd
 have hn:n<s.size:=by simpa using hl0
 rw[List.drop_eq_getElem_cons hl0,hq] at hd
 have hcr:s[n]=c∧s.data.toList.drop (n+1)=r:=by injection hd with a b;exact ⟨a,b⟩
 obtain ⟨rfl,hdr⟩:=hcr
 have hn3:(n:Int)<(s.size:Int):=by omega
 have hn4:(n:Int)<4096:=by omega
 clear hd hl0
 have hq40:((s[n].toNat:Int)==40)=false:=by simp;omega
 have hq94:((s[n].toNat:Int)==94)=false:=by simp;omega
 have hq36:((s[n].toNat:Int)==36)=false:=by simp;omega
 go_enter Tryz.func147,Tryz.ntmps147
 go_upto_region 0 with (fail)
 have hz:R<w.heap.size:=h.lt
 obtain ⟨cc1,hc1⟩:=id h
 obtain ⟨c0,c1⟩:=And.intro hc1.c0 hc1.c1
 clear hc1
 refine region_Q (by kernel_rfl) (by kernel_rfl) ?_
 iterate 3 (refine qv ?_;simp only[Pu])
 refine q_val (v:=?qv59) (by rfl) (fun W hW=>?qh59) ?qr59
 case qh59=>have q0:=(Below.cell hW (p:=⟨R,0,none⟩) hz).trans c0;go_simp;rfl
 simp only[Pu]
 iterate 3 (refine qv ?_;simp only[Pu])
 refine q_val (v:=?qv63) (by rfl) (fun W hW=>?qh63) ?qr63
 case qh63=>have q1:=(Below.cell hW (p:=⟨R,1,none⟩) hz).trans c1;go_simp;rfl
 simp only[Pu]
 iterate 2 (refine qv ?_;simp only[Pu])
 refine wpQuiet_nil ?_
 intro w2 hw2
 have h2:=h.gr hw2
 clear c0 c1 hz
 have HS:=Lib.hid (fun (W:World) (hW:RfW W R s n q.deep 0 q.groups A code)=>HS1.out W hW hn)
 clear HS1
 clear hT
 have hrow:=fun k hk=>(h2.row k hk).2
 go_upto_region 12 with (first
  | (go_at_call 158;refine (HS.out _ h2).mono ?_;rintro x w5 ⟨f,n',rfl,h5,x5,hn',hF⟩;have y5:WX R w (blk A) w5 (blk A):=(WX.gr (blk A) hw2).trans (WX.of_gx x5 _);have HFF:=Lib.hid hF;clear hF)
  | (refine wpList_store_row rfl 178 (.tmp 3) (.tmp 48) rfl w5.heap.size (bsA f) rfl rfl _ _ (SetQ.new w5 noB) (size_bsQ _) (by simp only[bsA_size]) (bsA_one _) ?_;have g6:Gr w5 ((w5.alloc (.cells (bsA noB) 178)).setRow w5.heap.size (bsA f)):=Gr.setRow (Gr.alloc (Gr.refl w5) (.cells (bsA noB) 178)) (g:=w5.heap.size) (Nat.le_refl _) (bsA f);have h6:=h5.gr g6;have y6:=y5.trans (WX.gr (blk A) g6);have hX6:SetQ ((w5.alloc (.cells (bsA noB) 178)).setRow w5.heap.size (bsA f)) w5.heap.size f:=SetQ.row (SetQ.new w5 noB)))
 clear x5 h5 y5 g6 h2 h hw2
 generalize (w5.alloc (.cells (bsA noB) 178)).setRow w5.heap.size (bsA f)=w6 at h6 hX6 y6 ⊢
 generalize w5.heap.size=gx at hX6 ⊢
 obtain ⟨hfF,hdt,hn9⟩:=HFF.out F rfl
 subst hfF
 clear HFF
 have Hb:=Lib.hid hb
 clear hb
 go_wp2_with (first
  | (refine wpList_load_row rfl 178 (.tmp 3) rfl (gx) rfl _ (bsA f) (0,0) _ hX6 und_arr rfl (size_bsQ _) ?_)
  | (go_at_call 159;refine (rpairs_any f _).mono ?_;rintro x w8 ⟨rfl,g8⟩;have h8:=h6.gr g8;have y8:=y6.trans (WX.gr (blk A) g8))
  | (go_at_call 92;refine (rlay_any h8 1 0 0 (pairsS f) Hb.out).mono ?_;rintro x w9 ⟨rfl,A',k1,k2⟩))
 go_end0
 refine ⟨rfl,n',_,_,A',_,by simp only[errE,setS,hqb.1,hqb.2,cond_false];exact k1,y8.trans k2,⟨by simp[Pc.lay],by simp[setS,hq,hqb.2,Pc.lay];omega⟩,fun _=>⟨hqb.1,rfl,hdt,hn9,rfl,rfl⟩⟩
theorem Sm.app {l m:List In} (h:Sm l) (k:Sm m):Sm (l++m):=fun v hv=>by
 rcases List.mem_append.1 hv with h1|h1
 ·
  exact h v h1
 ·
  exact k v h1
theorem Sm.cons {v:In} {l:List In} (hv: -100000≤v.x∧v.x≤100000∧ -100000≤v.y∧v.y≤100000) (h:Sm l):Sm (v::l):=fun u hu=>by
 rcases List.mem_cons.1 hu with rfl|h1
 ·
  exact hv
 ·
  exact h u h1
theorem Sm.nil:Sm []:=fun v hv=>by cases hv
theorem split_sm (z:Bool) (x y:Int) (hx: -100000≤x∧x≤100000) (hy: -100000≤y∧y≤100000): -100000≤(splitI z x y).x∧(splitI z x y).x≤100000∧ -100000≤(splitI z x y).y∧(splitI z x y).y≤100000:=by
 cases z<;>simp[splitI]<;>omega
mutual
theorem Pc.lay_sm:∀(p:Pc),p.ok→∀a:Nat,a+p.sz≤50000→Sm (p.lay a)
 | .leaf op ps,h,a,ha=>by
  simp only[Pc.lay]
  exact Sm.cons ⟨by simp,by simp,by simp,by simp⟩ Sm.nil
 | .row l,h,a,ha=>by simp only[Pc.ok] at h;simp only[Pc.sz] at ha;simp only[Pc.lay];exact PcL.layR_sm l h.2 a ha
 | .ways l,h,a,ha=>by
  simp only[Pc.ok] at h
  simp only[Pc.sz] at ha
  simp only[Pc.lay]
  exact PcL.layW_sm l h.2.2 a _ ha ha
 | .group g p,h,a,ha=>by
  simp only[Pc.ok] at h
  simp only[Pc.lay]
  simp only[Pc.sz] at ha
  cases hg:(g==0)
  ·
   rw[hg] at ha
   simp only[cond_false] at ha ⊢
   have ih:=Pc.lay_sm p h.2 (a+1) (by omega)
   refine Sm.cons ?_ (Sm.app ih (Sm.cons ?_ Sm.nil))<;>(simp only;omega)
  ·
   rw[hg] at ha
   simp only[cond_true] at ha ⊢
   exact Pc.lay_sm p h.2 a ha
 | .rep op z p,h,a,ha=>by
  simp only[Pc.ok] at h
  simp only[Pc.lay]
  simp only[Pc.sz] at ha
  cases h1:(op==42)
  ·
   rw[h1] at ha
   simp only[cond_false] at ha ⊢
   cases (op==43)
   ·
    simp only[cond_false]
    exact Sm.cons (split_sm _ _ _ (by omega) (by omega)) (Pc.lay_sm p h.2 (a+1) (by omega))
   ·
    simp only[cond_true]
    exact Sm.app (Pc.lay_sm p h.2 a (by omega)) (Sm.cons (split_sm _ _ _ (by omega) (by omega)) Sm.nil)
  ·
   rw[h1] at ha
   simp only[cond_true] at ha ⊢
   exact Sm.cons (split_sm _ _ _ (by omega) (by omega)) (Sm.app (Pc.lay_sm p h.2 (a+1) (by omega)) (Sm.cons (by simp only;omega) Sm.nil))
theorem PcL.layR_sm:∀(l:PcL),l.ok→∀a:Nat,a+l.szR≤50000→Sm (l.layR a)
 | .nil,h,a,ha=>Sm.nil
 | .cons p l,h,a,ha=>by
  simp only[PcL.ok] at h
  simp only[PcL.szR] at ha
  simp only[PcL.layR]
  exact Sm.app (Pc.lay_sm p h.1 a (by omega)) (PcL.layR_sm l h.2 (a+p.sz) (by omega))
theorem PcL.layW_sm:∀(l:PcL),l.ok→∀a e:Nat,a+l.szW≤50000→e≤50000→Sm (l.layW a e)
 | .nil,h,a,e,ha,he=>Sm.nil
 | .cons p .nil,h,a,e,ha,he=>by
  simp only[PcL.ok] at h
  simp only[PcL.szW] at ha
  simp only[PcL.layW]
  exact Pc.lay_sm p h.1 a ha
 | .cons p (.cons q l),h,a,e,ha,he=>by
  have h':=h
  simp only[PcL.ok] at h
  simp only[PcL.szW] at ha
  simp only[PcL.layW]
  have ih:=PcL.layW_sm (.cons q l) (by simp only[PcL.ok];exact h.2) (a+p.sz+2) e (by omega) he
  exact Sm.cons (by simp only;omega) (Sm.app (Pc.lay_sm p h.1 (a+1) (by omega)) (Sm.cons (by simp only;omega) ih))
end
def Cd (l:List In):Prop:=Sm l∧0<l.length
theorem Cd.lay {l:List In} (h:Cd l) {p:Pc} (hp:p.ok) (hb:l.length+p.sz≤50000):Cd (l++p.lay l.length):=⟨h.1.app (Pc.lay_sm p hp _ hb),by have:=h.2;simp;omega⟩
theorem Ri.wx {w w':World} {R:Nat} {g g':Option Nat} {A2:Option Addr} {l:List In} (h:Ri w A2 l) (x:WX R w g w' g') (hn:∀ad,A2=some ad→ad.block≠R∧g≠some ad.block):Ri w' A2 l:=by
 refine ⟨h.1,fun h0=>?_⟩
 obtain ⟨ad,e,hb,hc⟩:=h.2 h0
 obtain ⟨n1,n2⟩:=hn ad e
 refine ⟨ad,e,Nat.lt_of_lt_of_le hb x.size,fun j v hv=>?_⟩
 rw[←hc j v hv]
 exact World.cell?_of_block (by rw[add_blk];exact x.block _ hb n1 n2)
end Go.Proofs.YtnphdacibageiaaGreat
