import Derived.Test.YtjapddfnpmlifaaGreatDoorRunRfBase
import Derived.Test.YtjapddfnpmlifaaGreatDoorRunFxBase
set_option linter.all false
set_option maxRecDepth 1000000
set_option maxHeartbeats 12800000
namespace Go.Proofs.YtjapddfnpmlifaaGreatDoor
open Go.RowKit
theorem SetQ.grown {w w':World} {g:Nat} {f:Bs} {row:Option Nat} (h:SetQ w g f) (x:w.grownBy w' row) (hn:some g≠row):SetQ w' g f:=(x.block g h.lt hn).trans h
theorem rpairs_any (f:Bs) (w:World) :
  Calls Tryz.prog 151 #[.agg (bsA f)] w λe w'=>e= .returned (.string ⟨(pairsS f).toArray⟩)/\Gr w w':=by
 obtain ⟨i0,hi,hz0,hz1,hz2⟩:=info_parts info_u8;have g0:Gr w (w.alloc (Obj.cells (bsA f) 215)):=gq;have s0:SetQ (w.alloc (Obj.cells (bsA f) 215)) w.heap.size f:=SetQ.new w f;go_enter Tryz.func151,Tryz.ntmps151;go_wp2;generalize (w.alloc (Obj.cells (bsA f) 215))=w0 at g0 s0 ⊢
 go_loopw [3,4] (λv i wr=>∃k:Nat,k<=256/\i= .int .i64 k/\Gr w wr/\SetQ wr w.heap.size f/\wr.ownsRow (w.heap.size+1) 5 1 v (pairsT f k).length (bcells (pairsT f k))) (λ_ i _=>256-(intOf i).toNat)
 case atStart=>exact ⟨0,by omega,rfl,g0,s0,World.ownsRow_nil _ _ _ _⟩
 case round=>
  clear g0 s0;obtain ⟨k,hk,rfl,hgr,hs,hown⟩:=hrel;have hle:=pairsT_len f k;by_cases hlt:k<256
  ·have hcell:=hs.cell hlt;have h3:(k:Int)<256:=by omega
   cases hb:f k;case false=>
    rw[hb] at hcell;have HN:=Lib.hid (pairsT_no hb);clear hb;go_wp2;go_roundw;case rel=>exact ⟨k+1,by omega,by go_num,hgr,hs,by rw[HN.out];exact hown⟩
    case measure=>simp[intOf];omega
   rw[hb] at hcell;have HP:=λs e=>pairsT_in (s:=s) (e:=e) hb;have hB:=Lib.hid hb;clear hb;by_cases hK0:k=0
   ·by_cases hK2:k=255
    ·omega
    cases hN:f (k+1)
    ·have hk0:((k:Int)==0)=true:=beq_iff_eq.2 (by omega);have hk2:((k:Int)==255)=false:=beq_eq_false_iff_ne.2 (by omega);have hk3:(k:Int)<=254:=by omega
     have hcn:=hs.cell (i:=k+1) (by omega);rw[hN] at hcn;have HPN:=Lib.hid (HP true true (by simp[hK0]) (by simp[hN,hK2]));clear HP hK0 hK2;have HN:=Lib.hid hN;clear hN;have hm1:=Lib.hid (show (pairsT f k).length+1<=maxLen by unfold maxLen;omega);have hm2:=Lib.hid (show (pairsT f k).length+1+1<=maxLen by unfold maxLen;omega);have hn1:=Lib.hid (show ((pairsT f k).length+1)*1<=140737488355328 by omega);have hn2:=Lib.hid (show ((pairsT f k).length+1+1)*1<=140737488355328 by omega);have hb1:=Lib.hid (show w.heap.size+1<=wr.heap.size from hs.lt);go_wp2_with (first
      | (
        at_builtin
        refine wpList_append_rd rfl (.tmp 23) (.tmp 26) 85 rfl (w.heap.size+1) 5 i0 _ 1 1 und_bytes hi hz0 hz1 hz2 rfl (by decide) _ _ _ rfl (hown.alloc _) (some ⟨wr.heap.size,0,none⟩) 1 _ [.int .u8 k] rfl (Rd.byte rfl 5 _) (one1 _) hm1.out hn1.out (Nat.le_trans hb1.out (Nat.le_of_lt (by simp))) ?_;intro v1 w1 hown1 hgr1 hat1;have hl1:=hown.lt;have gg1:Gr w w1:=Gr.grown (Gr.alloc hgr _) hgr1 (λj hj=>by have:=(hl1 j hj).1;omega);have ss1:SetQ w1 w.heap.size f:=(hs.gr (Gr.alloc (Gr.refl _) _)).grown hgr1 (λe=>by have:=(hl1 _ e.symm).1;omega);have hb2:=Lib.hid (Nat.le_trans hb1.out (Nat.le_trans (Nat.le_of_lt (by simp)) hgr1.size));have hcell1:=ss1.cell hlt;rw[hB.out] at hcell1;have hcn1:=ss1.cell (i:=k+1) (by omega);rw[HN.out] at hcn1;clear hgr1 hat1 hl1 hown hs hgr)
      | (
        at_builtin
        refine wpList_append_rd rfl (.tmp 42) (.tmp 45) 85 rfl (w.heap.size+1) 5 i0 _ 1 1 und_bytes hi hz0 hz1 hz2 rfl (by decide) _ _ _ rfl (hown1.alloc _) (some ⟨w1.heap.size,0,none⟩) 1 _ [.int .u8 k] rfl (Rd.byte rfl 5 _) (one1 _) hm2.out hn2.out (Nat.le_trans hb2.out (Nat.le_of_lt (by simp))) ?_;intro v2 w2 hown2 hgr2 hat2;have hl2:=hown1.lt;have gg2:Gr w w2:=Gr.grown (Gr.alloc gg1 _) hgr2 (λj hj=>by have:=(hl2 j hj).1;omega);have ss2:SetQ w2 w.heap.size f:=(ss1.gr (Gr.alloc (Gr.refl _) _)).grown hgr2 (λe=>by have:=(hl2 _ e.symm).1;omega);have hb3:=Lib.hid (Nat.le_trans hb2.out (Nat.le_trans (Nat.le_of_lt (by simp)) hgr2.size));have hcell2:=ss2.cell hlt;rw[hB.out] at hcell2;clear hgr2 hat2 hl2 hown1 ss1 gg1))
     go_roundw;case rel=>exact ⟨k+1,by omega,by go_num,gg2,ss2,by rw[HPN.out];simpa only[cond_true,cond_false,List.length_append,List.length_cons,List.length_nil,List.append_nil,List.nil_append,bcells_append,byteCell hlt,List.append_assoc,Nat.zero_add,Nat.add_zero,Nat.add_assoc] using hown2⟩
     case measure=>simp[intOf];omega
    ·have hk0:((k:Int)==0)=true:=beq_iff_eq.2 (by omega);have hk2:((k:Int)==255)=false:=beq_eq_false_iff_ne.2 (by omega);have hk3:(k:Int)<=254:=by omega
     have hcn:=hs.cell (i:=k+1) (by omega);rw[hN] at hcn;have HPN:=Lib.hid (HP true false (by simp[hK0]) (by simp[hN,hK2]));clear HP hK0 hK2;have HN:=Lib.hid hN;clear hN;have hm1:=Lib.hid (show (pairsT f k).length+1<=maxLen by unfold maxLen;omega);have hm2:=Lib.hid (show (pairsT f k).length+1+1<=maxLen by unfold maxLen;omega);have hn1:=Lib.hid (show ((pairsT f k).length+1)*1<=140737488355328 by omega);have hn2:=Lib.hid (show ((pairsT f k).length+1+1)*1<=140737488355328 by omega);have hb1:=Lib.hid (show w.heap.size+1<=wr.heap.size from hs.lt);go_wp2_with (first
      | (
        at_builtin
        refine wpList_append_rd rfl (.tmp 23) (.tmp 26) 85 rfl (w.heap.size+1) 5 i0 _ 1 1 und_bytes hi hz0 hz1 hz2 rfl (by decide) _ _ _ rfl (hown.alloc _) (some ⟨wr.heap.size,0,none⟩) 1 _ [.int .u8 k] rfl (Rd.byte rfl 5 _) (one1 _) hm1.out hn1.out (Nat.le_trans hb1.out (Nat.le_of_lt (by simp))) ?_;intro v1 w1 hown1 hgr1 hat1;have hl1:=hown.lt;have gg1:Gr w w1:=Gr.grown (Gr.alloc hgr _) hgr1 (λj hj=>by have:=(hl1 j hj).1;omega);have ss1:SetQ w1 w.heap.size f:=(hs.gr (Gr.alloc (Gr.refl _) _)).grown hgr1 (λe=>by have:=(hl1 _ e.symm).1;omega);have hb2:=Lib.hid (Nat.le_trans hb1.out (Nat.le_trans (Nat.le_of_lt (by simp)) hgr1.size));have hcell1:=ss1.cell hlt;rw[hB.out] at hcell1;have hcn1:=ss1.cell (i:=k+1) (by omega);rw[HN.out] at hcn1;clear hgr1 hat1 hl1 hown hs hgr))
     go_roundw;case rel=>exact ⟨k+1,by omega,by go_num,gg1,ss1,by rw[HPN.out];simpa only[cond_true,cond_false,List.length_append,List.length_cons,List.length_nil,List.append_nil,List.nil_append,bcells_append,byteCell hlt,List.append_assoc,Nat.zero_add,Nat.add_zero,Nat.add_assoc] using hown1⟩
     case measure=>simp[intOf];omega
   cases hP:f (k-1)
   ·by_cases hK2:k=255
    ·have hk0:((k:Int)==0)=false:=beq_eq_false_iff_ne.2 (by omega);have hk1:1<=(k:Int):=by omega
     have hcp:=hs.cell (i:=k-1) (by omega);rw[hP] at hcp;have hk2:((k:Int)==255)=true:=beq_iff_eq.2 (by omega);have HPN:=Lib.hid (HP true true (by simp[hP,hK0]) (by simp[hK2]));clear HP hK0 hK2 hP;have hm1:=Lib.hid (show (pairsT f k).length+1<=maxLen by unfold maxLen;omega);have hm2:=Lib.hid (show (pairsT f k).length+1+1<=maxLen by unfold maxLen;omega);have hn1:=Lib.hid (show ((pairsT f k).length+1)*1<=140737488355328 by omega);have hn2:=Lib.hid (show ((pairsT f k).length+1+1)*1<=140737488355328 by omega);have hb1:=Lib.hid (show w.heap.size+1<=wr.heap.size from hs.lt);go_wp2_with (first
      | (
        at_builtin
        refine wpList_append_rd rfl (.tmp 23) (.tmp 26) 85 rfl (w.heap.size+1) 5 i0 _ 1 1 und_bytes hi hz0 hz1 hz2 rfl (by decide) _ _ _ rfl (hown.alloc _) (some ⟨wr.heap.size,0,none⟩) 1 _ [.int .u8 k] rfl (Rd.byte rfl 5 _) (one1 _) hm1.out hn1.out (Nat.le_trans hb1.out (Nat.le_of_lt (by simp))) ?_;intro v1 w1 hown1 hgr1 hat1;have hl1:=hown.lt;have gg1:Gr w w1:=Gr.grown (Gr.alloc hgr _) hgr1 (λj hj=>by have:=(hl1 j hj).1;omega);have ss1:SetQ w1 w.heap.size f:=(hs.gr (Gr.alloc (Gr.refl _) _)).grown hgr1 (λe=>by have:=(hl1 _ e.symm).1;omega);have hb2:=Lib.hid (Nat.le_trans hb1.out (Nat.le_trans (Nat.le_of_lt (by simp)) hgr1.size));have hcell1:=ss1.cell hlt;rw[hB.out] at hcell1;clear hgr1 hat1 hl1 hown hs hgr)
      | (
        at_builtin
        refine wpList_append_rd rfl (.tmp 42) (.tmp 45) 85 rfl (w.heap.size+1) 5 i0 _ 1 1 und_bytes hi hz0 hz1 hz2 rfl (by decide) _ _ _ rfl (hown1.alloc _) (some ⟨w1.heap.size,0,none⟩) 1 _ [.int .u8 k] rfl (Rd.byte rfl 5 _) (one1 _) hm2.out hn2.out (Nat.le_trans hb2.out (Nat.le_of_lt (by simp))) ?_;intro v2 w2 hown2 hgr2 hat2;have hl2:=hown1.lt;have gg2:Gr w w2:=Gr.grown (Gr.alloc gg1 _) hgr2 (λj hj=>by have:=(hl2 j hj).1;omega);have ss2:SetQ w2 w.heap.size f:=(ss1.gr (Gr.alloc (Gr.refl _) _)).grown hgr2 (λe=>by have:=(hl2 _ e.symm).1;omega);have hb3:=Lib.hid (Nat.le_trans hb2.out (Nat.le_trans (Nat.le_of_lt (by simp)) hgr2.size));have hcell2:=ss2.cell hlt;rw[hB.out] at hcell2;clear hgr2 hat2 hl2 hown1 ss1 gg1))
     go_roundw;case rel=>exact ⟨k+1,by omega,by go_num,gg2,ss2,by rw[HPN.out];simpa only[cond_true,cond_false,List.length_append,List.length_cons,List.length_nil,List.append_nil,List.nil_append,bcells_append,byteCell hlt,List.append_assoc,Nat.zero_add,Nat.add_zero,Nat.add_assoc] using hown2⟩
     case measure=>simp[intOf];omega
    cases hN:f (k+1)
    ·have hk0:((k:Int)==0)=false:=beq_eq_false_iff_ne.2 (by omega);have hk1:1<=(k:Int):=by omega
     have hcp:=hs.cell (i:=k-1) (by omega);rw[hP] at hcp;have hk2:((k:Int)==255)=false:=beq_eq_false_iff_ne.2 (by omega);have hk3:(k:Int)<=254:=by omega
     have hcn:=hs.cell (i:=k+1) (by omega);rw[hN] at hcn;have HPN:=Lib.hid (HP true true (by simp[hP,hK0]) (by simp[hN,hK2]));clear HP hK0 hK2 hP;have HN:=Lib.hid hN;clear hN;have hm1:=Lib.hid (show (pairsT f k).length+1<=maxLen by unfold maxLen;omega);have hm2:=Lib.hid (show (pairsT f k).length+1+1<=maxLen by unfold maxLen;omega);have hn1:=Lib.hid (show ((pairsT f k).length+1)*1<=140737488355328 by omega);have hn2:=Lib.hid (show ((pairsT f k).length+1+1)*1<=140737488355328 by omega);have hb1:=Lib.hid (show w.heap.size+1<=wr.heap.size from hs.lt);go_wp2_with (first
      | (
        at_builtin
        refine wpList_append_rd rfl (.tmp 23) (.tmp 26) 85 rfl (w.heap.size+1) 5 i0 _ 1 1 und_bytes hi hz0 hz1 hz2 rfl (by decide) _ _ _ rfl (hown.alloc _) (some ⟨wr.heap.size,0,none⟩) 1 _ [.int .u8 k] rfl (Rd.byte rfl 5 _) (one1 _) hm1.out hn1.out (Nat.le_trans hb1.out (Nat.le_of_lt (by simp))) ?_;intro v1 w1 hown1 hgr1 hat1;have hl1:=hown.lt;have gg1:Gr w w1:=Gr.grown (Gr.alloc hgr _) hgr1 (λj hj=>by have:=(hl1 j hj).1;omega);have ss1:SetQ w1 w.heap.size f:=(hs.gr (Gr.alloc (Gr.refl _) _)).grown hgr1 (λe=>by have:=(hl1 _ e.symm).1;omega);have hb2:=Lib.hid (Nat.le_trans hb1.out (Nat.le_trans (Nat.le_of_lt (by simp)) hgr1.size));have hcell1:=ss1.cell hlt;rw[hB.out] at hcell1;have hcn1:=ss1.cell (i:=k+1) (by omega);rw[HN.out] at hcn1;clear hgr1 hat1 hl1 hown hs hgr)
      | (
        at_builtin
        refine wpList_append_rd rfl (.tmp 42) (.tmp 45) 85 rfl (w.heap.size+1) 5 i0 _ 1 1 und_bytes hi hz0 hz1 hz2 rfl (by decide) _ _ _ rfl (hown1.alloc _) (some ⟨w1.heap.size,0,none⟩) 1 _ [.int .u8 k] rfl (Rd.byte rfl 5 _) (one1 _) hm2.out hn2.out (Nat.le_trans hb2.out (Nat.le_of_lt (by simp))) ?_;intro v2 w2 hown2 hgr2 hat2;have hl2:=hown1.lt;have gg2:Gr w w2:=Gr.grown (Gr.alloc gg1 _) hgr2 (λj hj=>by have:=(hl2 j hj).1;omega);have ss2:SetQ w2 w.heap.size f:=(ss1.gr (Gr.alloc (Gr.refl _) _)).grown hgr2 (λe=>by have:=(hl2 _ e.symm).1;omega);have hb3:=Lib.hid (Nat.le_trans hb2.out (Nat.le_trans (Nat.le_of_lt (by simp)) hgr2.size));have hcell2:=ss2.cell hlt;rw[hB.out] at hcell2;clear hgr2 hat2 hl2 hown1 ss1 gg1))
     go_roundw;case rel=>exact ⟨k+1,by omega,by go_num,gg2,ss2,by rw[HPN.out];simpa only[cond_true,cond_false,List.length_append,List.length_cons,List.length_nil,List.append_nil,List.nil_append,bcells_append,byteCell hlt,List.append_assoc,Nat.zero_add,Nat.add_zero,Nat.add_assoc] using hown2⟩
     case measure=>simp[intOf];omega
    ·have hk0:((k:Int)==0)=false:=beq_eq_false_iff_ne.2 (by omega);have hk1:1<=(k:Int):=by omega
     have hcp:=hs.cell (i:=k-1) (by omega);rw[hP] at hcp;have hk2:((k:Int)==255)=false:=beq_eq_false_iff_ne.2 (by omega);have hk3:(k:Int)<=254:=by omega
     have hcn:=hs.cell (i:=k+1) (by omega);rw[hN] at hcn;have HPN:=Lib.hid (HP true false (by simp[hP,hK0]) (by simp[hN,hK2]));clear HP hK0 hK2 hP;have HN:=Lib.hid hN;clear hN;have hm1:=Lib.hid (show (pairsT f k).length+1<=maxLen by unfold maxLen;omega);have hm2:=Lib.hid (show (pairsT f k).length+1+1<=maxLen by unfold maxLen;omega);have hn1:=Lib.hid (show ((pairsT f k).length+1)*1<=140737488355328 by omega);have hn2:=Lib.hid (show ((pairsT f k).length+1+1)*1<=140737488355328 by omega);have hb1:=Lib.hid (show w.heap.size+1<=wr.heap.size from hs.lt);go_wp2_with (first
      | (
        at_builtin
        refine wpList_append_rd rfl (.tmp 23) (.tmp 26) 85 rfl (w.heap.size+1) 5 i0 _ 1 1 und_bytes hi hz0 hz1 hz2 rfl (by decide) _ _ _ rfl (hown.alloc _) (some ⟨wr.heap.size,0,none⟩) 1 _ [.int .u8 k] rfl (Rd.byte rfl 5 _) (one1 _) hm1.out hn1.out (Nat.le_trans hb1.out (Nat.le_of_lt (by simp))) ?_;intro v1 w1 hown1 hgr1 hat1;have hl1:=hown.lt;have gg1:Gr w w1:=Gr.grown (Gr.alloc hgr _) hgr1 (λj hj=>by have:=(hl1 j hj).1;omega);have ss1:SetQ w1 w.heap.size f:=(hs.gr (Gr.alloc (Gr.refl _) _)).grown hgr1 (λe=>by have:=(hl1 _ e.symm).1;omega);have hb2:=Lib.hid (Nat.le_trans hb1.out (Nat.le_trans (Nat.le_of_lt (by simp)) hgr1.size));have hcell1:=ss1.cell hlt;rw[hB.out] at hcell1;have hcn1:=ss1.cell (i:=k+1) (by omega);rw[HN.out] at hcn1;clear hgr1 hat1 hl1 hown hs hgr))
     go_roundw;case rel=>exact ⟨k+1,by omega,by go_num,gg1,ss1,by rw[HPN.out];simpa only[cond_true,cond_false,List.length_append,List.length_cons,List.length_nil,List.append_nil,List.nil_append,bcells_append,byteCell hlt,List.append_assoc,Nat.zero_add,Nat.add_zero,Nat.add_assoc] using hown1⟩
     case measure=>simp[intOf];omega
   ·by_cases hK2:k=255
    ·have hk0:((k:Int)==0)=false:=beq_eq_false_iff_ne.2 (by omega);have hk1:1<=(k:Int):=by omega
     have hcp:=hs.cell (i:=k-1) (by omega);rw[hP] at hcp;have hk2:((k:Int)==255)=true:=beq_iff_eq.2 (by omega);have HPN:=Lib.hid (HP false true (by simp[hP,hK0]) (by simp[hK2]));clear HP hK0 hK2 hP;have hm1:=Lib.hid (show (pairsT f k).length+1<=maxLen by unfold maxLen;omega);have hm2:=Lib.hid (show (pairsT f k).length+1+1<=maxLen by unfold maxLen;omega);have hn1:=Lib.hid (show ((pairsT f k).length+1)*1<=140737488355328 by omega);have hn2:=Lib.hid (show ((pairsT f k).length+1+1)*1<=140737488355328 by omega);have hb1:=Lib.hid (show w.heap.size+1<=wr.heap.size from hs.lt);have hb2:=hb1;have hm2:=hm1;have hn2:=hn1;go_wp2_with (first
      | (
        at_builtin
        refine wpList_append_rd rfl (.tmp 42) (.tmp 45) 85 rfl (w.heap.size+1) 5 i0 _ 1 1 und_bytes hi hz0 hz1 hz2 rfl (by decide) _ _ _ rfl (hown.alloc _) (some ⟨wr.heap.size,0,none⟩) 1 _ [.int .u8 k] rfl (Rd.byte rfl 5 _) (one1 _) hm2.out hn2.out (Nat.le_trans hb2.out (Nat.le_of_lt (by simp))) ?_;intro v2 w2 hown2 hgr2 hat2;have hl2:=hown.lt;have gg2:Gr w w2:=Gr.grown (Gr.alloc hgr _) hgr2 (λj hj=>by have:=(hl2 j hj).1;omega);have ss2:SetQ w2 w.heap.size f:=(hs.gr (Gr.alloc (Gr.refl _) _)).grown hgr2 (λe=>by have:=(hl2 _ e.symm).1;omega);have hb3:=Lib.hid (Nat.le_trans hb2.out (Nat.le_trans (Nat.le_of_lt (by simp)) hgr2.size));have hcell2:=ss2.cell hlt;rw[hB.out] at hcell2;clear hgr2 hat2 hl2 hown hs hgr))
     go_roundw;case rel=>exact ⟨k+1,by omega,by go_num,gg2,ss2,by rw[HPN.out];simpa only[cond_true,cond_false,List.length_append,List.length_cons,List.length_nil,List.append_nil,List.nil_append,bcells_append,byteCell hlt,List.append_assoc,Nat.zero_add,Nat.add_zero,Nat.add_assoc] using hown2⟩
     case measure=>simp[intOf];omega
    cases hN:f (k+1)
    ·have hk0:((k:Int)==0)=false:=beq_eq_false_iff_ne.2 (by omega);have hk1:1<=(k:Int):=by omega
     have hcp:=hs.cell (i:=k-1) (by omega);rw[hP] at hcp;have hk2:((k:Int)==255)=false:=beq_eq_false_iff_ne.2 (by omega);have hk3:(k:Int)<=254:=by omega
     have hcn:=hs.cell (i:=k+1) (by omega);rw[hN] at hcn;have HPN:=Lib.hid (HP false true (by simp[hP,hK0]) (by simp[hN,hK2]));clear HP hK0 hK2 hP;have HN:=Lib.hid hN;clear hN;have hm1:=Lib.hid (show (pairsT f k).length+1<=maxLen by unfold maxLen;omega);have hm2:=Lib.hid (show (pairsT f k).length+1+1<=maxLen by unfold maxLen;omega);have hn1:=Lib.hid (show ((pairsT f k).length+1)*1<=140737488355328 by omega);have hn2:=Lib.hid (show ((pairsT f k).length+1+1)*1<=140737488355328 by omega);have hb1:=Lib.hid (show w.heap.size+1<=wr.heap.size from hs.lt);have hb2:=hb1;have hm2:=hm1;have hn2:=hn1;go_wp2_with (first
      | (
        at_builtin
        refine wpList_append_rd rfl (.tmp 42) (.tmp 45) 85 rfl (w.heap.size+1) 5 i0 _ 1 1 und_bytes hi hz0 hz1 hz2 rfl (by decide) _ _ _ rfl (hown.alloc _) (some ⟨wr.heap.size,0,none⟩) 1 _ [.int .u8 k] rfl (Rd.byte rfl 5 _) (one1 _) hm2.out hn2.out (Nat.le_trans hb2.out (Nat.le_of_lt (by simp))) ?_;intro v2 w2 hown2 hgr2 hat2;have hl2:=hown.lt;have gg2:Gr w w2:=Gr.grown (Gr.alloc hgr _) hgr2 (λj hj=>by have:=(hl2 j hj).1;omega);have ss2:SetQ w2 w.heap.size f:=(hs.gr (Gr.alloc (Gr.refl _) _)).grown hgr2 (λe=>by have:=(hl2 _ e.symm).1;omega);have hb3:=Lib.hid (Nat.le_trans hb2.out (Nat.le_trans (Nat.le_of_lt (by simp)) hgr2.size));have hcell2:=ss2.cell hlt;rw[hB.out] at hcell2;clear hgr2 hat2 hl2 hown hs hgr))
     go_roundw;case rel=>exact ⟨k+1,by omega,by go_num,gg2,ss2,by rw[HPN.out];simpa only[cond_true,cond_false,List.length_append,List.length_cons,List.length_nil,List.append_nil,List.nil_append,bcells_append,byteCell hlt,List.append_assoc,Nat.zero_add,Nat.add_zero,Nat.add_assoc] using hown2⟩
     case measure=>simp[intOf];omega
    ·have hk0:((k:Int)==0)=false:=beq_eq_false_iff_ne.2 (by omega);have hk1:1<=(k:Int):=by omega
     have hcp:=hs.cell (i:=k-1) (by omega);rw[hP] at hcp;have hk2:((k:Int)==255)=false:=beq_eq_false_iff_ne.2 (by omega);have hk3:(k:Int)<=254:=by omega
     have hcn:=hs.cell (i:=k+1) (by omega);rw[hN] at hcn;have HPN:=Lib.hid (HP false false (by simp[hP,hK0]) (by simp[hN,hK2]));clear HP hK0 hK2 hP;have HN:=Lib.hid hN;clear hN;go_wp2;go_roundw;case rel=>exact ⟨k+1,by omega,by go_num,hgr,hs,by rw[HPN.out];simpa only[cond_true,cond_false,List.length_append,List.length_cons,List.length_nil,List.append_nil,List.nil_append,bcells_append,byteCell hlt,List.append_assoc,Nat.zero_add,Nat.add_zero,Nat.add_assoc] using hown⟩
     case measure=>simp[intOf];omega
  ·have hk':k=256:=by omega
   subst hk';have hconv:=conv_own und_bytes und_u8 und_str hown;clear hown hle;go_wp2;go_ret;exact ⟨rfl,hgr⟩
theorem six_none (c:Nat) (hc:c<256) (hn:c≠100/\c≠68/\c≠119/\c≠87/\c≠115/\c≠83) (w:World):Calls Tryz.prog 170 #[.int .u8 c] w λe w'=>e= .returned (.tuple #[.agg (bsA noB), .bool false])/\Gr w w':=by
 obtain ⟨hz,hsz⟩:=zero_of_info info_arr;have q100:((c:Int)==100)=false:=beq_eq_false_iff_ne.2 (by omega);have q68:((c:Int)==68)=false:=beq_eq_false_iff_ne.2 (by omega);have q119:((c:Int)==119)=false:=beq_eq_false_iff_ne.2 (by omega);have q87:((c:Int)==87)=false:=beq_eq_false_iff_ne.2 (by omega);have q115:((c:Int)==115)=false:=beq_eq_false_iff_ne.2 (by omega);have q83:((c:Int)==83)=false:=beq_eq_false_iff_ne.2 (by omega);have g0:Gr w ((w.alloc (Obj.cells (bsA noB) 215)).alloc (Obj.cells (bsA noB) 215)):=gq;have s0:SetQ ((w.alloc (Obj.cells (bsA noB) 215)).alloc (Obj.cells (bsA noB) 215)) w.heap.size noB:=(SetQ.new w noB).gr (Gr.alloc (Gr.refl _) _);have s1:SetQ ((w.alloc (Obj.cells (bsA noB) 215)).alloc (Obj.cells (bsA noB) 215)) (w.heap.size+1) noB:=by
  have:=SetQ.new (w.alloc (Obj.cells (bsA noB) 215)) noB;simpa using this
 clear hn;go_enter Tryz.func170,Tryz.ntmps170;go_wp2;generalize ((w.alloc (Obj.cells (bsA noB) 215)).alloc (Obj.cells (bsA noB) 215))=w0 at g0 s0 s1 ⊢;clear hz hsz
 go_loopw [5] (λi wr=>i= .int .i64 0/\wr=w0) (λi _=>1)
 case atStart=>exact ⟨rfl,rfl⟩
 case round=>
  obtain ⟨rfl,rfl⟩:=hrel;go_wp2_with (first
   | (refine wpList_load_row rfl 215 (.tmp 4) rfl (w.heap.size+1) rfl _ (bsA noB) (0,0) _ s1 und_arr rfl (size_bsQ _) ?_)
   | (refine wpList_store_row rfl 215 (.tmp 2) (.tmp 15) rfl w.heap.size (bsA noB) rfl rfl _ _ s0 (size_bsQ _) (by simp only[bsA_size]) (bsA_one _) ?_))
  exact bodyPost_ret (v:= .tuple #[.agg (bsA noB), .bool false]) (res_arr2 _ 2 3 (by kernel_rfl) _ _ w.heap.size _ _ rfl rfl (SetQ.row s0)) rfl ⟨rfl,Gr.setRow g0 (Nat.le_refl _) _⟩
theorem six_some (c:Nat) {f:Bs} (h:namedB c=some f) (w:World):Calls Tryz.prog 170 #[.int .u8 c] w λe w'=>e= .returned (.tuple #[.agg (bsA f), .bool true])/\Gr w w':=by
 by_cases h100:c=100
 ·subst h100;injection h with h;subst h;exact six_100 w
 by_cases h68:c=68
 ·subst h68;injection h with h;subst h;exact six_68 w
 by_cases h119:c=119
 ·subst h119;injection h with h;subst h;exact six_119 w
 by_cases h87:c=87
 ·subst h87;injection h with h;subst h;exact six_87 w
 by_cases h115:c=115
 ·subst h115;injection h with h;subst h;exact six_115 w
 by_cases h83:c=83
 ·subst h83;injection h with h;subst h;exact six_83 w
 unfold namedB at h;rw[beq_eq_false_iff_ne.2 h100,beq_eq_false_iff_ne.2 h68,beq_eq_false_iff_ne.2 h119,beq_eq_false_iff_ne.2 h87,beq_eq_false_iff_ne.2 h115,beq_eq_false_iff_ne.2 h83] at h;cases h
theorem named_no {c:Nat} (h:namedB c=none):c≠100/\c≠68/\c≠119/\c≠87/\c≠115/\c≠83:=by
 refine ⟨?_,?_,?_,?_,?_,?_⟩<;>(intro e;subst e;cases h)
theorem six_any (c:Nat) (hc:c<256) (w:World):Calls Tryz.prog 170 #[.int .u8 c] w λe w'=>e= .returned (.tuple #[.agg (bsA (nmB c)), .bool (isNamed c)])/\Gr w w':=by
 cases h:namedB c with
 | none=>
  rw[show nmB c=noB by simp[nmB,h],show isNamed c=false by simp[isNamed,h]];exact six_none c hc (named_no h) w
 | some f=>
  rw[show nmB c=f by simp[nmB,h],show isNamed c=true by simp[isNamed,h]];exact six_some c h w
def Sm (l:List In):Prop:=∀v∈l, -100000<=v.x/\v.x<=100000/\ -100000<=v.y/\v.y<=100000
theorem Sm.mv {l:List In} (h:Sm l) (b:Int):mvL b l=mvL b l:=rfl
theorem Rd.rinst (w:World) (v:In):Rd (w.alloc (.cells #[.int .i64 v.op, .int .i64 v.x, .int .i64 v.y, .string ⟨v.ps.toArray⟩] 143)) 4 (some ⟨w.heap.size,0,none⟩) 1 (icells [v]):=by
 refine ⟨rfl,λ_=>⟨_,rfl,by simp,λj u hu=>?_⟩⟩;have:=(World.ownsRow_lit (base:=0) (e:=143) (size:=4) w #[.int .i64 v.op, .int .i64 v.x, .int .i64 v.y, .string ⟨v.ps.toArray⟩] 1 (Nat.zero_le _) (by decide) rfl).cells (g:=w.heap.size) rfl j u (by simpa [icells] using hu);exact this
theorem Rd.rinst1 (w:World) (o:Obj) (v:In):Rd ((w.alloc o).alloc (.cells #[.int .i64 v.op, .int .i64 v.x, .int .i64 v.y, .string ⟨v.ps.toArray⟩] 143)) 4 (some ⟨w.heap.size+1,0,none⟩) 1 (icells [v]):=by
 have:=Rd.rinst (w.alloc o) v
 rwa [show (w.alloc o).heap.size=w.heap.size+1 by simp] at this
theorem Gr.grown2 {w wr w9:World} {o1 o2:Obj} {v:Value} (h:Gr w wr) (g:((wr.alloc o1).alloc o2).grownBy w9 v.ownBlock) (hl:∀k,v.ownBlock=some k->w.heap.size<=k/\k<wr.heap.size):Gr w w9:=
 Below.grown ((h.alloc o1).alloc o2) g (((h.alloc o1).alloc o2).size) (λj hj=>(hl j hj).1)
theorem take_mv (b:Int) (l:List In) (k:Nat) (h:k<l.length):mvL b (l.take (k+1))=mvL b (l.take k)++[mvI b l[k]]:=by
 rw[List.take_succ_eq_append_getElem h];simp only[mvL,List.map_append,List.map_cons,List.map_nil]
def RetM (w:World) (res:List In) (e:Ending) (w':World):Prop:=∃A' c',e= .returned (.slice A' res.length c')/\Ri w' A' res/\Gr w w'/\∀ad,A'=some ad->w.heap.size<=ad.block/\ad.block<w'.heap.size
theorem moved_any (w:World) (A:Option Addr) (ca:Nat) (l:List In) (hr:Ri w A l) (hl:l.length<=4096) (hs:Sm l) (b:Int) (hb0: -5000<=b) (hb1:b<=5000) :
  Calls Tryz.prog 126 #[.slice A l.length ca, .int .i64 b] w (RetM w (mvL b l)):=by
 obtain ⟨i0,hi0,hz0,hz1,hz2⟩:=info_parts info_rinst;obtain ⟨n,hn⟩:∃n,n=l.length:=⟨_,rfl⟩
 rw[<-hn] at hl ⊢;have Hn:=Lib.hid hn;have Hs:=Lib.hid hs;have Hr:=Lib.hid hr;clear hn hs hr;go_enter Tryz.func126,Tryz.ntmps126;go_wp2
 go_loopw [5,6] (λv i wr=>∃k:Nat,k<=n/\i= .int .i64 k/\Gr w wr/\wr.ownsRow w.heap.size 143 4 v k (icells (mvL b (l.take k)))) (λ_ i _=>n-(intOf i).toNat)
 case atStart=>exact ⟨0,Nat.zero_le _,rfl,Gr.refl _,World.ownsRow_nil _ _ _ _⟩
 case round=>
  obtain ⟨k,hk,rfl,hgr,own⟩:=hrel;by_cases hlt:k<n
  ·have hkl:k<l.length:=by rw[<-Hn.out];exact hlt
   have hlt':(k:Int)<(n:Int):=by omega
   obtain ⟨ad,rfl,hadlt,d0,d1,d2,d3⟩:=Ri.at (Hr.out.gr hgr) hkl;obtain ⟨v0,hv0⟩:∃v,v=l[k]:=⟨_,rfl⟩
   rw[<-hv0] at d0 d1 d2 d3;obtain ⟨s0,s1,s2,s3⟩:=Hs.out v0 (by rw[hv0];exact List.getElem_mem _);have htk:=take_mv b l k hkl;rw[<-hv0] at htk;have Htk:=Lib.hid htk;obtain ⟨VA,vc,rfl⟩:=own_form own;have hzw:w.heap.size<=wr.heap.size:=hgr.size;have hol:=own.lt;clear hv0 htk;obtain ⟨op,x,y,ps⟩:=v0;simp only at d0 d1 d2 d3 s0 s1 s2 s3;by_cases h2:op=2
   ·subst h2;have Hx:True:=trivial;go_wp2_with (at_builtin;refine wpList_append_rd rfl (.tmp 39) (.tmp 41) 96 rfl w.heap.size 143 i0 _ 4 40 Tryz.underlying96 hi0 hz0 hz1 hz2 rfl (by decide) _ k _ rfl ((own.alloc (.cells #[.int .i64 2, .int .i64 (x+b), .int .i64 (y+b), .string ⟨ps.toArray⟩] 143)).alloc (.cells #[.int .i64 2, .int .i64 (x+b), .int .i64 (y+b), .string ⟨ps.toArray⟩] 143)) (some ⟨wr.heap.size+1,0,none⟩) 1 1 (icells [⟨2,x+b,y+b,ps⟩]) rfl (Rd.rinst1 wr _ ⟨2,x+b,y+b,ps⟩) (icells_one _) (by unfold maxLen;omega) (by omega) (by simp;omega) ?_;intro v9 w9 own9 hgr9 hob9;obtain ⟨V9,c9,rfl⟩:=own_form own9;have Hg9:=Lib.hid (And.intro own9 hgr9);clear own9 hgr9 hob9);go_roundw;case rel=>
     refine ⟨k+1,by omega,by go_num,?_,?_⟩
     ·exact hgr.grown2 Hg9.out.2 hol
     ·have:=Hg9.out.1;rw[Htk.out,icells_append];simpa [mvI] using this
    case measure=>simp[intOf];omega
   ·by_cases h3:op=3
    ·subst h3;go_wp2_with (at_builtin;refine wpList_append_rd rfl (.tmp 39) (.tmp 41) 96 rfl w.heap.size 143 i0 _ 4 40 Tryz.underlying96 hi0 hz0 hz1 hz2 rfl (by decide) _ k _ rfl ((own.alloc (.cells #[.int .i64 3, .int .i64 (x+b), .int .i64 (y), .string ⟨ps.toArray⟩] 143)).alloc (.cells #[.int .i64 3, .int .i64 (x+b), .int .i64 (y), .string ⟨ps.toArray⟩] 143)) (some ⟨wr.heap.size+1,0,none⟩) 1 1 (icells [⟨3,x+b,y,ps⟩]) rfl (Rd.rinst1 wr _ ⟨3,x+b,y,ps⟩) (icells_one _) (by unfold maxLen;omega) (by omega) (by simp;omega) ?_;intro v9 w9 own9 hgr9 hob9;obtain ⟨V9,c9,rfl⟩:=own_form own9;have Hg9:=Lib.hid (And.intro own9 hgr9);clear own9 hgr9 hob9);go_roundw;case rel=>
      refine ⟨k+1,by omega,by go_num,?_,?_⟩
      ·exact hgr.grown2 Hg9.out.2 hol
      ·have:=Hg9.out.1;rw[Htk.out,icells_append];simpa [mvI] using this
     case measure=>simp[intOf];omega
    ·have t2:(op==2)=false:=beq_eq_false_iff_ne.2 h2;have t3:(op==3)=false:=beq_eq_false_iff_ne.2 h3;have HO:=Lib.hid (And.intro t2 t3);clear h2 h3;go_wp2_with (at_builtin;refine wpList_append_rd rfl (.tmp 39) (.tmp 41) 96 rfl w.heap.size 143 i0 _ 4 40 Tryz.underlying96 hi0 hz0 hz1 hz2 rfl (by decide) _ k _ rfl ((own.alloc (.cells #[.int .i64 op, .int .i64 (x), .int .i64 (y), .string ⟨ps.toArray⟩] 143)).alloc (.cells #[.int .i64 op, .int .i64 (x), .int .i64 (y), .string ⟨ps.toArray⟩] 143)) (some ⟨wr.heap.size+1,0,none⟩) 1 1 (icells [⟨op,x,y,ps⟩]) rfl (Rd.rinst1 wr _ ⟨op,x,y,ps⟩) (icells_one _) (by unfold maxLen;omega) (by omega) (by simp;omega) ?_;intro v9 w9 own9 hgr9 hob9;obtain ⟨V9,c9,rfl⟩:=own_form own9;have Hg9:=Lib.hid (And.intro own9 hgr9);clear own9 hgr9 hob9);go_roundw;case rel=>
      refine ⟨k+1,by omega,by go_num,?_,?_⟩
      ·exact hgr.grown2 Hg9.out.2 hol
      ·have:=Hg9.out.1;rw[Htk.out,icells_append];simpa [mvI,HO.out] using this
     case measure=>simp[intOf];omega
  ·have hkn:k=n:=by omega
   have hge:¬(k:Int)<(n:Int):=by omega
   have HK:=Lib.hid hkn;obtain ⟨VA,vc,rfl⟩:=own_form own;have Hown:=Lib.hid own;clear hkn own;go_wp2;go_ret;have own:=Hown.out;rw[HK.out,Hn.out,List.take_length] at own;have hkl:k=l.length:=by rw[HK.out,Hn.out]
   refine ⟨VA,vc,by rw[mvL_len,<-hkl];rfl,?_,hgr,λad h=>own.lt ad.block (by rw[h];rfl)⟩;have hrd:=Rd.own own;unfold Ri;rw[mvL_len];exact hrd
def LyS (R t:Nat) (A:Option Addr) (L c:Nat) (op x y:Int) (ps:List UInt8) (W:World):Prop:=
 W.cell? ⟨R,5,none⟩=some (.slice A L c)/\W.frozen? ⟨R,5,none⟩=false/\W.cell? ⟨t,0,none⟩=some (.int .i64 op)/\W.cell? ⟨t,1,none⟩=some (.int .i64 x)/\W.cell? ⟨t,2,none⟩=some (.int .i64 y)/\W.cell? ⟨t,3,none⟩=some (.string ⟨ps.toArray⟩)/\R<W.heap.size/\t<W.heap.size
theorem LyS.kept {R t L c:Nat} {A:Option Addr} {op x y:Int} {ps:List UInt8} {W W':World} (h:LyS R t A L c op x y ps W) (hs:W.heap.size<=W'.heap.size) (hR:W'.heap[R]?=W.heap[R]?) (ht:W'.heap[t]?=W.heap[t]?):LyS R t A L c op x y ps W':=by
 obtain ⟨h0,h1,h2,h3,h4,h5,h6,h7⟩:=h;exact ⟨(World.cell?_of_block (a:=⟨R,5,none⟩) hR).trans h0,(World.frozen?_of_block (a:=⟨R,5,none⟩) hR).trans h1,(World.cell?_of_block (a:=⟨t,0,none⟩) ht).trans h2,(World.cell?_of_block (a:=⟨t,1,none⟩) ht).trans h3,(World.cell?_of_block (a:=⟨t,2,none⟩) ht).trans h4,(World.cell?_of_block (a:=⟨t,3,none⟩) ht).trans h5,Nat.lt_of_lt_of_le h6 hs,Nat.lt_of_lt_of_le h7 hs⟩
theorem LyS.gr {R t L c:Nat} {A:Option Addr} {op x y:Int} {ps:List UInt8} {W W':World} (h:LyS R t A L c op x y ps W) (g:Gr W W'):LyS R t A L c op x y ps W':=h.kept g.size (Below.block g R h.2.2.2.2.2.2.1) (Below.block g t h.2.2.2.2.2.2.2)
def RetLX (w:World) (R:Nat) (s:ByteArray) (n d e g:Nat) (A:Option Addr) (res:List In) (v:Value) (x:Ending) (w':World):Prop:=
 x= .returned v/\∃A',RfW w' R s n d e g A' res/\WX R w (blk A) w' (blk A')
theorem RfC.laid {w w9:World} {R n d e g c c9 m:Nat} {s:ByteArray} {A A9:Option Addr} {code news:List In} (h:RfC w R s n d e g A code c) (hn:news.length=m) (own9:w9.ownsRow (R+1) 143 4 (.slice A9 (code.length+m) c9) (code.length+m) (icells code++icells news)) {V:World} (gV:Gr w V) (hgr:V.grownBy w9 (blk A)) (hob:blk A9=blk A\/blk A9=some V.heap.size) :
  RfW (w9.setCell ⟨R,5,none⟩ (.slice A9 (code.length+m) c9)) R s n d e g A9 (code++news)/\WX R w (blk A) (w9.setCell ⟨R,5,none⟩ (.slice A9 (code.length+m) c9)) (blk A9):=by
 have hrow:∀k,blk A=some k->R<k/\k<w.heap.size:=RfW.row ⟨c,h⟩;have hRA:some R≠blk A:=λe=>by have:=(hrow R e.symm).1;omega
 have hlt:=h.lt;have hR9:w9.heap[R]?=w.heap[R]?:=(hgr.block R (Nat.lt_of_lt_of_le hlt gV.size) hRA).trans (Below.block gV R hlt);have hx:∀i,w9.cell? ⟨R,i,none⟩=w.cell? ⟨R,i,none⟩:=λi=>World.cell?_of_block (a:=⟨R,i,none⟩) hR9;have hy:∀i,w9.frozen? ⟨R,i,none⟩=w.frozen? ⟨R,i,none⟩:=λi=>World.frozen?_of_block (a:=⟨R,i,none⟩) hR9;have hz9:R<w9.heap.size:=Nat.lt_of_lt_of_le (Nat.lt_of_lt_of_le hlt gV.size) hgr.size;have hlen:(code++news).length=code.length+m:=by rw[List.length_append,hn]
 have o:∀j,j≠5->(w9.setCell ⟨R,5,none⟩ (.slice A9 (code.length+m) c9)).cell? ⟨R,j,none⟩=w9.cell? ⟨R,j,none⟩:=λj hj=>World.cell?_setCell_other w9 ⟨R,5,none⟩ ⟨R,j,none⟩ _ (by first|(simp;done)|(simp;omega));have k5:=(hx 5).trans h.c5;have k6:=(hy 5).trans h.f5;refine ⟨⟨c9,(o 0 (by decide)).trans ((hx 0).trans h.c0),(o 1 (by decide)).trans ((hx 1).trans h.c1),(o 2 (by decide)).trans ((hx 2).trans h.c2),(o 3 (by decide)).trans ((hx 3).trans h.c3),(o 4 (by decide)).trans ((hx 4).trans h.c4),?_,by rw[World.frozen?_setCell];exact (hy 1).trans h.f1,by rw[World.frozen?_setCell];exact (hy 2).trans h.f2,by rw[World.frozen?_setCell];exact (hy 3).trans h.f3,by rw[World.frozen?_setCell];exact (hy 4).trans h.f4,by rw[World.frozen?_setCell];exact (hy 5).trans h.f5,?_,by simpa using hz9⟩,?_⟩
 ·rw[hlen];clear hx hy o hgr hob own9 hR9;go_simp
 ·rw[hlen,icells_append];exact own_setX own9 (p:=⟨R,5,none⟩) (Nat.lt_succ_self _) _
 ·have x1:WX R w (blk A) V (blk A):=WX.gr _ gV;exact (x1.trans (WX.grown (B:=R) hgr hob)).set (p:=⟨R,5,none⟩) (.inl rfl) _
theorem rlay_any {w:World} {R n d e g:Nat} {s:ByteArray} {A:Option Addr} {code:List In} (h:RfW w R s n d e g A code) (op x y:Int) (ps:List UInt8) (hb:code.length<=4000) :
  Calls Tryz.prog 62 #[.pointer (some ⟨R,0,none⟩), .agg #[.int .i64 op, .int .i64 x, .int .i64 y, .string ⟨ps.toArray⟩]] w (RetLX w R s n d e g A (code++[⟨op,x,y,ps⟩]) (.int .i64 code.length)):=by
 obtain ⟨i0,hi0,hz0,hz1,hz2⟩:=info_parts info_rinst;obtain ⟨c,h⟩:=h;have hS:LyS R w.heap.size A code.length c op x y ps ((w.alloc (.cells #[.int .i64 op, .int .i64 x, .int .i64 y, .string ⟨ps.toArray⟩] 143)).drew):=by
  have hc5:=h.c5;have hf5:=h.f5;have hlt:=h.lt;refine ⟨(Below.cell (Gr.alloc (Gr.refl w) _) (p:=⟨R,5,none⟩) hlt).trans hc5,(Below.frozen (Gr.alloc (Gr.refl w) _) (p:=⟨R,5,none⟩) hlt).trans hf5,?_,?_,?_,?_,by simp;omega,by simp⟩;all_goals go_simp
 have own8:=h.own;have hvl:=own8.lt;have hlt:=h.lt;have Hh:=Lib.hid h;clear h;go_enter Tryz.func62,Tryz.ntmps62;go_upto_region 1 with (fail)
 have hS0:=hS;clear hS;obtain ⟨V,hV⟩:∃V,V=(w.alloc (.cells #[.int .i64 op, .int .i64 x, .int .i64 y, .string ⟨ps.toArray⟩] 143)).drew:=⟨_,rfl⟩
 have gV:Gr w V:=by rw[hV];exact (Gr.alloc (Gr.refl w) _).drew
 have hVz:V.heap.size=w.heap.size+1:=by rw[hV];simp
 refine wp_region_Z 12 (LyS R w.heap.size A code.length c op x y ps) (by kernel_rfl) ?_;rw[<-hV] at hS0 ⊢;have HV:=Lib.hid (And.intro hV hVz);clear hV hVz;refine zu 0 hS0 ?_;refine zu 1 hS0 ?_;refine zu 2 hS0 ?_;refine zu 3 hS0 ?_;refine zu 4 hS0 ?_;refine zu 5 hS0 ?_ (hy:=λW hS=>by obtain ⟨s0, -⟩:=hS;go_simp<;>rfl);refine zu 6 hS0 ?_ (hy:=λW hS=>by obtain ⟨-, -,t0,t1,t2,t3, -⟩:=hS;go_simp<;>rfl);refine zs 7 rfl (λK hK=>?_);simp only[Gl];have hS7:=hS0.gr (Gr.alloc (Gr.refl _) (.cells #[.int .i64 op, .int .i64 x, .int .i64 y, .string ⟨ps.toArray⟩] 143));have ownV:V.ownsRow (R+1) 143 4 (.slice A code.length c) code.length (icells code):=by rw[HV.out.1];exact own8.alloc _
 have own7:=ownV.alloc (.cells #[.int .i64 op, .int .i64 x, .int .i64 y, .string ⟨ps.toArray⟩] 143);have hrx:=Rd.rinst V ⟨op,x,y,ps⟩;clear own8 ownV;go_simp;refine hK.out _ _ (λhnz=>?zs7) (λ_=>?zr7);case zs7=>exact hS7
 clear hK K;try simp only[Pu,Gl]
 refine zs 8 rfl (λK hK=>?_);simp only[Gl];refine wp_append_rdX (.tmp 10) (.tmp 12) 96 rfl (R+1) 143 i0 _ 4 40 Tryz.underlying96 hi0 hz0 hz1 hz2 rfl (by decide) _ code.length _ rfl own7 ⟨V.heap.size,0,none⟩ 1 _ (icells [⟨op,x,y,ps⟩]) rfl hrx (by decide) (icells_one _) (by unfold maxLen;omega) (by omega) (by have:=gV.size;simp;omega) ?_;intro v' w9 own9 hgr9 hob9;obtain ⟨A9,c9,hv9⟩:=own_form own9;subst hv9;have hx:∀(A:Option Addr) (n c:Nat),(Value.slice A n c).ownBlock=blk A:=λA n c=>by cases A<;>rfl
 have hgr9:(V.alloc (.cells #[.int .i64 op, .int .i64 x, .int .i64 y, .string ⟨ps.toArray⟩] 143)).grownBy w9 (Value.slice A code.length c).ownBlock:=hgr9;have hob9:(Value.slice A9 (code.length+1) c9).ownBlock=(Value.slice A code.length c).ownBlock\/(Value.slice A9 (code.length+1) c9).ownBlock=some (V.alloc (.cells #[.int .i64 op, .int .i64 x, .int .i64 y, .string ⟨ps.toArray⟩] 143)).heap.size:=hob9;rw[hx] at hgr9;rw[hx,hx] at hob9;have hS9:LyS R w.heap.size A code.length c op x y ps w9:=hS7.kept hgr9.size (hgr9.block R hS7.2.2.2.2.2.2.1 (λe=>by have:=(hvl R (by rw[hx];exact e.symm)).1;omega)) (hgr9.block w.heap.size hS7.2.2.2.2.2.2.2 (λe=>by have:=(hvl w.heap.size (by rw[hx];exact e.symm)).2;omega));have Hg9:=Lib.hid (And.intro own9 (And.intro hgr9 hob9));clear own9 hgr9 hob9 hS7 own7 hrx;refine hK.out _ _ (λhnz=>?zs8) (λ_=>?zr8);case zs8=>exact hS9
 clear hK K;try simp only[Pu,Gl]
 refine zs 9 rfl (λK hK=>?_);simp only[Gl];go_simp;refine hK.out _ _ (λhnz=>?zs9) (λ_=>?zr9);case zs9=>exact hS9
 clear hK K;try simp only[Pu,Gl]
 refine zs 10 rfl (λK hK=>?_);simp only[Gl];go_simp;refine hK.out _ _ (λhnz=>?zs10) (λ_=>?zr10);case zs10=>exact hS9
 clear hK K;try simp only[Pu,Gl]
 refine zs 11 rfl (λK hK=>?_);simp only[Gl];go_simp;refine hK.out _ _ (λhnz=>?zs11) (λ_=>?zr11);case zs11=>exact hS9
 clear hK K;try simp only[Pu,Gl]
 refine zs 12 rfl (λK hK=>?_);simp only[Gl];obtain ⟨s0,s1, -, -, -, -,hzR, -⟩:=id hS9;go_simp;refine hK.out _ _ (λhnz=>?zs12) (λ_=>?zr12);case zs12=>exact absurd rfl hnz
 clear hK K;try simp only[Pu,Gl]
 refine wpAnyZ_done (by kernel_rfl) ?_ _;clear s1;go_wp2;go_ret;obtain ⟨own9,hgr9,hob9⟩:=Hg9.out;obtain ⟨f1,f2⟩:=Hh.out.laid (news:=[⟨op,x,y,ps⟩]) (m:=1) rfl own9 (gV.alloc _) hgr9 hob9;exact ⟨rfl,A9,f1,f2⟩
def PtS (R:Nat) (A:Option Addr) (L c:Nat) (W:World):Prop:=W.cell? ⟨R,5,none⟩=some (.slice A L c)/\W.frozen? ⟨R,5,none⟩=false/\R<W.heap.size
theorem PtS.kept {R L c:Nat} {A:Option Addr} {W W':World} (h:PtS R A L c W) (hs:W.heap.size<=W'.heap.size) (hR:W'.heap[R]?=W.heap[R]?):PtS R A L c W':=
 ⟨(World.cell?_of_block (a:=⟨R,5,none⟩) hR).trans h.1,(World.frozen?_of_block (a:=⟨R,5,none⟩) hR).trans h.2.1,Nat.lt_of_lt_of_le h.2.2 hs⟩
theorem PtS.gr {R L c:Nat} {A:Option Addr} {W W':World} (h:PtS R A L c W) (g:Gr W W'):PtS R A L c W':=h.kept g.size (Below.block g R h.2.2)
theorem own_gr' {w w':World} {base:Nat} {e:TypeId} {size n:Nat} {v:Value} {xs:List Value} (h:w.ownsRow base e size v n xs) (g:Gr w w'):w'.ownsRow base e size v n xs:=by
 obtain ⟨h1,⟨hv,h0⟩|⟨q,cap,cur,hv,hb,hh,h2⟩⟩:=h
 ·exact ⟨h1, .inl ⟨hv,h0⟩⟩
 ·exact ⟨h1, .inr ⟨q,cap,cur,hv,hb,(Below.block g q (Array.getElem?_eq_some_iff.1 hh).1).trans hh,h2⟩⟩
theorem rput_any {w:World} {R n d e g:Nat} {s:ByteArray} {A A2:Option Addr} {code l:List In} (h:RfW w R s n d e g A code) (c2:Nat) (hr:Ri w A2 l) (hs:Sm l) (hb:code.length+l.length<=4000) :
  Calls Tryz.prog 97 #[.pointer (some ⟨R,0,none⟩), .slice A2 l.length c2] w (RetLX w R s n d e g A (code++mvL code.length l) (.tuple #[])):=by
 obtain ⟨i0,hi0,hz0,hz1,hz2⟩:=info_parts info_rinst;obtain ⟨c,h⟩:=h;have own0:=h.own;have hvl:=own0.lt;have hS0:PtS R A code.length c w.drew:=⟨h.c5,h.f5,h.lt⟩
 have HM:=moved_any w.drew A2 c2 l (hr.gr (Gr.drew (Gr.refl w))) (by omega) hs code.length (by omega) (by omega);have hlt:=h.lt;have hl1:code.length<=4000:=by omega
 have Hb:=Lib.hid hb;have Hh:=Lib.hid h;have HM2:=Lib.hid HM;obtain ⟨m,hm⟩:∃m,m=l.length:=⟨_,rfl⟩
 rw[<-hm] at HM2 Hb ⊢;have Hm:=Lib.hid hm;clear h HM hs hr hb hm;go_enter Tryz.func97,Tryz.ntmps97;refine wp_region_Z 18 (PtS R A code.length c) (by kernel_rfl) ?_;refine zu 0 hS0 ?_;refine zu 1 hS0 ?_;refine zu 2 hS0 ?_;refine zu 3 hS0 ?_;refine zu 4 hS0 ?_;refine zu 5 hS0 ?_ (hy:=λW hS=>by obtain ⟨s0, -⟩:=hS;go_simp<;>rfl);refine zu 6 hS0 ?_;refine zu 7 hS0 ?_;refine zu 8 hS0 ?_;refine zu 9 hS0 ?_;refine zu 10 hS0 ?_;refine zu 11 hS0 ?_ (hy:=λW hS=>by obtain ⟨s0, -⟩:=hS;go_simp<;>rfl);refine zu 12 hS0 ?_;refine zs 13 rfl (λK hK=>?_);simp only[Gl];go_simp;refine HM2.out.mono ?_;rintro x w7 ⟨A7,c7,rfl,hr7,hg7,hn7⟩;rw[mvL_len,<-Hm.out];have hS7:=hS0.gr hg7;have own7:=own_gr' own0 ((Gr.drew (Gr.refl w)).trans hg7);have g7:=(Gr.drew (Gr.refl w)).trans hg7;unfold Ri at hr7;rw[mvL_len,<-Hm.out] at hr7;clear own0 hg7;go_wp2_with fail;refine hK.out _ _ (λhnz=>?zs13) (λ_=>?zr13);case zs13=>exact hS7
 clear hK K;try simp only[Pu,Gl]
 refine zs 14 rfl (λK hK=>?_);simp only[Gl];have hbm:=Hb.out;refine wp_append_rd0 (.tmp 9) (.tmp 17) 96 rfl (R+1) 143 i0 _ 4 40 Tryz.underlying96 hi0 hz0 hz1 hz2 rfl (by decide) _ code.length _ rfl own7 A7 m c7 (icells (mvL code.length l)) rfl hr7 (icells_one _) (by unfold maxLen;omega) (by omega) (by have:=g7.size;omega) ?_;intro v' w9 own9 hgr9 hob9;obtain ⟨A9,c9,hv9⟩:=own_form own9;subst hv9;have hx:∀(A:Option Addr) (n c:Nat),(Value.slice A n c).ownBlock=blk A:=λA n c=>by cases A<;>rfl
 have hgr9:w7.grownBy w9 (Value.slice A code.length c).ownBlock:=hgr9;have hob9:(Value.slice A9 (code.length+m) c9).ownBlock=(Value.slice A code.length c).ownBlock\/(Value.slice A9 (code.length+m) c9).ownBlock=some w7.heap.size:=hob9;rw[hx] at hgr9;rw[hx,hx] at hob9;have hS9:PtS R A code.length c w9:=hS7.kept hgr9.size (hgr9.block R hS7.2.2 (λe=>by have:=(hvl R (by rw[hx];exact e.symm)).1;omega));have Hg9:=Lib.hid (And.intro own9 (And.intro hgr9 hob9));have Hg7:=Lib.hid g7;clear own9 hgr9 hob9 hS7 own7 hr7 g7 hbm;refine hK.out _ _ (λhnz=>?zs14) (λ_=>?zr14);case zs14=>exact hS9
 clear hK K;try simp only[Pu,Gl]
 refine zs 15 rfl (λK hK=>?_);simp only[Gl];go_simp;refine hK.out _ _ (λhnz=>?zs15) (λ_=>?zr15);case zs15=>exact hS9
 clear hK K;try simp only[Pu,Gl]
 refine zs 16 rfl (λK hK=>?_);simp only[Gl];go_simp;refine hK.out _ _ (λhnz=>?zs16) (λ_=>?zr16);case zs16=>exact hS9
 clear hK K;try simp only[Pu,Gl]
 refine zs 17 rfl (λK hK=>?_);simp only[Gl];go_simp;refine hK.out _ _ (λhnz=>?zs17) (λ_=>?zr17);case zs17=>exact hS9
 clear hK K;try simp only[Pu,Gl]
 refine zs 18 rfl (λK hK=>?_);simp only[Gl];obtain ⟨s0,s1,hzR⟩:=id hS9;go_simp;refine hK.out _ _ (λhnz=>?zs18) (λ_=>?zr18);case zs18=>exact absurd rfl hnz
 clear hK K;try simp only[Pu,Gl]
 refine wpAnyZ_done (by kernel_rfl) ?_ _;clear s1;go_wp2;go_end0;obtain ⟨own9,hgr9,hob9⟩:=Hg9.out;obtain ⟨f1,f2⟩:=Hh.out.laid (news:=mvL code.length l) (m:=m) (by rw[mvL_len,Hm.out]) own9 Hg7.out hgr9 hob9;exact ⟨rfl,A9,f1,f2⟩
theorem icells_drop (L:List In) (m:Nat) (h:m<=L.length):icells (L.drop m)=(icells L).drop (m*4):=by
 have h1:icells (L.take m)++icells (L.drop m)=icells L:=by rw[<-icells_append,List.take_append_drop]
 rw[<-h1,List.drop_left' (by rw[icells_length,List.length_take];congr 1;omega)]
theorem icells_take (L:List In) (m:Nat) (h:m<=L.length):icells (L.take m)=(icells L).take (m*4):=by
 have h1:icells (L.take m)++icells (L.drop m)=icells L:=by rw[<-icells_append,List.take_append_drop]
 rw[<-h1,List.take_left' (by rw[icells_length,List.length_take];congr 1;omega)]
theorem Ri.drop {w:World} {A:Option Addr} {L:List In} (h:Ri w A L) {m c:Nat} (hm:m<=L.length) (hc:L.length<=c):Rd w 4 (if c=m then A else A.map λad=>ad.add (m*4)) (L.length-m) (icells (L.drop m)):=by
 refine ⟨by rw[icells_length,List.length_drop],λh0=>?_⟩;rw[if_neg (by omega)];obtain ⟨ad,e,hb,hc⟩:=h.2 (by omega);subst e;refine ⟨ad.add (m*4),rfl,by rw[add_blk];exact hb,λj u hu=>?_⟩;rw[icells_drop L m hm,List.getElem?_drop] at hu;rw[add_two];exact hc _ u hu
theorem Ri.takes {w:World} {A:Option Addr} {L:List In} (h:Ri w A L) {m:Nat} (hm:m<=L.length):Rd w 4 A m (icells (L.take m)):=by
 refine ⟨by rw[icells_length,List.length_take];congr 1;omega,λh0=>?_⟩;obtain ⟨ad,e,hb,hc⟩:=h.2 (by omega);refine ⟨ad,e,hb,λj u hu=>?_⟩;rw[icells_take L m hm] at hu;rw[List.getElem?_take] at hu;split at hu
 ·exact hc j u hu
 ·cases hu
end Go.Proofs.YtjapddfnpmlifaaGreatDoor
