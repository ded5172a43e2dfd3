import Derived.Test.YtjapddfnpmlifaaGreatDoorRunRxSpec
import Derived.Deep.QuietTactic
import Derived.BigQuiet
set_option linter.all false
set_option maxRecDepth 1000000
set_option maxHeartbeats 12800000
namespace Go.Proofs.YtjapddfnpmlifaaGreatDoor
open Go.RowKit
def bcells (l:List UInt8):List Value:=l.map λb=> .int .u8 (b.toNat:Int)
theorem bcells_append (l m:List UInt8):bcells (l++m)=bcells l++bcells m:=by simp[bcells]
theorem conv_own {P:Program} {w:World} {src dst e:TypeId} {base:Nat} {v:Value} {l:List UInt8} (hs:P.underlying src=some (.slice e)) (he:P.underlying e=some (.int .u8)) (hd:P.underlying dst=some .string)
  (h:w.ownsRow base e 1 v l.length (bcells l)):(convert src dst v).run P w= .ok (.string ⟨l.toArray⟩) w:=by
 obtain ⟨_,⟨rfl,h0⟩|⟨g,cap,cur,rfl,_⟩⟩:=id h
 ·have hl:l=[]:=List.eq_nil_of_length_eq_zero h0;subst hl;rw[run_convert_bytes_string w src dst e none 0 0 hs he hd];simp[Conv.bytesToString];rfl
 ·exact run_convert_bytes_back w src dst e _ cap l hs he hd (λj hj=>h.cells (g:=g) rfl j _ (by simp[bcells,hj]))
theorem Rd.byte {W:World} {B:Nat} (hB:B=W.heap.size) (T:TypeId) (u:Value):Rd (W.alloc (.cells #[u] T)) 1 (some ⟨B,0,none⟩) 1 [u]:=by
 subst hB;refine ⟨rfl,λ_=>⟨_,rfl,by simp,λj x hx=>?_⟩⟩;have e:(⟨W.heap.size,0,none⟩:Addr).add j=⟨W.heap.size,j,none⟩:=by
  unfold Addr.add;split
  ·rename_i h;subst h;rfl
  ·rw[Nat.zero_add]
 rw[e];exact (cell_of_row _ _ _ _ _ _ (heap_alloc_new W _)).trans (by simpa using hx)
theorem one1 {k:IntKind} (n:Int):∀u∈[Value.int k n],u.oneCell'=true:=by
 intro u hu;rw[List.mem_singleton.1 hu];rfl
theorem und_bytes:Tryz.prog.underlying 85=some (.slice 5):=by kernel_rfl
theorem und_u8:Tryz.prog.underlying 5=some (.int .u8):=by kernel_rfl
theorem und_str:Tryz.prog.underlying 9=some .string:=by kernel_rfl
theorem info_u8:(Tryz.prog.info? 5).map (λi=>(i.zero,i.size,i.bytes))=some (some (.int .u8 0),1,1):=by kernel_rfl
theorem pairsT_len (f:Bs) (k:Nat):(pairsT f k).length<=2*k:=by
 induction k with
 | zero=>exact Nat.le_refl _
 | succ k ih=>
  unfold pairsT;simp only[List.length_append];have a:∀b:Bool,(bif b then [UInt8.ofNat k] else []).length<=1:=λb=>by cases b<;>simp
  have a1:=a (f k&&(k==0 || !f (k-1)));have a2:=a (f k&&(k==255 || !f (k+1)));omega
theorem pairsT_no {f:Bs} {k:Nat} (h:f k=false):pairsT f (k+1)=pairsT f k:=by simp[pairsT,h]
theorem pairsT_in {f:Bs} {k:Nat} {s e:Bool} (h:f k=true) (hs:(k==0 || !f (k-1))=s) (he:(k==255 || !f (k+1))=e) :
  pairsT f (k+1)=pairsT f k++((bif s then [UInt8.ofNat k] else [])++(bif e then [UInt8.ofNat k] else [])):=by
 simp only[pairsT,h,hs,he,Bool.true_and]
theorem byteCell {k:Nat} (h:k<256):bcells [UInt8.ofNat k]=[.int .u8 k]:=by
 have:(UInt8.ofNat k).toNat=k:=by simp[Nat.mod_eq_of_lt h]
 simp[bcells,this]
theorem isWord_any (c:Nat) (w:World) (hc:c<256) :
  Calls Tryz.prog 167 #[.int .u8 c] w λe w'=>e= .returned (.bool (isWordB c))/\Gr w w':=by
 obtain ⟨hz,hsz⟩:=zero_of_info info_set;have h3:(c:Int)<256:=by omega
 have Q:=λw=>named_any 119 w (by decide);simp only[show nmB 119=wordB from rfl,show isNamed 119=true from rfl] at Q;go_enter Tryz.func167,Tryz.ntmps167;go_upto_region 2 with (first
  | (go_at_call 166;refine (Q _).mono ?_;rintro e w1 ⟨rfl,hg1⟩)
  | (refine wpList_store_row rfl 219 (.tmp 3) (.tmp 7) rfl w1.heap.size (bsA wordB) rfl rfl _ _ (SetAt.new w1 noB) (size_bsA _) (by simp only[bsA_size]) (bsA_one _) ?_))
 have S1:SetAt ((w1.alloc (.cells (bsA noB) 219)).setRow w1.heap.size (bsA wordB)) w1.heap.size wordB:=SetAt.row (SetAt.new w1 noB);have G1:Gr w ((w1.alloc (.cells (bsA noB) 219)).setRow w1.heap.size (bsA wordB)):=Gr.setRow (Gr.alloc hg1 _) hg1.size _;generalize ((w1.alloc (.cells (bsA noB) 219)).setRow w1.heap.size (bsA wordB))=w2 at S1 G1 ⊢;clear hz hsz Q hg1;have hcell:=S1.cell hc;clear S1;by_cases h95:c=95
 ·subst h95;go_wp2;go_ret;exact ⟨rfl,G1⟩
 ·have hq:((c:Int) != 95)=true:=by simp[bne,beq_eq_false_iff_ne.2 (show (c:Int)≠95 by omega)]
  have hr:isWordB c=wordB c:=by simp[isWordB,beq_eq_false_iff_ne.2 h95]
  have HR:=Lib.hid hr;clear hr;cases hb:wordB c;all_goals
   rw[hb] at hcell HR;clear hb;go_wp2;go_ret;exact ⟨by rw[HR.out];rfl,G1⟩
theorem SetAt.grown {w w':World} {g:Nat} {f:Bs} {row:Option Nat} (h:SetAt w g f) (x:w.grownBy w' row) (hn:some g≠row):SetAt w' g f:=(x.block g h.lt hn).trans h
theorem pairs_any (f:Bs) (w:World) :
  Calls Tryz.prog 155 #[.agg (bsA f)] w λe w'=>e= .returned (.string ⟨(pairsS f).toArray⟩)/\Gr w w':=by
 obtain ⟨i0,hi,hz0,hz1,hz2⟩:=info_parts info_u8;have g0:Gr w (w.alloc (Obj.cells (bsA f) 219)):=gq;have s0:SetAt (w.alloc (Obj.cells (bsA f) 219)) w.heap.size f:=SetAt.new w f;go_enter Tryz.func155,Tryz.ntmps155;go_wp2;generalize (w.alloc (Obj.cells (bsA f) 219))=w0 at g0 s0 ⊢
 go_loopw [3,5] (λv i wr=>∃k:Nat,k<=256/\i= .int .i64 k/\Gr w wr/\SetAt wr w.heap.size f/\wr.ownsRow (w.heap.size+1) 5 1 v (pairsT f k).length (bcells (pairsT f k))) (λ_ i _=>256-(intOf i).toNat)
 case atStart=>exact ⟨0,by omega,rfl,g0,s0,World.ownsRow_nil _ _ _ _⟩
 case round=>
  clear g0 s0;obtain ⟨k,hk,rfl,hgr,hs,hown⟩:=hrel;have hle:=pairsT_len f k;by_cases hlt:k<256
  ·have hcell:=hs.cell hlt;have h3:(k:Int)<256:=by omega
   cases hb:f k;case false=>
    rw[hb] at hcell;have HN:=Lib.hid (pairsT_no hb);clear hb;go_wp2;go_roundw;case rel=>exact ⟨k+1,by omega,by go_num,hgr,hs,by rw[HN.out];exact hown⟩
    case measure=>simp[intOf];omega
   rw[hb] at hcell;have HP:=λs e=>pairsT_in (s:=s) (e:=e) hb;have hB:=Lib.hid hb;clear hb;by_cases hK0:k=0
   ·by_cases hK2:k=255
    ·omega
    cases hN:f (k+1)
    ·have hk0:((k:Int)==0)=true:=beq_iff_eq.2 (by omega);have hk2:((k:Int)==255)=false:=beq_eq_false_iff_ne.2 (by omega);have hk3:(k:Int)<=254:=by omega
     have hcn:=hs.cell (i:=k+1) (by omega);rw[hN] at hcn;have HPN:=Lib.hid (HP true true (by simp[hK0]) (by simp[hN,hK2]));clear HP hK0 hK2;have HN:=Lib.hid hN;clear hN;have hm1:=Lib.hid (show (pairsT f k).length+1<=maxLen by unfold maxLen;omega);have hm2:=Lib.hid (show (pairsT f k).length+1+1<=maxLen by unfold maxLen;omega);have hn1:=Lib.hid (show ((pairsT f k).length+1)*1<=140737488355328 by omega);have hn2:=Lib.hid (show ((pairsT f k).length+1+1)*1<=140737488355328 by omega);have hb1:=Lib.hid (show w.heap.size+1<=wr.heap.size from hs.lt);go_wp2_with (first
      | (
        at_builtin
        refine wpList_append_rd rfl (.tmp 22) (.tmp 25) 85 rfl (w.heap.size+1) 5 i0 _ 1 1 und_bytes hi hz0 hz1 hz2 rfl (by decide) _ _ _ rfl (hown.alloc _) (some ⟨wr.heap.size,0,none⟩) 1 _ [.int .u8 k] rfl (Rd.byte rfl 5 _) (one1 _) hm1.out hn1.out (Nat.le_trans hb1.out (Nat.le_of_lt (by simp))) ?_;intro v1 w1 hown1 hgr1 hat1;have hl1:=hown.lt;have gg1:Gr w w1:=Gr.grown (Gr.alloc hgr _) hgr1 (λj hj=>by have:=(hl1 j hj).1;omega);have ss1:SetAt w1 w.heap.size f:=(hs.gr (Gr.alloc (Gr.refl _) _)).grown hgr1 (λe=>by have:=(hl1 _ e.symm).1;omega);have hb2:=Lib.hid (Nat.le_trans hb1.out (Nat.le_trans (Nat.le_of_lt (by simp)) hgr1.size));have hcell1:=ss1.cell hlt;rw[hB.out] at hcell1;have hcn1:=ss1.cell (i:=k+1) (by omega);rw[HN.out] at hcn1;clear hgr1 hat1 hl1 hown hs hgr)
      | (
        at_builtin
        refine wpList_append_rd rfl (.tmp 41) (.tmp 44) 85 rfl (w.heap.size+1) 5 i0 _ 1 1 und_bytes hi hz0 hz1 hz2 rfl (by decide) _ _ _ rfl (hown1.alloc _) (some ⟨w1.heap.size,0,none⟩) 1 _ [.int .u8 k] rfl (Rd.byte rfl 5 _) (one1 _) hm2.out hn2.out (Nat.le_trans hb2.out (Nat.le_of_lt (by simp))) ?_;intro v2 w2 hown2 hgr2 hat2;have hl2:=hown1.lt;have gg2:Gr w w2:=Gr.grown (Gr.alloc gg1 _) hgr2 (λj hj=>by have:=(hl2 j hj).1;omega);have ss2:SetAt w2 w.heap.size f:=(ss1.gr (Gr.alloc (Gr.refl _) _)).grown hgr2 (λe=>by have:=(hl2 _ e.symm).1;omega);have hb3:=Lib.hid (Nat.le_trans hb2.out (Nat.le_trans (Nat.le_of_lt (by simp)) hgr2.size));have hcell2:=ss2.cell hlt;rw[hB.out] at hcell2;clear hgr2 hat2 hl2 hown1 ss1 gg1))
     go_roundw;case rel=>exact ⟨k+1,by omega,by go_num,gg2,ss2,by rw[HPN.out];simpa only[cond_true,cond_false,List.length_append,List.length_cons,List.length_nil,List.append_nil,List.nil_append,bcells_append,byteCell hlt,List.append_assoc,Nat.zero_add,Nat.add_zero,Nat.add_assoc] using hown2⟩
     case measure=>simp[intOf];omega
    ·have hk0:((k:Int)==0)=true:=beq_iff_eq.2 (by omega);have hk2:((k:Int)==255)=false:=beq_eq_false_iff_ne.2 (by omega);have hk3:(k:Int)<=254:=by omega
     have hcn:=hs.cell (i:=k+1) (by omega);rw[hN] at hcn;have HPN:=Lib.hid (HP true false (by simp[hK0]) (by simp[hN,hK2]));clear HP hK0 hK2;have HN:=Lib.hid hN;clear hN;have hm1:=Lib.hid (show (pairsT f k).length+1<=maxLen by unfold maxLen;omega);have hm2:=Lib.hid (show (pairsT f k).length+1+1<=maxLen by unfold maxLen;omega);have hn1:=Lib.hid (show ((pairsT f k).length+1)*1<=140737488355328 by omega);have hn2:=Lib.hid (show ((pairsT f k).length+1+1)*1<=140737488355328 by omega);have hb1:=Lib.hid (show w.heap.size+1<=wr.heap.size from hs.lt);go_wp2_with (first
      | (
        at_builtin
        refine wpList_append_rd rfl (.tmp 22) (.tmp 25) 85 rfl (w.heap.size+1) 5 i0 _ 1 1 und_bytes hi hz0 hz1 hz2 rfl (by decide) _ _ _ rfl (hown.alloc _) (some ⟨wr.heap.size,0,none⟩) 1 _ [.int .u8 k] rfl (Rd.byte rfl 5 _) (one1 _) hm1.out hn1.out (Nat.le_trans hb1.out (Nat.le_of_lt (by simp))) ?_;intro v1 w1 hown1 hgr1 hat1;have hl1:=hown.lt;have gg1:Gr w w1:=Gr.grown (Gr.alloc hgr _) hgr1 (λj hj=>by have:=(hl1 j hj).1;omega);have ss1:SetAt w1 w.heap.size f:=(hs.gr (Gr.alloc (Gr.refl _) _)).grown hgr1 (λe=>by have:=(hl1 _ e.symm).1;omega);have hb2:=Lib.hid (Nat.le_trans hb1.out (Nat.le_trans (Nat.le_of_lt (by simp)) hgr1.size));have hcell1:=ss1.cell hlt;rw[hB.out] at hcell1;have hcn1:=ss1.cell (i:=k+1) (by omega);rw[HN.out] at hcn1;clear hgr1 hat1 hl1 hown hs hgr))
     go_roundw;case rel=>exact ⟨k+1,by omega,by go_num,gg1,ss1,by rw[HPN.out];simpa only[cond_true,cond_false,List.length_append,List.length_cons,List.length_nil,List.append_nil,List.nil_append,bcells_append,byteCell hlt,List.append_assoc,Nat.zero_add,Nat.add_zero,Nat.add_assoc] using hown1⟩
     case measure=>simp[intOf];omega
   cases hP:f (k-1)
   ·by_cases hK2:k=255
    ·have hk0:((k:Int)==0)=false:=beq_eq_false_iff_ne.2 (by omega);have hk1:1<=(k:Int):=by omega
     have hcp:=hs.cell (i:=k-1) (by omega);rw[hP] at hcp;have hk2:((k:Int)==255)=true:=beq_iff_eq.2 (by omega);have HPN:=Lib.hid (HP true true (by simp[hP,hK0]) (by simp[hK2]));clear HP hK0 hK2 hP;have hm1:=Lib.hid (show (pairsT f k).length+1<=maxLen by unfold maxLen;omega);have hm2:=Lib.hid (show (pairsT f k).length+1+1<=maxLen by unfold maxLen;omega);have hn1:=Lib.hid (show ((pairsT f k).length+1)*1<=140737488355328 by omega);have hn2:=Lib.hid (show ((pairsT f k).length+1+1)*1<=140737488355328 by omega);have hb1:=Lib.hid (show w.heap.size+1<=wr.heap.size from hs.lt);go_wp2_with (first
      | (
        at_builtin
        refine wpList_append_rd rfl (.tmp 22) (.tmp 25) 85 rfl (w.heap.size+1) 5 i0 _ 1 1 und_bytes hi hz0 hz1 hz2 rfl (by decide) _ _ _ rfl (hown.alloc _) (some ⟨wr.heap.size,0,none⟩) 1 _ [.int .u8 k] rfl (Rd.byte rfl 5 _) (one1 _) hm1.out hn1.out (Nat.le_trans hb1.out (Nat.le_of_lt (by simp))) ?_;intro v1 w1 hown1 hgr1 hat1;have hl1:=hown.lt;have gg1:Gr w w1:=Gr.grown (Gr.alloc hgr _) hgr1 (λj hj=>by have:=(hl1 j hj).1;omega);have ss1:SetAt w1 w.heap.size f:=(hs.gr (Gr.alloc (Gr.refl _) _)).grown hgr1 (λe=>by have:=(hl1 _ e.symm).1;omega);have hb2:=Lib.hid (Nat.le_trans hb1.out (Nat.le_trans (Nat.le_of_lt (by simp)) hgr1.size));have hcell1:=ss1.cell hlt;rw[hB.out] at hcell1;clear hgr1 hat1 hl1 hown hs hgr)
      | (
        at_builtin
        refine wpList_append_rd rfl (.tmp 41) (.tmp 44) 85 rfl (w.heap.size+1) 5 i0 _ 1 1 und_bytes hi hz0 hz1 hz2 rfl (by decide) _ _ _ rfl (hown1.alloc _) (some ⟨w1.heap.size,0,none⟩) 1 _ [.int .u8 k] rfl (Rd.byte rfl 5 _) (one1 _) hm2.out hn2.out (Nat.le_trans hb2.out (Nat.le_of_lt (by simp))) ?_;intro v2 w2 hown2 hgr2 hat2;have hl2:=hown1.lt;have gg2:Gr w w2:=Gr.grown (Gr.alloc gg1 _) hgr2 (λj hj=>by have:=(hl2 j hj).1;omega);have ss2:SetAt w2 w.heap.size f:=(ss1.gr (Gr.alloc (Gr.refl _) _)).grown hgr2 (λe=>by have:=(hl2 _ e.symm).1;omega);have hb3:=Lib.hid (Nat.le_trans hb2.out (Nat.le_trans (Nat.le_of_lt (by simp)) hgr2.size));have hcell2:=ss2.cell hlt;rw[hB.out] at hcell2;clear hgr2 hat2 hl2 hown1 ss1 gg1))
     go_roundw;case rel=>exact ⟨k+1,by omega,by go_num,gg2,ss2,by rw[HPN.out];simpa only[cond_true,cond_false,List.length_append,List.length_cons,List.length_nil,List.append_nil,List.nil_append,bcells_append,byteCell hlt,List.append_assoc,Nat.zero_add,Nat.add_zero,Nat.add_assoc] using hown2⟩
     case measure=>simp[intOf];omega
    cases hN:f (k+1)
    ·have hk0:((k:Int)==0)=false:=beq_eq_false_iff_ne.2 (by omega);have hk1:1<=(k:Int):=by omega
     have hcp:=hs.cell (i:=k-1) (by omega);rw[hP] at hcp;have hk2:((k:Int)==255)=false:=beq_eq_false_iff_ne.2 (by omega);have hk3:(k:Int)<=254:=by omega
     have hcn:=hs.cell (i:=k+1) (by omega);rw[hN] at hcn;have HPN:=Lib.hid (HP true true (by simp[hP,hK0]) (by simp[hN,hK2]));clear HP hK0 hK2 hP;have HN:=Lib.hid hN;clear hN;have hm1:=Lib.hid (show (pairsT f k).length+1<=maxLen by unfold maxLen;omega);have hm2:=Lib.hid (show (pairsT f k).length+1+1<=maxLen by unfold maxLen;omega);have hn1:=Lib.hid (show ((pairsT f k).length+1)*1<=140737488355328 by omega);have hn2:=Lib.hid (show ((pairsT f k).length+1+1)*1<=140737488355328 by omega);have hb1:=Lib.hid (show w.heap.size+1<=wr.heap.size from hs.lt);go_wp2_with (first
      | (
        at_builtin
        refine wpList_append_rd rfl (.tmp 22) (.tmp 25) 85 rfl (w.heap.size+1) 5 i0 _ 1 1 und_bytes hi hz0 hz1 hz2 rfl (by decide) _ _ _ rfl (hown.alloc _) (some ⟨wr.heap.size,0,none⟩) 1 _ [.int .u8 k] rfl (Rd.byte rfl 5 _) (one1 _) hm1.out hn1.out (Nat.le_trans hb1.out (Nat.le_of_lt (by simp))) ?_;intro v1 w1 hown1 hgr1 hat1;have hl1:=hown.lt;have gg1:Gr w w1:=Gr.grown (Gr.alloc hgr _) hgr1 (λj hj=>by have:=(hl1 j hj).1;omega);have ss1:SetAt w1 w.heap.size f:=(hs.gr (Gr.alloc (Gr.refl _) _)).grown hgr1 (λe=>by have:=(hl1 _ e.symm).1;omega);have hb2:=Lib.hid (Nat.le_trans hb1.out (Nat.le_trans (Nat.le_of_lt (by simp)) hgr1.size));have hcell1:=ss1.cell hlt;rw[hB.out] at hcell1;have hcn1:=ss1.cell (i:=k+1) (by omega);rw[HN.out] at hcn1;clear hgr1 hat1 hl1 hown hs hgr)
      | (
        at_builtin
        refine wpList_append_rd rfl (.tmp 41) (.tmp 44) 85 rfl (w.heap.size+1) 5 i0 _ 1 1 und_bytes hi hz0 hz1 hz2 rfl (by decide) _ _ _ rfl (hown1.alloc _) (some ⟨w1.heap.size,0,none⟩) 1 _ [.int .u8 k] rfl (Rd.byte rfl 5 _) (one1 _) hm2.out hn2.out (Nat.le_trans hb2.out (Nat.le_of_lt (by simp))) ?_;intro v2 w2 hown2 hgr2 hat2;have hl2:=hown1.lt;have gg2:Gr w w2:=Gr.grown (Gr.alloc gg1 _) hgr2 (λj hj=>by have:=(hl2 j hj).1;omega);have ss2:SetAt w2 w.heap.size f:=(ss1.gr (Gr.alloc (Gr.refl _) _)).grown hgr2 (λe=>by have:=(hl2 _ e.symm).1;omega);have hb3:=Lib.hid (Nat.le_trans hb2.out (Nat.le_trans (Nat.le_of_lt (by simp)) hgr2.size));have hcell2:=ss2.cell hlt;rw[hB.out] at hcell2;clear hgr2 hat2 hl2 hown1 ss1 gg1))
     go_roundw;case rel=>exact ⟨k+1,by omega,by go_num,gg2,ss2,by rw[HPN.out];simpa only[cond_true,cond_false,List.length_append,List.length_cons,List.length_nil,List.append_nil,List.nil_append,bcells_append,byteCell hlt,List.append_assoc,Nat.zero_add,Nat.add_zero,Nat.add_assoc] using hown2⟩
     case measure=>simp[intOf];omega
    ·have hk0:((k:Int)==0)=false:=beq_eq_false_iff_ne.2 (by omega);have hk1:1<=(k:Int):=by omega
     have hcp:=hs.cell (i:=k-1) (by omega);rw[hP] at hcp;have hk2:((k:Int)==255)=false:=beq_eq_false_iff_ne.2 (by omega);have hk3:(k:Int)<=254:=by omega
     have hcn:=hs.cell (i:=k+1) (by omega);rw[hN] at hcn;have HPN:=Lib.hid (HP true false (by simp[hP,hK0]) (by simp[hN,hK2]));clear HP hK0 hK2 hP;have HN:=Lib.hid hN;clear hN;have hm1:=Lib.hid (show (pairsT f k).length+1<=maxLen by unfold maxLen;omega);have hm2:=Lib.hid (show (pairsT f k).length+1+1<=maxLen by unfold maxLen;omega);have hn1:=Lib.hid (show ((pairsT f k).length+1)*1<=140737488355328 by omega);have hn2:=Lib.hid (show ((pairsT f k).length+1+1)*1<=140737488355328 by omega);have hb1:=Lib.hid (show w.heap.size+1<=wr.heap.size from hs.lt);go_wp2_with (first
      | (
        at_builtin
        refine wpList_append_rd rfl (.tmp 22) (.tmp 25) 85 rfl (w.heap.size+1) 5 i0 _ 1 1 und_bytes hi hz0 hz1 hz2 rfl (by decide) _ _ _ rfl (hown.alloc _) (some ⟨wr.heap.size,0,none⟩) 1 _ [.int .u8 k] rfl (Rd.byte rfl 5 _) (one1 _) hm1.out hn1.out (Nat.le_trans hb1.out (Nat.le_of_lt (by simp))) ?_;intro v1 w1 hown1 hgr1 hat1;have hl1:=hown.lt;have gg1:Gr w w1:=Gr.grown (Gr.alloc hgr _) hgr1 (λj hj=>by have:=(hl1 j hj).1;omega);have ss1:SetAt w1 w.heap.size f:=(hs.gr (Gr.alloc (Gr.refl _) _)).grown hgr1 (λe=>by have:=(hl1 _ e.symm).1;omega);have hb2:=Lib.hid (Nat.le_trans hb1.out (Nat.le_trans (Nat.le_of_lt (by simp)) hgr1.size));have hcell1:=ss1.cell hlt;rw[hB.out] at hcell1;have hcn1:=ss1.cell (i:=k+1) (by omega);rw[HN.out] at hcn1;clear hgr1 hat1 hl1 hown hs hgr))
     go_roundw;case rel=>exact ⟨k+1,by omega,by go_num,gg1,ss1,by rw[HPN.out];simpa only[cond_true,cond_false,List.length_append,List.length_cons,List.length_nil,List.append_nil,List.nil_append,bcells_append,byteCell hlt,List.append_assoc,Nat.zero_add,Nat.add_zero,Nat.add_assoc] using hown1⟩
     case measure=>simp[intOf];omega
   ·by_cases hK2:k=255
    ·have hk0:((k:Int)==0)=false:=beq_eq_false_iff_ne.2 (by omega);have hk1:1<=(k:Int):=by omega
     have hcp:=hs.cell (i:=k-1) (by omega);rw[hP] at hcp;have hk2:((k:Int)==255)=true:=beq_iff_eq.2 (by omega);have HPN:=Lib.hid (HP false true (by simp[hP,hK0]) (by simp[hK2]));clear HP hK0 hK2 hP;have hm1:=Lib.hid (show (pairsT f k).length+1<=maxLen by unfold maxLen;omega);have hm2:=Lib.hid (show (pairsT f k).length+1+1<=maxLen by unfold maxLen;omega);have hn1:=Lib.hid (show ((pairsT f k).length+1)*1<=140737488355328 by omega);have hn2:=Lib.hid (show ((pairsT f k).length+1+1)*1<=140737488355328 by omega);have hb1:=Lib.hid (show w.heap.size+1<=wr.heap.size from hs.lt);have hb2:=hb1;have hm2:=hm1;have hn2:=hn1;go_wp2_with (first
      | (
        at_builtin
        refine wpList_append_rd rfl (.tmp 41) (.tmp 44) 85 rfl (w.heap.size+1) 5 i0 _ 1 1 und_bytes hi hz0 hz1 hz2 rfl (by decide) _ _ _ rfl (hown.alloc _) (some ⟨wr.heap.size,0,none⟩) 1 _ [.int .u8 k] rfl (Rd.byte rfl 5 _) (one1 _) hm2.out hn2.out (Nat.le_trans hb2.out (Nat.le_of_lt (by simp))) ?_;intro v2 w2 hown2 hgr2 hat2;have hl2:=hown.lt;have gg2:Gr w w2:=Gr.grown (Gr.alloc hgr _) hgr2 (λj hj=>by have:=(hl2 j hj).1;omega);have ss2:SetAt w2 w.heap.size f:=(hs.gr (Gr.alloc (Gr.refl _) _)).grown hgr2 (λe=>by have:=(hl2 _ e.symm).1;omega);have hb3:=Lib.hid (Nat.le_trans hb2.out (Nat.le_trans (Nat.le_of_lt (by simp)) hgr2.size));have hcell2:=ss2.cell hlt;rw[hB.out] at hcell2;clear hgr2 hat2 hl2 hown hs hgr))
     go_roundw;case rel=>exact ⟨k+1,by omega,by go_num,gg2,ss2,by rw[HPN.out];simpa only[cond_true,cond_false,List.length_append,List.length_cons,List.length_nil,List.append_nil,List.nil_append,bcells_append,byteCell hlt,List.append_assoc,Nat.zero_add,Nat.add_zero,Nat.add_assoc] using hown2⟩
     case measure=>simp[intOf];omega
    cases hN:f (k+1)
    ·have hk0:((k:Int)==0)=false:=beq_eq_false_iff_ne.2 (by omega);have hk1:1<=(k:Int):=by omega
     have hcp:=hs.cell (i:=k-1) (by omega);rw[hP] at hcp;have hk2:((k:Int)==255)=false:=beq_eq_false_iff_ne.2 (by omega);have hk3:(k:Int)<=254:=by omega
     have hcn:=hs.cell (i:=k+1) (by omega);rw[hN] at hcn;have HPN:=Lib.hid (HP false true (by simp[hP,hK0]) (by simp[hN,hK2]));clear HP hK0 hK2 hP;have HN:=Lib.hid hN;clear hN;have hm1:=Lib.hid (show (pairsT f k).length+1<=maxLen by unfold maxLen;omega);have hm2:=Lib.hid (show (pairsT f k).length+1+1<=maxLen by unfold maxLen;omega);have hn1:=Lib.hid (show ((pairsT f k).length+1)*1<=140737488355328 by omega);have hn2:=Lib.hid (show ((pairsT f k).length+1+1)*1<=140737488355328 by omega);have hb1:=Lib.hid (show w.heap.size+1<=wr.heap.size from hs.lt);have hb2:=hb1;have hm2:=hm1;have hn2:=hn1;go_wp2_with (first
      | (
        at_builtin
        refine wpList_append_rd rfl (.tmp 41) (.tmp 44) 85 rfl (w.heap.size+1) 5 i0 _ 1 1 und_bytes hi hz0 hz1 hz2 rfl (by decide) _ _ _ rfl (hown.alloc _) (some ⟨wr.heap.size,0,none⟩) 1 _ [.int .u8 k] rfl (Rd.byte rfl 5 _) (one1 _) hm2.out hn2.out (Nat.le_trans hb2.out (Nat.le_of_lt (by simp))) ?_;intro v2 w2 hown2 hgr2 hat2;have hl2:=hown.lt;have gg2:Gr w w2:=Gr.grown (Gr.alloc hgr _) hgr2 (λj hj=>by have:=(hl2 j hj).1;omega);have ss2:SetAt w2 w.heap.size f:=(hs.gr (Gr.alloc (Gr.refl _) _)).grown hgr2 (λe=>by have:=(hl2 _ e.symm).1;omega);have hb3:=Lib.hid (Nat.le_trans hb2.out (Nat.le_trans (Nat.le_of_lt (by simp)) hgr2.size));have hcell2:=ss2.cell hlt;rw[hB.out] at hcell2;clear hgr2 hat2 hl2 hown hs hgr))
     go_roundw;case rel=>exact ⟨k+1,by omega,by go_num,gg2,ss2,by rw[HPN.out];simpa only[cond_true,cond_false,List.length_append,List.length_cons,List.length_nil,List.append_nil,List.nil_append,bcells_append,byteCell hlt,List.append_assoc,Nat.zero_add,Nat.add_zero,Nat.add_assoc] using hown2⟩
     case measure=>simp[intOf];omega
    ·have hk0:((k:Int)==0)=false:=beq_eq_false_iff_ne.2 (by omega);have hk1:1<=(k:Int):=by omega
     have hcp:=hs.cell (i:=k-1) (by omega);rw[hP] at hcp;have hk2:((k:Int)==255)=false:=beq_eq_false_iff_ne.2 (by omega);have hk3:(k:Int)<=254:=by omega
     have hcn:=hs.cell (i:=k+1) (by omega);rw[hN] at hcn;have HPN:=Lib.hid (HP false false (by simp[hP,hK0]) (by simp[hN,hK2]));clear HP hK0 hK2 hP;have HN:=Lib.hid hN;clear hN;go_wp2;go_roundw;case rel=>exact ⟨k+1,by omega,by go_num,hgr,hs,by rw[HPN.out];simpa only[cond_true,cond_false,List.length_append,List.length_cons,List.length_nil,List.append_nil,List.nil_append,bcells_append,byteCell hlt,List.append_assoc,Nat.zero_add,Nat.add_zero,Nat.add_assoc] using hown⟩
     case measure=>simp[intOf];omega
  ·have hk':k=256:=by omega
   subst hk';have hconv:=conv_own und_bytes und_u8 und_str hown;clear hown hle;go_wp2;go_ret;exact ⟨rfl,hgr⟩
theorem Gr.drewM {a w:World} (h:Gr a w) (n:Nat):Gr a (w.drewN n):=⟨h.os,h.tape,h.output,h.size,h.block⟩
theorem drop_byte {s:ByteArray} {n:Nat} {c:UInt8} {r:List UInt8} (h:s.data.toList.drop n=c::r):∃hn:n<s.size,s[n]=c:=by
 have hl:n<s.data.toList.length:=by
  rcases Nat.lt_or_ge n s.data.toList.length with h1|h1
  ·exact h1
  ·rw[List.drop_eq_nil_of_le h1] at h;cases h
 refine ⟨by simpa using hl,?_⟩;rw[List.drop_eq_getElem_cons hl] at h;injection h with h1 _
theorem Rdr.byte {w:World} {R n:Nat} {s:ByteArray} {q:Rs} (h:Rdr w R s n q) {c:UInt8} {r:List UInt8} (hq:q.rest=c::r):∃hn:n<s.size,s[n]=c:=
 drop_byte (h.rest.trans hq)
theorem now_end {w:World} {R n:Nat} {s:ByteArray} {q:Rs} (h:Rdr w R s n q) (hs:(s.size:Int)<=4096) (hq:q.rest=[]) :
  Calls Tryz.prog 135 #[.pointer (some ⟨R,0,none⟩)] w λe w'=>e= .returned (.tuple #[.int .u8 0, .bool false])/\Gr w w':=by
 have hl:=h.len;rw[hq] at hl;have hn:s.size<=n:=by simp at hl;omega
 obtain ⟨c0,c1⟩:=And.intro h.c0 h.c1;clear h hq hl;go_enter Tryz.func135,Tryz.ntmps135;go_wp2
 go_quiet (fail)
 go_wp2;go_ret2;exact ⟨rfl,Gr.drewM (Gr.refl _) _⟩
theorem now_some {w:World} {R n:Nat} {s:ByteArray} {q:Rs} (h:Rdr w R s n q) (hs:(s.size:Int)<=4096) {c:UInt8} {r:List UInt8} (hq:q.rest=c::r) :
  Calls Tryz.prog 135 #[.pointer (some ⟨R,0,none⟩)] w λe w'=>e= .returned (.tuple #[.int .u8 c.toNat, .bool true])/\Gr w w':=by
 obtain ⟨hn,hb⟩:=h.byte hq;obtain ⟨c0,c1⟩:=And.intro h.c0 h.c1;have hn':(n:Int)<s.size:=by omega
 clear h hq;go_enter Tryz.func135,Tryz.ntmps135;go_wp2
 go_quiet (fail)
 go_wp2
 go_quiet (fail)
 go_wp2;go_ret2;exact ⟨rfl,Gr.drewM (Gr.drewM (Gr.refl _) _) _⟩
theorem is_no {w:World} {R n:Nat} {s:ByteArray} {q:Rs} (h:Rdr w R s n q) (hs:(s.size:Int)<=4096) (c:Nat) (hc:c<256) (hq:headIs c q.rest=false) :
  Calls Tryz.prog 137 #[.pointer (some ⟨R,0,none⟩), .int .u8 c] w λe w'=>e= .returned (.bool false)/\Gr w w':=by
 match e:q.rest with
 | []=>
  have Q:=λw (h:Rdr w R s n q)=>now_end h hs e;go_enter Tryz.func137,Tryz.ntmps137;go_wp2_with (go_at_call 135;refine (Q _ h).mono ?_;rintro e w1 ⟨rfl,hg⟩);go_ret;exact ⟨rfl,hg⟩
 | b::r=>
  rw[e] at hq;have hne:((b.toNat:Int)==(c:Int))=false:=by
   have:¬b.toNat=c:=by simpa [headIs] using hq
   exact beq_eq_false_iff_ne.2 (by omega)
  have hne':(b.toNat==c)=false:=by simpa [headIs] using hq
  have Q:=λw (h:Rdr w R s n q)=>now_some h hs e;clear hq;go_enter Tryz.func137,Tryz.ntmps137;go_wp2_with (go_at_call 135;refine (Q _ h).mono ?_;rintro e w1 ⟨rfl,hg⟩);go_ret;exact ⟨rfl,hg⟩
theorem is_yes {w:World} {R n:Nat} {s:ByteArray} {q:Rs} (h:Rdr w R s n q) (hs:(s.size:Int)<=4096) (c:Nat) (hc:c<256) (hq:headIs c q.rest=true) :
  Calls Tryz.prog 137 #[.pointer (some ⟨R,0,none⟩), .int .u8 c] w λe w'=>e= .returned (.bool true)/\Gr w w':=by
 match e:q.rest with
 | []=>rw[e] at hq;cases hq
 | b::r=>
  rw[e] at hq;have hb:b.toNat=c:=by simpa [headIs] using hq
  subst hb;have Q:=λw (h:Rdr w R s n q)=>now_some h hs e;clear hq;go_enter Tryz.func137,Tryz.ntmps137;go_wp2_with (go_at_call 135;refine (Q _ h).mono ?_;rintro e w1 ⟨rfl,hg⟩);go_ret;exact ⟨rfl,hg⟩
theorem headIs_cons {c:Nat} {l:List UInt8} (h:headIs c l=true):∃b r,l=b::r/\b.toNat=c:=by
 cases l with
 | nil=>cases h
 | cons b r=>exact ⟨b,r,rfl,by simpa [headIs] using h⟩
theorem Rdr.next {w:World} {R n:Nat} {s:ByteArray} {q:Rs} (h:Rdr w R s n q) {c:UInt8} {r:List UInt8} (hq:q.rest=c::r):Rdr (w.setCell ⟨R,1,none⟩ (.int .i64 ((n:Int)+1))) R s (n+1) {q with rest:=r}:=by
 have hl:=h.len;have hr:=h.rest;rw[hq] at hl hr;refine ⟨by simp at hl ⊢;omega,?_,?_,?_,?_,?_,?_,?_,?_,?_,?_,?_,?_,?_⟩
 ·show s.data.toList.drop (n+1)=r;rw[<-List.drop_drop,hr];rfl
 ·exact (World.cell?_setCell_other w ⟨R,1,none⟩ ⟨R,0,none⟩ _ (by simp)).trans h.c0
 ·have:=h.c1;have:=h.f1;go_simp
 ·exact (World.cell?_setCell_other w ⟨R,1,none⟩ ⟨R,2,none⟩ _ (by simp)).trans h.c2
 ·exact (World.cell?_setCell_other w ⟨R,1,none⟩ ⟨R,3,none⟩ _ (by simp)).trans h.c3
 ·exact (World.cell?_setCell_other w ⟨R,1,none⟩ ⟨R,4,none⟩ _ (by simp)).trans h.c4
 ·exact (World.cell?_setCell_other w ⟨R,1,none⟩ ⟨R,5,none⟩ _ (by simp)).trans h.c5
 ·exact (by simp:(w.setCell ⟨R,1,none⟩ _).frozen? ⟨R,1,none⟩=w.frozen? ⟨R,1,none⟩).trans h.f1
 ·exact (by simp:(w.setCell ⟨R,1,none⟩ _).frozen? ⟨R,2,none⟩=w.frozen? ⟨R,2,none⟩).trans h.f2
 ·exact (by simp:(w.setCell ⟨R,1,none⟩ _).frozen? ⟨R,3,none⟩=w.frozen? ⟨R,3,none⟩).trans h.f3
 ·exact (by simp:(w.setCell ⟨R,1,none⟩ _).frozen? ⟨R,4,none⟩=w.frozen? ⟨R,4,none⟩).trans h.f4
 ·exact (by simp:(w.setCell ⟨R,1,none⟩ _).frozen? ⟨R,5,none⟩=w.frozen? ⟨R,5,none⟩).trans h.f5
 ·simpa using h.lt
theorem takes_no {w:World} {R n:Nat} {s:ByteArray} {q:Rs} (h:Rdr w R s n q) (hs:(s.size:Int)<=4096) (c:Nat) (hc:c<256) (hq:headIs c q.rest=false) :
  Calls Tryz.prog 109 #[.pointer (some ⟨R,0,none⟩), .int .u8 c] w λe w'=>e= .returned (.bool false)/\Gr w w':=by
 have Q:=λw (h:Rdr w R s n q)=>is_no h hs c hc hq;clear hq;go_enter Tryz.func109,Tryz.ntmps109;go_wp2_with (go_at_call 137;refine (Q _ h).mono ?_;rintro e w1 ⟨rfl,hg⟩);go_ret;exact ⟨rfl,hg⟩
theorem takes_yes {w:World} {R n:Nat} {s:ByteArray} {q:Rs} (h:Rdr w R s n q) (hs:(s.size:Int)<=4096) (c:Nat) (hc:c<256) (hq:headIs c q.rest=true) :
  Calls Tryz.prog 109 #[.pointer (some ⟨R,0,none⟩), .int .u8 c] w λe w'=>e= .returned (.bool true)/\GX R w w'/\Rdr w' R s (n+1) {q with rest:=q.rest.drop 1}:=by
 have Q:=λw (h:Rdr w R s n q)=>is_yes h hs c hc hq;obtain ⟨b,r,hr, -⟩:=headIs_cons hq;have hle:=h.len;have hn:(n:Int)<4096:=by rw[hr] at hle;simp at hle;omega
 clear hq hle;go_enter Tryz.func109,Tryz.ntmps109;go_wp2_with fail;refine (Q _ h).mono ?_;rintro e w1 ⟨rfl,hg⟩;have h1:=h.gr hg;obtain ⟨c1,f1⟩:=And.intro h1.c1 h1.f1;clear Q;go_wp2;go_ret;refine ⟨rfl,GX.setCell (p:=⟨R,1,none⟩) (GX.of_gr hg) (.inl rfl) _,?_⟩;have hn:=h1.next hr;rw[hr];exact hn
def RetBX (R:Nat) (s:ByteArray) (w:World) (x:Option Bs) (q:Rs) (e:Ending) (w':World):Prop:=
 ∃(f:Bs) (n:Nat),e= .returned (.tuple #[.agg (bsA f), .bool x.isSome])/\(∀g,x=some g->f=g)/\GX R w w'/\Rdr w' R s n q
theorem built_set:Tryz.prog.built 219 []=some (bsA noB):=by kernel_rfl
theorem wpList_build0 {P:Program} {ops:Array Oper} {rest:List Oper} {o:Oper} {a:Act} {w:World} {Q:Exit->Act->World->Prop} (hg:o.guard=none) (t:TypeId) (ho:o.op= .build t #[])
  (c:Array Value) (hb:P.built t []=some c) (h:wpList P ops Q rest (a.put o.dst (.agg c)) w):wpList P ops Q (o::rest) a w:=
 wpList_build hg t #[] ho (by simp[hb]) (by simpa [hb] using h)
theorem Rdr.setRow {w:World} {R n:Nat} {s:ByteArray} {q:Rs} (h:Rdr w R s n q) {g:Nat} (hg:R≠g) (cs:Array Value):Rdr (w.setRow g cs) R s n q:=by
 have e:(w.setRow g cs).heap[R]?=w.heap[R]?:=setRow_other w g R cs hg;have hc:∀i,(w.setRow g cs).cell? ⟨R,i,none⟩=w.cell? ⟨R,i,none⟩:=λi=>World.cell?_of_block (a:=⟨R,i,none⟩) e;have hf:∀i,(w.setRow g cs).frozen? ⟨R,i,none⟩=w.frozen? ⟨R,i,none⟩:=λi=>World.frozen?_of_block (a:=⟨R,i,none⟩) e;exact ⟨h.len,h.rest,(hc 0).trans h.c0,(hc 1).trans h.c1,(hc 2).trans h.c2,(hc 3).trans h.c3,(hc 4).trans h.c4,(hc 5).trans h.c5,(hf 1).trans h.f1,(hf 2).trans h.f2,(hf 3).trans h.f3,(hf 4).trans h.f4,(hf 5).trans h.f5,by simpa using h.lt⟩
theorem esc_any {w:World} {R n:Nat} {s:ByteArray} {q:Rs} (h:Rdr w R s n q) (hs:(s.size:Int)<=4096) :
  Calls Tryz.prog 158 #[.pointer (some ⟨R,0,none⟩)] w (RetBX R s w (escS q.rest).1 {q with rest:=(escS q.rest).2}):=by
 obtain ⟨hz,hsz⟩:=zero_of_info info_set;have g0:Gr w (w.alloc (Obj.cells (bsA noB) 219)):=gq;have r0:SetAt (w.alloc (Obj.cells (bsA noB) 219)) w.heap.size noB:=SetAt.new w noB;have hRw:=h.lt;match e:q.rest with
 | []=>
  have Q:=λw (h:Rdr w R s n q)=>now_end h hs e;go_enter Tryz.func158,Tryz.ntmps158;go_upto_region 1 with (fail)
  generalize (w.alloc (Obj.cells (bsA noB) 219))=w0 at g0 r0 ⊢;have h0:=h.gr g0;clear hz hsz h;go_upto_region 3 with (go_at_call 135;refine (Q _ h0).mono ?_;rintro e w1 ⟨rfl,hg⟩)
  have h1:=h0.gr hg;have g1:=Gr.trans g0 hg;have r1:=r0.gr hg;clear Q g0 r0 h0 hg;go_wp2_with (first
   | (refine wpList_build0 rfl 219 rfl (bsA noB) built_set ?_)
   | (refine wpList_store_row rfl 219 (.tmp 2) (.tmp 17) rfl w.heap.size (bsA noB) rfl rfl _ _ r1 (size_bsA _) (by simp only[bsA_size]) (bsA_one _) ?_))
  refine bodyPost_ret (v:= .tuple #[.agg (bsA noB), .bool false]) (res_set2 _ 2 3 (by kernel_rfl) _ _ w.heap.size _ _ rfl rfl (SetAt.row r1)) rfl ⟨noB,n,rfl,(λ_ h=>by cases h),GX.of_gr (Gr.setRow g1 (Nat.le_refl _) _),?_⟩;have h2:=h1.setRow (g:=w.heap.size) (by omega) (bsA noB);have e':q={q with rest:=[]}:=by rw[<-e]
  rw[e'] at h2;exact h2
 | c::r=>
  have Q:=λw (h:Rdr w R s n q)=>now_some h hs e;have hle:=h.len;have hn:(n:Int)<4096:=by rw[e] at hle;simp at hle;omega
  have hc256:c.toNat<256:=c.toNat_lt;have hw0:R<w.heap.size:=h.lt;clear hle;have QN:=λw=>named_any c.toNat w hc256;cases hnm:namedB c.toNat with
  | some f=>
   have e1:nmB c.toNat=f:=by simp[nmB,hnm]
   have e2:isNamed c.toNat=true:=by simp[isNamed,hnm]
   have e3:escS (c::r)=(some f,r):=by simp[escS,hnm]
   rw[e1,e2] at QN;rw[e3];clear e1 e2 e3 hnm;go_enter Tryz.func158,Tryz.ntmps158;go_upto_region 1 with (fail)
   generalize (w.alloc (Obj.cells (bsA noB) 219))=w0 at g0 r0 ⊢;have h0:=h.gr g0;clear hsz h;go_upto_region 4 with (go_at_call 135;refine (Q _ h0).mono ?_;rintro e w1 ⟨rfl,hg⟩)
   have h1:=h0.gr hg;have g1:=Gr.trans g0 hg;have r1:=r0.gr hg;clear Q g0 r0 h0 hg;obtain ⟨c1,f1⟩:=And.intro h1.c1 h1.f1;go_upto_region 5 with (fail)
   have h2:=h1.next e;have x2:=GX.setCell (p:=⟨R,1,none⟩) (GX.of_gr g1) (.inl rfl) (.int .i64 ((n:Int)+1));have r2:=r1.other (p:=⟨R,1,none⟩) (by simp;omega) (.int .i64 ((n:Int)+1));clear c1 f1 h1 g1 r1;generalize w1.setCell ⟨R,1,none⟩ (.int .i64 ((n:Int)+1))=w2 at h2 x2 r2 ⊢;go_upto_region 7 with (first
    | (go_at_call 166;refine (QN _).mono ?_;rintro e w3 ⟨rfl,hg3⟩)
    | (refine wpList_store_row rfl 219 (.tmp 6) (.tmp 30) rfl w3.heap.size (bsA f) rfl rfl _ _ (SetAt.new w3 noB) (size_bsA _) (by simp only[bsA_size]) (bsA_one _) ?_))
   have S1:SetAt ((w3.alloc (.cells (bsA noB) 219)).setRow w3.heap.size (bsA f)) w3.heap.size f:=SetAt.row (SetAt.new w3 noB);have G1:Gr w2 ((w3.alloc (.cells (bsA noB) 219)).setRow w3.heap.size (bsA f)):=Gr.setRow (Gr.alloc hg3 _) hg3.size _;generalize ((w3.alloc (.cells (bsA noB) 219)).setRow w3.heap.size (bsA f))=w4 at S1 G1 ⊢;have h4:=h2.gr G1;have x4:=x2.trans (GX.of_gr G1);have r4:=r2.gr G1;clear QN hg3 h2 x2 r2 G1 hz;go_wp2_with (first
    | (refine wpList_load_row rfl 219 (.tmp 6) rfl w3.heap.size rfl _ (bsA f) (0,0) _ S1 und_set rfl (size_bsA _) ?_)
    | (refine wpList_store_row rfl 219 (.tmp 2) (.tmp 33) rfl w.heap.size (bsA f) rfl rfl _ _ r4 (size_bsA _) (by simp only[bsA_size]) (bsA_one _) ?_))
   exact bodyPost_ret (v:= .tuple #[.agg (bsA f), .bool true]) (res_set2 _ 2 3 (by kernel_rfl) _ _ w.heap.size _ _ rfl rfl (SetAt.row r4)) rfl ⟨f,n+1,rfl,(λg h=>by injection h),x4.setRow (.inr (Nat.le_refl _)) _,h4.setRow (g:=w.heap.size) (by omega) (bsA f)⟩
  | none=>
   have e1:nmB c.toNat=noB:=by simp[nmB,hnm]
   have e2:isNamed c.toNat=false:=by simp[isNamed,hnm]
   have e3:escS (c::r)=(bif isWordB c.toNat then none else some (oneB c.toNat),r):=by simp[escS,hnm]
   rw[e1,e2] at QN;rw[e3];have QW:=λw=>isWord_any c.toNat w hc256;have QO:=λw=>one_any c.toNat w hc256;clear e1 e2 e3 hnm;cases hwd:isWordB c.toNat;all_goals
    simp only[hwd,cond_true,cond_false] at QW ⊢;clear hwd;go_enter Tryz.func158,Tryz.ntmps158;go_upto_region 1 with (fail)
    generalize (w.alloc (Obj.cells (bsA noB) 219))=w0 at g0 r0 ⊢;have h0:=h.gr g0;clear hsz h;go_upto_region 4 with (go_at_call 135;refine (Q _ h0).mono ?_;rintro e w1 ⟨rfl,hg⟩)
    have h1:=h0.gr hg;have g1:=Gr.trans g0 hg;have r1:=r0.gr hg;clear Q g0 r0 h0 hg;obtain ⟨c1,f1⟩:=And.intro h1.c1 h1.f1;go_upto_region 5 with (fail)
    have h2:=h1.next e;have x2:=GX.setCell (p:=⟨R,1,none⟩) (GX.of_gr g1) (.inl rfl) (.int .i64 ((n:Int)+1));have r2:=r1.other (p:=⟨R,1,none⟩) (by simp;omega) (.int .i64 ((n:Int)+1));clear c1 f1 h1 g1 r1;generalize w1.setCell ⟨R,1,none⟩ (.int .i64 ((n:Int)+1))=w2 at h2 x2 r2 ⊢;go_upto_region 8 with (first
     | (go_at_call 166;refine (QN _).mono ?_;rintro e w3 ⟨rfl,hg3⟩)
     | (refine wpList_store_row rfl 219 (.tmp 6) (.tmp 30) rfl w3.heap.size (bsA noB) rfl rfl _ _ (SetAt.new w3 noB) (size_bsA _) (by simp only[bsA_size]) (bsA_one _) ?_))
    have G1:Gr w2 ((w3.alloc (.cells (bsA noB) 219)).setRow w3.heap.size (bsA noB)):=Gr.setRow (Gr.alloc hg3 _) hg3.size _;generalize ((w3.alloc (.cells (bsA noB) 219)).setRow w3.heap.size (bsA noB))=w4 at G1 ⊢;clear QN hg3 hz;go_wp2_with (first
     | (go_at_call 153;refine (QO _).mono ?_;rintro e w5 ⟨rfl,hg5⟩)
     | (go_at_call 167;refine (QW _).mono ?_;rintro e w6 ⟨rfl,hg6⟩;have G6:=Gr.trans G1 (Gr.trans hg5 hg6);have h6:=h2.gr G6;have x6:=x2.trans (GX.of_gr G6);have r6:=r2.gr G6;clear G6)
     | (refine wpList_store_row rfl 219 (.tmp 2) (.tmp 35) rfl w.heap.size (bsA (oneB c.toNat)) rfl rfl _ _ r6 (size_bsA _) (by simp only[bsA_size]) (bsA_one _) ?_))
   ·exact bodyPost_ret (v:= .tuple #[.agg (bsA (oneB c.toNat)), .bool true]) (res_set2 _ 2 3 (by kernel_rfl) _ _ w.heap.size _ _ rfl rfl (SetAt.row r6)) rfl ⟨oneB c.toNat,n+1,rfl,(λg h=>by injection h),x6.setRow (.inr (Nat.le_refl _)) _,h6.setRow (g:=w.heap.size) (by omega) (bsA (oneB c.toNat))⟩
   ·exact bodyPost_ret (v:= .tuple #[.agg (bsA (oneB c.toNat)), .bool false]) (res_set2 _ 2 3 (by kernel_rfl) _ _ w.heap.size _ _ rfl rfl (SetAt.row r6)) rfl ⟨oneB c.toNat,n+1,rfl,(λg h=>by cases h),x6.setRow (.inr (Nat.le_refl _)) _,h6.setRow (g:=w.heap.size) (by omega) (bsA (oneB c.toNat))⟩
theorem res_set4 (fn:Func) (p q r t:Tmp) (h:fn.results= #[.cell p 219, .tmp q, .tmp r, .tmp t]) (tmps:Array Value) (w:World) (g:Nat) (f:Bs) (b c d:Value) (hp:tmps.getD p undef= .pointer (some ⟨g,0,none⟩)) (hq:tmps.getD q undef=b) (hr:tmps.getD r undef=c) (ht:tmps.getD t undef=d) (hs:SetAt w g f) :
  (results fn tmps).run Tryz.prog w= .ok (.tuple #[.agg (bsA f),b,c,d]) w:=by
 have hp':tmps[p]?.getD undef= .pointer (some ⟨g,0,none⟩):=by simpa using hp
 have hq':tmps[q]?.getD undef=b:=by simpa using hq
 have hr':tmps[r]?.getD undef=c:=by simpa using hr
 have ht':tmps[t]?.getD undef=d:=by simpa using ht
 simp[results,h,hp',hq',hr',ht',asAddr,run_loadVar_row w g _ 219 (bsA f) (0,0) _ hs und_set rfl (size_bsA _)]
def RetD (R:Nat) (s:ByteArray) (w:World) (x:Option (Bs×Nat×Bool)) (q:Rs) (e:Ending) (w':World):Prop:=
 ∃(f:Bs) (c:Nat) (b:Bool) (n:Nat),e= .returned (.tuple #[.agg (bsA f), .int .u8 c, .bool b, .bool x.isSome])/\(∀g,x=some g->(f,c,b)=g/\c<256)/\GX R w w'/\Rdr w' R s n q
theorem esc_rest (d:UInt8) (t:List UInt8):(escS (d::t)).2=t:=by
 simp only[escS];cases namedB d.toNat<;>rfl
theorem side_any {w:World} {R n:Nat} {s:ByteArray} {q:Rs} (h:Rdr w R s n q) (hs:(s.size:Int)<=4096) :
  Calls Tryz.prog 162 #[.pointer (some ⟨R,0,none⟩)] w (RetD R s w (sideS q.rest).1 {q with rest:=(sideS q.rest).2}):=by
 obtain ⟨hz,hsz⟩:=zero_of_info info_set;have g0:Gr w (w.alloc (Obj.cells (bsA noB) 219)):=gq;have r0:SetAt (w.alloc (Obj.cells (bsA noB) 219)) w.heap.size noB:=SetAt.new w noB;have hRw:=h.lt;match e:q.rest with
 | []=>
  have Q:=λw (h:Rdr w R s n q)=>now_end h hs e;go_enter Tryz.func162,Tryz.ntmps162;go_upto_region 1 with (fail)
  generalize (w.alloc (Obj.cells (bsA noB) 219))=w0 at g0 r0 ⊢;have h0:=h.gr g0;clear hz hsz h;go_upto_region 3 with (go_at_call 135;refine (Q _ h0).mono ?_;rintro e w1 ⟨rfl,hg⟩)
  have h1:=h0.gr hg;have g1:=Gr.trans g0 hg;have r1:=r0.gr hg;clear Q g0 r0 h0 hg;go_wp2_with (first
   | (refine wpList_load_row rfl 219 (.tmp 2) rfl w.heap.size rfl _ (bsA noB) (0,0) _ r1 und_set rfl (size_bsA _) ?_)
   | (refine wpList_store_row rfl 219 (.tmp 2) (.tmp 15) rfl w.heap.size (bsA noB) rfl rfl _ _ r1 (size_bsA _) (by simp only[bsA_size]) (bsA_one _) ?_))
  have e':q={q with rest:=[]}:=by rw[<-e]
  rw[e'] at h1;exact bodyPost_ret (v:= .tuple #[.agg (bsA noB), .int .u8 0, .bool false, .bool false]) (res_set4 _ 2 3 4 5 (by kernel_rfl) _ _ w.heap.size _ _ _ _ rfl rfl rfl rfl (SetAt.row r1)) rfl ⟨noB,0,false,n,rfl,(λ_ h=>by cases h),(GX.of_gr g1).setRow (.inr (Nat.le_refl _)) _,h1.setRow (g:=w.heap.size) (by omega) _⟩
 | c::r=>
  have Q:=λw (h:Rdr w R s n q)=>now_some h hs e;have hle:=h.len;have hn:(n:Int)<4096:=by rw[e] at hle;simp at hle;omega
  have hc256:c.toNat<256:=c.toNat_lt;clear hle;by_cases h92:c.toNat=92;case neg=>
   have q92:((c.toNat:Int) != 92)=true:=by simp[bne,beq_eq_false_iff_ne.2 (show (c.toNat:Int)≠92 by omega)]
   have e3:sideS (c::r)=(some (oneB c.toNat,c.toNat,false),r):=by simp[sideS,beq_eq_false_iff_ne.2 h92]
   rw[e3];have QO:=λw=>one_any c.toNat w hc256;clear e3 h92;go_enter Tryz.func162,Tryz.ntmps162;go_upto_region 1 with (fail)
   generalize (w.alloc (Obj.cells (bsA noB) 219))=w0 at g0 r0 ⊢;have h0:=h.gr g0;clear hz hsz h;go_upto_region 4 with (go_at_call 135;refine (Q _ h0).mono ?_;rintro e w1 ⟨rfl,hg⟩)
   have h1:=h0.gr hg;have g1:=Gr.trans g0 hg;have r1:=r0.gr hg;clear Q g0 r0 h0 hg;obtain ⟨c1,f1⟩:=And.intro h1.c1 h1.f1;go_upto_region 5 with (fail)
   have h2:=h1.next e;have x2:=GX.setCell (p:=⟨R,1,none⟩) (GX.of_gr g1) (.inl rfl) (.int .i64 ((n:Int)+1));have r2:=r1.other (p:=⟨R,1,none⟩) (by simp;omega) (.int .i64 ((n:Int)+1));clear c1 f1 h1 g1 r1;generalize w1.setCell ⟨R,1,none⟩ (.int .i64 ((n:Int)+1))=w2 at h2 x2 r2 ⊢;go_wp2_with (first
    | (go_at_call 153;refine (QO _).mono ?_;rintro e w5 ⟨rfl,hg5⟩;have h5:=h2.gr hg5;have x5:=x2.trans (GX.of_gr hg5);have r5:=r2.gr hg5)
    | (refine wpList_store_row rfl 219 (.tmp 2) (.tmp 28) rfl w.heap.size (bsA (oneB c.toNat)) rfl rfl _ _ r5 (size_bsA _) (by simp only[bsA_size]) (bsA_one _) ?_))
   exact bodyPost_ret (v:= .tuple #[.agg (bsA (oneB c.toNat)), .int .u8 c.toNat, .bool false, .bool true]) (res_set4 _ 2 3 4 5 (by kernel_rfl) _ _ w.heap.size _ _ _ _ rfl rfl rfl rfl (SetAt.row r5)) rfl ⟨(oneB c.toNat),c.toNat,false,n+1,rfl,(λg h=>⟨by injection h,hc256⟩),x5.setRow (.inr (Nat.le_refl _)) _,h5.setRow (g:=w.heap.size) (by omega) _⟩
  case pos=>
   have q92:((c.toNat:Int) != 92)=false:=by rw[h92];rfl
   match r,e with
   | [],e=>
    have e3:sideS (c::[])=(none,[]):=by simp[sideS,h92]
    rw[e3];clear e3 h92;go_enter Tryz.func162,Tryz.ntmps162;go_upto_region 1 with (fail)
    generalize (w.alloc (Obj.cells (bsA noB) 219))=w0 at g0 r0 ⊢;have h0:=h.gr g0;clear hz hsz h;go_upto_region 4 with (go_at_call 135;refine (Q _ h0).mono ?_;rintro e w1 ⟨rfl,hg⟩)
    have h1:=h0.gr hg;have g1:=Gr.trans g0 hg;have r1:=r0.gr hg;clear Q g0 r0 h0 hg;obtain ⟨c1,f1⟩:=And.intro h1.c1 h1.f1;go_upto_region 5 with (fail)
    have h2:=h1.next e;have x2:=GX.setCell (p:=⟨R,1,none⟩) (GX.of_gr g1) (.inl rfl) (.int .i64 ((n:Int)+1));have r2:=r1.other (p:=⟨R,1,none⟩) (by simp;omega) (.int .i64 ((n:Int)+1));clear c1 f1 h1 g1 r1;generalize w1.setCell ⟨R,1,none⟩ (.int .i64 ((n:Int)+1))=w2 at h2 x2 r2 ⊢;have Q:=λw (h:Rdr w R s (n+1) {q with rest:=[]})=>now_end h hs rfl;go_upto_region 9 with (go_at_call 135;refine (Q _ h2).mono ?_;rintro e w3 ⟨rfl,hg⟩)
    have h3:=h2.gr hg;have x3:=x2.trans (GX.of_gr hg);have r3:=r2.gr hg;clear Q h2 x2 r2 hg;go_wp2_with (first
     | (refine wpList_load_row rfl 219 (.tmp 2) rfl w.heap.size rfl _ (bsA noB) (0,0) _ r3 und_set rfl (size_bsA _) ?_)
     | (refine wpList_store_row rfl 219 (.tmp 2) (.tmp 39) rfl w.heap.size (bsA noB) rfl rfl _ _ r3 (size_bsA _) (by simp only[bsA_size]) (bsA_one _) ?_))
    exact bodyPost_ret (v:= .tuple #[.agg (bsA noB), .int .u8 0, .bool false, .bool false]) (res_set4 _ 2 3 4 5 (by kernel_rfl) _ _ w.heap.size _ _ _ _ rfl rfl rfl rfl (SetAt.row r3)) rfl ⟨noB,0,false,n+1,rfl,(λ_ h=>by cases h),x3.setRow (.inr (Nat.le_refl _)) _,h3.setRow (g:=w.heap.size) (by omega) _⟩
   | d::t,e=>
    have hd256:d.toNat<256:=d.toNat_lt;have QN:=λw=>named_any d.toNat w hd256;have et:=esc_rest d t;have QE:∀w,Rdr w R s (n+1) {q with rest:=d::t}->Calls Tryz.prog 158 #[.pointer (some ⟨R,0,none⟩)] w (RetBX R s w (escS (d::t)).1 {q with rest:=t}):=λw h=>by
     have h0:=esc_any h hs;simp only[esc_rest] at h0;exact h0
    cases hx:(escS (d::t)).1 with
    | some f=>
     have e3:sideS (c::d::t)=(some (f,d.toNat,isNamed d.toNat),t):=by
      have:escS (d::t)=(some f,t):=Prod.ext hx et;simp[sideS,h92,this]
     rw[e3];rw[hx] at QE;clear e3 h92 et hx;go_enter Tryz.func162,Tryz.ntmps162;go_upto_region 1 with (fail)
     generalize (w.alloc (Obj.cells (bsA noB) 219))=w0 at g0 r0 ⊢;have h0:=h.gr g0;clear hz hsz h;go_upto_region 4 with (go_at_call 135;refine (Q _ h0).mono ?_;rintro e w1 ⟨rfl,hg⟩)
     have h1:=h0.gr hg;have g1:=Gr.trans g0 hg;have r1:=r0.gr hg;clear Q g0 r0 h0 hg;obtain ⟨c1,f1⟩:=And.intro h1.c1 h1.f1;go_upto_region 5 with (fail)
     have h2:=h1.next e;have x2:=GX.setCell (p:=⟨R,1,none⟩) (GX.of_gr g1) (.inl rfl) (.int .i64 ((n:Int)+1));have r2:=r1.other (p:=⟨R,1,none⟩) (by simp;omega) (.int .i64 ((n:Int)+1));clear c1 f1 h1 g1 r1;generalize w1.setCell ⟨R,1,none⟩ (.int .i64 ((n:Int)+1))=w2 at h2 x2 r2 ⊢;have Q:=λw (h:Rdr w R s (n+1) {q with rest:=d::t})=>now_some h hs rfl;go_upto_region 12 with (first
      | (go_at_call 135;refine (Q _ h2).mono ?_;rintro e w3 ⟨rfl,hg⟩;have h3:=h2.gr hg;have x3:=x2.trans (GX.of_gr hg);have r3:=r2.gr hg;clear Q h2 x2 r2 hg)
      | (go_at_call 166;refine (QN _).mono ?_;rintro e w4 ⟨rfl,hg⟩;have h4:=h3.gr hg;have x4:=x3.trans (GX.of_gr hg);have r4:=r3.gr hg;clear h3 x3 r3 hg)
      | (go_at_call 158;refine (QE _ h4).mono ?_;rintro e w5 ⟨f',n5,rfl,hf,hg,h5⟩;obtain rfl:=hf f rfl;have x5:=x4.trans hg;have r5:=r4.gx hg (by omega);clear hf hg h4 x4 r4)
      | (refine wpList_store_row rfl 219 (.tmp 2) (.tmp 48) rfl w.heap.size (bsA f') rfl rfl _ _ r5 (size_bsA _) (by simp only[bsA_size]) (bsA_one _) ?_))
     have h6:=h5.setRow (g:=w.heap.size) (by omega) (bsA f');have x6:=x5.setRow (g:=w.heap.size) (.inr (Nat.le_refl _)) (bsA f');have r6:=SetAt.row (f:=f') r5;generalize w5.setRow w.heap.size (bsA f')=w6 at h6 x6 r6 ⊢;clear h5 x5 r5 QE QN;go_wp2_with (first
      | (refine wpList_load_row rfl 219 (.tmp 2) rfl w.heap.size rfl _ (bsA f') (0,0) _ r6 und_set rfl (size_bsA _) ?_)
      | (refine wpList_store_row rfl 219 (.tmp 2) (.tmp 50) rfl w.heap.size (bsA f') rfl rfl _ _ r6 (size_bsA _) (by simp only[bsA_size]) (bsA_one _) ?_))
     exact bodyPost_ret (v:= .tuple #[.agg (bsA f'), .int .u8 d.toNat, .bool (isNamed d.toNat), .bool true]) (res_set4 _ 2 3 4 5 (by kernel_rfl) _ _ w.heap.size _ _ _ _ rfl rfl rfl rfl (SetAt.row r6)) rfl ⟨f',d.toNat,(isNamed d.toNat),n5,rfl,(λg h=>⟨by injection h,hd256⟩),x6.setRow (.inr (Nat.le_refl _)) _,h6.setRow (g:=w.heap.size) (by omega) _⟩
    | none=>
     have e3:sideS (c::d::t)=(none,t):=by
      have:escS (d::t)=(none,t):=Prod.ext hx et;simp[sideS,h92,this]
     rw[e3];rw[hx] at QE;clear e3 h92 et hx;go_enter Tryz.func162,Tryz.ntmps162;go_upto_region 1 with (fail)
     generalize (w.alloc (Obj.cells (bsA noB) 219))=w0 at g0 r0 ⊢;have h0:=h.gr g0;clear hz hsz h;go_upto_region 4 with (go_at_call 135;refine (Q _ h0).mono ?_;rintro e w1 ⟨rfl,hg⟩)
     have h1:=h0.gr hg;have g1:=Gr.trans g0 hg;have r1:=r0.gr hg;clear Q g0 r0 h0 hg;obtain ⟨c1,f1⟩:=And.intro h1.c1 h1.f1;go_upto_region 5 with (fail)
     have h2:=h1.next e;have x2:=GX.setCell (p:=⟨R,1,none⟩) (GX.of_gr g1) (.inl rfl) (.int .i64 ((n:Int)+1));have r2:=r1.other (p:=⟨R,1,none⟩) (by simp;omega) (.int .i64 ((n:Int)+1));clear c1 f1 h1 g1 r1;generalize w1.setCell ⟨R,1,none⟩ (.int .i64 ((n:Int)+1))=w2 at h2 x2 r2 ⊢;have Q:=λw (h:Rdr w R s (n+1) {q with rest:=d::t})=>now_some h hs rfl;go_upto_region 12 with (first
      | (go_at_call 135;refine (Q _ h2).mono ?_;rintro e w3 ⟨rfl,hg⟩;have h3:=h2.gr hg;have x3:=x2.trans (GX.of_gr hg);have r3:=r2.gr hg;clear Q h2 x2 r2 hg)
      | (go_at_call 166;refine (QN _).mono ?_;rintro e w4 ⟨rfl,hg⟩;have h4:=h3.gr hg;have x4:=x3.trans (GX.of_gr hg);have r4:=r3.gr hg;clear h3 x3 r3 hg)
      | (go_at_call 158;refine (QE _ h4).mono ?_;rintro e w5 ⟨f',n5,rfl,hf,hg,h5⟩;have x5:=x4.trans hg;have r5:=r4.gx hg (by omega);clear hf hg h4 x4 r4)
      | (refine wpList_store_row rfl 219 (.tmp 2) (.tmp 48) rfl w.heap.size (bsA f') rfl rfl _ _ r5 (size_bsA _) (by simp only[bsA_size]) (bsA_one _) ?_))
     have h6:=h5.setRow (g:=w.heap.size) (by omega) (bsA f');have x6:=x5.setRow (g:=w.heap.size) (.inr (Nat.le_refl _)) (bsA f');have r6:=SetAt.row (f:=f') r5;generalize w5.setRow w.heap.size (bsA f')=w6 at h6 x6 r6 ⊢;clear h5 x5 r5 QE QN;go_wp2_with (first
      | (refine wpList_load_row rfl 219 (.tmp 2) rfl w.heap.size rfl _ (bsA f') (0,0) _ r6 und_set rfl (size_bsA _) ?_)
      | (refine wpList_store_row rfl 219 (.tmp 2) (.tmp 50) rfl w.heap.size (bsA f') rfl rfl _ _ r6 (size_bsA _) (by simp only[bsA_size]) (bsA_one _) ?_))
     exact bodyPost_ret (v:= .tuple #[.agg (bsA f'), .int .u8 d.toNat, .bool (isNamed d.toNat), .bool false]) (res_set4 _ 2 3 4 5 (by kernel_rfl) _ _ w.heap.size _ _ _ _ rfl rfl rfl rfl (SetAt.row r6)) rfl ⟨f',d.toNat,(isNamed d.toNat),n5,rfl,(λg h=>by cases h),x6.setRow (.inr (Nat.le_refl _)) _,h6.setRow (g:=w.heap.size) (by omega) _⟩
end Go.Proofs.YtjapddfnpmlifaaGreatDoor
