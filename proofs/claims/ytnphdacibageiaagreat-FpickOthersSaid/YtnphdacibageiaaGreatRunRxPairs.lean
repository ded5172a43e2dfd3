import Derived.Test.YtnphdacibageiaaGreatRunPkStep
import Derived.Deep.QuietTactic
import Derived.BigQuiet
import Derived.Test.YtnphdacibageiaaGreatRunPkVis
import Derived.Test.YtnphdacibageiaaGreatRunSrIs
import Derived.IntWalk
import Derived.Deep.Light
import Derived.Deep.Cut
import Derived.Deep.CutRange
import Derived.Test.YtnphdacibageiaaGreatRunFpLawA
set_option linter.all false
set_option maxRecDepth 1000000
set_option maxHeartbeats 12800000
namespace Go.Proofs.YtnphdacibageiaaGreat
open Go.RowKit
def bcells (l:List UInt8):List Value:=l.map fun b=> .int .u8 (b.toNat:Int)
theorem bcells_append (l m:List UInt8):bcells (l++m)=bcells l++bcells m:=by simp[bcells]
theorem conv_own {P:Program} {w:World} {src dst e:TypeId} {base:Nat} {v:Value} {l:List UInt8} (hs:P.underlying src=some (.slice e)) (he:P.underlying e=some (.int .u8)) (hd:P.underlying dst=some .string)
  (h:w.ownsRow base e 1 v l.length (bcells l)):(convert src dst v).run P w= .ok (.string ⟨l.toArray⟩) w:=by
 obtain ⟨_,⟨rfl,h0⟩|⟨g,cap,cur,rfl,_⟩⟩:=id h
 ·
  have hl:l=[]:=List.eq_nil_of_length_eq_zero h0
  subst hl
  rw[run_convert_bytes_string w src dst e none 0 0 hs he hd]
  simp[Conv.bytesToString]
  rfl
 ·
  exact run_convert_bytes_back w src dst e _ cap l hs he hd (fun j hj=>h.cells (g:=g) rfl j _ (by simp[bcells,hj]))
theorem Rd.byte {W:World} {B:Nat} (hB:B=W.heap.size) (T:TypeId) (u:Value):Rd (W.alloc (.cells #[u] T)) 1 (some ⟨B,0,none⟩) 1 [u]:=by
 subst hB
 refine ⟨rfl,fun _=>⟨_,rfl,by simp,fun j x hx=>?_⟩⟩
 have e:(⟨W.heap.size,0,none⟩:Addr).add j=⟨W.heap.size,j,none⟩:=by
  unfold Addr.add;split
  ·
   rename_i h;subst h;rfl
  ·
   rw[Nat.zero_add]
 rw[e]
 exact (cell_of_row _ _ _ _ _ _ (heap_alloc_new W _)).trans (by simpa using hx)
theorem one1 {k:IntKind} (n:Int):∀u∈[Value.int k n],u.oneCell'=true:=by
 intro u hu
 rw[List.mem_singleton.1 hu]
 rfl
theorem und_bytes:Tryz.prog.underlying 189=some (.slice 5):=by kernel_rfl
theorem und_u8:Tryz.prog.underlying 5=some (.int .u8):=by kernel_rfl
theorem und_str:Tryz.prog.underlying 9=some .string:=by kernel_rfl
theorem info_u8:(Tryz.prog.info? 5).map (fun i=>(i.zero,i.size,i.bytes))=some (some (.int .u8 0),1,1):=by kernel_rfl
theorem pairsT_len (f:Bs) (k:Nat):(pairsT f k).length≤2*k:=by
 induction k with
 | zero=>exact Nat.le_refl _
 | succ k ih=>
  unfold pairsT
  simp only[List.length_append]
  have a:∀b:Bool,(bif b then [UInt8.ofNat k] else []).length≤1:=fun b=>by cases b<;>simp
  have a1:=a (f k&&(k==0 || !f (k-1)))
  have a2:=a (f k&&(k==255 || !f (k+1)))
  omega
theorem pairsT_no {f:Bs} {k:Nat} (h:f k=false):pairsT f (k+1)=pairsT f k:=by simp[pairsT,h]
theorem pairsT_in {f:Bs} {k:Nat} {s e:Bool} (h:f k=true) (hs:(k==0 || !f (k-1))=s) (he:(k==255 || !f (k+1))=e) :
  pairsT f (k+1)=pairsT f k++((bif s then [UInt8.ofNat k] else [])++(bif e then [UInt8.ofNat k] else [])):=by
 simp only[pairsT,h,hs,he,Bool.true_and]
theorem byteCell {k:Nat} (h:k<256):bcells [UInt8.ofNat k]=[.int .u8 k]:=by
 have:(UInt8.ofNat k).toNat=k:=by simp[Nat.mod_eq_of_lt h]
 simp[bcells,this]
theorem SetAt.grown {w w':World} {g:Nat} {f:Bs} {row:Option Nat} (h:SetAt w g f) (x:w.grownBy w' row) (hn:some g≠row):SetAt w' g f:=(x.block g h.lt hn).trans h
theorem pairs_any (f:Bs) (w:World) :
  Calls Tryz.prog 141 #[.agg (bsA f)] w fun e w'=>e= .returned (.string ⟨(pairsS f).toArray⟩)∧Gr w w':=by
 obtain ⟨i0,hi,hz0,hz1,hz2⟩:=info_parts info_u8
 have g0:Gr w (w.alloc (Obj.cells (bsA f) 179)):=gq
 have s0:SetAt (w.alloc (Obj.cells (bsA f) 179)) w.heap.size f:=SetAt.new w f
 go_enter Tryz.func141,Tryz.ntmps141
 go_wp2
 generalize (w.alloc (Obj.cells (bsA f) 179))=w0 at g0 s0 ⊢
 go_loopw [3,5] (fun v i wr=>∃k:Nat,k≤256∧i= .int .i64 k∧Gr w wr∧SetAt wr w.heap.size f∧wr.ownsRow (w.heap.size+1) 5 1 v (pairsT f k).length (bcells (pairsT f k))) (fun _ i _=>256-(intOf i).toNat)
 case atStart=>exact ⟨0,by omega,rfl,g0,s0,World.ownsRow_nil _ _ _ _⟩
 case round=>
  clear g0 s0
  obtain ⟨k,hk,rfl,hgr,hs,hown⟩:=hrel
  have hle:=pairsT_len f k
  by_cases hlt:k<256
  ·
   have hcell:=hs.cell hlt
   have h3:(k:Int)<256:=by omega
   cases hb:f k
   case false=>
    rw[hb] at hcell
    have HN:=Lib.hid (pairsT_no hb)
    clear hb
    go_wp2
    go_roundw
    case rel=>exact ⟨k+1,by omega,by go_num,hgr,hs,by rw[HN.out];exact hown⟩
    case measure=>simp[intOf];omega
   rw[hb] at hcell
   have HP:=fun s e=>pairsT_in (s:=s) (e:=e) hb
   have hB:=Lib.hid hb
   clear hb
   by_cases hK0:k=0
   ·
    by_cases hK2:k=255
    ·
     omega
    cases hN:f (k+1)
    ·
     have hk0:((k:Int)==0)=true:=beq_iff_eq.2 (by omega)
     have hk2:((k:Int)==255)=false:=beq_eq_false_iff_ne.2 (by omega)
     have hk3:(k:Int)≤254:=by omega
     have hcn:=hs.cell (i:=k+1) (by omega)
     rw[hN] at hcn
     have HPN:=Lib.hid (HP true true (by simp[hK0]) (by simp[hN,hK2]))
     clear HP hK0 hK2 
     have HN:=Lib.hid hN
     clear hN
     have hm1:=Lib.hid (show (pairsT f k).length+1≤maxLen by unfold maxLen;omega)
     have hm2:=Lib.hid (show (pairsT f k).length+1+1≤maxLen by unfold maxLen;omega)
     have hn1:=Lib.hid (show ((pairsT f k).length+1)*1≤140737488355328 by omega)
     have hn2:=Lib.hid (show ((pairsT f k).length+1+1)*1≤140737488355328 by omega)
     have hb1:=Lib.hid (show w.heap.size+1≤wr.heap.size from hs.lt)
     go_wp2_with (first
      | (
        at_builtin
        refine wpList_append_rd rfl (.tmp 22) (.tmp 25) 189 rfl (w.heap.size+1) 5 i0 _ 1 1 und_bytes hi hz0 hz1 hz2 rfl (by decide) _ _ _ rfl (hown.alloc _) (some ⟨wr.heap.size,0,none⟩) 1 _ [.int .u8 k] rfl (Rd.byte rfl 5 _) (one1 _) hm1.out hn1.out (Nat.le_trans hb1.out (Nat.le_of_lt (by simp))) ?_
        intro v1 w1 hown1 hgr1 hat1
        have hl1:=hown.lt
        have gg1:Gr w w1:=Gr.grown (Gr.alloc hgr _) hgr1 (fun j hj=>by have:=(hl1 j hj).1;omega)
        have ss1:SetAt w1 w.heap.size f:=(hs.gr (Gr.alloc (Gr.refl _) _)).grown hgr1 (fun e=>by have:=(hl1 _ e.symm).1;omega)
        have hb2:=Lib.hid (Nat.le_trans hb1.out (Nat.le_trans (Nat.le_of_lt (by simp)) hgr1.size))
        have hcell1:=ss1.cell hlt
        rw[hB.out] at hcell1
        have hcn1:=ss1.cell (i:=k+1) (by omega)
        rw[HN.out] at hcn1
        clear hgr1 hat1 hl1 hown hs hgr)
      | (
        at_builtin
        refine wpList_append_rd rfl (.tmp 41) (.tmp 44) 189 rfl (w.heap.size+1) 5 i0 _ 1 1 und_bytes hi hz0 hz1 hz2 rfl (by decide) _ _ _ rfl (hown1.alloc _) (some ⟨w1.heap.size,0,none⟩) 1 _ [.int .u8 k] rfl (Rd.byte rfl 5 _) (one1 _) hm2.out hn2.out (Nat.le_trans hb2.out (Nat.le_of_lt (by simp))) ?_
        intro v2 w2 hown2 hgr2 hat2
        have hl2:=hown1.lt
        have gg2:Gr w w2:=Gr.grown (Gr.alloc gg1 _) hgr2 (fun j hj=>by have:=(hl2 j hj).1;omega)
        have ss2:SetAt w2 w.heap.size f:=(ss1.gr (Gr.alloc (Gr.refl _) _)).grown hgr2 (fun e=>by have:=(hl2 _ e.symm).1;omega)
        have hb3:=Lib.hid (Nat.le_trans hb2.out (Nat.le_trans (Nat.le_of_lt (by simp)) hgr2.size))
        have hcell2:=ss2.cell hlt
        rw[hB.out] at hcell2
        clear hgr2 hat2 hl2 hown1 ss1 gg1))
     go_roundw
     case rel=>exact ⟨k+1,by omega,by go_num,gg2,ss2,by rw[HPN.out];simpa only[cond_true,cond_false,List.length_append,List.length_cons,List.length_nil,List.append_nil,List.nil_append,bcells_append,byteCell hlt,List.append_assoc,Nat.zero_add,Nat.add_zero,Nat.add_assoc] using hown2⟩
     case measure=>simp[intOf];omega
    ·
     have hk0:((k:Int)==0)=true:=beq_iff_eq.2 (by omega)
     have hk2:((k:Int)==255)=false:=beq_eq_false_iff_ne.2 (by omega)
     have hk3:(k:Int)≤254:=by omega
     have hcn:=hs.cell (i:=k+1) (by omega)
     rw[hN] at hcn
     have HPN:=Lib.hid (HP true false (by simp[hK0]) (by simp[hN,hK2]))
     clear HP hK0 hK2 
     have HN:=Lib.hid hN
     clear hN
     have hm1:=Lib.hid (show (pairsT f k).length+1≤maxLen by unfold maxLen;omega)
     have hm2:=Lib.hid (show (pairsT f k).length+1+1≤maxLen by unfold maxLen;omega)
     have hn1:=Lib.hid (show ((pairsT f k).length+1)*1≤140737488355328 by omega)
     have hn2:=Lib.hid (show ((pairsT f k).length+1+1)*1≤140737488355328 by omega)
     have hb1:=Lib.hid (show w.heap.size+1≤wr.heap.size from hs.lt)
     go_wp2_with (first
      | (
        at_builtin
        refine wpList_append_rd rfl (.tmp 22) (.tmp 25) 189 rfl (w.heap.size+1) 5 i0 _ 1 1 und_bytes hi hz0 hz1 hz2 rfl (by decide) _ _ _ rfl (hown.alloc _) (some ⟨wr.heap.size,0,none⟩) 1 _ [.int .u8 k] rfl (Rd.byte rfl 5 _) (one1 _) hm1.out hn1.out (Nat.le_trans hb1.out (Nat.le_of_lt (by simp))) ?_
        intro v1 w1 hown1 hgr1 hat1
        have hl1:=hown.lt
        have gg1:Gr w w1:=Gr.grown (Gr.alloc hgr _) hgr1 (fun j hj=>by have:=(hl1 j hj).1;omega)
        have ss1:SetAt w1 w.heap.size f:=(hs.gr (Gr.alloc (Gr.refl _) _)).grown hgr1 (fun e=>by have:=(hl1 _ e.symm).1;omega)
        have hb2:=Lib.hid (Nat.le_trans hb1.out (Nat.le_trans (Nat.le_of_lt (by simp)) hgr1.size))
        have hcell1:=ss1.cell hlt
        rw[hB.out] at hcell1
        have hcn1:=ss1.cell (i:=k+1) (by omega)
        rw[HN.out] at hcn1
        clear hgr1 hat1 hl1 hown hs hgr))
     go_roundw
     case rel=>exact ⟨k+1,by omega,by go_num,gg1,ss1,by rw[HPN.out];simpa only[cond_true,cond_false,List.length_append,List.length_cons,List.length_nil,List.append_nil,List.nil_append,bcells_append,byteCell hlt,List.append_assoc,Nat.zero_add,Nat.add_zero,Nat.add_assoc] using hown1⟩
     case measure=>simp[intOf];omega
   cases hP:f (k-1)
   ·
    by_cases hK2:k=255
    ·
     have hk0:((k:Int)==0)=false:=beq_eq_false_iff_ne.2 (by omega)
     have hk1:1≤(k:Int):=by omega
     have hcp:=hs.cell (i:=k-1) (by omega)
     rw[hP] at hcp
     have hk2:((k:Int)==255)=true:=beq_iff_eq.2 (by omega)
     have HPN:=Lib.hid (HP true true (by simp[hP,hK0]) (by simp[hK2]))
     clear HP hK0 hK2 hP 
     have hm1:=Lib.hid (show (pairsT f k).length+1≤maxLen by unfold maxLen;omega)
     have hm2:=Lib.hid (show (pairsT f k).length+1+1≤maxLen by unfold maxLen;omega)
     have hn1:=Lib.hid (show ((pairsT f k).length+1)*1≤140737488355328 by omega)
     have hn2:=Lib.hid (show ((pairsT f k).length+1+1)*1≤140737488355328 by omega)
     have hb1:=Lib.hid (show w.heap.size+1≤wr.heap.size from hs.lt)
     go_wp2_with (first
      | (
        at_builtin
        refine wpList_append_rd rfl (.tmp 22) (.tmp 25) 189 rfl (w.heap.size+1) 5 i0 _ 1 1 und_bytes hi hz0 hz1 hz2 rfl (by decide) _ _ _ rfl (hown.alloc _) (some ⟨wr.heap.size,0,none⟩) 1 _ [.int .u8 k] rfl (Rd.byte rfl 5 _) (one1 _) hm1.out hn1.out (Nat.le_trans hb1.out (Nat.le_of_lt (by simp))) ?_
        intro v1 w1 hown1 hgr1 hat1
        have hl1:=hown.lt
        have gg1:Gr w w1:=Gr.grown (Gr.alloc hgr _) hgr1 (fun j hj=>by have:=(hl1 j hj).1;omega)
        have ss1:SetAt w1 w.heap.size f:=(hs.gr (Gr.alloc (Gr.refl _) _)).grown hgr1 (fun e=>by have:=(hl1 _ e.symm).1;omega)
        have hb2:=Lib.hid (Nat.le_trans hb1.out (Nat.le_trans (Nat.le_of_lt (by simp)) hgr1.size))
        have hcell1:=ss1.cell hlt
        rw[hB.out] at hcell1
        clear hgr1 hat1 hl1 hown hs hgr)
      | (
        at_builtin
        refine wpList_append_rd rfl (.tmp 41) (.tmp 44) 189 rfl (w.heap.size+1) 5 i0 _ 1 1 und_bytes hi hz0 hz1 hz2 rfl (by decide) _ _ _ rfl (hown1.alloc _) (some ⟨w1.heap.size,0,none⟩) 1 _ [.int .u8 k] rfl (Rd.byte rfl 5 _) (one1 _) hm2.out hn2.out (Nat.le_trans hb2.out (Nat.le_of_lt (by simp))) ?_
        intro v2 w2 hown2 hgr2 hat2
        have hl2:=hown1.lt
        have gg2:Gr w w2:=Gr.grown (Gr.alloc gg1 _) hgr2 (fun j hj=>by have:=(hl2 j hj).1;omega)
        have ss2:SetAt w2 w.heap.size f:=(ss1.gr (Gr.alloc (Gr.refl _) _)).grown hgr2 (fun e=>by have:=(hl2 _ e.symm).1;omega)
        have hb3:=Lib.hid (Nat.le_trans hb2.out (Nat.le_trans (Nat.le_of_lt (by simp)) hgr2.size))
        have hcell2:=ss2.cell hlt
        rw[hB.out] at hcell2
        clear hgr2 hat2 hl2 hown1 ss1 gg1))
     go_roundw
     case rel=>exact ⟨k+1,by omega,by go_num,gg2,ss2,by rw[HPN.out];simpa only[cond_true,cond_false,List.length_append,List.length_cons,List.length_nil,List.append_nil,List.nil_append,bcells_append,byteCell hlt,List.append_assoc,Nat.zero_add,Nat.add_zero,Nat.add_assoc] using hown2⟩
     case measure=>simp[intOf];omega
    cases hN:f (k+1)
    ·
     have hk0:((k:Int)==0)=false:=beq_eq_false_iff_ne.2 (by omega)
     have hk1:1≤(k:Int):=by omega
     have hcp:=hs.cell (i:=k-1) (by omega)
     rw[hP] at hcp
     have hk2:((k:Int)==255)=false:=beq_eq_false_iff_ne.2 (by omega)
     have hk3:(k:Int)≤254:=by omega
     have hcn:=hs.cell (i:=k+1) (by omega)
     rw[hN] at hcn
     have HPN:=Lib.hid (HP true true (by simp[hP,hK0]) (by simp[hN,hK2]))
     clear HP hK0 hK2 hP 
     have HN:=Lib.hid hN
     clear hN
     have hm1:=Lib.hid (show (pairsT f k).length+1≤maxLen by unfold maxLen;omega)
     have hm2:=Lib.hid (show (pairsT f k).length+1+1≤maxLen by unfold maxLen;omega)
     have hn1:=Lib.hid (show ((pairsT f k).length+1)*1≤140737488355328 by omega)
     have hn2:=Lib.hid (show ((pairsT f k).length+1+1)*1≤140737488355328 by omega)
     have hb1:=Lib.hid (show w.heap.size+1≤wr.heap.size from hs.lt)
     go_wp2_with (first
      | (
        at_builtin
        refine wpList_append_rd rfl (.tmp 22) (.tmp 25) 189 rfl (w.heap.size+1) 5 i0 _ 1 1 und_bytes hi hz0 hz1 hz2 rfl (by decide) _ _ _ rfl (hown.alloc _) (some ⟨wr.heap.size,0,none⟩) 1 _ [.int .u8 k] rfl (Rd.byte rfl 5 _) (one1 _) hm1.out hn1.out (Nat.le_trans hb1.out (Nat.le_of_lt (by simp))) ?_
        intro v1 w1 hown1 hgr1 hat1
        have hl1:=hown.lt
        have gg1:Gr w w1:=Gr.grown (Gr.alloc hgr _) hgr1 (fun j hj=>by have:=(hl1 j hj).1;omega)
        have ss1:SetAt w1 w.heap.size f:=(hs.gr (Gr.alloc (Gr.refl _) _)).grown hgr1 (fun e=>by have:=(hl1 _ e.symm).1;omega)
        have hb2:=Lib.hid (Nat.le_trans hb1.out (Nat.le_trans (Nat.le_of_lt (by simp)) hgr1.size))
        have hcell1:=ss1.cell hlt
        rw[hB.out] at hcell1
        have hcn1:=ss1.cell (i:=k+1) (by omega)
        rw[HN.out] at hcn1
        clear hgr1 hat1 hl1 hown hs hgr)
      | (
        at_builtin
        refine wpList_append_rd rfl (.tmp 41) (.tmp 44) 189 rfl (w.heap.size+1) 5 i0 _ 1 1 und_bytes hi hz0 hz1 hz2 rfl (by decide) _ _ _ rfl (hown1.alloc _) (some ⟨w1.heap.size,0,none⟩) 1 _ [.int .u8 k] rfl (Rd.byte rfl 5 _) (one1 _) hm2.out hn2.out (Nat.le_trans hb2.out (Nat.le_of_lt (by simp))) ?_
        intro v2 w2 hown2 hgr2 hat2
        have hl2:=hown1.lt
        have gg2:Gr w w2:=Gr.grown (Gr.alloc gg1 _) hgr2 (fun j hj=>by have:=(hl2 j hj).1;omega)
        have ss2:SetAt w2 w.heap.size f:=(ss1.gr (Gr.alloc (Gr.refl _) _)).grown hgr2 (fun e=>by have:=(hl2 _ e.symm).1;omega)
        have hb3:=Lib.hid (Nat.le_trans hb2.out (Nat.le_trans (Nat.le_of_lt (by simp)) hgr2.size))
        have hcell2:=ss2.cell hlt
        rw[hB.out] at hcell2
        clear hgr2 hat2 hl2 hown1 ss1 gg1))
     go_roundw
     case rel=>exact ⟨k+1,by omega,by go_num,gg2,ss2,by rw[HPN.out];simpa only[cond_true,cond_false,List.length_append,List.length_cons,List.length_nil,List.append_nil,List.nil_append,bcells_append,byteCell hlt,List.append_assoc,Nat.zero_add,Nat.add_zero,Nat.add_assoc] using hown2⟩
     case measure=>simp[intOf];omega
    ·
     have hk0:((k:Int)==0)=false:=beq_eq_false_iff_ne.2 (by omega)
     have hk1:1≤(k:Int):=by omega
     have hcp:=hs.cell (i:=k-1) (by omega)
     rw[hP] at hcp
     have hk2:((k:Int)==255)=false:=beq_eq_false_iff_ne.2 (by omega)
     have hk3:(k:Int)≤254:=by omega
     have hcn:=hs.cell (i:=k+1) (by omega)
     rw[hN] at hcn
     have HPN:=Lib.hid (HP true false (by simp[hP,hK0]) (by simp[hN,hK2]))
     clear HP hK0 hK2 hP 
     have HN:=Lib.hid hN
     clear hN
     have hm1:=Lib.hid (show (pairsT f k).length+1≤maxLen by unfold maxLen;omega)
     have hm2:=Lib.hid (show (pairsT f k).length+1+1≤maxLen by unfold maxLen;omega)
     have hn1:=Lib.hid (show ((pairsT f k).length+1)*1≤140737488355328 by omega)
     have hn2:=Lib.hid (show ((pairsT f k).length+1+1)*1≤140737488355328 by omega)
     have hb1:=Lib.hid (show w.heap.size+1≤wr.heap.size from hs.lt)
     go_wp2_with (first
      | (
        at_builtin
        refine wpList_append_rd rfl (.tmp 22) (.tmp 25) 189 rfl (w.heap.size+1) 5 i0 _ 1 1 und_bytes hi hz0 hz1 hz2 rfl (by decide) _ _ _ rfl (hown.alloc _) (some ⟨wr.heap.size,0,none⟩) 1 _ [.int .u8 k] rfl (Rd.byte rfl 5 _) (one1 _) hm1.out hn1.out (Nat.le_trans hb1.out (Nat.le_of_lt (by simp))) ?_
        intro v1 w1 hown1 hgr1 hat1
        have hl1:=hown.lt
        have gg1:Gr w w1:=Gr.grown (Gr.alloc hgr _) hgr1 (fun j hj=>by have:=(hl1 j hj).1;omega)
        have ss1:SetAt w1 w.heap.size f:=(hs.gr (Gr.alloc (Gr.refl _) _)).grown hgr1 (fun e=>by have:=(hl1 _ e.symm).1;omega)
        have hb2:=Lib.hid (Nat.le_trans hb1.out (Nat.le_trans (Nat.le_of_lt (by simp)) hgr1.size))
        have hcell1:=ss1.cell hlt
        rw[hB.out] at hcell1
        have hcn1:=ss1.cell (i:=k+1) (by omega)
        rw[HN.out] at hcn1
        clear hgr1 hat1 hl1 hown hs hgr))
     go_roundw
     case rel=>exact ⟨k+1,by omega,by go_num,gg1,ss1,by rw[HPN.out];simpa only[cond_true,cond_false,List.length_append,List.length_cons,List.length_nil,List.append_nil,List.nil_append,bcells_append,byteCell hlt,List.append_assoc,Nat.zero_add,Nat.add_zero,Nat.add_assoc] using hown1⟩
     case measure=>simp[intOf];omega
   ·
    by_cases hK2:k=255
    ·
     have hk0:((k:Int)==0)=false:=beq_eq_false_iff_ne.2 (by omega)
     have hk1:1≤(k:Int):=by omega
     have hcp:=hs.cell (i:=k-1) (by omega)
     rw[hP] at hcp
     have hk2:((k:Int)==255)=true:=beq_iff_eq.2 (by omega)
     have HPN:=Lib.hid (HP false true (by simp[hP,hK0]) (by simp[hK2]))
     clear HP hK0 hK2 hP 
     have hm1:=Lib.hid (show (pairsT f k).length+1≤maxLen by unfold maxLen;omega)
     have hm2:=Lib.hid (show (pairsT f k).length+1+1≤maxLen by unfold maxLen;omega)
     have hn1:=Lib.hid (show ((pairsT f k).length+1)*1≤140737488355328 by omega)
     have hn2:=Lib.hid (show ((pairsT f k).length+1+1)*1≤140737488355328 by omega)
     have hb1:=Lib.hid (show w.heap.size+1≤wr.heap.size from hs.lt)
     have hb2:=hb1
     have hm2:=hm1
     have hn2:=hn1
     go_wp2_with (first
      | (
        at_builtin
        refine wpList_append_rd rfl (.tmp 41) (.tmp 44) 189 rfl (w.heap.size+1) 5 i0 _ 1 1 und_bytes hi hz0 hz1 hz2 rfl (by decide) _ _ _ rfl (hown.alloc _) (some ⟨wr.heap.size,0,none⟩) 1 _ [.int .u8 k] rfl (Rd.byte rfl 5 _) (one1 _) hm2.out hn2.out (Nat.le_trans hb2.out (Nat.le_of_lt (by simp))) ?_
        intro v2 w2 hown2 hgr2 hat2
        have hl2:=hown.lt
        have gg2:Gr w w2:=Gr.grown (Gr.alloc hgr _) hgr2 (fun j hj=>by have:=(hl2 j hj).1;omega)
        have ss2:SetAt w2 w.heap.size f:=(hs.gr (Gr.alloc (Gr.refl _) _)).grown hgr2 (fun e=>by have:=(hl2 _ e.symm).1;omega)
        have hb3:=Lib.hid (Nat.le_trans hb2.out (Nat.le_trans (Nat.le_of_lt (by simp)) hgr2.size))
        have hcell2:=ss2.cell hlt
        rw[hB.out] at hcell2
        clear hgr2 hat2 hl2 hown hs hgr))
     go_roundw
     case rel=>exact ⟨k+1,by omega,by go_num,gg2,ss2,by rw[HPN.out];simpa only[cond_true,cond_false,List.length_append,List.length_cons,List.length_nil,List.append_nil,List.nil_append,bcells_append,byteCell hlt,List.append_assoc,Nat.zero_add,Nat.add_zero,Nat.add_assoc] using hown2⟩
     case measure=>simp[intOf];omega
    cases hN:f (k+1)
    ·
     have hk0:((k:Int)==0)=false:=beq_eq_false_iff_ne.2 (by omega)
     have hk1:1≤(k:Int):=by omega
     have hcp:=hs.cell (i:=k-1) (by omega)
     rw[hP] at hcp
     have hk2:((k:Int)==255)=false:=beq_eq_false_iff_ne.2 (by omega)
     have hk3:(k:Int)≤254:=by omega
     have hcn:=hs.cell (i:=k+1) (by omega)
     rw[hN] at hcn
     have HPN:=Lib.hid (HP false true (by simp[hP,hK0]) (by simp[hN,hK2]))
     clear HP hK0 hK2 hP 
     have HN:=Lib.hid hN
     clear hN
     have hm1:=Lib.hid (show (pairsT f k).length+1≤maxLen by unfold maxLen;omega)
     have hm2:=Lib.hid (show (pairsT f k).length+1+1≤maxLen by unfold maxLen;omega)
     have hn1:=Lib.hid (show ((pairsT f k).length+1)*1≤140737488355328 by omega)
     have hn2:=Lib.hid (show ((pairsT f k).length+1+1)*1≤140737488355328 by omega)
     have hb1:=Lib.hid (show w.heap.size+1≤wr.heap.size from hs.lt)
     have hb2:=hb1
     have hm2:=hm1
     have hn2:=hn1
     go_wp2_with (first
      | (
        at_builtin
        refine wpList_append_rd rfl (.tmp 41) (.tmp 44) 189 rfl (w.heap.size+1) 5 i0 _ 1 1 und_bytes hi hz0 hz1 hz2 rfl (by decide) _ _ _ rfl (hown.alloc _) (some ⟨wr.heap.size,0,none⟩) 1 _ [.int .u8 k] rfl (Rd.byte rfl 5 _) (one1 _) hm2.out hn2.out (Nat.le_trans hb2.out (Nat.le_of_lt (by simp))) ?_
        intro v2 w2 hown2 hgr2 hat2
        have hl2:=hown.lt
        have gg2:Gr w w2:=Gr.grown (Gr.alloc hgr _) hgr2 (fun j hj=>by have:=(hl2 j hj).1;omega)
        have ss2:SetAt w2 w.heap.size f:=(hs.gr (Gr.alloc (Gr.refl _) _)).grown hgr2 (fun e=>by have:=(hl2 _ e.symm).1;omega)
        have hb3:=Lib.hid (Nat.le_trans hb2.out (Nat.le_trans (Nat.le_of_lt (by simp)) hgr2.size))
        have hcell2:=ss2.cell hlt
        rw[hB.out] at hcell2
        clear hgr2 hat2 hl2 hown hs hgr))
     go_roundw
     case rel=>exact ⟨k+1,by omega,by go_num,gg2,ss2,by rw[HPN.out];simpa only[cond_true,cond_false,List.length_append,List.length_cons,List.length_nil,List.append_nil,List.nil_append,bcells_append,byteCell hlt,List.append_assoc,Nat.zero_add,Nat.add_zero,Nat.add_assoc] using hown2⟩
     case measure=>simp[intOf];omega
    ·
     have hk0:((k:Int)==0)=false:=beq_eq_false_iff_ne.2 (by omega)
     have hk1:1≤(k:Int):=by omega
     have hcp:=hs.cell (i:=k-1) (by omega)
     rw[hP] at hcp
     have hk2:((k:Int)==255)=false:=beq_eq_false_iff_ne.2 (by omega)
     have hk3:(k:Int)≤254:=by omega
     have hcn:=hs.cell (i:=k+1) (by omega)
     rw[hN] at hcn
     have HPN:=Lib.hid (HP false false (by simp[hP,hK0]) (by simp[hN,hK2]))
     clear HP hK0 hK2 hP 
     have HN:=Lib.hid hN
     clear hN
     go_wp2
     go_roundw
     case rel=>exact ⟨k+1,by omega,by go_num,hgr,hs,by rw[HPN.out];simpa only[cond_true,cond_false,List.length_append,List.length_cons,List.length_nil,List.append_nil,List.nil_append,bcells_append,byteCell hlt,List.append_assoc,Nat.zero_add,Nat.add_zero,Nat.add_assoc] using hown⟩
     case measure=>simp[intOf];omega
  ·
   have hk':k=256:=by omega
   subst hk'
   have hconv:=conv_own und_bytes und_u8 und_str hown
   clear hown hle
   go_wp2
   go_ret
   exact ⟨rfl,hgr⟩
theorem Gr.drewM {a w:World} (h:Gr a w) (n:Nat):Gr a (w.drewN n):=⟨h.os,h.tape,h.output,h.size,h.block⟩
theorem drop_byte {s:ByteArray} {n:Nat} {c:UInt8} {r:List UInt8} (h:s.data.toList.drop n=c::r):∃hn:n<s.size,s[n]=c:=by
 have hl:n<s.data.toList.length:=by
  rcases Nat.lt_or_ge n s.data.toList.length with h1|h1
  ·
   exact h1
  ·
   rw[List.drop_eq_nil_of_le h1] at h;cases h
 refine ⟨by simpa using hl,?_⟩
 rw[List.drop_eq_getElem_cons hl] at h
 injection h with h1 _
theorem Rdr.byte {w:World} {R n:Nat} {s:ByteArray} {q:Rs} (h:Rdr w R s n q) {c:UInt8} {r:List UInt8} (hq:q.rest=c::r):∃hn:n<s.size,s[n]=c:=
 drop_byte (h.rest.trans hq)
theorem now_end {w:World} {R n:Nat} {s:ByteArray} {q:Rs} (h:Rdr w R s n q) (hs:(s.size:Int)≤4096) (hq:q.rest=[]) :
  Calls Tryz.prog 106 #[.pointer (some ⟨R,0,none⟩)] w fun e w'=>e= .returned (.tuple #[.int .u8 0, .bool false])∧Gr w w':=by
 have hl:=h.len
 rw[hq] at hl
 have hn:s.size≤n:=by simp at hl;omega
 obtain ⟨c0,c1⟩:=And.intro h.c0 h.c1
 clear h hq hl
 go_enter Tryz.func106,Tryz.ntmps106
 go_wp2
 go_quiet (fail)
 go_wp2
 go_ret2
 exact ⟨rfl,Gr.drewM (Gr.refl _) _⟩
theorem now_some {w:World} {R n:Nat} {s:ByteArray} {q:Rs} (h:Rdr w R s n q) (hs:(s.size:Int)≤4096) {c:UInt8} {r:List UInt8} (hq:q.rest=c::r) :
  Calls Tryz.prog 106 #[.pointer (some ⟨R,0,none⟩)] w fun e w'=>e= .returned (.tuple #[.int .u8 c.toNat, .bool true])∧Gr w w':=by
 obtain ⟨hn,hb⟩:=h.byte hq
 obtain ⟨c0,c1⟩:=And.intro h.c0 h.c1
 have hn':(n:Int)<s.size:=by omega
 clear h hq
 go_enter Tryz.func106,Tryz.ntmps106
 go_wp2
 go_quiet (fail)
 go_wp2
 go_quiet (fail)
 go_wp2
 go_ret2
 exact ⟨rfl,Gr.drewM (Gr.drewM (Gr.refl _) _) _⟩
theorem is_no {w:World} {R n:Nat} {s:ByteArray} {q:Rs} (h:Rdr w R s n q) (hs:(s.size:Int)≤4096) (c:Nat) (hc:c<256) (hq:headIs c q.rest=false) :
  Calls Tryz.prog 108 #[.pointer (some ⟨R,0,none⟩), .int .u8 c] w fun e w'=>e= .returned (.bool false)∧Gr w w':=by
 match e:q.rest with
 | []=>
  have Q:=fun w (h:Rdr w R s n q)=>now_end h hs e
  go_enter Tryz.func108,Tryz.ntmps108
  go_wp2_with (go_at_call 106;refine (Q _ h).mono ?_;rintro e w1 ⟨rfl,hg⟩)
  go_ret
  exact ⟨rfl,hg⟩
 | b::r=>
  rw[e] at hq
  have hne:((b.toNat:Int)==(c:Int))=false:=by
   have:¬b.toNat=c:=by simpa [headIs] using hq
   exact beq_eq_false_iff_ne.2 (by omega)
  have hne':(b.toNat==c)=false:=by simpa [headIs] using hq
  have Q:=fun w (h:Rdr w R s n q)=>now_some h hs e
  clear hq
  go_enter Tryz.func108,Tryz.ntmps108
  go_wp2_with (go_at_call 106;refine (Q _ h).mono ?_;rintro e w1 ⟨rfl,hg⟩)
  go_ret
  exact ⟨rfl,hg⟩
theorem is_yes {w:World} {R n:Nat} {s:ByteArray} {q:Rs} (h:Rdr w R s n q) (hs:(s.size:Int)≤4096) (c:Nat) (hc:c<256) (hq:headIs c q.rest=true) :
  Calls Tryz.prog 108 #[.pointer (some ⟨R,0,none⟩), .int .u8 c] w fun e w'=>e= .returned (.bool true)∧Gr w w':=by
 match e:q.rest with
 | []=>rw[e] at hq;cases hq
 | b::r=>
  rw[e] at hq
  have hb:b.toNat=c:=by simpa [headIs] using hq
  subst hb
  have Q:=fun w (h:Rdr w R s n q)=>now_some h hs e
  clear hq
  go_enter Tryz.func108,Tryz.ntmps108
  go_wp2_with (go_at_call 106;refine (Q _ h).mono ?_;rintro e w1 ⟨rfl,hg⟩)
  go_ret
  exact ⟨rfl,hg⟩
theorem headIs_cons {c:Nat} {l:List UInt8} (h:headIs c l=true):∃b r,l=b::r∧b.toNat=c:=by
 cases l with
 | nil=>cases h
 | cons b r=>exact ⟨b,r,rfl,by simpa [headIs] using h⟩
theorem Rdr.next {w:World} {R n:Nat} {s:ByteArray} {q:Rs} (h:Rdr w R s n q) {c:UInt8} {r:List UInt8} (hq:q.rest=c::r):Rdr (w.setCell ⟨R,1,none⟩ (.int .i64 ((n:Int)+1))) R s (n+1) {q with rest:=r}:=by
 have hl:=h.len
 have hr:=h.rest
 rw[hq] at hl hr
 refine ⟨by simp at hl ⊢;omega,?_,?_,?_,?_,?_,?_,?_,?_,?_,?_,?_,?_,?_⟩
 ·
  show s.data.toList.drop (n+1)=r
  rw[←List.drop_drop,hr];rfl
 ·
  exact (World.cell?_setCell_other w ⟨R,1,none⟩ ⟨R,0,none⟩ _ (by simp)).trans h.c0
 ·
  have:=h.c1;have:=h.f1;go_simp
 ·
  exact (World.cell?_setCell_other w ⟨R,1,none⟩ ⟨R,2,none⟩ _ (by simp)).trans h.c2
 ·
  exact (World.cell?_setCell_other w ⟨R,1,none⟩ ⟨R,3,none⟩ _ (by simp)).trans h.c3
 ·
  exact (World.cell?_setCell_other w ⟨R,1,none⟩ ⟨R,4,none⟩ _ (by simp)).trans h.c4
 ·
  exact (World.cell?_setCell_other w ⟨R,1,none⟩ ⟨R,5,none⟩ _ (by simp)).trans h.c5
 ·
  exact (by simp:(w.setCell ⟨R,1,none⟩ _).frozen? ⟨R,1,none⟩=w.frozen? ⟨R,1,none⟩).trans h.f1
 ·
  exact (by simp:(w.setCell ⟨R,1,none⟩ _).frozen? ⟨R,2,none⟩=w.frozen? ⟨R,2,none⟩).trans h.f2
 ·
  exact (by simp:(w.setCell ⟨R,1,none⟩ _).frozen? ⟨R,3,none⟩=w.frozen? ⟨R,3,none⟩).trans h.f3
 ·
  exact (by simp:(w.setCell ⟨R,1,none⟩ _).frozen? ⟨R,4,none⟩=w.frozen? ⟨R,4,none⟩).trans h.f4
 ·
  exact (by simp:(w.setCell ⟨R,1,none⟩ _).frozen? ⟨R,5,none⟩=w.frozen? ⟨R,5,none⟩).trans h.f5
 ·
  simpa using h.lt
theorem takes_no {w:World} {R n:Nat} {s:ByteArray} {q:Rs} (h:Rdr w R s n q) (hs:(s.size:Int)≤4096) (c:Nat) (hc:c<256) (hq:headIs c q.rest=false) :
  Calls Tryz.prog 79 #[.pointer (some ⟨R,0,none⟩), .int .u8 c] w fun e w'=>e= .returned (.bool false)∧Gr w w':=by
 have Q:=fun w (h:Rdr w R s n q)=>is_no h hs c hc hq
 clear hq
 go_enter Tryz.func79,Tryz.ntmps79
 go_wp2_with (go_at_call 108;refine (Q _ h).mono ?_;rintro e w1 ⟨rfl,hg⟩)
 go_ret
 exact ⟨rfl,hg⟩
theorem takes_yes {w:World} {R n:Nat} {s:ByteArray} {q:Rs} (h:Rdr w R s n q) (hs:(s.size:Int)≤4096) (c:Nat) (hc:c<256) (hq:headIs c q.rest=true) :
  Calls Tryz.prog 79 #[.pointer (some ⟨R,0,none⟩), .int .u8 c] w fun e w'=>e= .returned (.bool true)∧GX R w w'∧Rdr w' R s (n+1) {q with rest:=q.rest.drop 1}:=by
 have Q:=fun w (h:Rdr w R s n q)=>is_yes h hs c hc hq
 obtain ⟨b,r,hr, -⟩:=headIs_cons hq
 have hle:=h.len
 have hn:(n:Int)<4096:=by rw[hr] at hle;simp at hle;omega
 clear hq hle
 go_enter Tryz.func79,Tryz.ntmps79
 go_wp2_with fail
 refine (Q _ h).mono ?_;rintro e w1 ⟨rfl,hg⟩
 have h1:=h.gr hg
 obtain ⟨c1,f1⟩:=And.intro h1.c1 h1.f1
 clear Q
 go_wp2
 go_ret
 refine ⟨rfl,GX.setCell (p:=⟨R,1,none⟩) (GX.of_gr hg) (.inl rfl) _,?_⟩
 have hn:=h1.next hr
 rw[hr]
 exact hn
theorem Rdr.setRow {w:World} {R n:Nat} {s:ByteArray} {q:Rs} (h:Rdr w R s n q) {g:Nat} (hg:R≠g) (cs:Array Value):Rdr (w.setRow g cs) R s n q:=by
 have e:(w.setRow g cs).heap[R]?=w.heap[R]?:=setRow_other w g R cs hg
 have hc:∀i,(w.setRow g cs).cell? ⟨R,i,none⟩=w.cell? ⟨R,i,none⟩:=fun i=>World.cell?_of_block (a:=⟨R,i,none⟩) e
 have hf:∀i,(w.setRow g cs).frozen? ⟨R,i,none⟩=w.frozen? ⟨R,i,none⟩:=fun i=>World.frozen?_of_block (a:=⟨R,i,none⟩) e
 exact ⟨h.len,h.rest,(hc 0).trans h.c0,(hc 1).trans h.c1,(hc 2).trans h.c2,(hc 3).trans h.c3,(hc 4).trans h.c4,(hc 5).trans h.c5,(hf 1).trans h.f1,(hf 2).trans h.f2,(hf 3).trans h.f3,(hf 4).trans h.f4,(hf 5).trans h.f5,by simpa using h.lt⟩
theorem wrap_in (x:Int) (h:0≤x) (h':x≤1000000):IntKind.i64.wrap x=x:=IntWalk.i64_in x ⟨by omega,by omega⟩
def rdN (R:Nat) (w:World):Nat:=(intOf ((w.cell? ⟨R,1,none⟩).getD undef)).toNat
theorem Rdr.n {w:World} {R n:Nat} {s:ByteArray} {q:Rs} (h:Rdr w R s n q):rdN R w=n:=by unfold rdN;rw[h.c1];simp[intOf]
structure CS (R:Nat) (w0:World) (F:Bs) (s:ByteArray) (m:Nat) (q:Rs) (W:World):Prop where
 x:GX R w0 W
 b:SetAt W w0.heap.size noB
 a:SetAt W (w0.heap.size+1) F
 r:Rdr W R s m q
section
variable {R:Nat} {w0:World} {F:Bs} {s:ByteArray} {m:Nat} {q:Rs} {W W':World}
theorem CS.gr (h:CS R w0 F s m q W) (g:Gr W W'):CS R w0 F s m q W':=⟨h.x.trans (GX.of_gr g),h.b.gr g,h.a.gr g,h.r.gr g⟩
theorem CS.rd (h:CS R w0 F s m q W) (x:GX R W W') {m':Nat} {q':Rs} (r:Rdr W' R s m' q') (hR:R<w0.heap.size):CS R w0 F s m' q' W':=⟨h.x.trans x,h.b.gx x (by omega),h.a.gx x (by omega),r⟩
theorem CS.all (h:CS R w0 F s m q W) (hR:R<w0.heap.size) (H:Bs):CS R w0 H s m q (W.setRow (w0.heap.size+1) (bsA H)):=
 ⟨h.x.setRow (.inr (by omega)) _,(setRow_other _ _ _ _ (by omega)).trans h.b,SetAt.row h.a,h.r.setRow (by omega) _⟩
end
def Rkn (lo hi:Nat) (w:World) (kids:Value) (bs:List Nat):Prop:=
 ∃A c,kids= .slice A bs.length c∧Rd w 1 A bs.length (ptrs bs)∧(0<bs.length→∀ad,A=some ad→lo<ad.block∧ad.block<hi)
mutual
def Pc.In (lo hi:Nat) (w:World):Pc→Nat→Prop
 | .leaf op ps,b=>lo<b∧b<hi∧Node w b op ps (.slice none 0 0) 0 false
 | .row l,b=>lo<b∧b<hi∧∃kids bs,Node w b 10 [] kids 0 false∧Rkn lo hi w kids bs∧l.In lo hi w bs
 | .ways l,b=>lo<b∧b<hi∧∃kids bs,Node w b 11 [] kids 0 false∧Rkn lo hi w kids bs∧l.In lo hi w bs
 | .group g k,b=>lo<b∧b<hi∧∃kids bk,Node w b 12 [] kids g false∧Rkn lo hi w kids [bk]∧k.In lo hi w bk
 | .rep op z k,b=>lo<b∧b<hi∧∃kids bk,Node w b op [] kids 0 z∧Rkn lo hi w kids [bk]∧k.In lo hi w bk
def PcL.In (lo hi:Nat) (w:World):PcL→List Nat→Prop
 | .nil,bs=>bs=[]
 | .cons p l,bs=>∃b r,bs=b::r∧p.In lo hi w b∧l.In lo hi w r
end
def Same (lo hi:Nat) (w w':World):Prop:=hi≤w'.heap.size∧∀k,lo<k→k<hi→w'.heap[k]?=w.heap[k]?
section
variable {lo hi:Nat} {w w':World}
theorem Same.node (h:Same lo hi w w') {b op g:Nat} {ps:List UInt8} {kids:Value} {z:Bool} (h0:lo<b) (h1:b<hi) (n:Node w b op ps kids g z):Node w' b op ps kids g z:=by
 have e:=h.2 b h0 h1
 obtain ⟨n0,n1,n2,n3,n4⟩:=n
 exact ⟨(World.cell?_of_block (a:=⟨b,0,none⟩) e).trans n0,(World.cell?_of_block (a:=⟨b,1,none⟩) e).trans n1,(World.cell?_of_block (a:=⟨b,2,none⟩) e).trans n2,(World.cell?_of_block (a:=⟨b,3,none⟩) e).trans n3,(World.cell?_of_block (a:=⟨b,4,none⟩) e).trans n4⟩
theorem Rkn.same (h:Same lo hi w w') {kids:Value} {bs:List Nat} (r:Rkn lo hi w kids bs):Rkn lo hi w' kids bs:=by
 obtain ⟨A,c,e,hr,hb⟩:=r
 refine ⟨A,c,e,⟨hr.1,fun h0=>?_⟩,hb⟩
 obtain ⟨ad,e,_,hc⟩:=hr.2 h0
 obtain ⟨b0,b1⟩:=hb h0 ad e
 refine ⟨ad,e,Nat.lt_of_lt_of_le b1 h.1,fun j u hu=>?_⟩
 have e2:w'.heap[(ad.add j).block]?=w.heap[(ad.add j).block]?:=by rw[add_blk];exact h.2 _ b0 b1
 exact (World.cell?_of_block (a:=ad.add j) e2).trans (hc j u hu)
mutual
theorem Pc.In.same (h:Same lo hi w w'):∀(p:Pc) (b:Nat),p.In lo hi w b→p.In lo hi w' b
 | .leaf op ps,b,k=>by
  simp only[Pc.In] at k ⊢
  exact ⟨k.1,k.2.1,h.node k.1 k.2.1 k.2.2⟩
 | .row l,b,k=>by
  simp only[Pc.In] at k ⊢
  obtain ⟨k0,k1,kids,bs,k2,k3,k4⟩:=k
  exact ⟨k0,k1,kids,bs,h.node k0 k1 k2,k3.same h,PcL.In.same h l bs k4⟩
 | .ways l,b,k=>by
  simp only[Pc.In] at k ⊢
  obtain ⟨k0,k1,kids,bs,k2,k3,k4⟩:=k
  exact ⟨k0,k1,kids,bs,h.node k0 k1 k2,k3.same h,PcL.In.same h l bs k4⟩
 | .group g p,b,k=>by
  simp only[Pc.In] at k ⊢
  obtain ⟨k0,k1,kids,bk,k2,k3,k4⟩:=k
  exact ⟨k0,k1,kids,bk,h.node k0 k1 k2,k3.same h,Pc.In.same h p bk k4⟩
 | .rep op z p,b,k=>by
  simp only[Pc.In] at k ⊢
  obtain ⟨k0,k1,kids,bk,k2,k3,k4⟩:=k
  exact ⟨k0,k1,kids,bk,h.node k0 k1 k2,k3.same h,Pc.In.same h p bk k4⟩
theorem PcL.In.same (h:Same lo hi w w'):∀(l:PcL) (bs:List Nat),l.In lo hi w bs→l.In lo hi w' bs
 | .nil,bs,k=>by simpa only[PcL.In] using k
 | .cons p l,bs,k=>by
  simp only[PcL.In] at k ⊢
  obtain ⟨b,r,e,k1,k2⟩:=k
  exact ⟨b,r,e,Pc.In.same h p b k1,PcL.In.same h l r k2⟩
end
theorem Rkn.wide {lo' hi':Nat} (h0:lo'≤lo) (h1:hi≤hi') {kids:Value} {bs:List Nat} (r:Rkn lo hi w kids bs):Rkn lo' hi' w kids bs:=by
 obtain ⟨A,c,e,hr,hb⟩:=r
 exact ⟨A,c,e,hr,fun h ad ha=>by have:=hb h ad ha;omega⟩
mutual
theorem Pc.In.wide {lo' hi':Nat} (h0:lo'≤lo) (h1:hi≤hi'):∀(p:Pc) (b:Nat),p.In lo hi w b→p.In lo' hi' w b
 | .leaf op ps,b,k=>by
  simp only[Pc.In] at k ⊢
  exact ⟨by omega,by omega,k.2.2⟩
 | .row l,b,k=>by
  simp only[Pc.In] at k ⊢
  obtain ⟨k0,k1,kids,bs,k2,k3,k4⟩:=k
  exact ⟨by omega,by omega,kids,bs,k2,k3.wide h0 h1,PcL.In.wide h0 h1 l bs k4⟩
 | .ways l,b,k=>by
  simp only[Pc.In] at k ⊢
  obtain ⟨k0,k1,kids,bs,k2,k3,k4⟩:=k
  exact ⟨by omega,by omega,kids,bs,k2,k3.wide h0 h1,PcL.In.wide h0 h1 l bs k4⟩
 | .group g p,b,k=>by
  simp only[Pc.In] at k ⊢
  obtain ⟨k0,k1,kids,bk,k2,k3,k4⟩:=k
  exact ⟨by omega,by omega,kids,bk,k2,k3.wide h0 h1,Pc.In.wide h0 h1 p bk k4⟩
 | .rep op z p,b,k=>by
  simp only[Pc.In] at k ⊢
  obtain ⟨k0,k1,kids,bk,k2,k3,k4⟩:=k
  exact ⟨by omega,by omega,kids,bk,k2,k3.wide h0 h1,Pc.In.wide h0 h1 p bk k4⟩
theorem PcL.In.wide {lo' hi':Nat} (h0:lo'≤lo) (h1:hi≤hi'):∀(l:PcL) (bs:List Nat),l.In lo hi w bs→l.In lo' hi' w bs
 | .nil,bs,k=>by simpa only[PcL.In] using k
 | .cons p l,bs,k=>by
  simp only[PcL.In] at k ⊢
  obtain ⟨b,r,e,k1,k2⟩:=k
  exact ⟨b,r,e,Pc.In.wide h0 h1 p b k1,PcL.In.wide h0 h1 l r k2⟩
end
theorem Same.gr (h:Gr w w') (hh:hi≤w.heap.size):Same lo hi w w':=⟨Nat.le_trans hh h.size,fun k _ hk=>Below.block h k (by omega)⟩
theorem Same.gx {R:Nat} (h:GX R w w') (hh:hi≤w.heap.size) (hR:R≤lo):Same lo hi w w':=⟨Nat.le_trans hh h.size,fun k h0 hk=>h.block k (by omega) (by omega)⟩
theorem Same.grown {row:Option Nat} (h:w.grownBy w' row) (hh:hi≤w.heap.size) (hr:∀g,row=some g→g≤lo∨hi≤g):Same lo hi w w':=by
 refine ⟨Nat.le_trans hh h.size,fun k h0 hk=>h.block k (by omega) fun e=>?_⟩
 have:=hr k e.symm
 omega
theorem Same.set {p:Addr} (hh:hi≤w.heap.size) (hp:p.block≤lo∨hi≤p.block) (u:Value):Same lo hi w (w.setCell p u):=
 ⟨by simpa using hh,fun k h0 hk=>heap_setCell_other w p k u (by omega)⟩
theorem Pc.In.lt {p:Pc} {b:Nat} (h:p.In lo hi w b):lo<b∧b<hi:=by
 cases p<;>(simp only[Pc.In] at h;exact ⟨h.1,h.2.1⟩)
end
def PcL.app:PcL→PcL→PcL
 | .nil,m=>m
 | .cons p l,m=> .cons p (l.app m)
def Kids (base g:Option Nat) (w:World) (l:List Pc) (bs:List Nat):Prop:=l.length=bs.length∧∀i (h:i<l.length) (h':i<bs.length),∃lo hi,l[i].In lo hi w bs[i]∧(∀k,base=some k→k≤lo)∧hi≤w.heap.size∧(∀k,g=some k→k≤lo∨hi≤k)
theorem Kids.nil (base g:Option Nat) (w:World):Kids base g w [] []:=⟨rfl,fun i h=>absurd h (by simp)⟩
theorem Kids.gr {base g:Option Nat} {w w':World} {l:List Pc} {bs:List Nat} (h:Kids base g w l bs) (x:Gr w w'):Kids base g w' l bs:=
 ⟨h.1,fun i hi hi'=>by
  obtain ⟨lo,hi,k,kb,kh,kg⟩:=h.2 i hi hi'
  exact ⟨lo,hi,Pc.In.same (Same.gr x kh) _ _ k,kb,Nat.le_trans kh x.size,kg⟩⟩
theorem Kids.gx {R B:Nat} {g:Option Nat} {w w':World} {l:List Pc} {bs:List Nat} (h:Kids (some B) g w l bs) (x:GX R w w') (hR:R≤B):Kids (some B) g w' l bs:=
 ⟨h.1,fun i hi hi'=>by
  obtain ⟨lo,hi,k,kb,kh,kg⟩:=h.2 i hi hi'
  exact ⟨lo,hi,Pc.In.same (Same.gx x kh (Nat.le_trans hR (kb B rfl))) _ _ k,kb,Nat.le_trans kh x.size,kg⟩⟩
theorem Kids.push {B:Nat} {g g':Option Nat} {w w':World} {l:List Pc} {bs:List Nat} (h:Kids (some B) g w l bs) (x:w.grownBy w' g) (hg:g'=g∨g'=some w.heap.size) {p:Pc} {b lo hi:Nat} (k:p.In lo hi w b) (kb:B≤lo) (kh:hi≤w.heap.size) (kg:∀j,g=some j→j≤lo):Kids (some B) g' w' (l++[p]) (bs++[b]):=by
 have hnew:∀j,g'=some j→(g=some j∨j=w.heap.size):=fun j hj=>by
  rcases hg with e|e
  ·
   exact .inl (e▸hj)
  ·
   rw[e] at hj;injection hj with hj;exact .inr hj.symm
 refine ⟨by simp[h.1],fun i hi' hi2=>?_⟩
 by_cases hl:i<l.length
 ·
  have hb:i<bs.length:=by rw[←h.1];exact hl
  obtain ⟨lo',hi'',k',kb',kh',kg'⟩:=h.2 i hl hb
  rw[List.getElem_append_left hl,List.getElem_append_left hb]
  refine ⟨lo',hi'',Pc.In.same (Same.grown x kh' kg') _ _ k',kb',Nat.le_trans kh' x.size,fun j hj=>?_⟩
  rcases hnew j hj with e|e
  ·
   exact kg' j e
  ·
   exact .inr (by omega)
 ·
  have hil:i=l.length:=by simp at hi';omega
  subst hil
  have e1:(l++[p])[l.length]=p:=by simp
  have e2:(bs++[b])[l.length]'hi2=b:=by simp[h.1]
  rw[e1,e2]
  refine ⟨lo,hi,Pc.In.same (Same.grown x kh (fun j hj=> .inl (kg j hj))) _ _ k,fun j hj=>by injection hj with hj;omega,Nat.le_trans kh x.size,fun j hj=>?_⟩
  rcases hnew j hj with e|e
  ·
   exact .inl (kg j e)
  ·
   exact .inr (by omega)
theorem Kids.list {B:Nat} {g:Option Nat} {w:World}:∀{l:List Pc} {bs:List Nat},Kids (some B) g w l bs→(PcL.ofList l).In B w.heap.size w bs
 | [],bs,h=>by
  have:bs=[]:=List.eq_nil_of_length_eq_zero h.1.symm
  subst this
  simp only[PcL.ofList,PcL.In]
 | p::l,[],h=>by have:=h.1;simp at this
 | p::l,b::r,h=>by
  simp only[PcL.ofList,PcL.In]
  obtain ⟨lo,hi,k,kb,kh,_⟩:=h.2 0 (by simp) (by simp)
  refine ⟨b,r,rfl,Pc.In.wide (kb B rfl) kh _ _ k,Kids.list (g:=g) ⟨by simpa using h.1,fun i hi hi'=>?_⟩⟩
  have:=h.2 (i+1) (by simpa using hi) (by simpa using hi')
  simpa using this
def RetP (R:Nat) (s:ByteArray) (w:World) (p:Pc) (q:Rs) (e:Ending) (w':World):Prop:=
 ∃(b n:Nat),e= .returned (.pointer (some ⟨b,0,none⟩))∧p.In (w.heap.size-1) w'.heap.size w' b∧GX R w w'∧Rdr w' R s n q
theorem node_new (w:World) (op g:Nat) (ps:List UInt8) (kids:Value) (z:Bool):Node (w.alloc (.cells #[.int .i64 op, .string ⟨ps.toArray⟩,kids, .int .i64 g, .bool z] 112)) w.heap.size op ps kids g z:=by
 refine ⟨?_,?_,?_,?_,?_⟩
 all_goals go_simp
theorem RetP.leaf {R n:Nat} {s:ByteArray} {w w1:World} {q:Rs} (x:GX R w w1) (h:Rdr w1 R s n q) (op:Nat) (ps:List UInt8) :
  RetP R s w (.leaf op ps) q (.returned (.pointer (some ⟨w1.heap.size,0,none⟩))) (w1.alloc (.cells #[.int .i64 op, .string ⟨ps.toArray⟩, .slice none 0 0, .int .i64 0, .bool false] 112)):=by
 refine ⟨_,n,rfl,?_,x.alloc _,h.gr (Gr.alloc (Gr.refl _) _)⟩
 simp only[Pc.In]
 have:=x.size
 have:=h.lt
 exact ⟨by omega,by simp,node_new w1 op 0 ps _ false⟩
section
open Go.RowKit
structure Gd (b:Nat) (s t:Rs):Prop where
 r:t.rest.length≤s.rest.length
 g:t.groups+t.rest.length≤s.groups+s.rest.length+b
 d:t.deep+t.rest.length≤s.deep+s.rest.length+b
 m:s.bad=true→t.bad=true
 e:t.bad=false→t.deep=s.deep
theorem Gd.refl (s:Rs):Gd 0 s s:=⟨Nat.le_refl _,Nat.le_refl _,Nat.le_refl _,id,fun _=>rfl⟩
theorem Gd.trans {s t u:Rs} (h:Gd 0 s t) (k:Gd 0 t u):Gd 0 s u:=by
 obtain ⟨h1,h2,h3,h4,h5⟩:=h
 obtain ⟨k1,k2,k3,k4,k5⟩:=k
 refine ⟨by omega,by omega,by omega,fun x=>k4 (h4 x),fun x=>?_⟩
 have hb:t.bad=false:=by cases e:t.bad with|false=>rfl|true=>rw[k4 e] at x;cases x
 rw[k5 x,h5 hb]
theorem Gd.fail {b:Nat} {s t:Rs} (h:Gd b s t):Gd b s (failS t).2:=⟨h.r,h.g,h.d,fun _=>rfl,fun x=>by cases x⟩
theorem Gd.rest {s:Rs} {r:List UInt8} (h:r.length≤s.rest.length):Gd 0 s {s with rest:=r}:=⟨h,by show s.groups+r.length≤_;omega,by show s.deep+r.length≤_;omega,id,fun _=>rfl⟩
theorem escS_len (r:List UInt8):(escS r).2.length≤r.length:=by
 cases r with
 | nil=>exact Nat.le_refl _
 | cons c r=>unfold escS;simp only;generalize namedB c.toNat=o;cases o<;>simp
theorem sideS_len (r:List UInt8):(sideS r).2.length≤r.length:=by
 cases r with
 | nil=>exact Nat.le_refl _
 | cons c r=>
  unfold sideS
  cases hb:(c.toNat==92)
  ·
   simp[hb]
  ·
   cases r with
   | nil=>simp[hb]
   | cons d q=>
    simp only[hb,cond_true]
    generalize escS (d::q)=e
    obtain ⟨_|g,u⟩:=e<;>(simp;try omega)
theorem clsS_len (k:Nat):∀(f:Bool) (a:Bs) (r:List UInt8),(clsS k f a r).2.length≤r.length:=by
 induction k with
 | zero=>intro f a r;exact Nat.le_refl _
 | succ k ih=>
  intro f a r
  unfold clsS
  cases hb:(f || !headIs 93 r)
  ·
   simp
  ·
   simp only[cond_true]
   have h1:=sideS_len r
   generalize sideS r=e at h1 ⊢
   obtain ⟨_|⟨g,x,y⟩,u⟩:=e
   ·
    exact h1
   ·
    simp only at h1 ⊢
    cases hc:(!y&&rangesS u)
    ·
     simp only[cond_false];exact Nat.le_trans (ih _ _ _) h1
    ·
     simp only[cond_true]
     have h2:=sideS_len (u.drop 1)
     have h3:(u.drop 1).length≤u.length:=by simp
     generalize sideS (u.drop 1)=e2 at h2 ⊢
     obtain ⟨_|⟨g2,x2,y2⟩,u2⟩:=e2
     ·
      simp only at h2 ⊢;omega
     ·
      simp only at h2 ⊢
      cases hd:Nat.blt x2 x
      ·
       simp only[cond_false];have:=ih false (orB a (orB g (runB x x2))) u2;omega
      ·
       simp only[cond_true];omega
theorem classS_len (r:List UInt8):(classS r).2.length≤r.length:=by
 unfold classS
 cases hb:headIs 94 r
 ·
  exact clsS_len _ _ _ _
 ·
  simp only[cond_true]
  have h1:=clsS_len r.length true noB (r.drop 1)
  have h3:(r.drop 1).length≤r.length:=by simp
  generalize clsS r.length true noB (r.drop 1)=e at h1 ⊢
  obtain ⟨_|g,u⟩:=e<;>(simp only at h1 ⊢;omega)
theorem setS_gd {s:Rs} {x:Option Bs×List UInt8} (h:x.2.length≤s.rest.length):Gd 0 s (setS s x).2:=by
 obtain ⟨_|f,q⟩:=x
 ·
  exact (Gd.rest h).fail
 ·
  exact Gd.rest h
theorem openS_gd (s:Rs):(openS s).2.rest.length≤s.rest.length∧(openS s).2.groups+(openS s).2.rest.length≤s.groups+s.rest.length+1∧(openS s).2.deep=s.deep∧(openS s).2.bad=s.bad:=by
 unfold openS
 cases (headIs 63 s.rest&&headIs 58 (s.rest.drop 1))
 ·
  simp;omega
 ·
  simp;omega
variable {W:Rs→Pc×Rs} (hW:∀s,Gd 0 s (W s).2)
include hW
theorem groupS_gd (s:Rs):Gd 1 s (groupS W s).2:=by
 unfold groupS
 cases hb:Nat.ble 64 s.deep
 ·
  simp only[cond_false]
  obtain ⟨o1,o2,o3,o4⟩:=openS_gd {s with deep:=s.deep+1}
  obtain ⟨h1,h2,h3,h4,h5⟩:=hW (openS {s with deep:=s.deep+1}).2
  simp only at o1 o2 o3 o4
  generalize (openS {s with deep:=s.deep+1}).2=o at *
  generalize W o=t at *
  cases hc:(t.2.bad || !headIs 41 t.2.rest)
  ·
   simp only[cond_false]
   have htb:t.2.bad=false:=by cases e:t.2.bad with|false=>rfl|true=>rw[e] at hc;cases hc
   have hd:=h5 htb
   refine ⟨?_,?_,?_,?_,?_⟩
   ·
    simp;omega
   ·
    simp;omega
   ·
    simp;omega
   ·
    intro x;exact h4 (o4.trans x)
   ·
    intro _;simp;omega
  ·
   simp only[cond_true]
   refine ⟨?_,?_,?_,fun _=>rfl,fun x=>by cases x⟩
   ·
    simp[failS];omega
   ·
    simp[failS];omega
   ·
    simp[failS];omega
 ·
  simp only[cond_true]
  refine ⟨?_,?_,?_,fun _=>rfl,fun x=>by cases x⟩<;>(simp[failS];try omega)
theorem atomS_gd {s:Rs} {c:UInt8} {r:List UInt8} (h:s.rest=c::r):Gd 0 s (atomS W s).2∧(atomS W s).2.rest.length≤r.length:=by
 have hl:s.rest.length=r.length+1:=by rw[h];rfl
 have h0:Gd 0 s {s with rest:=r}:=Gd.rest (by omega)
 have hx:∀x:Option Bs×List UInt8,x.2.length≤r.length→Gd 0 s (setS s x).2∧(setS s x).2.rest.length≤r.length:=fun x hx=>⟨setS_gd (by omega),by
  obtain ⟨_|f,q⟩:=x<;>exact hx⟩
 unfold atomS
 rw[h]
 simp only
 cases (c.toNat==40)
 rotate_left
 ·
  simp only[cond_true]
  obtain ⟨k1,k2,k3,k4,k5⟩:=groupS_gd hW {s with rest:=r}
  simp only at k1 k2 k3 k4 k5
  exact ⟨⟨by omega,by omega,by omega,k4,k5⟩,k1⟩
 cases (c.toNat==94)
 rotate_left
 ·
  exact ⟨h0,Nat.le_refl _⟩
 cases (c.toNat==36)
 rotate_left
 ·
  exact ⟨h0,Nat.le_refl _⟩
 cases (c.toNat==46)
 rotate_left
 ·
  exact ⟨h0,Nat.le_refl _⟩
 cases (c.toNat==91)
 rotate_left
 ·
  exact hx _ (classS_len r)
 cases (c.toNat==92)
 rotate_left
 ·
  exact hx _ (escS_len r)
 cases stopC c.toNat
 ·
  exact ⟨h0,Nat.le_refl _⟩
 ·
  exact ⟨h0.fail,Nat.le_refl _⟩
theorem pieceS_gd {s:Rs} {c:UInt8} {r:List UInt8} (h:s.rest=c::r):Gd 0 s (pieceS W s).2∧(pieceS W s).2.rest.length≤r.length:=by
 have h0:=atomS_gd hW h
 unfold pieceS
 generalize atomS W s=t at h0 ⊢
 simp only
 cases hb:t.2.bad
 ·
  simp only[cond_false]
  match e:t.2.rest with
  | []=>exact h0
  | d::q=>
   simp only
   cases repC d.toNat
   ·
    exact h0
   ·
    simp only[cond_true]
    have h1:(bif headIs 63 q then q.drop 1 else q).length≤q.length:=by cases headIs 63 q<;>simp
    have h2:q.length+1=t.2.rest.length:=by rw[e];rfl
    have h9:=Gd.rest (s:=t.2) (r:=bif headIs 63 q then q.drop 1 else q) (by omega)
    rw[hb] at h9
    exact ⟨h0.1.trans h9,by show (bif headIs 63 q then q.drop 1 else q).length≤_;omega⟩
 ·
  exact h0
theorem rowS_gd (k:Nat):∀s:Rs,Gd 0 s (rowS W k s).2:=by
 induction k with
 | zero=>intro s;exact Gd.refl s
 | succ k ih=>
  intro s
  unfold rowS
  cases hb:(s.bad||endR s.rest)
  ·
   simp only[cond_false]
   obtain ⟨c,r,hr⟩:∃c r,s.rest=c::r:=by
    match e:s.rest with
    | []=>rw[e] at hb;simp[endR] at hb
    | c::r=>exact ⟨c,r,rfl⟩
   exact (pieceS_gd hW hr).1.trans (ih _)
  ·
   exact Gd.refl s
theorem altS_gd (k:Nat):∀s:Rs,Gd 0 s (altS W k s).2:=by
 induction k with
 | zero=>intro s;exact Gd.refl s
 | succ k ih=>
  intro s
  unfold altS
  have h0:Gd 0 s (rowP W s).2:=rowS_gd hW _ s
  generalize rowP W s=t at h0 ⊢
  simp only
  cases hb:(!t.2.bad&&headIs 124 t.2.rest)
  ·
   exact h0
  ·
   simp only[cond_true]
   exact (h0.trans (Gd.rest (r:=t.2.rest.drop 1) (by simp))).trans (ih _)
omit hW in
theorem waysS_gd (n:Nat):∀s:Rs,Gd 0 s (waysS n s).2:=by
 induction n with
 | zero=>intro s;exact (Gd.refl s).fail
 | succ n ih=>intro s;exact altS_gd ih _ s
def BdX (q:Rs):Prop:=q.groups+q.rest.length≤5000∧q.deep+q.rest.length≤5000
omit hW in
theorem Gd.bd {s t:Rs} (h:Gd 0 s t) (k:BdX s):BdX t:=⟨Nat.le_trans h.g k.1,Nat.le_trans h.d k.2⟩
end
theorem RetP.from {R:Nat} {s:ByteArray} {w w2 w':World} {p:Pc} {q:Rs} {e:Ending} (x:GX R w w2) (h:RetP R s w2 p q e w'):RetP R s w p q e w':=by
 obtain ⟨b,n,he,k,y,hr⟩:=h
 have:=x.size
 exact ⟨b,n,he,Pc.In.wide (by omega) (Nat.le_refl _) _ _ k,x.trans y,hr⟩
theorem atom_else {w:World} {R n:Nat} {s:ByteArray} {q:Rs} (h:Rdr w R s n q) (hs:(s.size:Int)≤4096) {c:UInt8} {r:List UInt8} (hq:q.rest=c::r) (hc:∀k∈[40,94,36,46,91,92,124,63,42,43,41],c.toNat≠k) :
  Calls Tryz.prog 128 #[.pointer (some ⟨R,0,none⟩)] w (RetP R s w (.leaf 1 (pairsS (oneB c.toNat))) {q with rest:=r}):=by
 have Q:=fun w (h:Rdr w R s n q)=>now_some h hs hq
 simp only[List.mem_cons,List.not_mem_nil,or_false,forall_eq_or_imp,forall_eq] at hc
 have k40:((c.toNat:Int)==40)=false:=beq_eq_false_iff_ne.2 (by omega)
 have k94:((c.toNat:Int)==94)=false:=beq_eq_false_iff_ne.2 (by omega)
 have k36:((c.toNat:Int)==36)=false:=beq_eq_false_iff_ne.2 (by omega)
 have k46:((c.toNat:Int)==46)=false:=beq_eq_false_iff_ne.2 (by omega)
 have k91:((c.toNat:Int)==91)=false:=beq_eq_false_iff_ne.2 (by omega)
 have k92:((c.toNat:Int)==92)=false:=beq_eq_false_iff_ne.2 (by omega)
 have k124:((c.toNat:Int)==124)=false:=beq_eq_false_iff_ne.2 (by omega)
 have k63:((c.toNat:Int)==63)=false:=beq_eq_false_iff_ne.2 (by omega)
 have k42:((c.toNat:Int)==42)=false:=beq_eq_false_iff_ne.2 (by omega)
 have k43:((c.toNat:Int)==43)=false:=beq_eq_false_iff_ne.2 (by omega)
 have k41:((c.toNat:Int)==41)=false:=beq_eq_false_iff_ne.2 (by omega)
 have hle:=h.len
 rw[hq] at hle
 simp at hle
 have hn:(n:Int)<4096:=by omega
 have hwr:=wrap_in ((n:Int)+1) (by omega) (by omega)
 clear hle
 go_enter Tryz.func128,Tryz.ntmps128
 go_upto_region 2 with (go_at_call 106;refine (Q _ h).mono ?_;rintro e w1 ⟨rfl,g1⟩)
 have h1:=h.gr g1
 obtain ⟨c1,f1⟩:=And.intro h1.c1 h1.f1
 go_upto_region 3 with (fail)
 have h2:=h1.next hq
 have x2:GX R w (w1.setCell ⟨R,1,none⟩ (.int .i64 ((n:Int)+1))):=GX.setCell (p:=⟨R,1,none⟩) (GX.of_gr (R:=R) g1) (.inl rfl) _
 clear c1 f1 h1 g1 Q hwr h hq
 generalize (w1.setCell ⟨R,1,none⟩ (.int .i64 ((n:Int)+1)))=w2 at h2 x2 ⊢
 go_wp2_with (first
  | (go_at_call 139;refine (one_any c.toNat _ c.toNat_lt).mono ?_;rintro e w3 ⟨rfl,g3⟩)
  | (go_at_call 141;refine (pairs_any (oneB c.toNat) _).mono ?_;rintro e w5 ⟨rfl,g5⟩))
 go_ret
 exact RetP.leaf (x2.trans (GX.of_gr (Gr.trans g3 g5))) (h2.gr (Gr.trans g3 g5)) 1 _
end Go.Proofs.YtnphdacibageiaaGreat
