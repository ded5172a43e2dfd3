import Derived.Test.YtnphdacibageiaaGreatRunPrWalk
set_option linter.all false
set_option maxRecDepth 1000000
set_option maxHeartbeats 12800000
namespace Go.Proofs.YtnphdacibageiaaGreat
open Go.RowKit
theorem info_arr:(Tryz.prog.info? 178).map (fun i=>(i.zero,i.size))=some (some (.agg (bsA noB)),256):=by kernel_rfl
def SetQ (w:World) (g:Nat) (f:Bs):Prop:=w.heap[g]?=some (.cells (bsA f) 178 (0,0))
theorem SetQ.cell {w:World} {g:Nat} {f:Bs} (h:SetQ w g f) {i:Nat} (hi:i<256):w.cell? ⟨g,i,none⟩=some (.bool (f i)):=
 (cell_of_row w g i _ _ _ h).trans (bsA_at f hi)
theorem SetQ.free {w:World} {g:Nat} {f:Bs} (h:SetQ w g f) (i:Nat):w.frozen? ⟨g,i,none⟩=false:=frozen_of_row w g i _ _ h
theorem SetQ.set {w:World} {g:Nat} {f:Bs} (h:SetQ w g f) (i:Nat) (b:Bool):SetQ (w.setCell ⟨g,i,none⟩ (.bool b)) g (fun k=>bif k==i then b else f k):=
 (heap_setCell_same w g i _ _ (.bool b) h).trans (by rw[bsA_set])
theorem SetQ.lt {w:World} {g:Nat} {f:Bs} (h:SetQ w g f):g<w.heap.size:=(Array.getElem?_eq_some_iff.1 h).1
theorem SetQ.eq {w:World} {g:Nat} {f h:Bs} (k:SetQ w g f) (e:∀i,i<256→f i=h i):SetQ w g h:=by unfold SetQ;rw[←bsA_eq e];exact k
theorem SetQ.gr {w w':World} {g:Nat} {f:Bs} (h:SetQ w g f) (x:Gr w w'):SetQ w' g f:=(Below.block x g h.lt).trans h
theorem SetQ.gx {w w':World} {g R:Nat} {f:Bs} (h:SetQ w g f) (x:GX R w w') (hn:g≠R):SetQ w' g f:=(x.block g h.lt hn).trans h
theorem SetQ.other {w:World} {g:Nat} {f:Bs} (h:SetQ w g f) {p:Addr} (hn:g≠p.block) (u:Value):SetQ (w.setCell p u) g f:=(heap_setCell_other w p g u hn).trans h
theorem SetQ.new (w:World) (f:Bs):SetQ (w.alloc (.cells (bsA f) 178)) w.heap.size f:=heap_alloc_new w _
theorem und_arr:Tryz.prog.underlying 178=some (.array 256 4):=by kernel_rfl
theorem size_arr:(Tryz.prog.info? 178).map (·.size)=some 256:=(zero_of_info info_arr).2
theorem size_bsQ (f:Bs):(Tryz.prog.info? 178).map (·.size)=some (bsA f).size:=by rw[bsA_size];exact size_arr
theorem SetQ.row {w:World} {g:Nat} {f h:Bs} (k:SetQ w g h):SetQ (w.setRow g (bsA f)) g f:=setRow_heap w g (bsA h) (bsA f) _ _ k
theorem res_arr2 (fn:Func) (p q:Tmp) (h:fn.results= #[.cell p 178, .tmp q]) (tmps:Array Value) (w:World) (g:Nat) (f:Bs) (b:Value) (hp:tmps.getD p undef= .pointer (some ⟨g,0,none⟩)) (hq:tmps.getD q undef=b) (hs:SetQ w g f) :
  (results fn tmps).run Tryz.prog w= .ok (.tuple #[.agg (bsA f),b]) w:=by
 have hp':tmps[p]?.getD undef= .pointer (some ⟨g,0,none⟩):=by simpa using hp
 have hq':tmps[q]?.getD undef=b:=by simpa using hq
 simp[results,h,hp',hq',asAddr,run_loadVar_row w g _ 178 (bsA f) (0,0) _ hs und_arr rfl (size_bsQ _)]
theorem aln_iff (b:Nat):alnB b=true↔(97≤b∧b≤122)∨(65≤b∧b≤90)∨(48≤b∧b≤57):=by
 simp only[alnB,Bool.or_eq_true,Bool.and_eq_true,Nat.ble_eq]
theorem digB_iff (b:Nat):digB b=true↔48≤b∧b≤57:=by
 simp only[digB,runB,Bool.and_eq_true,Nat.ble_eq]
theorem wordB_iff (b:Nat):wordB b=true↔(97≤b∧b≤122)∨(65≤b∧b≤90)∨(48≤b∧b≤57)∨b=95:=by
 simp only[wordB,orB,digB,runB,Bool.or_eq_true,Bool.and_eq_true,Nat.ble_eq]
 omega
theorem spB_iff (b:Nat):spB b=true↔(9≤b∧b≤13)∨b=32:=by
 simp only[spB,orB,runB,Bool.or_eq_true,Bool.and_eq_true,Nat.ble_eq]
 omega
theorem notB_t {f:Bs} {k:Nat} (h:f k=false):notB f k=true:=by simp[notB,h]
theorem notB_f {f:Bs} {k:Nat} (h:f k=true):notB f k=false:=by simp[notB,h]
theorem word_any (x:Nat) (hx:x<256) (w:World):Calls Tryz.prog 168 #[.int .u8 x] w fun e w'=>e= .returned (.bool (alnB x))∧w=w':=by
 have hcase:x≤47∨(48≤x∧x≤57)∨(58≤x∧x≤64)∨(65≤x∧x≤90)∨(91≤x∧x≤96)∨(97≤x∧x≤122)∨123≤x:=by omega
 rcases hcase with hr|⟨hr,hr2⟩|⟨hr,hr2⟩|⟨hr,hr2⟩|⟨hr,hr2⟩|⟨hr,hr2⟩|hr
 ·
  have g0:¬(97:Int)≤(x:Int):=by omega
  have g1:¬(65:Int)≤(x:Int):=by omega
  have g2:¬(48:Int)≤(x:Int):=by omega
  have g3:(x:Int)≤122:=by omega
  have g4:(x:Int)≤90:=by omega
  have g5:(x:Int)≤57:=by omega
  have hal:alnB x=false:=by rw[Bool.eq_false_iff,ne_eq,aln_iff];omega
  rw[hal]
  clear hal
  go_enter Tryz.func168,Tryz.ntmps168
  go_wp2
  go_ret
  exact ⟨rfl,rfl⟩
 ·
  have g0:¬(97:Int)≤(x:Int):=by omega
  have g1:¬(65:Int)≤(x:Int):=by omega
  have g2:(48:Int)≤(x:Int):=by omega
  have g3:(x:Int)≤122:=by omega
  have g4:(x:Int)≤90:=by omega
  have g5:(x:Int)≤57:=by omega
  have hal:alnB x=true:=by rw[aln_iff];omega
  rw[hal]
  clear hal
  go_enter Tryz.func168,Tryz.ntmps168
  go_wp2
  go_ret
  exact ⟨rfl,rfl⟩
 ·
  have g0:¬(97:Int)≤(x:Int):=by omega
  have g1:¬(65:Int)≤(x:Int):=by omega
  have g2:(48:Int)≤(x:Int):=by omega
  have g3:(x:Int)≤122:=by omega
  have g4:(x:Int)≤90:=by omega
  have g5:¬(x:Int)≤57:=by omega
  have hal:alnB x=false:=by rw[Bool.eq_false_iff,ne_eq,aln_iff];omega
  rw[hal]
  clear hal
  go_enter Tryz.func168,Tryz.ntmps168
  go_wp2
  go_ret
  exact ⟨rfl,rfl⟩
 ·
  have g0:¬(97:Int)≤(x:Int):=by omega
  have g1:(65:Int)≤(x:Int):=by omega
  have g2:(48:Int)≤(x:Int):=by omega
  have g3:(x:Int)≤122:=by omega
  have g4:(x:Int)≤90:=by omega
  have g5:¬(x:Int)≤57:=by omega
  have hal:alnB x=true:=by rw[aln_iff];omega
  rw[hal]
  clear hal
  go_enter Tryz.func168,Tryz.ntmps168
  go_wp2
  go_ret
  exact ⟨rfl,rfl⟩
 ·
  have g0:¬(97:Int)≤(x:Int):=by omega
  have g1:(65:Int)≤(x:Int):=by omega
  have g2:(48:Int)≤(x:Int):=by omega
  have g3:(x:Int)≤122:=by omega
  have g4:¬(x:Int)≤90:=by omega
  have g5:¬(x:Int)≤57:=by omega
  have hal:alnB x=false:=by rw[Bool.eq_false_iff,ne_eq,aln_iff];omega
  rw[hal]
  clear hal
  go_enter Tryz.func168,Tryz.ntmps168
  go_wp2
  go_ret
  exact ⟨rfl,rfl⟩
 ·
  have g0:(97:Int)≤(x:Int):=by omega
  have g1:(65:Int)≤(x:Int):=by omega
  have g2:(48:Int)≤(x:Int):=by omega
  have g3:(x:Int)≤122:=by omega
  have g4:¬(x:Int)≤90:=by omega
  have g5:¬(x:Int)≤57:=by omega
  have hal:alnB x=true:=by rw[aln_iff];omega
  rw[hal]
  clear hal
  go_enter Tryz.func168,Tryz.ntmps168
  go_wp2
  go_ret
  exact ⟨rfl,rfl⟩
 ·
  have g0:(97:Int)≤(x:Int):=by omega
  have g1:(65:Int)≤(x:Int):=by omega
  have g2:(48:Int)≤(x:Int):=by omega
  have g3:¬(x:Int)≤122:=by omega
  have g4:¬(x:Int)≤90:=by omega
  have g5:¬(x:Int)≤57:=by omega
  have hal:alnB x=false:=by rw[Bool.eq_false_iff,ne_eq,aln_iff];omega
  rw[hal]
  clear hal
  go_enter Tryz.func168,Tryz.ntmps168
  go_wp2
  go_ret
  exact ⟨rfl,rfl⟩
def spcL:List UInt8:=[92,94,36,46,124,63,42,43,40,41,91]
def spcB (c:Nat):Bool:=spcL.any fun b=>b.toNat==c
theorem special_any (c:Nat) (hc:c<256) (w:World):Calls Tryz.prog 164 #[.int .u8 c] w fun e w'=>e= .returned (.bool (spcB c))∧w=w':=by
 obtain ⟨Rv,hR⟩:∃Rv,Rv=spcB c:=⟨_,rfl⟩
 rw[←hR]
 have HR:=Lib.hid hR
 clear hR
 go_enter Tryz.func164,Tryz.ntmps164
 go_upto_region 2 with (fail)
 obtain ⟨S,hS⟩:∃S:ByteArray,S=⟨#[92,94,36,46,124,63,42,43,40,41,91]⟩:=⟨_,rfl⟩
 rw[←hS]
 have hz:S.size≤11:=by rw[hS];decide
 have hz2:11≤S.size:=by rw[hS];decide
 have HS:=Lib.hid hS
 clear hS
 go_wp2
 go_loop [4] (fun i=>∃k:Nat,k≤11∧i= .int .i64 k∧(spcL.take k).all (fun b=> !(b.toNat==c))=true) (fun i=>12-(intOf i).toNat)
 case atStart=>exact ⟨0,by omega,rfl,rfl⟩
 case round=>
  obtain ⟨k,hk,rfl,hall⟩:=hrel
  have HA:=Lib.hid hall
  clear hall
  by_cases hlt:k<11
  ·
   have hkS:k<S.size:=by omega
   have hkI:(k:Int)<(S.size:Int):=by omega
   have hel:spcL[k]'hlt=S[k]:=by have:=HS.out;subst this;rfl
   have Hel:=Lib.hid hel
   clear hel
   by_cases hq:S[k].toNat=c
   ·
    have hq1:((S[k].toNat:Int)==(c:Int))=true:=by simp[hq]
    have Hq:=Lib.hid hq
    clear hq
    go_wp2
    go_ret
    have:spcB c=true:=by
     unfold spcB
     rw[List.any_eq_true]
     exact ⟨spcL[k]'hlt,List.getElem_mem _,by rw[Hel.out];simpa using Hq.out⟩
    rw[HR.out,this]
    exact ⟨rfl,rfl⟩
   ·
    have hq1:((S[k].toNat:Int)==(c:Int))=false:=beq_eq_false_iff_ne.2 (by omega)
    have Hq:=Lib.hid hq
    clear hq
    go_wp2
    go_round
    case rel=>
     refine ⟨k+1,by omega,by go_num,?_⟩
     rw[List.take_succ_eq_append_getElem hlt,List.all_append,HA.out,Hel.out]
     simpa using Hq.out
    case measure=>simp[intOf];omega
  ·
   have hge:¬(k:Int)<(S.size:Int):=by omega
   go_wp2
   go_ret
   have:spcB c=false:=by
    have h2:=HA.out
    rw[List.take_of_length_le (by show 11≤k;omega)] at h2
    unfold spcB
    rw[List.any_eq_false]
    intro b hb
    have:=List.all_eq_true.1 h2 b hb
    simpa using this
   rw[HR.out,this]
   exact ⟨rfl,rfl⟩
theorem six_100 (w:World):Calls Tryz.prog 167 #[.int .u8 100] w fun e w'=>e= .returned (.tuple #[.agg (bsA digB), .bool true])∧Gr w w':=by
 obtain ⟨hz,hsz⟩:=zero_of_info info_arr
 have g0:Gr w ((w.alloc (Obj.cells (bsA noB) 178)).alloc (Obj.cells (bsA noB) 178)):=gq
 have s0:SetQ ((w.alloc (Obj.cells (bsA noB) 178)).alloc (Obj.cells (bsA noB) 178)) w.heap.size noB:=(SetQ.new w noB).gr (Gr.alloc (Gr.refl _) _)
 have s1:SetQ ((w.alloc (Obj.cells (bsA noB) 178)).alloc (Obj.cells (bsA noB) 178)) (w.heap.size+1) noB:=by
  have:=SetQ.new (w.alloc (Obj.cells (bsA noB) 178)) noB
  simpa using this
 go_enter Tryz.func167,Tryz.ntmps167
 go_wp2
 generalize ((w.alloc (Obj.cells (bsA noB) 178)).alloc (Obj.cells (bsA noB) 178))=w0 at g0 s0 s1 ⊢
 clear hz hsz
 go_loopw [5] (fun i wr=>∃k:Nat,k≤256∧i= .int .i64 k∧Gr w wr∧SetQ wr w.heap.size noB∧SetQ wr (w.heap.size+1) (fun j=>bif decide (j<k) then digB j else false)) (fun i _=>256-(intOf i).toNat)
 case atStart=>exact ⟨0,by omega,rfl,g0,s0,s1.eq fun i _=>by simp[noB]⟩
 case round=>
  clear g0 s0 s1
  obtain ⟨k,hk,rfl,hgr,hs,ht⟩:=hrel
  by_cases hlt:k<256
  ·
   have h3:(k:Int)<256:=by omega
   have hcell:=ht.cell hlt
   rw[show (bif decide (k<k) then digB k else false)=false by simp] at hcell
   have hf:=ht.free k
   have hrel2:∀v:Bool,digB k=v→SetQ (wr.setCell ⟨w.heap.size+1,k,none⟩ (.bool v)) (w.heap.size+1) (fun j=>bif decide (j<k+1) then digB j else false):=fun v hv=>(ht.set k v).eq fun i _=>by
    by_cases hi:i=k
    ·
     subst hi;simp[hv]
    ·
     have e1:(i==k)=false:=by simpa using hi
     have e2:decide (i<k+1)=decide (i<k):=by rw[decide_eq_decide];omega
     simp only[e1,cond_false,e2]
   have Hrel2:=Lib.hid hrel2
   have Hs:=Lib.hid hs
   have Ht:=Lib.hid ht
   have Hgr:=Lib.hid hgr
   clear hrel2 hs ht hgr
   have hcase:(0≤k∧k≤47)∨(48≤k∧k≤57)∨(58≤k∧k≤255):=by omega
   rcases hcase with ⟨hr,hr2⟩|⟨hr,hr2⟩|⟨hr,hr2⟩
   ·
    have g0:¬(48:Int)≤(k:Int):=by omega
    have g1:(k:Int)≤57:=by omega
    go_wp2
    go_roundw
    case rel=>exact ⟨k+1,by omega,by go_num,Gr.setCell Hgr.out (p:=⟨w.heap.size+1,k,none⟩) (by simp) _,Hs.out.other (p:=⟨w.heap.size+1,k,none⟩) (by simp) _,Hrel2.out false (by exact (by rw[Bool.eq_false_iff,ne_eq,digB_iff];omega))⟩
    case measure=>simp[intOf];omega
   ·
    have g0:(48:Int)≤(k:Int):=by omega
    have g1:(k:Int)≤57:=by omega
    go_wp2
    go_roundw
    case rel=>exact ⟨k+1,by omega,by go_num,Gr.setCell Hgr.out (p:=⟨w.heap.size+1,k,none⟩) (by simp) _,Hs.out.other (p:=⟨w.heap.size+1,k,none⟩) (by simp) _,Hrel2.out true (by exact ((digB_iff k).2 (by omega)))⟩
    case measure=>simp[intOf];omega
   ·
    have g0:(48:Int)≤(k:Int):=by omega
    have g1:¬(k:Int)≤57:=by omega
    go_wp2
    go_roundw
    case rel=>exact ⟨k+1,by omega,by go_num,Gr.setCell Hgr.out (p:=⟨w.heap.size+1,k,none⟩) (by simp) _,Hs.out.other (p:=⟨w.heap.size+1,k,none⟩) (by simp) _,Hrel2.out false (by exact (by rw[Bool.eq_false_iff,ne_eq,digB_iff];omega))⟩
    case measure=>simp[intOf];omega
  ·
   have hk':k=256:=by omega
   subst hk'
   have ht':SetQ wr (w.heap.size+1) digB:=ht.eq fun i hi=>by simp[hi]
   clear ht
   go_wp2_with (first
    | (refine wpList_load_row rfl 178 (.tmp 4) rfl (w.heap.size+1) rfl _ (bsA digB) (0,0) _ ht' und_arr rfl (size_bsQ _) ?_)
    | (refine wpList_store_row rfl 178 (.tmp 2) (.tmp 53) rfl w.heap.size (bsA digB) rfl rfl _ _ hs (size_bsQ _) (by simp only[bsA_size]) (bsA_one _) ?_))
   exact bodyPost_ret (v:= .tuple #[.agg (bsA digB), .bool true]) (res_arr2 _ 2 3 (by kernel_rfl) _ _ w.heap.size _ _ rfl rfl (SetQ.row hs)) rfl ⟨rfl,Gr.setRow hgr (Nat.le_refl _) _⟩
theorem six_68 (w:World):Calls Tryz.prog 167 #[.int .u8 68] w fun e w'=>e= .returned (.tuple #[.agg (bsA (notB digB)), .bool true])∧Gr w w':=by
 obtain ⟨hz,hsz⟩:=zero_of_info info_arr
 have g0:Gr w ((w.alloc (Obj.cells (bsA noB) 178)).alloc (Obj.cells (bsA noB) 178)):=gq
 have s0:SetQ ((w.alloc (Obj.cells (bsA noB) 178)).alloc (Obj.cells (bsA noB) 178)) w.heap.size noB:=(SetQ.new w noB).gr (Gr.alloc (Gr.refl _) _)
 have s1:SetQ ((w.alloc (Obj.cells (bsA noB) 178)).alloc (Obj.cells (bsA noB) 178)) (w.heap.size+1) noB:=by
  have:=SetQ.new (w.alloc (Obj.cells (bsA noB) 178)) noB
  simpa using this
 go_enter Tryz.func167,Tryz.ntmps167
 go_wp2
 generalize ((w.alloc (Obj.cells (bsA noB) 178)).alloc (Obj.cells (bsA noB) 178))=w0 at g0 s0 s1 ⊢
 clear hz hsz
 go_loopw [5] (fun i wr=>∃k:Nat,k≤256∧i= .int .i64 k∧Gr w wr∧SetQ wr w.heap.size noB∧SetQ wr (w.heap.size+1) (fun j=>bif decide (j<k) then (notB digB) j else false)) (fun i _=>256-(intOf i).toNat)
 case atStart=>exact ⟨0,by omega,rfl,g0,s0,s1.eq fun i _=>by simp[noB]⟩
 case round=>
  clear g0 s0 s1
  obtain ⟨k,hk,rfl,hgr,hs,ht⟩:=hrel
  by_cases hlt:k<256
  ·
   have h3:(k:Int)<256:=by omega
   have hcell:=ht.cell hlt
   rw[show (bif decide (k<k) then (notB digB) k else false)=false by simp] at hcell
   have hf:=ht.free k
   have hrel2:∀v:Bool,(notB digB) k=v→SetQ (wr.setCell ⟨w.heap.size+1,k,none⟩ (.bool v)) (w.heap.size+1) (fun j=>bif decide (j<k+1) then (notB digB) j else false):=fun v hv=>(ht.set k v).eq fun i _=>by
    by_cases hi:i=k
    ·
     subst hi;simp[hv]
    ·
     have e1:(i==k)=false:=by simpa using hi
     have e2:decide (i<k+1)=decide (i<k):=by rw[decide_eq_decide];omega
     simp only[e1,cond_false,e2]
   have Hrel2:=Lib.hid hrel2
   have Hs:=Lib.hid hs
   have Ht:=Lib.hid ht
   have Hgr:=Lib.hid hgr
   clear hrel2 hs ht hgr
   have hcase:(0≤k∧k≤47)∨(48≤k∧k≤57)∨(58≤k∧k≤255):=by omega
   rcases hcase with ⟨hr,hr2⟩|⟨hr,hr2⟩|⟨hr,hr2⟩
   ·
    have g0:¬(48:Int)≤(k:Int):=by omega
    have g1:(k:Int)≤57:=by omega
    go_wp2
    go_roundw
    case rel=>exact ⟨k+1,by omega,by go_num,Gr.setCell Hgr.out (p:=⟨w.heap.size+1,k,none⟩) (by simp) _,Hs.out.other (p:=⟨w.heap.size+1,k,none⟩) (by simp) _,Hrel2.out true (by exact notB_t (by rw[Bool.eq_false_iff,ne_eq,digB_iff];omega))⟩
    case measure=>simp[intOf];omega
   ·
    have g0:(48:Int)≤(k:Int):=by omega
    have g1:(k:Int)≤57:=by omega
    go_wp2
    go_roundw
    case rel=>exact ⟨k+1,by omega,by go_num,Gr.setCell Hgr.out (p:=⟨w.heap.size+1,k,none⟩) (by simp) _,Hs.out.other (p:=⟨w.heap.size+1,k,none⟩) (by simp) _,Hrel2.out false (by exact notB_f ((digB_iff k).2 (by omega)))⟩
    case measure=>simp[intOf];omega
   ·
    have g0:(48:Int)≤(k:Int):=by omega
    have g1:¬(k:Int)≤57:=by omega
    go_wp2
    go_roundw
    case rel=>exact ⟨k+1,by omega,by go_num,Gr.setCell Hgr.out (p:=⟨w.heap.size+1,k,none⟩) (by simp) _,Hs.out.other (p:=⟨w.heap.size+1,k,none⟩) (by simp) _,Hrel2.out true (by exact notB_t (by rw[Bool.eq_false_iff,ne_eq,digB_iff];omega))⟩
    case measure=>simp[intOf];omega
  ·
   have hk':k=256:=by omega
   subst hk'
   have ht':SetQ wr (w.heap.size+1) (notB digB):=ht.eq fun i hi=>by simp[hi]
   clear ht
   go_wp2_with (first
    | (refine wpList_load_row rfl 178 (.tmp 4) rfl (w.heap.size+1) rfl _ (bsA (notB digB)) (0,0) _ ht' und_arr rfl (size_bsQ _) ?_)
    | (refine wpList_store_row rfl 178 (.tmp 2) (.tmp 53) rfl w.heap.size (bsA (notB digB)) rfl rfl _ _ hs (size_bsQ _) (by simp only[bsA_size]) (bsA_one _) ?_))
   exact bodyPost_ret (v:= .tuple #[.agg (bsA (notB digB)), .bool true]) (res_arr2 _ 2 3 (by kernel_rfl) _ _ w.heap.size _ _ rfl rfl (SetQ.row hs)) rfl ⟨rfl,Gr.setRow hgr (Nat.le_refl _) _⟩
theorem six_119 (w:World):Calls Tryz.prog 167 #[.int .u8 119] w fun e w'=>e= .returned (.tuple #[.agg (bsA wordB), .bool true])∧Gr w w':=by
 obtain ⟨hz,hsz⟩:=zero_of_info info_arr
 have g0:Gr w ((w.alloc (Obj.cells (bsA noB) 178)).alloc (Obj.cells (bsA noB) 178)):=gq
 have s0:SetQ ((w.alloc (Obj.cells (bsA noB) 178)).alloc (Obj.cells (bsA noB) 178)) w.heap.size noB:=(SetQ.new w noB).gr (Gr.alloc (Gr.refl _) _)
 have s1:SetQ ((w.alloc (Obj.cells (bsA noB) 178)).alloc (Obj.cells (bsA noB) 178)) (w.heap.size+1) noB:=by
  have:=SetQ.new (w.alloc (Obj.cells (bsA noB) 178)) noB
  simpa using this
 go_enter Tryz.func167,Tryz.ntmps167
 go_wp2
 generalize ((w.alloc (Obj.cells (bsA noB) 178)).alloc (Obj.cells (bsA noB) 178))=w0 at g0 s0 s1 ⊢
 clear hz hsz
 go_loopw [5] (fun i wr=>∃k:Nat,k≤256∧i= .int .i64 k∧Gr w wr∧SetQ wr w.heap.size noB∧SetQ wr (w.heap.size+1) (fun j=>bif decide (j<k) then wordB j else false)) (fun i _=>256-(intOf i).toNat)
 case atStart=>exact ⟨0,by omega,rfl,g0,s0,s1.eq fun i _=>by simp[noB]⟩
 case round=>
  clear g0 s0 s1
  obtain ⟨k,hk,rfl,hgr,hs,ht⟩:=hrel
  by_cases hlt:k<256
  ·
   have h3:(k:Int)<256:=by omega
   have hcell:=ht.cell hlt
   rw[show (bif decide (k<k) then wordB k else false)=false by simp] at hcell
   have hf:=ht.free k
   have hrel2:∀v:Bool,wordB k=v→SetQ (wr.setCell ⟨w.heap.size+1,k,none⟩ (.bool v)) (w.heap.size+1) (fun j=>bif decide (j<k+1) then wordB j else false):=fun v hv=>(ht.set k v).eq fun i _=>by
    by_cases hi:i=k
    ·
     subst hi;simp[hv]
    ·
     have e1:(i==k)=false:=by simpa using hi
     have e2:decide (i<k+1)=decide (i<k):=by rw[decide_eq_decide];omega
     simp only[e1,cond_false,e2]
   have Hrel2:=Lib.hid hrel2
   have Hs:=Lib.hid hs
   have Ht:=Lib.hid ht
   have Hgr:=Lib.hid hgr
   clear hrel2 hs ht hgr
   cases hal:alnB k with
   | true=>
    have HW:∀W,Calls Tryz.prog 168 #[.int .u8 k] W fun e w'=>e= .returned (.bool true)∧W=w':=fun W=>by have hw:=word_any k hlt W;rw[hal] at hw;exact hw
    have HW2:=Lib.hid HW
    clear HW
    have Hal:=Lib.hid hal
    clear hal
    go_wp2_with (go_at_call 168;refine (HW2.out _).mono ?_;rintro e w5 ⟨rfl,rfl⟩)
    go_roundw
    case rel=>exact ⟨k+1,by omega,by go_num,Gr.setCell Hgr.out (p:=⟨w.heap.size+1,k,none⟩) (by simp) _,Hs.out.other (p:=⟨w.heap.size+1,k,none⟩) (by simp) _,Hrel2.out true (by have hx:=(aln_iff k).1 Hal.out;exact ((wordB_iff k).2 (by omega)))⟩
    case measure=>simp[intOf];omega
   | false=>
    have HW:∀W,Calls Tryz.prog 168 #[.int .u8 k] W fun e w'=>e= .returned (.bool false)∧W=w':=fun W=>by have hw:=word_any k hlt W;rw[hal] at hw;exact hw
    have HW2:=Lib.hid HW
    clear HW
    have hal2:¬((97≤k∧k≤122)∨(65≤k∧k≤90)∨(48≤k∧k≤57)):=by rw[←aln_iff,hal];simp
    have Hal:=Lib.hid hal2
    clear hal hal2
    by_cases h95:k=95
    ·
     have g9:((k:Int)==95)=true:=by simp;omega
     have H95:=Lib.hid h95
     clear h95
     go_wp2_with (go_at_call 168;refine (HW2.out _).mono ?_;rintro e w5 ⟨rfl,rfl⟩)
     go_roundw
     case rel=>exact ⟨k+1,by omega,by go_num,Gr.setCell Hgr.out (p:=⟨w.heap.size+1,k,none⟩) (by simp) _,Hs.out.other (p:=⟨w.heap.size+1,k,none⟩) (by simp) _,Hrel2.out true (by have hx:=Hal.out;have h95:=H95.out;exact ((wordB_iff k).2 (by omega)))⟩
     case measure=>simp[intOf];omega
    ·
     have g9:((k:Int)==95)=false:=by simp;omega
     have H95:=Lib.hid h95
     clear h95
     go_wp2_with (go_at_call 168;refine (HW2.out _).mono ?_;rintro e w5 ⟨rfl,rfl⟩)
     go_roundw
     case rel=>exact ⟨k+1,by omega,by go_num,Gr.setCell Hgr.out (p:=⟨w.heap.size+1,k,none⟩) (by simp) _,Hs.out.other (p:=⟨w.heap.size+1,k,none⟩) (by simp) _,Hrel2.out false (by have hx:=Hal.out;have h95:=H95.out;exact (by rw[Bool.eq_false_iff,ne_eq,wordB_iff];omega))⟩
     case measure=>simp[intOf];omega
  ·
   have hk':k=256:=by omega
   subst hk'
   have ht':SetQ wr (w.heap.size+1) wordB:=ht.eq fun i hi=>by simp[hi]
   clear ht
   go_wp2_with (first
    | (refine wpList_load_row rfl 178 (.tmp 4) rfl (w.heap.size+1) rfl _ (bsA wordB) (0,0) _ ht' und_arr rfl (size_bsQ _) ?_)
    | (refine wpList_store_row rfl 178 (.tmp 2) (.tmp 53) rfl w.heap.size (bsA wordB) rfl rfl _ _ hs (size_bsQ _) (by simp only[bsA_size]) (bsA_one _) ?_))
   exact bodyPost_ret (v:= .tuple #[.agg (bsA wordB), .bool true]) (res_arr2 _ 2 3 (by kernel_rfl) _ _ w.heap.size _ _ rfl rfl (SetQ.row hs)) rfl ⟨rfl,Gr.setRow hgr (Nat.le_refl _) _⟩
theorem six_87 (w:World):Calls Tryz.prog 167 #[.int .u8 87] w fun e w'=>e= .returned (.tuple #[.agg (bsA (notB wordB)), .bool true])∧Gr w w':=by
 obtain ⟨hz,hsz⟩:=zero_of_info info_arr
 have g0:Gr w ((w.alloc (Obj.cells (bsA noB) 178)).alloc (Obj.cells (bsA noB) 178)):=gq
 have s0:SetQ ((w.alloc (Obj.cells (bsA noB) 178)).alloc (Obj.cells (bsA noB) 178)) w.heap.size noB:=(SetQ.new w noB).gr (Gr.alloc (Gr.refl _) _)
 have s1:SetQ ((w.alloc (Obj.cells (bsA noB) 178)).alloc (Obj.cells (bsA noB) 178)) (w.heap.size+1) noB:=by
  have:=SetQ.new (w.alloc (Obj.cells (bsA noB) 178)) noB
  simpa using this
 go_enter Tryz.func167,Tryz.ntmps167
 go_wp2
 generalize ((w.alloc (Obj.cells (bsA noB) 178)).alloc (Obj.cells (bsA noB) 178))=w0 at g0 s0 s1 ⊢
 clear hz hsz
 go_loopw [5] (fun i wr=>∃k:Nat,k≤256∧i= .int .i64 k∧Gr w wr∧SetQ wr w.heap.size noB∧SetQ wr (w.heap.size+1) (fun j=>bif decide (j<k) then (notB wordB) j else false)) (fun i _=>256-(intOf i).toNat)
 case atStart=>exact ⟨0,by omega,rfl,g0,s0,s1.eq fun i _=>by simp[noB]⟩
 case round=>
  clear g0 s0 s1
  obtain ⟨k,hk,rfl,hgr,hs,ht⟩:=hrel
  by_cases hlt:k<256
  ·
   have h3:(k:Int)<256:=by omega
   have hcell:=ht.cell hlt
   rw[show (bif decide (k<k) then (notB wordB) k else false)=false by simp] at hcell
   have hf:=ht.free k
   have hrel2:∀v:Bool,(notB wordB) k=v→SetQ (wr.setCell ⟨w.heap.size+1,k,none⟩ (.bool v)) (w.heap.size+1) (fun j=>bif decide (j<k+1) then (notB wordB) j else false):=fun v hv=>(ht.set k v).eq fun i _=>by
    by_cases hi:i=k
    ·
     subst hi;simp[hv]
    ·
     have e1:(i==k)=false:=by simpa using hi
     have e2:decide (i<k+1)=decide (i<k):=by rw[decide_eq_decide];omega
     simp only[e1,cond_false,e2]
   have Hrel2:=Lib.hid hrel2
   have Hs:=Lib.hid hs
   have Ht:=Lib.hid ht
   have Hgr:=Lib.hid hgr
   clear hrel2 hs ht hgr
   cases hal:alnB k with
   | true=>
    have HW:∀W,Calls Tryz.prog 168 #[.int .u8 k] W fun e w'=>e= .returned (.bool true)∧W=w':=fun W=>by have hw:=word_any k hlt W;rw[hal] at hw;exact hw
    have HW2:=Lib.hid HW
    clear HW
    have Hal:=Lib.hid hal
    clear hal
    go_wp2_with (go_at_call 168;refine (HW2.out _).mono ?_;rintro e w5 ⟨rfl,rfl⟩)
    go_roundw
    case rel=>exact ⟨k+1,by omega,by go_num,Gr.setCell Hgr.out (p:=⟨w.heap.size+1,k,none⟩) (by simp) _,Hs.out.other (p:=⟨w.heap.size+1,k,none⟩) (by simp) _,Hrel2.out false (by have hx:=(aln_iff k).1 Hal.out;exact notB_f ((wordB_iff k).2 (by omega)))⟩
    case measure=>simp[intOf];omega
   | false=>
    have HW:∀W,Calls Tryz.prog 168 #[.int .u8 k] W fun e w'=>e= .returned (.bool false)∧W=w':=fun W=>by have hw:=word_any k hlt W;rw[hal] at hw;exact hw
    have HW2:=Lib.hid HW
    clear HW
    have hal2:¬((97≤k∧k≤122)∨(65≤k∧k≤90)∨(48≤k∧k≤57)):=by rw[←aln_iff,hal];simp
    have Hal:=Lib.hid hal2
    clear hal hal2
    by_cases h95:k=95
    ·
     have g9:((k:Int)==95)=true:=by simp;omega
     have H95:=Lib.hid h95
     clear h95
     go_wp2_with (go_at_call 168;refine (HW2.out _).mono ?_;rintro e w5 ⟨rfl,rfl⟩)
     go_roundw
     case rel=>exact ⟨k+1,by omega,by go_num,Gr.setCell Hgr.out (p:=⟨w.heap.size+1,k,none⟩) (by simp) _,Hs.out.other (p:=⟨w.heap.size+1,k,none⟩) (by simp) _,Hrel2.out false (by have hx:=Hal.out;have h95:=H95.out;exact notB_f ((wordB_iff k).2 (by omega)))⟩
     case measure=>simp[intOf];omega
    ·
     have g9:((k:Int)==95)=false:=by simp;omega
     have H95:=Lib.hid h95
     clear h95
     go_wp2_with (go_at_call 168;refine (HW2.out _).mono ?_;rintro e w5 ⟨rfl,rfl⟩)
     go_roundw
     case rel=>exact ⟨k+1,by omega,by go_num,Gr.setCell Hgr.out (p:=⟨w.heap.size+1,k,none⟩) (by simp) _,Hs.out.other (p:=⟨w.heap.size+1,k,none⟩) (by simp) _,Hrel2.out true (by have hx:=Hal.out;have h95:=H95.out;exact notB_t (by rw[Bool.eq_false_iff,ne_eq,wordB_iff];omega))⟩
     case measure=>simp[intOf];omega
  ·
   have hk':k=256:=by omega
   subst hk'
   have ht':SetQ wr (w.heap.size+1) (notB wordB):=ht.eq fun i hi=>by simp[hi]
   clear ht
   go_wp2_with (first
    | (refine wpList_load_row rfl 178 (.tmp 4) rfl (w.heap.size+1) rfl _ (bsA (notB wordB)) (0,0) _ ht' und_arr rfl (size_bsQ _) ?_)
    | (refine wpList_store_row rfl 178 (.tmp 2) (.tmp 53) rfl w.heap.size (bsA (notB wordB)) rfl rfl _ _ hs (size_bsQ _) (by simp only[bsA_size]) (bsA_one _) ?_))
   exact bodyPost_ret (v:= .tuple #[.agg (bsA (notB wordB)), .bool true]) (res_arr2 _ 2 3 (by kernel_rfl) _ _ w.heap.size _ _ rfl rfl (SetQ.row hs)) rfl ⟨rfl,Gr.setRow hgr (Nat.le_refl _) _⟩
theorem six_115 (w:World):Calls Tryz.prog 167 #[.int .u8 115] w fun e w'=>e= .returned (.tuple #[.agg (bsA spB), .bool true])∧Gr w w':=by
 obtain ⟨hz,hsz⟩:=zero_of_info info_arr
 have g0:Gr w ((w.alloc (Obj.cells (bsA noB) 178)).alloc (Obj.cells (bsA noB) 178)):=gq
 have s0:SetQ ((w.alloc (Obj.cells (bsA noB) 178)).alloc (Obj.cells (bsA noB) 178)) w.heap.size noB:=(SetQ.new w noB).gr (Gr.alloc (Gr.refl _) _)
 have s1:SetQ ((w.alloc (Obj.cells (bsA noB) 178)).alloc (Obj.cells (bsA noB) 178)) (w.heap.size+1) noB:=by
  have:=SetQ.new (w.alloc (Obj.cells (bsA noB) 178)) noB
  simpa using this
 go_enter Tryz.func167,Tryz.ntmps167
 go_wp2
 generalize ((w.alloc (Obj.cells (bsA noB) 178)).alloc (Obj.cells (bsA noB) 178))=w0 at g0 s0 s1 ⊢
 clear hz hsz
 go_loopw [5] (fun i wr=>∃k:Nat,k≤256∧i= .int .i64 k∧Gr w wr∧SetQ wr w.heap.size noB∧SetQ wr (w.heap.size+1) (fun j=>bif decide (j<k) then spB j else false)) (fun i _=>256-(intOf i).toNat)
 case atStart=>exact ⟨0,by omega,rfl,g0,s0,s1.eq fun i _=>by simp[noB]⟩
 case round=>
  clear g0 s0 s1
  obtain ⟨k,hk,rfl,hgr,hs,ht⟩:=hrel
  by_cases hlt:k<256
  ·
   have h3:(k:Int)<256:=by omega
   have hcell:=ht.cell hlt
   rw[show (bif decide (k<k) then spB k else false)=false by simp] at hcell
   have hf:=ht.free k
   have hrel2:∀v:Bool,spB k=v→SetQ (wr.setCell ⟨w.heap.size+1,k,none⟩ (.bool v)) (w.heap.size+1) (fun j=>bif decide (j<k+1) then spB j else false):=fun v hv=>(ht.set k v).eq fun i _=>by
    by_cases hi:i=k
    ·
     subst hi;simp[hv]
    ·
     have e1:(i==k)=false:=by simpa using hi
     have e2:decide (i<k+1)=decide (i<k):=by rw[decide_eq_decide];omega
     simp only[e1,cond_false,e2]
   have Hrel2:=Lib.hid hrel2
   have Hs:=Lib.hid hs
   have Ht:=Lib.hid ht
   have Hgr:=Lib.hid hgr
   clear hrel2 hs ht hgr
   have hcase:(0≤k∧k≤8)∨(9≤k∧k≤13)∨(14≤k∧k≤31)∨(32≤k∧k≤32)∨(33≤k∧k≤255):=by omega
   rcases hcase with ⟨hr,hr2⟩|⟨hr,hr2⟩|⟨hr,hr2⟩|⟨hr,hr2⟩|⟨hr,hr2⟩
   ·
    have g0:¬(9:Int)≤(k:Int):=by omega
    have g1:(k:Int)≤13:=by omega
    have g9:((k:Int)==32)=false:=by simp;omega
    go_wp2
    go_roundw
    case rel=>exact ⟨k+1,by omega,by go_num,Gr.setCell Hgr.out (p:=⟨w.heap.size+1,k,none⟩) (by simp) _,Hs.out.other (p:=⟨w.heap.size+1,k,none⟩) (by simp) _,Hrel2.out false (by exact (by rw[Bool.eq_false_iff,ne_eq,spB_iff];omega))⟩
    case measure=>simp[intOf];omega
   ·
    have g0:(9:Int)≤(k:Int):=by omega
    have g1:(k:Int)≤13:=by omega
    have g9:((k:Int)==32)=false:=by simp;omega
    go_wp2
    go_roundw
    case rel=>exact ⟨k+1,by omega,by go_num,Gr.setCell Hgr.out (p:=⟨w.heap.size+1,k,none⟩) (by simp) _,Hs.out.other (p:=⟨w.heap.size+1,k,none⟩) (by simp) _,Hrel2.out true (by exact ((spB_iff k).2 (by omega)))⟩
    case measure=>simp[intOf];omega
   ·
    have g0:(9:Int)≤(k:Int):=by omega
    have g1:¬(k:Int)≤13:=by omega
    have g9:((k:Int)==32)=false:=by simp;omega
    go_wp2
    go_roundw
    case rel=>exact ⟨k+1,by omega,by go_num,Gr.setCell Hgr.out (p:=⟨w.heap.size+1,k,none⟩) (by simp) _,Hs.out.other (p:=⟨w.heap.size+1,k,none⟩) (by simp) _,Hrel2.out false (by exact (by rw[Bool.eq_false_iff,ne_eq,spB_iff];omega))⟩
    case measure=>simp[intOf];omega
   ·
    have g0:(9:Int)≤(k:Int):=by omega
    have g1:¬(k:Int)≤13:=by omega
    have g9:((k:Int)==32)=true:=by simp;omega
    go_wp2
    go_roundw
    case rel=>exact ⟨k+1,by omega,by go_num,Gr.setCell Hgr.out (p:=⟨w.heap.size+1,k,none⟩) (by simp) _,Hs.out.other (p:=⟨w.heap.size+1,k,none⟩) (by simp) _,Hrel2.out true (by exact ((spB_iff k).2 (by omega)))⟩
    case measure=>simp[intOf];omega
   ·
    have g0:(9:Int)≤(k:Int):=by omega
    have g1:¬(k:Int)≤13:=by omega
    have g9:((k:Int)==32)=false:=by simp;omega
    go_wp2
    go_roundw
    case rel=>exact ⟨k+1,by omega,by go_num,Gr.setCell Hgr.out (p:=⟨w.heap.size+1,k,none⟩) (by simp) _,Hs.out.other (p:=⟨w.heap.size+1,k,none⟩) (by simp) _,Hrel2.out false (by exact (by rw[Bool.eq_false_iff,ne_eq,spB_iff];omega))⟩
    case measure=>simp[intOf];omega
  ·
   have hk':k=256:=by omega
   subst hk'
   have ht':SetQ wr (w.heap.size+1) spB:=ht.eq fun i hi=>by simp[hi]
   clear ht
   go_wp2_with (first
    | (refine wpList_load_row rfl 178 (.tmp 4) rfl (w.heap.size+1) rfl _ (bsA spB) (0,0) _ ht' und_arr rfl (size_bsQ _) ?_)
    | (refine wpList_store_row rfl 178 (.tmp 2) (.tmp 53) rfl w.heap.size (bsA spB) rfl rfl _ _ hs (size_bsQ _) (by simp only[bsA_size]) (bsA_one _) ?_))
   exact bodyPost_ret (v:= .tuple #[.agg (bsA spB), .bool true]) (res_arr2 _ 2 3 (by kernel_rfl) _ _ w.heap.size _ _ rfl rfl (SetQ.row hs)) rfl ⟨rfl,Gr.setRow hgr (Nat.le_refl _) _⟩
theorem six_83 (w:World):Calls Tryz.prog 167 #[.int .u8 83] w fun e w'=>e= .returned (.tuple #[.agg (bsA (notB spB)), .bool true])∧Gr w w':=by
 obtain ⟨hz,hsz⟩:=zero_of_info info_arr
 have g0:Gr w ((w.alloc (Obj.cells (bsA noB) 178)).alloc (Obj.cells (bsA noB) 178)):=gq
 have s0:SetQ ((w.alloc (Obj.cells (bsA noB) 178)).alloc (Obj.cells (bsA noB) 178)) w.heap.size noB:=(SetQ.new w noB).gr (Gr.alloc (Gr.refl _) _)
 have s1:SetQ ((w.alloc (Obj.cells (bsA noB) 178)).alloc (Obj.cells (bsA noB) 178)) (w.heap.size+1) noB:=by
  have:=SetQ.new (w.alloc (Obj.cells (bsA noB) 178)) noB
  simpa using this
 go_enter Tryz.func167,Tryz.ntmps167
 go_wp2
 generalize ((w.alloc (Obj.cells (bsA noB) 178)).alloc (Obj.cells (bsA noB) 178))=w0 at g0 s0 s1 ⊢
 clear hz hsz
 go_loopw [5] (fun i wr=>∃k:Nat,k≤256∧i= .int .i64 k∧Gr w wr∧SetQ wr w.heap.size noB∧SetQ wr (w.heap.size+1) (fun j=>bif decide (j<k) then (notB spB) j else false)) (fun i _=>256-(intOf i).toNat)
 case atStart=>exact ⟨0,by omega,rfl,g0,s0,s1.eq fun i _=>by simp[noB]⟩
 case round=>
  clear g0 s0 s1
  obtain ⟨k,hk,rfl,hgr,hs,ht⟩:=hrel
  by_cases hlt:k<256
  ·
   have h3:(k:Int)<256:=by omega
   have hcell:=ht.cell hlt
   rw[show (bif decide (k<k) then (notB spB) k else false)=false by simp] at hcell
   have hf:=ht.free k
   have hrel2:∀v:Bool,(notB spB) k=v→SetQ (wr.setCell ⟨w.heap.size+1,k,none⟩ (.bool v)) (w.heap.size+1) (fun j=>bif decide (j<k+1) then (notB spB) j else false):=fun v hv=>(ht.set k v).eq fun i _=>by
    by_cases hi:i=k
    ·
     subst hi;simp[hv]
    ·
     have e1:(i==k)=false:=by simpa using hi
     have e2:decide (i<k+1)=decide (i<k):=by rw[decide_eq_decide];omega
     simp only[e1,cond_false,e2]
   have Hrel2:=Lib.hid hrel2
   have Hs:=Lib.hid hs
   have Ht:=Lib.hid ht
   have Hgr:=Lib.hid hgr
   clear hrel2 hs ht hgr
   have hcase:(0≤k∧k≤8)∨(9≤k∧k≤13)∨(14≤k∧k≤31)∨(32≤k∧k≤32)∨(33≤k∧k≤255):=by omega
   rcases hcase with ⟨hr,hr2⟩|⟨hr,hr2⟩|⟨hr,hr2⟩|⟨hr,hr2⟩|⟨hr,hr2⟩
   ·
    have g0:¬(9:Int)≤(k:Int):=by omega
    have g1:(k:Int)≤13:=by omega
    have g9:((k:Int)==32)=false:=by simp;omega
    go_wp2
    go_roundw
    case rel=>exact ⟨k+1,by omega,by go_num,Gr.setCell Hgr.out (p:=⟨w.heap.size+1,k,none⟩) (by simp) _,Hs.out.other (p:=⟨w.heap.size+1,k,none⟩) (by simp) _,Hrel2.out true (by exact notB_t (by rw[Bool.eq_false_iff,ne_eq,spB_iff];omega))⟩
    case measure=>simp[intOf];omega
   ·
    have g0:(9:Int)≤(k:Int):=by omega
    have g1:(k:Int)≤13:=by omega
    have g9:((k:Int)==32)=false:=by simp;omega
    go_wp2
    go_roundw
    case rel=>exact ⟨k+1,by omega,by go_num,Gr.setCell Hgr.out (p:=⟨w.heap.size+1,k,none⟩) (by simp) _,Hs.out.other (p:=⟨w.heap.size+1,k,none⟩) (by simp) _,Hrel2.out false (by exact notB_f ((spB_iff k).2 (by omega)))⟩
    case measure=>simp[intOf];omega
   ·
    have g0:(9:Int)≤(k:Int):=by omega
    have g1:¬(k:Int)≤13:=by omega
    have g9:((k:Int)==32)=false:=by simp;omega
    go_wp2
    go_roundw
    case rel=>exact ⟨k+1,by omega,by go_num,Gr.setCell Hgr.out (p:=⟨w.heap.size+1,k,none⟩) (by simp) _,Hs.out.other (p:=⟨w.heap.size+1,k,none⟩) (by simp) _,Hrel2.out true (by exact notB_t (by rw[Bool.eq_false_iff,ne_eq,spB_iff];omega))⟩
    case measure=>simp[intOf];omega
   ·
    have g0:(9:Int)≤(k:Int):=by omega
    have g1:¬(k:Int)≤13:=by omega
    have g9:((k:Int)==32)=true:=by simp;omega
    go_wp2
    go_roundw
    case rel=>exact ⟨k+1,by omega,by go_num,Gr.setCell Hgr.out (p:=⟨w.heap.size+1,k,none⟩) (by simp) _,Hs.out.other (p:=⟨w.heap.size+1,k,none⟩) (by simp) _,Hrel2.out false (by exact notB_f ((spB_iff k).2 (by omega)))⟩
    case measure=>simp[intOf];omega
   ·
    have g0:(9:Int)≤(k:Int):=by omega
    have g1:¬(k:Int)≤13:=by omega
    have g9:((k:Int)==32)=false:=by simp;omega
    go_wp2
    go_roundw
    case rel=>exact ⟨k+1,by omega,by go_num,Gr.setCell Hgr.out (p:=⟨w.heap.size+1,k,none⟩) (by simp) _,Hs.out.other (p:=⟨w.heap.size+1,k,none⟩) (by simp) _,Hrel2.out true (by exact notB_t (by rw[Bool.eq_false_iff,ne_eq,spB_iff];omega))⟩
    case measure=>simp[intOf];omega
  ·
   have hk':k=256:=by omega
   subst hk'
   have ht':SetQ wr (w.heap.size+1) (notB spB):=ht.eq fun i hi=>by simp[hi]
   clear ht
   go_wp2_with (first
    | (refine wpList_load_row rfl 178 (.tmp 4) rfl (w.heap.size+1) rfl _ (bsA (notB spB)) (0,0) _ ht' und_arr rfl (size_bsQ _) ?_)
    | (refine wpList_store_row rfl 178 (.tmp 2) (.tmp 53) rfl w.heap.size (bsA (notB spB)) rfl rfl _ _ hs (size_bsQ _) (by simp only[bsA_size]) (bsA_one _) ?_))
   exact bodyPost_ret (v:= .tuple #[.agg (bsA (notB spB)), .bool true]) (res_arr2 _ 2 3 (by kernel_rfl) _ _ w.heap.size _ _ rfl rfl (SetQ.row hs)) rfl ⟨rfl,Gr.setRow hgr (Nat.le_refl _) _⟩
end Go.Proofs.YtnphdacibageiaaGreat
