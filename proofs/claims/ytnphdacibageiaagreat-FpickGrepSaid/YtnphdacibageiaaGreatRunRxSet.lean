import Derived.Test.YtnphdacibageiaaGreatProg
import Derived.Test.YtnphdacibageiaaGreatRunFpLawA
import Derived.WalkLawsBesides
import Derived.WalkSpells
import Derived.Deep.WholeRow
import Derived.Deep.Cut
import Derived.Deep.CutBlock
set_option linter.all false
set_option maxRecDepth 1000000
set_option maxHeartbeats 12800000
namespace Go.Proofs.YtnphdacibageiaaGreat
open Go.RowKit
theorem info_set:(Tryz.prog.info? 179).map (fun i=>(i.zero,i.size))=some (some (.agg (bsA noB)),256):=by kernel_rfl
def SetAt (w:World) (g:Nat) (f:Bs):Prop:=w.heap[g]?=some (.cells (bsA f) 179 (0,0))
theorem SetAt.cell {w:World} {g:Nat} {f:Bs} (h:SetAt w g f) {i:Nat} (hi:i<256):w.cell? ⟨g,i,none⟩=some (.bool (f i)):=
 (cell_of_row w g i _ _ _ h).trans (bsA_at f hi)
theorem SetAt.free {w:World} {g:Nat} {f:Bs} (h:SetAt w g f) (i:Nat):w.frozen? ⟨g,i,none⟩=false:=frozen_of_row w g i _ _ h
theorem SetAt.set {w:World} {g:Nat} {f:Bs} (h:SetAt w g f) (i:Nat) (b:Bool):SetAt (w.setCell ⟨g,i,none⟩ (.bool b)) g (fun k=>bif k==i then b else f k):=
 (heap_setCell_same w g i _ _ (.bool b) h).trans (by rw[bsA_set])
theorem SetAt.lt {w:World} {g:Nat} {f:Bs} (h:SetAt w g f):g<w.heap.size:=(Array.getElem?_eq_some_iff.1 h).1
theorem SetAt.eq {w:World} {g:Nat} {f h:Bs} (k:SetAt w g f) (e:∀i,i<256→f i=h i):SetAt w g h:=by unfold SetAt;rw[←bsA_eq e];exact k
theorem SetAt.gr {w w':World} {g:Nat} {f:Bs} (h:SetAt w g f) (x:Gr w w'):SetAt w' g f:=(Below.block x g h.lt).trans h
theorem SetAt.gx {w w':World} {g R:Nat} {f:Bs} (h:SetAt w g f) (x:GX R w w') (hn:g≠R):SetAt w' g f:=(x.block g h.lt hn).trans h
theorem SetAt.other {w:World} {g:Nat} {f:Bs} (h:SetAt w g f) {p:Addr} (hn:g≠p.block) (u:Value):SetAt (w.setCell p u) g f:=(heap_setCell_other w p g u hn).trans h
theorem SetAt.new (w:World) (f:Bs):SetAt (w.alloc (.cells (bsA f) 179)) w.heap.size f:=heap_alloc_new w _
def upB (a c:Nat):Bs:=fun i=>Nat.ble a i&&Nat.blt i c
theorem adds_any (g:Nat) (f:Bs) (a b:Nat) (w:World) (ha:a<256) (hb:b<256) (hg:SetAt w g f) :
  Calls Tryz.prog 152 #[.pointer (some ⟨g,0,none⟩), .int .u8 a, .int .u8 b] w fun e w'=>e= .returned (.tuple #[])∧GX g w w'∧SetAt w' g (orB f (runB a b)):=by
 have h1:(a:Int)<256:=by omega
 have h2:(b:Int)<256:=by omega
 go_enter Tryz.func152,Tryz.ntmps152
 go_wp2
 go_loopw [6] (fun i wr=>∃c:Nat,a≤c∧c≤max a (b+1)∧i= .int .i64 c∧GX g w wr∧SetAt wr g (orB f (upB a c))) (fun i _=>(b+1)-(intOf i).toNat)
 case atStart=>
  refine ⟨a,Nat.le_refl _,by omega,rfl,GX.refl _ _,hg.eq fun i _=>?_⟩
  have:(Nat.ble a i&&Nat.blt i a)=false:=by rw[Bool.eq_false_iff];intro h;simp at h;omega
  simp[orB,upB,this]
 case round=>
  obtain ⟨c,hac,hcb,rfl,hgx,hs⟩:=hrel
  by_cases hlt:c≤b
  ·
   have hc:=hs.cell (i:=c) (by omega)
   have hf:=hs.free c
   have h3:(c:Int)<256:=by omega
   have HS:=hs.set c true
   have HG:=GX.setCell hgx (p:=⟨g,c,none⟩) (.inl rfl) (.bool true)
   go_wp2
   go_roundw
   case rel=>
    refine ⟨c+1,by omega,by omega,by go_num,HG,HS.eq fun i _=>?_⟩
    unfold orB upB
    by_cases hi:i=c
    ·
     subst hi;simp;omega
    ·
     have:(i==c)=false:=by simpa using hi
     simp only[this,cond_false]
     congr 1
     rw[Bool.eq_iff_iff];simp;omega
   case measure=>simp[intOf];omega
  ·
   have hgt:¬((c:Int)≤b):=by omega
   go_wp2
   go_end0
   refine ⟨rfl,hgx,hs.eq fun i _=>?_⟩
   unfold orB upB runB
   congr 1
   rw[Bool.eq_iff_iff];simp;omega
theorem und_set:Tryz.prog.underlying 179=some (.array 256 4):=by kernel_rfl
theorem size_set:(Tryz.prog.info? 179).map (·.size)=some 256:=(zero_of_info info_set).2
theorem bsA_one (f:Bs):(bsA f).all (·.oneCell')=true:=by
 rw[Array.all_eq_true_iff_forall_mem]
 intro v hv
 simp only[bsA,List.mem_toArray,List.mem_map] at hv
 obtain ⟨i,_,rfl⟩:=hv
 rfl
theorem size_bsA (f:Bs):(Tryz.prog.info? 179).map (·.size)=some (bsA f).size:=by rw[bsA_size];exact size_set
theorem SetAt.row {w:World} {g:Nat} {f h:Bs} (k:SetAt w g h):SetAt (w.setRow g (bsA f)) g f:=setRow_heap w g (bsA h) (bsA f) _ _ k
theorem GX.setRow {R:Nat} {a w:World} (h:GX R a w) {g:Nat} (hp:g=R∨a.heap.size≤g) (cs:Array Value):GX R a (w.setRow g cs):=
 ⟨h.os,h.tape,h.output,by simpa using h.size,fun k hk hn=>(setRow_other w g k cs (by omega)).trans (h.block k hk hn)⟩
theorem Gr.setRow {a w:World} (h:Gr a w) {g:Nat} (hp:a.heap.size≤g) (cs:Array Value):Gr a (w.setRow g cs):=
 ⟨h.os,h.tape,h.output,by simpa using h.size,fun k hk=>(setRow_other w g k cs (by omega)).trans (Below.block h k hk)⟩
theorem not_any (f:Bs) (w:World) :
  Calls Tryz.prog 140 #[.agg (bsA f)] w fun e w'=>e= .returned (.agg (bsA (notB f)))∧Gr w w':=by
 obtain ⟨hz,hsz⟩:=zero_of_info info_set
 have g0:Gr w ((w.alloc (Obj.cells (bsA f) 179)).alloc (Obj.cells (bsA noB) 179)):=gq
 have s0:SetAt ((w.alloc (Obj.cells (bsA f) 179)).alloc (Obj.cells (bsA noB) 179)) w.heap.size f:=(SetAt.new w f).gr (Gr.alloc (Gr.refl _) _)
 have s1:SetAt ((w.alloc (Obj.cells (bsA f) 179)).alloc (Obj.cells (bsA noB) 179)) (w.heap.size+1) noB:=by
  have:=SetAt.new (w.alloc (Obj.cells (bsA f) 179)) noB
  simpa using this
 go_enter Tryz.func140,Tryz.ntmps140
 go_wp2
 generalize ((w.alloc (Obj.cells (bsA f) 179)).alloc (Obj.cells (bsA noB) 179))=w0 at g0 s0 s1 ⊢
 clear hz hsz
 go_loopw [4] (fun i wr=>∃c:Nat,c≤256∧i= .int .i64 c∧Gr w wr∧SetAt wr w.heap.size (fun k=>bif decide (k<c) then !f k else f k)∧SetAt wr (w.heap.size+1) noB) (fun i _=>256-(intOf i).toNat)
 case atStart=>exact ⟨0,by omega,rfl,g0,s0,s1⟩
 case round=>
  clear g0 s0 s1
  obtain ⟨c,hc,rfl,hgr,hs,ht⟩:=hrel
  by_cases hlt:c<256
  ·
   have h3:(c:Int)<256:=by omega
   have hcell:=hs.cell hlt
   rw[show (bif decide (c<c) then !f c else f c)=f c by simp] at hcell
   have hf:=hs.free c
   have HS:=hs.set c (!f c)
   have HT:=ht.other (p:=⟨w.heap.size,c,none⟩) (by simp) (.bool (!f c))
   have HG:=Gr.setCell hgr (p:=⟨w.heap.size,c,none⟩) (Nat.le_refl _) (.bool (!f c))
   go_wp2
   go_roundw
   case rel=>
    refine ⟨c+1,by omega,by go_num,HG,HS.eq fun i _=>?_,HT⟩
    by_cases hi:i=c
    ·
     subst hi;simp
    ·
     have e1:(i==c)=false:=by simpa using hi
     have e2:decide (i<c+1)=decide (i<c):=by rw[decide_eq_decide];omega
     simp only[e1,cond_false,e2]
   case measure=>simp[intOf];omega
  ·
   have hc':c=256:=by omega
   subst hc'
   have hs':SetAt wr w.heap.size (notB f):=hs.eq fun i hi=>by simp[notB,hi]
   clear hs
   go_wp2_with (first
    | (refine wpList_load_row rfl 179 (.tmp 1) rfl w.heap.size rfl _ (bsA (notB f)) (0,0) _ hs' und_set rfl (size_bsA _) ?_)
    | (refine wpList_store_row rfl 179 (.tmp 2) (.tmp 14) rfl (w.heap.size+1) (bsA (notB f)) rfl rfl _ _ ht (size_bsA _) (by simp only[bsA_size]) (bsA_one _) ?_))
   refine bodyPost_ret (v:= .agg (bsA (notB f))) (results_cell_row (p:=2) (by kernel_rfl) _ _ (w.heap.size+1) _ _ (0,0) _ rfl (SetAt.row ht) und_set rfl (size_bsA _)) rfl ⟨rfl,Gr.setRow hgr (by omega) _⟩
theorem with_any (f h:Bs) (w:World) :
  Calls Tryz.prog 153 #[.agg (bsA f), .agg (bsA h)] w fun e w'=>e= .returned (.agg (bsA (orB f h)))∧Gr w w':=by
 obtain ⟨hz,hsz⟩:=zero_of_info info_set
 have g0:Gr w (((w.alloc (Obj.cells (bsA f) 179)).alloc (Obj.cells (bsA h) 179)).alloc (Obj.cells (bsA noB) 179)):=gq
 have s0:SetAt (((w.alloc (Obj.cells (bsA f) 179)).alloc (Obj.cells (bsA h) 179)).alloc (Obj.cells (bsA noB) 179)) w.heap.size f:=(SetAt.new w f).gr (Gr.alloc (Gr.alloc (Gr.refl _) _) _)
 have s2:SetAt (((w.alloc (Obj.cells (bsA f) 179)).alloc (Obj.cells (bsA h) 179)).alloc (Obj.cells (bsA noB) 179)) (w.heap.size+1) h:=by
  have:=(SetAt.new (w.alloc (Obj.cells (bsA f) 179)) h).gr (Gr.alloc (Gr.refl _) (Obj.cells (bsA noB) 179))
  simpa using this
 have s1:SetAt (((w.alloc (Obj.cells (bsA f) 179)).alloc (Obj.cells (bsA h) 179)).alloc (Obj.cells (bsA noB) 179)) (w.heap.size+1+1) noB:=by
  have:=SetAt.new ((w.alloc (Obj.cells (bsA f) 179)).alloc (Obj.cells (bsA h) 179)) noB
  simpa using this
 go_enter Tryz.func153,Tryz.ntmps153
 go_wp2
 generalize (((w.alloc (Obj.cells (bsA f) 179)).alloc (Obj.cells (bsA h) 179)).alloc (Obj.cells (bsA noB) 179))=w0 at g0 s0 s1 s2 ⊢
 clear hz hsz
 go_loopw [6] (fun i wr=>∃c:Nat,c≤256∧i= .int .i64 c∧Gr w wr∧SetAt wr w.heap.size (fun k=>bif decide (k<c) then f k||h k else f k)∧SetAt wr (w.heap.size+1) h∧SetAt wr (w.heap.size+1+1) noB) (fun i _=>256-(intOf i).toNat)
 case atStart=>exact ⟨0,by omega,rfl,g0,s0,s2,s1⟩
 case round=>
  clear g0 s0 s1 s2
  obtain ⟨c,hc,rfl,hgr,hs,hh,ht⟩:=hrel
  by_cases hlt:c<256
  ·
   have h3:(c:Int)<256:=by omega
   have hcell:=hs.cell hlt
   rw[show (bif decide (c<c) then f c||h c else f c)=f c by simp] at hcell
   have hcell2:=hh.cell hlt
   have hf:=hs.free c
   have HS:=hs.set c (f c||h c)
   have HT:=ht.other (p:=⟨w.heap.size,c,none⟩) (by simp;omega) (.bool (f c||h c))
   have HH:=hh.other (p:=⟨w.heap.size,c,none⟩) (by simp) (.bool (f c||h c))
   have HG:=Gr.setCell hgr (p:=⟨w.heap.size,c,none⟩) (Nat.le_refl _) (.bool (f c||h c))
   have HSX:∀i,i<256→(bif i==c then f c||h c else bif decide (i<c) then f i||h i else f i)=(bif decide (i<c+1) then f i||h i else f i):=by
    intro i _
    by_cases hi:i=c
    ·
     subst hi;simp
    ·
     have e1:(i==c)=false:=by simpa using hi
     have e2:decide (i<c+1)=decide (i<c):=by rw[decide_eq_decide];omega
     simp only[e1,cond_false,e2]
   have HS:=HS.eq HSX
   clear HSX
   have HS:=Lib.hid HS
   have HT:=Lib.hid HT
   have HH:=Lib.hid HH
   have HG:=Lib.hid HG
   cases hb:f c
   all_goals
    simp only[hb,Bool.true_or,Bool.false_or] at hcell HS HT HH HG
    clear hb
    go_wp2
    go_roundw
    case rel=>exact ⟨c+1,by omega,by go_num,HG.out,HS.out,HH.out,HT.out⟩
    case measure=>simp[intOf];omega
  ·
   have hc':c=256:=by omega
   subst hc'
   have hs':SetAt wr w.heap.size (orB f h):=hs.eq fun i hi=>by simp[orB,hi]
   clear hs
   go_wp2_with (first
    | (refine wpList_load_row rfl 179 (.tmp 2) rfl w.heap.size rfl _ (bsA (orB f h)) (0,0) _ hs' und_set rfl (size_bsA _) ?_)
    | (refine wpList_store_row rfl 179 (.tmp 4) (.tmp 20) rfl (w.heap.size+1+1) (bsA (orB f h)) rfl rfl _ _ ht (size_bsA _) (by simp only[bsA_size]) (bsA_one _) ?_))
   refine bodyPost_ret (v:= .agg (bsA (orB f h))) (results_cell_row (p:=4) (by kernel_rfl) _ _ (w.heap.size+1+1) _ _ (0,0) _ rfl (SetAt.row ht) und_set rfl (size_bsA _)) rfl ⟨rfl,Gr.setRow hgr (by omega) _⟩
theorem one_any (c:Nat) (w:World) (hc:c<256) :
  Calls Tryz.prog 139 #[.int .u8 c] w fun e w'=>e= .returned (.agg (bsA (oneB c)))∧Gr w w':=by
 obtain ⟨hz,hsz⟩:=zero_of_info info_set
 have h3:(c:Int)<256:=by omega
 have g0:Gr w ((w.alloc (Obj.cells (bsA noB) 179)).alloc (Obj.cells (bsA noB) 179)):=gq
 have s0:SetAt ((w.alloc (Obj.cells (bsA noB) 179)).alloc (Obj.cells (bsA noB) 179)) w.heap.size noB:=(SetAt.new w noB).gr (Gr.alloc (Gr.refl _) _)
 have s1:SetAt ((w.alloc (Obj.cells (bsA noB) 179)).alloc (Obj.cells (bsA noB) 179)) (w.heap.size+1) noB:=by
  have:=SetAt.new (w.alloc (Obj.cells (bsA noB) 179)) noB
  simpa using this
 go_enter Tryz.func139,Tryz.ntmps139
 go_upto_region 2 with (fail)
 generalize ((w.alloc (Obj.cells (bsA noB) 179)).alloc (Obj.cells (bsA noB) 179))=w0 at g0 s0 s1 ⊢
 clear hz hsz
 have hcell:=s1.cell hc
 have hf:=s1.free c
 have S1:=(s1.set c true).eq (h:=oneB c) (fun i _=>by unfold oneB noB;cases i==c<;>rfl)
 have S0:=s0.other (p:=⟨w.heap.size+1,c,none⟩) (by simp) (.bool true)
 have G0:=Gr.setCell g0 (p:=⟨w.heap.size+1,c,none⟩) (by simp) (.bool true)
 go_wp2_with (first
    | (refine wpList_load_row rfl 179 (.tmp 3) rfl (w.heap.size+1) rfl _ (bsA (oneB c)) (0,0) _ S1 und_set rfl (size_bsA _) ?_)
    | (refine wpList_store_row rfl 179 (.tmp 2) (.tmp 6) rfl (w.heap.size) (bsA (oneB c)) rfl rfl _ _ S0 (size_bsA _) (by simp only[bsA_size]) (bsA_one _) ?_))
 refine bodyPost_ret (v:= .agg (bsA (oneB c))) (results_cell_row (p:=2) (by kernel_rfl) _ _ (w.heap.size) _ _ (0,0) _ rfl (SetAt.row S0) und_set rfl (size_bsA _)) rfl ⟨rfl,Gr.setRow G0 (Nat.le_refl _) _⟩
theorem res_set2 (fn:Func) (p q:Tmp) (h:fn.results= #[.cell p 179, .tmp q]) (tmps:Array Value) (w:World) (g:Nat) (f:Bs) (b:Value) (hp:tmps.getD p undef= .pointer (some ⟨g,0,none⟩)) (hq:tmps.getD q undef=b) (hs:SetAt w g f) :
  (results fn tmps).run Tryz.prog w= .ok (.tuple #[.agg (bsA f),b]) w:=by
 have hp':tmps[p]?.getD undef= .pointer (some ⟨g,0,none⟩):=by simpa using hp
 have hq':tmps[q]?.getD undef=b:=by simpa using hq
 simp[results,h,hp',hq',asAddr,run_loadVar_row w g _ 179 (bsA f) (0,0) _ hs und_set rfl (size_bsA _)]
def nmB (c:Nat):Bs:=(namedB c).getD noB
theorem named_any (c:Nat) (w:World) (hc:c<256) :
  Calls Tryz.prog 154 #[.int .u8 c] w fun e w'=>e= .returned (.tuple #[.agg (bsA (nmB c)), .bool (isNamed c)])∧Gr w w':=by
 obtain ⟨hz,hsz⟩:=zero_of_info info_set
 have g0:Gr w ((w.alloc (Obj.cells (bsA noB) 179)).alloc (Obj.cells (bsA noB) 179)):=gq
 have r0:SetAt ((w.alloc (Obj.cells (bsA noB) 179)).alloc (Obj.cells (bsA noB) 179)) w.heap.size noB:=(SetAt.new w noB).gr (Gr.alloc (Gr.refl _) _)
 have s0:SetAt ((w.alloc (Obj.cells (bsA noB) 179)).alloc (Obj.cells (bsA noB) 179)) (w.heap.size+1) noB:=by
  have:=SetAt.new (w.alloc (Obj.cells (bsA noB) 179)) noB
  simpa using this
 by_cases h100:c=100
 case pos=>
  subst h100
  go_enter Tryz.func154,Tryz.ntmps154
  go_upto_region 2 with (fail)
  generalize ((w.alloc (Obj.cells (bsA noB) 179)).alloc (Obj.cells (bsA noB) 179))=w0 at g0 r0 s0 ⊢
  clear hz hsz
  go_wp2_with fail
  refine (adds_any (w.heap.size+1) _ 48 57 _ (by decide) (by decide) s0).mono ?_
  rintro e w1 ⟨rfl,hg1,s1⟩
  have g1:=GX.gr g0 hg1 (Nat.le_succ _)
  have r1:=r0.gx hg1 (by simp)
  clear hg1 s0 g0 r0
  have sk:SetAt w1 (w.heap.size+1) digB:=s1.eq (fun i _=>by simp only[orB,noB,digB,wordB,spB,Bool.false_or])
  clear s1
  go_wp2_with (first
    | (refine wpList_load_row rfl 179 (.tmp 4) rfl (w.heap.size+1) rfl _ (bsA digB) (0,0) _ sk und_set rfl (size_bsA _) ?_)
    | (refine wpList_store_row rfl 179 (.tmp 2) (.tmp 27) rfl (w.heap.size) (bsA digB) rfl rfl _ _ r1 (size_bsA _) (by simp only[bsA_size]) (bsA_one _) ?_))
  exact bodyPost_ret (v:= .tuple #[.agg (bsA digB), .bool true]) (res_set2 _ 2 3 (by kernel_rfl) _ _ w.heap.size _ _ rfl rfl (SetAt.row r1)) rfl ⟨rfl,Gr.setRow g1 (Nat.le_refl _) _⟩
 by_cases h68:c=68
 case pos=>
  subst h68
  go_enter Tryz.func154,Tryz.ntmps154
  go_upto_region 2 with (fail)
  generalize ((w.alloc (Obj.cells (bsA noB) 179)).alloc (Obj.cells (bsA noB) 179))=w0 at g0 r0 s0 ⊢
  clear hz hsz
  go_wp2_with fail
  refine (adds_any (w.heap.size+1) _ 48 57 _ (by decide) (by decide) s0).mono ?_
  rintro e w1 ⟨rfl,hg1,s1⟩
  have g1:=GX.gr g0 hg1 (Nat.le_succ _)
  have r1:=r0.gx hg1 (by simp)
  clear hg1 s0 g0 r0
  have sk:SetAt w1 (w.heap.size+1) digB:=s1.eq (fun i _=>by simp only[orB,noB,digB,wordB,spB,Bool.false_or])
  clear s1
  go_wp2_with (first
    | (refine wpList_load_row rfl 179 (.tmp 4) rfl (w.heap.size+1) rfl _ (bsA digB) (0,0) _ sk und_set rfl (size_bsA _) ?_)
    | (go_at_call 140;refine (not_any _ _).mono ?_;rintro e wn ⟨rfl,hn⟩;have gk:=Gr.trans g1 hn;have rk:=r1.gr hn;have sn:=sk.gr hn;have SN:=SetAt.row (f:=notB digB) sn;have RN:SetAt (wn.setRow (w.heap.size+1) (bsA (notB digB))) w.heap.size noB:=(setRow_other _ _ _ _ (by simp)).trans rk;have GN:=Gr.setRow gk (g:=w.heap.size+1) (Nat.le_succ _) (bsA (notB digB));clear gk rk g1 r1 hn sk)
    | (refine wpList_store_row rfl 179 (.tmp 4) (.tmp 26) rfl (w.heap.size+1) (bsA (notB digB)) rfl rfl _ _ sn (size_bsA _) (by simp only[bsA_size]) (bsA_one _) ?_)
    | (refine wpList_load_row rfl 179 (.tmp 4) rfl (w.heap.size+1) rfl _ (bsA (notB digB)) (0,0) _ SN und_set rfl (size_bsA _) ?_)
    | (refine wpList_store_row rfl 179 (.tmp 2) (.tmp 27) rfl (w.heap.size) (bsA (notB digB)) rfl rfl _ _ RN (size_bsA _) (by simp only[bsA_size]) (bsA_one _) ?_))
  exact bodyPost_ret (v:= .tuple #[.agg (bsA (notB digB)), .bool true]) (res_set2 _ 2 3 (by kernel_rfl) _ _ w.heap.size _ _ rfl rfl (SetAt.row RN)) rfl ⟨rfl,Gr.setRow GN (Nat.le_refl _) _⟩
 by_cases h119:c=119
 case pos=>
  subst h119
  go_enter Tryz.func154,Tryz.ntmps154
  go_upto_region 2 with (fail)
  generalize ((w.alloc (Obj.cells (bsA noB) 179)).alloc (Obj.cells (bsA noB) 179))=w0 at g0 r0 s0 ⊢
  clear hz hsz
  go_wp2_with fail
  refine (adds_any (w.heap.size+1) _ 48 57 _ (by decide) (by decide) s0).mono ?_
  rintro e w1 ⟨rfl,hg1,s1⟩
  have g1:=GX.gr g0 hg1 (Nat.le_succ _)
  have r1:=r0.gx hg1 (by simp)
  clear hg1 s0 g0 r0
  go_wp2_with fail
  refine (adds_any (w.heap.size+1) _ 97 122 _ (by decide) (by decide) s1).mono ?_
  rintro e w2 ⟨rfl,hg2,s2⟩
  have g2:=GX.gr g1 hg2 (Nat.le_succ _)
  have r2:=r1.gx hg2 (by simp)
  clear hg2 s1 g1 r1
  go_wp2_with fail
  refine (adds_any (w.heap.size+1) _ 65 90 _ (by decide) (by decide) s2).mono ?_
  rintro e w3 ⟨rfl,hg3,s3⟩
  have g3:=GX.gr g2 hg3 (Nat.le_succ _)
  have r3:=r2.gx hg3 (by simp)
  clear hg3 s2 g2 r2
  go_wp2_with fail
  refine (adds_any (w.heap.size+1) _ 95 95 _ (by decide) (by decide) s3).mono ?_
  rintro e w4 ⟨rfl,hg4,s4⟩
  have g4:=GX.gr g3 hg4 (Nat.le_succ _)
  have r4:=r3.gx hg4 (by simp)
  clear hg4 s3 g3 r3
  have sk:SetAt w4 (w.heap.size+1) wordB:=s4.eq (fun i _=>by simp only[orB,noB,digB,wordB,spB,Bool.false_or])
  clear s4
  go_wp2_with (first
    | (refine wpList_load_row rfl 179 (.tmp 4) rfl (w.heap.size+1) rfl _ (bsA wordB) (0,0) _ sk und_set rfl (size_bsA _) ?_)
    | (refine wpList_store_row rfl 179 (.tmp 2) (.tmp 27) rfl (w.heap.size) (bsA wordB) rfl rfl _ _ r4 (size_bsA _) (by simp only[bsA_size]) (bsA_one _) ?_))
  exact bodyPost_ret (v:= .tuple #[.agg (bsA wordB), .bool true]) (res_set2 _ 2 3 (by kernel_rfl) _ _ w.heap.size _ _ rfl rfl (SetAt.row r4)) rfl ⟨rfl,Gr.setRow g4 (Nat.le_refl _) _⟩
 by_cases h87:c=87
 case pos=>
  subst h87
  go_enter Tryz.func154,Tryz.ntmps154
  go_upto_region 2 with (fail)
  generalize ((w.alloc (Obj.cells (bsA noB) 179)).alloc (Obj.cells (bsA noB) 179))=w0 at g0 r0 s0 ⊢
  clear hz hsz
  go_wp2_with fail
  refine (adds_any (w.heap.size+1) _ 48 57 _ (by decide) (by decide) s0).mono ?_
  rintro e w1 ⟨rfl,hg1,s1⟩
  have g1:=GX.gr g0 hg1 (Nat.le_succ _)
  have r1:=r0.gx hg1 (by simp)
  clear hg1 s0 g0 r0
  go_wp2_with fail
  refine (adds_any (w.heap.size+1) _ 97 122 _ (by decide) (by decide) s1).mono ?_
  rintro e w2 ⟨rfl,hg2,s2⟩
  have g2:=GX.gr g1 hg2 (Nat.le_succ _)
  have r2:=r1.gx hg2 (by simp)
  clear hg2 s1 g1 r1
  go_wp2_with fail
  refine (adds_any (w.heap.size+1) _ 65 90 _ (by decide) (by decide) s2).mono ?_
  rintro e w3 ⟨rfl,hg3,s3⟩
  have g3:=GX.gr g2 hg3 (Nat.le_succ _)
  have r3:=r2.gx hg3 (by simp)
  clear hg3 s2 g2 r2
  go_wp2_with fail
  refine (adds_any (w.heap.size+1) _ 95 95 _ (by decide) (by decide) s3).mono ?_
  rintro e w4 ⟨rfl,hg4,s4⟩
  have g4:=GX.gr g3 hg4 (Nat.le_succ _)
  have r4:=r3.gx hg4 (by simp)
  clear hg4 s3 g3 r3
  have sk:SetAt w4 (w.heap.size+1) wordB:=s4.eq (fun i _=>by simp only[orB,noB,digB,wordB,spB,Bool.false_or])
  clear s4
  go_wp2_with (first
    | (refine wpList_load_row rfl 179 (.tmp 4) rfl (w.heap.size+1) rfl _ (bsA wordB) (0,0) _ sk und_set rfl (size_bsA _) ?_)
    | (go_at_call 140;refine (not_any _ _).mono ?_;rintro e wn ⟨rfl,hn⟩;have gk:=Gr.trans g4 hn;have rk:=r4.gr hn;have sn:=sk.gr hn;have SN:=SetAt.row (f:=notB wordB) sn;have RN:SetAt (wn.setRow (w.heap.size+1) (bsA (notB wordB))) w.heap.size noB:=(setRow_other _ _ _ _ (by simp)).trans rk;have GN:=Gr.setRow gk (g:=w.heap.size+1) (Nat.le_succ _) (bsA (notB wordB));clear gk rk g4 r4 hn sk)
    | (refine wpList_store_row rfl 179 (.tmp 4) (.tmp 26) rfl (w.heap.size+1) (bsA (notB wordB)) rfl rfl _ _ sn (size_bsA _) (by simp only[bsA_size]) (bsA_one _) ?_)
    | (refine wpList_load_row rfl 179 (.tmp 4) rfl (w.heap.size+1) rfl _ (bsA (notB wordB)) (0,0) _ SN und_set rfl (size_bsA _) ?_)
    | (refine wpList_store_row rfl 179 (.tmp 2) (.tmp 27) rfl (w.heap.size) (bsA (notB wordB)) rfl rfl _ _ RN (size_bsA _) (by simp only[bsA_size]) (bsA_one _) ?_))
  exact bodyPost_ret (v:= .tuple #[.agg (bsA (notB wordB)), .bool true]) (res_set2 _ 2 3 (by kernel_rfl) _ _ w.heap.size _ _ rfl rfl (SetAt.row RN)) rfl ⟨rfl,Gr.setRow GN (Nat.le_refl _) _⟩
 by_cases h115:c=115
 case pos=>
  subst h115
  go_enter Tryz.func154,Tryz.ntmps154
  go_upto_region 2 with (fail)
  generalize ((w.alloc (Obj.cells (bsA noB) 179)).alloc (Obj.cells (bsA noB) 179))=w0 at g0 r0 s0 ⊢
  clear hz hsz
  go_wp2_with fail
  refine (adds_any (w.heap.size+1) _ 9 13 _ (by decide) (by decide) s0).mono ?_
  rintro e w1 ⟨rfl,hg1,s1⟩
  have g1:=GX.gr g0 hg1 (Nat.le_succ _)
  have r1:=r0.gx hg1 (by simp)
  clear hg1 s0 g0 r0
  go_wp2_with fail
  refine (adds_any (w.heap.size+1) _ 32 32 _ (by decide) (by decide) s1).mono ?_
  rintro e w2 ⟨rfl,hg2,s2⟩
  have g2:=GX.gr g1 hg2 (Nat.le_succ _)
  have r2:=r1.gx hg2 (by simp)
  clear hg2 s1 g1 r1
  have sk:SetAt w2 (w.heap.size+1) spB:=s2.eq (fun i _=>by simp only[orB,noB,digB,wordB,spB,Bool.false_or])
  clear s2
  go_wp2_with (first
    | (refine wpList_load_row rfl 179 (.tmp 4) rfl (w.heap.size+1) rfl _ (bsA spB) (0,0) _ sk und_set rfl (size_bsA _) ?_)
    | (refine wpList_store_row rfl 179 (.tmp 2) (.tmp 27) rfl (w.heap.size) (bsA spB) rfl rfl _ _ r2 (size_bsA _) (by simp only[bsA_size]) (bsA_one _) ?_))
  exact bodyPost_ret (v:= .tuple #[.agg (bsA spB), .bool true]) (res_set2 _ 2 3 (by kernel_rfl) _ _ w.heap.size _ _ rfl rfl (SetAt.row r2)) rfl ⟨rfl,Gr.setRow g2 (Nat.le_refl _) _⟩
 by_cases h83:c=83
 case pos=>
  subst h83
  go_enter Tryz.func154,Tryz.ntmps154
  go_upto_region 2 with (fail)
  generalize ((w.alloc (Obj.cells (bsA noB) 179)).alloc (Obj.cells (bsA noB) 179))=w0 at g0 r0 s0 ⊢
  clear hz hsz
  go_wp2_with fail
  refine (adds_any (w.heap.size+1) _ 9 13 _ (by decide) (by decide) s0).mono ?_
  rintro e w1 ⟨rfl,hg1,s1⟩
  have g1:=GX.gr g0 hg1 (Nat.le_succ _)
  have r1:=r0.gx hg1 (by simp)
  clear hg1 s0 g0 r0
  go_wp2_with fail
  refine (adds_any (w.heap.size+1) _ 32 32 _ (by decide) (by decide) s1).mono ?_
  rintro e w2 ⟨rfl,hg2,s2⟩
  have g2:=GX.gr g1 hg2 (Nat.le_succ _)
  have r2:=r1.gx hg2 (by simp)
  clear hg2 s1 g1 r1
  have sk:SetAt w2 (w.heap.size+1) spB:=s2.eq (fun i _=>by simp only[orB,noB,digB,wordB,spB,Bool.false_or])
  clear s2
  go_wp2_with (first
    | (refine wpList_load_row rfl 179 (.tmp 4) rfl (w.heap.size+1) rfl _ (bsA spB) (0,0) _ sk und_set rfl (size_bsA _) ?_)
    | (go_at_call 140;refine (not_any _ _).mono ?_;rintro e wn ⟨rfl,hn⟩;have gk:=Gr.trans g2 hn;have rk:=r2.gr hn;have sn:=sk.gr hn;have SN:=SetAt.row (f:=notB spB) sn;have RN:SetAt (wn.setRow (w.heap.size+1) (bsA (notB spB))) w.heap.size noB:=(setRow_other _ _ _ _ (by simp)).trans rk;have GN:=Gr.setRow gk (g:=w.heap.size+1) (Nat.le_succ _) (bsA (notB spB));clear gk rk g2 r2 hn sk)
    | (refine wpList_store_row rfl 179 (.tmp 4) (.tmp 26) rfl (w.heap.size+1) (bsA (notB spB)) rfl rfl _ _ sn (size_bsA _) (by simp only[bsA_size]) (bsA_one _) ?_)
    | (refine wpList_load_row rfl 179 (.tmp 4) rfl (w.heap.size+1) rfl _ (bsA (notB spB)) (0,0) _ SN und_set rfl (size_bsA _) ?_)
    | (refine wpList_store_row rfl 179 (.tmp 2) (.tmp 27) rfl (w.heap.size) (bsA (notB spB)) rfl rfl _ _ RN (size_bsA _) (by simp only[bsA_size]) (bsA_one _) ?_))
  exact bodyPost_ret (v:= .tuple #[.agg (bsA (notB spB)), .bool true]) (res_set2 _ 2 3 (by kernel_rfl) _ _ w.heap.size _ _ rfl rfl (SetAt.row RN)) rfl ⟨rfl,Gr.setRow GN (Nat.le_refl _) _⟩
 have q100:((c:Int)==100)=false:=beq_eq_false_iff_ne.2 (by omega)
 have q68:((c:Int)==68)=false:=beq_eq_false_iff_ne.2 (by omega)
 have q119:((c:Int)==119)=false:=beq_eq_false_iff_ne.2 (by omega)
 have q87:((c:Int)==87)=false:=beq_eq_false_iff_ne.2 (by omega)
 have q115:((c:Int)==115)=false:=beq_eq_false_iff_ne.2 (by omega)
 have q83:((c:Int)==83)=false:=beq_eq_false_iff_ne.2 (by omega)
 have e1:nmB c=noB:=by simp[nmB,namedB,beq_eq_false_iff_ne.2 h100,beq_eq_false_iff_ne.2 h68,beq_eq_false_iff_ne.2 h119,beq_eq_false_iff_ne.2 h87,beq_eq_false_iff_ne.2 h115,beq_eq_false_iff_ne.2 h83]
 have e2:isNamed c=false:=by simp[isNamed,namedB,beq_eq_false_iff_ne.2 h100,beq_eq_false_iff_ne.2 h68,beq_eq_false_iff_ne.2 h119,beq_eq_false_iff_ne.2 h87,beq_eq_false_iff_ne.2 h115,beq_eq_false_iff_ne.2 h83]
 rw[e1,e2]
 clear e1 e2 h100 h68 h119 h87 h115 h83
 go_enter Tryz.func154,Tryz.ntmps154
 go_upto_region 2 with (fail)
 generalize ((w.alloc (Obj.cells (bsA noB) 179)).alloc (Obj.cells (bsA noB) 179))=w0 at g0 r0 s0 ⊢
 clear hz hsz
 go_wp2_with (first
    | (refine wpList_load_row rfl 179 (.tmp 4) rfl (w.heap.size+1) rfl _ (bsA noB) (0,0) _ s0 und_set rfl (size_bsA _) ?_)
    | (refine wpList_store_row rfl 179 (.tmp 2) (.tmp 6) rfl (w.heap.size) (bsA noB) rfl rfl _ _ r0 (size_bsA _) (by simp only[bsA_size]) (bsA_one _) ?_))
 exact bodyPost_ret (v:= .tuple #[.agg (bsA noB), .bool false]) (res_set2 _ 2 3 (by kernel_rfl) _ _ w.heap.size _ _ rfl rfl (SetAt.row r0)) rfl ⟨rfl,Gr.setRow g0 (Nat.le_refl _) _⟩
def bcells (l:List UInt8):List Value:=l.map fun b=> .int .u8 (b.toNat:Int)
theorem bcells_append (l m:List UInt8):bcells (l++m)=bcells l++bcells m:=by simp[bcells]
theorem conv_own {P:Program} {w:World} {src dst e:TypeId} {base:Nat} {v:Value} {l:List UInt8} (hs:P.underlying src=some (.slice e)) (he:P.underlying e=some (.int .u8)) (hd:P.underlying dst=some .string)
  (h:w.ownsRow base e 1 v l.length (bcells l)):(convert src dst v).run P w= .ok (.string ⟨l.toArray⟩) w:=by
 obtain ⟨_,⟨rfl,h0⟩|⟨g,cap,cur,rfl,_⟩⟩:=id h
 ·
  have hl:l=[]:=List.eq_nil_of_length_eq_zero h0
  subst hl
  rw[run_convert_bytes_string w src dst e none 0 0 hs he hd]
  simp[Conv.bytesToString]
  rfl
 ·
  exact run_convert_bytes_back w src dst e _ cap l hs he hd (fun j hj=>h.cells (g:=g) rfl j _ (by simp[bcells,hj]))
theorem Rd.byte {W:World} {B:Nat} (hB:B=W.heap.size) (T:TypeId) (u:Value):Rd (W.alloc (.cells #[u] T)) 1 (some ⟨B,0,none⟩) 1 [u]:=by
 subst hB
 refine ⟨rfl,fun _=>⟨_,rfl,by simp,fun j x hx=>?_⟩⟩
 have e:(⟨W.heap.size,0,none⟩:Addr).add j=⟨W.heap.size,j,none⟩:=by
  unfold Addr.add;split
  ·
   rename_i h;subst h;rfl
  ·
   rw[Nat.zero_add]
 rw[e]
 exact (cell_of_row _ _ _ _ _ _ (heap_alloc_new W _)).trans (by simpa using hx)
theorem one1 {k:IntKind} (n:Int):∀u∈[Value.int k n],u.oneCell'=true:=by
 intro u hu
 rw[List.mem_singleton.1 hu]
 rfl
theorem und_bytes:Tryz.prog.underlying 189=some (.slice 5):=by kernel_rfl
theorem und_u8:Tryz.prog.underlying 5=some (.int .u8):=by kernel_rfl
theorem und_str:Tryz.prog.underlying 9=some .string:=by kernel_rfl
theorem info_u8:(Tryz.prog.info? 5).map (fun i=>(i.zero,i.size,i.bytes))=some (some (.int .u8 0),1,1):=by kernel_rfl
theorem pairsT_len (f:Bs) (k:Nat):(pairsT f k).length≤2*k:=by
 induction k with
 | zero=>exact Nat.le_refl _
 | succ k ih=>
  unfold pairsT
  simp only[List.length_append]
  have a:∀b:Bool,(bif b then [UInt8.ofNat k] else []).length≤1:=fun b=>by cases b<;>simp
  have a1:=a (f k&&(k==0 || !f (k-1)))
  have a2:=a (f k&&(k==255 || !f (k+1)))
  omega
theorem pairsT_no {f:Bs} {k:Nat} (h:f k=false):pairsT f (k+1)=pairsT f k:=by simp[pairsT,h]
theorem pairsT_in {f:Bs} {k:Nat} {s e:Bool} (h:f k=true) (hs:(k==0 || !f (k-1))=s) (he:(k==255 || !f (k+1))=e) :
  pairsT f (k+1)=pairsT f k++((bif s then [UInt8.ofNat k] else [])++(bif e then [UInt8.ofNat k] else [])):=by
 simp only[pairsT,h,hs,he,Bool.true_and]
theorem byteCell {k:Nat} (h:k<256):bcells [UInt8.ofNat k]=[.int .u8 k]:=by
 have:(UInt8.ofNat k).toNat=k:=by simp[Nat.mod_eq_of_lt h]
 simp[bcells,this]
theorem isWord_any (c:Nat) (w:World) (hc:c<256) :
  Calls Tryz.prog 155 #[.int .u8 c] w fun e w'=>e= .returned (.bool (isWordB c))∧Gr w w':=by
 obtain ⟨hz,hsz⟩:=zero_of_info info_set
 have h3:(c:Int)<256:=by omega
 have Q:=fun w=>named_any 119 w (by decide)
 simp only[show nmB 119=wordB from rfl,show isNamed 119=true from rfl] at Q
 go_enter Tryz.func155,Tryz.ntmps155
 go_upto_region 2 with (first
  | (go_at_call 154;refine (Q _).mono ?_;rintro e w1 ⟨rfl,hg1⟩)
  | (refine wpList_store_row rfl 179 (.tmp 3) (.tmp 7) rfl w1.heap.size (bsA wordB) rfl rfl _ _ (SetAt.new w1 noB) (size_bsA _) (by simp only[bsA_size]) (bsA_one _) ?_))
 have S1:SetAt ((w1.alloc (.cells (bsA noB) 179)).setRow w1.heap.size (bsA wordB)) w1.heap.size wordB:=SetAt.row (SetAt.new w1 noB)
 have G1:Gr w ((w1.alloc (.cells (bsA noB) 179)).setRow w1.heap.size (bsA wordB)):=Gr.setRow (Gr.alloc hg1 _) hg1.size _
 generalize ((w1.alloc (.cells (bsA noB) 179)).setRow w1.heap.size (bsA wordB))=w2 at S1 G1 ⊢
 clear hz hsz Q hg1
 have hcell:=S1.cell hc
 clear S1
 by_cases h95:c=95
 ·
  subst h95
  go_wp2
  go_ret
  exact ⟨rfl,G1⟩
 ·
  have hq:((c:Int) != 95)=true:=by simp[bne,beq_eq_false_iff_ne.2 (show (c:Int)≠95 by omega)]
  have hr:isWordB c=wordB c:=by simp[isWordB,beq_eq_false_iff_ne.2 h95]
  have HR:=Lib.hid hr
  clear hr
  cases hb:wordB c
  all_goals
   rw[hb] at hcell HR
   clear hb
   go_wp2
   go_ret
   exact ⟨by rw[HR.out];rfl,G1⟩
theorem SetAt.grown {w w':World} {g:Nat} {f:Bs} {row:Option Nat} (h:SetAt w g f) (x:w.grownBy w' row) (hn:some g≠row):SetAt w' g f:=(x.block g h.lt hn).trans h
theorem pairs_any (f:Bs) (w:World) :
  Calls Tryz.prog 141 #[.agg (bsA f)] w fun e w'=>e= .returned (.string ⟨(pairsS f).toArray⟩)∧Gr w w':=by
 obtain ⟨i0,hi,hz0,hz1,hz2⟩:=info_parts info_u8
 have g0:Gr w (w.alloc (Obj.cells (bsA f) 179)):=gq
 have s0:SetAt (w.alloc (Obj.cells (bsA f) 179)) w.heap.size f:=SetAt.new w f
 go_enter Tryz.func141,Tryz.ntmps141
 go_wp2
 generalize (w.alloc (Obj.cells (bsA f) 179))=w0 at g0 s0 ⊢
 go_loopw [3,5] (fun v i wr=>∃k:Nat,k≤256∧i= .int .i64 k∧Gr w wr∧SetAt wr w.heap.size f∧wr.ownsRow (w.heap.size+1) 5 1 v (pairsT f k).length (bcells (pairsT f k))) (fun _ i _=>256-(intOf i).toNat)
 case atStart=>exact ⟨0,by omega,rfl,g0,s0,World.ownsRow_nil _ _ _ _⟩
 case round=>
  clear g0 s0
  obtain ⟨k,hk,rfl,hgr,hs,hown⟩:=hrel
  have hle:=pairsT_len f k
  by_cases hlt:k<256
  ·
   have hcell:=hs.cell hlt
   have h3:(k:Int)<256:=by omega
   cases hb:f k
   case false=>
    rw[hb] at hcell
    have HN:=Lib.hid (pairsT_no hb)
    clear hb
    go_wp2
    go_roundw
    case rel=>exact ⟨k+1,by omega,by go_num,hgr,hs,by rw[HN.out];exact hown⟩
    case measure=>simp[intOf];omega
   rw[hb] at hcell
   have HP:=fun s e=>pairsT_in (s:=s) (e:=e) hb
   have hB:=Lib.hid hb
   clear hb
   by_cases hK0:k=0
   ·
    by_cases hK2:k=255
    ·
     omega
    cases hN:f (k+1)
    ·
     have hk0:((k:Int)==0)=true:=beq_iff_eq.2 (by omega)
     have hk2:((k:Int)==255)=false:=beq_eq_false_iff_ne.2 (by omega)
     have hk3:(k:Int)≤254:=by omega
     have hcn:=hs.cell (i:=k+1) (by omega)
     rw[hN] at hcn
     have HPN:=Lib.hid (HP true true (by simp[hK0]) (by simp[hN,hK2]))
     clear HP hK0 hK2 
     have HN:=Lib.hid hN
     clear hN
     have hm1:=Lib.hid (show (pairsT f k).length+1≤maxLen by unfold maxLen;omega)
     have hm2:=Lib.hid (show (pairsT f k).length+1+1≤maxLen by unfold maxLen;omega)
     have hn1:=Lib.hid (show ((pairsT f k).length+1)*1≤140737488355328 by omega)
     have hn2:=Lib.hid (show ((pairsT f k).length+1+1)*1≤140737488355328 by omega)
     have hb1:=Lib.hid (show w.heap.size+1≤wr.heap.size from hs.lt)
     go_wp2_with (first
      | (
        at_builtin
        refine wpList_append_rd rfl (.tmp 22) (.tmp 25) 189 rfl (w.heap.size+1) 5 i0 _ 1 1 und_bytes hi hz0 hz1 hz2 rfl (by decide) _ _ _ rfl (hown.alloc _) (some ⟨wr.heap.size,0,none⟩) 1 _ [.int .u8 k] rfl (Rd.byte rfl 5 _) (one1 _) hm1.out hn1.out (Nat.le_trans hb1.out (Nat.le_of_lt (by simp))) ?_
        intro v1 w1 hown1 hgr1 hat1
        have hl1:=hown.lt
        have gg1:Gr w w1:=Gr.grown (Gr.alloc hgr _) hgr1 (fun j hj=>by have:=(hl1 j hj).1;omega)
        have ss1:SetAt w1 w.heap.size f:=(hs.gr (Gr.alloc (Gr.refl _) _)).grown hgr1 (fun e=>by have:=(hl1 _ e.symm).1;omega)
        have hb2:=Lib.hid (Nat.le_trans hb1.out (Nat.le_trans (Nat.le_of_lt (by simp)) hgr1.size))
        have hcell1:=ss1.cell hlt
        rw[hB.out] at hcell1
        have hcn1:=ss1.cell (i:=k+1) (by omega)
        rw[HN.out] at hcn1
        clear hgr1 hat1 hl1 hown hs hgr)
      | (
        at_builtin
        refine wpList_append_rd rfl (.tmp 41) (.tmp 44) 189 rfl (w.heap.size+1) 5 i0 _ 1 1 und_bytes hi hz0 hz1 hz2 rfl (by decide) _ _ _ rfl (hown1.alloc _) (some ⟨w1.heap.size,0,none⟩) 1 _ [.int .u8 k] rfl (Rd.byte rfl 5 _) (one1 _) hm2.out hn2.out (Nat.le_trans hb2.out (Nat.le_of_lt (by simp))) ?_
        intro v2 w2 hown2 hgr2 hat2
        have hl2:=hown1.lt
        have gg2:Gr w w2:=Gr.grown (Gr.alloc gg1 _) hgr2 (fun j hj=>by have:=(hl2 j hj).1;omega)
        have ss2:SetAt w2 w.heap.size f:=(ss1.gr (Gr.alloc (Gr.refl _) _)).grown hgr2 (fun e=>by have:=(hl2 _ e.symm).1;omega)
        have hb3:=Lib.hid (Nat.le_trans hb2.out (Nat.le_trans (Nat.le_of_lt (by simp)) hgr2.size))
        have hcell2:=ss2.cell hlt
        rw[hB.out] at hcell2
        clear hgr2 hat2 hl2 hown1 ss1 gg1))
     go_roundw
     case rel=>exact ⟨k+1,by omega,by go_num,gg2,ss2,by rw[HPN.out];simpa only[cond_true,cond_false,List.length_append,List.length_cons,List.length_nil,List.append_nil,List.nil_append,bcells_append,byteCell hlt,List.append_assoc,Nat.zero_add,Nat.add_zero,Nat.add_assoc] using hown2⟩
     case measure=>simp[intOf];omega
    ·
     have hk0:((k:Int)==0)=true:=beq_iff_eq.2 (by omega)
     have hk2:((k:Int)==255)=false:=beq_eq_false_iff_ne.2 (by omega)
     have hk3:(k:Int)≤254:=by omega
     have hcn:=hs.cell (i:=k+1) (by omega)
     rw[hN] at hcn
     have HPN:=Lib.hid (HP true false (by simp[hK0]) (by simp[hN,hK2]))
     clear HP hK0 hK2 
     have HN:=Lib.hid hN
     clear hN
     have hm1:=Lib.hid (show (pairsT f k).length+1≤maxLen by unfold maxLen;omega)
     have hm2:=Lib.hid (show (pairsT f k).length+1+1≤maxLen by unfold maxLen;omega)
     have hn1:=Lib.hid (show ((pairsT f k).length+1)*1≤140737488355328 by omega)
     have hn2:=Lib.hid (show ((pairsT f k).length+1+1)*1≤140737488355328 by omega)
     have hb1:=Lib.hid (show w.heap.size+1≤wr.heap.size from hs.lt)
     go_wp2_with (first
      | (
        at_builtin
        refine wpList_append_rd rfl (.tmp 22) (.tmp 25) 189 rfl (w.heap.size+1) 5 i0 _ 1 1 und_bytes hi hz0 hz1 hz2 rfl (by decide) _ _ _ rfl (hown.alloc _) (some ⟨wr.heap.size,0,none⟩) 1 _ [.int .u8 k] rfl (Rd.byte rfl 5 _) (one1 _) hm1.out hn1.out (Nat.le_trans hb1.out (Nat.le_of_lt (by simp))) ?_
        intro v1 w1 hown1 hgr1 hat1
        have hl1:=hown.lt
        have gg1:Gr w w1:=Gr.grown (Gr.alloc hgr _) hgr1 (fun j hj=>by have:=(hl1 j hj).1;omega)
        have ss1:SetAt w1 w.heap.size f:=(hs.gr (Gr.alloc (Gr.refl _) _)).grown hgr1 (fun e=>by have:=(hl1 _ e.symm).1;omega)
        have hb2:=Lib.hid (Nat.le_trans hb1.out (Nat.le_trans (Nat.le_of_lt (by simp)) hgr1.size))
        have hcell1:=ss1.cell hlt
        rw[hB.out] at hcell1
        have hcn1:=ss1.cell (i:=k+1) (by omega)
        rw[HN.out] at hcn1
        clear hgr1 hat1 hl1 hown hs hgr))
     go_roundw
     case rel=>exact ⟨k+1,by omega,by go_num,gg1,ss1,by rw[HPN.out];simpa only[cond_true,cond_false,List.length_append,List.length_cons,List.length_nil,List.append_nil,List.nil_append,bcells_append,byteCell hlt,List.append_assoc,Nat.zero_add,Nat.add_zero,Nat.add_assoc] using hown1⟩
     case measure=>simp[intOf];omega
   cases hP:f (k-1)
   ·
    by_cases hK2:k=255
    ·
     have hk0:((k:Int)==0)=false:=beq_eq_false_iff_ne.2 (by omega)
     have hk1:1≤(k:Int):=by omega
     have hcp:=hs.cell (i:=k-1) (by omega)
     rw[hP] at hcp
     have hk2:((k:Int)==255)=true:=beq_iff_eq.2 (by omega)
     have HPN:=Lib.hid (HP true true (by simp[hP,hK0]) (by simp[hK2]))
     clear HP hK0 hK2 hP 
     have hm1:=Lib.hid (show (pairsT f k).length+1≤maxLen by unfold maxLen;omega)
     have hm2:=Lib.hid (show (pairsT f k).length+1+1≤maxLen by unfold maxLen;omega)
     have hn1:=Lib.hid (show ((pairsT f k).length+1)*1≤140737488355328 by omega)
     have hn2:=Lib.hid (show ((pairsT f k).length+1+1)*1≤140737488355328 by omega)
     have hb1:=Lib.hid (show w.heap.size+1≤wr.heap.size from hs.lt)
     go_wp2_with (first
      | (
        at_builtin
        refine wpList_append_rd rfl (.tmp 22) (.tmp 25) 189 rfl (w.heap.size+1) 5 i0 _ 1 1 und_bytes hi hz0 hz1 hz2 rfl (by decide) _ _ _ rfl (hown.alloc _) (some ⟨wr.heap.size,0,none⟩) 1 _ [.int .u8 k] rfl (Rd.byte rfl 5 _) (one1 _) hm1.out hn1.out (Nat.le_trans hb1.out (Nat.le_of_lt (by simp))) ?_
        intro v1 w1 hown1 hgr1 hat1
        have hl1:=hown.lt
        have gg1:Gr w w1:=Gr.grown (Gr.alloc hgr _) hgr1 (fun j hj=>by have:=(hl1 j hj).1;omega)
        have ss1:SetAt w1 w.heap.size f:=(hs.gr (Gr.alloc (Gr.refl _) _)).grown hgr1 (fun e=>by have:=(hl1 _ e.symm).1;omega)
        have hb2:=Lib.hid (Nat.le_trans hb1.out (Nat.le_trans (Nat.le_of_lt (by simp)) hgr1.size))
        have hcell1:=ss1.cell hlt
        rw[hB.out] at hcell1
        clear hgr1 hat1 hl1 hown hs hgr)
      | (
        at_builtin
        refine wpList_append_rd rfl (.tmp 41) (.tmp 44) 189 rfl (w.heap.size+1) 5 i0 _ 1 1 und_bytes hi hz0 hz1 hz2 rfl (by decide) _ _ _ rfl (hown1.alloc _) (some ⟨w1.heap.size,0,none⟩) 1 _ [.int .u8 k] rfl (Rd.byte rfl 5 _) (one1 _) hm2.out hn2.out (Nat.le_trans hb2.out (Nat.le_of_lt (by simp))) ?_
        intro v2 w2 hown2 hgr2 hat2
        have hl2:=hown1.lt
        have gg2:Gr w w2:=Gr.grown (Gr.alloc gg1 _) hgr2 (fun j hj=>by have:=(hl2 j hj).1;omega)
        have ss2:SetAt w2 w.heap.size f:=(ss1.gr (Gr.alloc (Gr.refl _) _)).grown hgr2 (fun e=>by have:=(hl2 _ e.symm).1;omega)
        have hb3:=Lib.hid (Nat.le_trans hb2.out (Nat.le_trans (Nat.le_of_lt (by simp)) hgr2.size))
        have hcell2:=ss2.cell hlt
        rw[hB.out] at hcell2
        clear hgr2 hat2 hl2 hown1 ss1 gg1))
     go_roundw
     case rel=>exact ⟨k+1,by omega,by go_num,gg2,ss2,by rw[HPN.out];simpa only[cond_true,cond_false,List.length_append,List.length_cons,List.length_nil,List.append_nil,List.nil_append,bcells_append,byteCell hlt,List.append_assoc,Nat.zero_add,Nat.add_zero,Nat.add_assoc] using hown2⟩
     case measure=>simp[intOf];omega
    cases hN:f (k+1)
    ·
     have hk0:((k:Int)==0)=false:=beq_eq_false_iff_ne.2 (by omega)
     have hk1:1≤(k:Int):=by omega
     have hcp:=hs.cell (i:=k-1) (by omega)
     rw[hP] at hcp
     have hk2:((k:Int)==255)=false:=beq_eq_false_iff_ne.2 (by omega)
     have hk3:(k:Int)≤254:=by omega
     have hcn:=hs.cell (i:=k+1) (by omega)
     rw[hN] at hcn
     have HPN:=Lib.hid (HP true true (by simp[hP,hK0]) (by simp[hN,hK2]))
     clear HP hK0 hK2 hP 
     have HN:=Lib.hid hN
     clear hN
     have hm1:=Lib.hid (show (pairsT f k).length+1≤maxLen by unfold maxLen;omega)
     have hm2:=Lib.hid (show (pairsT f k).length+1+1≤maxLen by unfold maxLen;omega)
     have hn1:=Lib.hid (show ((pairsT f k).length+1)*1≤140737488355328 by omega)
     have hn2:=Lib.hid (show ((pairsT f k).length+1+1)*1≤140737488355328 by omega)
     have hb1:=Lib.hid (show w.heap.size+1≤wr.heap.size from hs.lt)
     go_wp2_with (first
      | (
        at_builtin
        refine wpList_append_rd rfl (.tmp 22) (.tmp 25) 189 rfl (w.heap.size+1) 5 i0 _ 1 1 und_bytes hi hz0 hz1 hz2 rfl (by decide) _ _ _ rfl (hown.alloc _) (some ⟨wr.heap.size,0,none⟩) 1 _ [.int .u8 k] rfl (Rd.byte rfl 5 _) (one1 _) hm1.out hn1.out (Nat.le_trans hb1.out (Nat.le_of_lt (by simp))) ?_
        intro v1 w1 hown1 hgr1 hat1
        have hl1:=hown.lt
        have gg1:Gr w w1:=Gr.grown (Gr.alloc hgr _) hgr1 (fun j hj=>by have:=(hl1 j hj).1;omega)
        have ss1:SetAt w1 w.heap.size f:=(hs.gr (Gr.alloc (Gr.refl _) _)).grown hgr1 (fun e=>by have:=(hl1 _ e.symm).1;omega)
        have hb2:=Lib.hid (Nat.le_trans hb1.out (Nat.le_trans (Nat.le_of_lt (by simp)) hgr1.size))
        have hcell1:=ss1.cell hlt
        rw[hB.out] at hcell1
        have hcn1:=ss1.cell (i:=k+1) (by omega)
        rw[HN.out] at hcn1
        clear hgr1 hat1 hl1 hown hs hgr)
      | (
        at_builtin
        refine wpList_append_rd rfl (.tmp 41) (.tmp 44) 189 rfl (w.heap.size+1) 5 i0 _ 1 1 und_bytes hi hz0 hz1 hz2 rfl (by decide) _ _ _ rfl (hown1.alloc _) (some ⟨w1.heap.size,0,none⟩) 1 _ [.int .u8 k] rfl (Rd.byte rfl 5 _) (one1 _) hm2.out hn2.out (Nat.le_trans hb2.out (Nat.le_of_lt (by simp))) ?_
        intro v2 w2 hown2 hgr2 hat2
        have hl2:=hown1.lt
        have gg2:Gr w w2:=Gr.grown (Gr.alloc gg1 _) hgr2 (fun j hj=>by have:=(hl2 j hj).1;omega)
        have ss2:SetAt w2 w.heap.size f:=(ss1.gr (Gr.alloc (Gr.refl _) _)).grown hgr2 (fun e=>by have:=(hl2 _ e.symm).1;omega)
        have hb3:=Lib.hid (Nat.le_trans hb2.out (Nat.le_trans (Nat.le_of_lt (by simp)) hgr2.size))
        have hcell2:=ss2.cell hlt
        rw[hB.out] at hcell2
        clear hgr2 hat2 hl2 hown1 ss1 gg1))
     go_roundw
     case rel=>exact ⟨k+1,by omega,by go_num,gg2,ss2,by rw[HPN.out];simpa only[cond_true,cond_false,List.length_append,List.length_cons,List.length_nil,List.append_nil,List.nil_append,bcells_append,byteCell hlt,List.append_assoc,Nat.zero_add,Nat.add_zero,Nat.add_assoc] using hown2⟩
     case measure=>simp[intOf];omega
    ·
     have hk0:((k:Int)==0)=false:=beq_eq_false_iff_ne.2 (by omega)
     have hk1:1≤(k:Int):=by omega
     have hcp:=hs.cell (i:=k-1) (by omega)
     rw[hP] at hcp
     have hk2:((k:Int)==255)=false:=beq_eq_false_iff_ne.2 (by omega)
     have hk3:(k:Int)≤254:=by omega
     have hcn:=hs.cell (i:=k+1) (by omega)
     rw[hN] at hcn
     have HPN:=Lib.hid (HP true false (by simp[hP,hK0]) (by simp[hN,hK2]))
     clear HP hK0 hK2 hP 
     have HN:=Lib.hid hN
     clear hN
     have hm1:=Lib.hid (show (pairsT f k).length+1≤maxLen by unfold maxLen;omega)
     have hm2:=Lib.hid (show (pairsT f k).length+1+1≤maxLen by unfold maxLen;omega)
     have hn1:=Lib.hid (show ((pairsT f k).length+1)*1≤140737488355328 by omega)
     have hn2:=Lib.hid (show ((pairsT f k).length+1+1)*1≤140737488355328 by omega)
     have hb1:=Lib.hid (show w.heap.size+1≤wr.heap.size from hs.lt)
     go_wp2_with (first
      | (
        at_builtin
        refine wpList_append_rd rfl (.tmp 22) (.tmp 25) 189 rfl (w.heap.size+1) 5 i0 _ 1 1 und_bytes hi hz0 hz1 hz2 rfl (by decide) _ _ _ rfl (hown.alloc _) (some ⟨wr.heap.size,0,none⟩) 1 _ [.int .u8 k] rfl (Rd.byte rfl 5 _) (one1 _) hm1.out hn1.out (Nat.le_trans hb1.out (Nat.le_of_lt (by simp))) ?_
        intro v1 w1 hown1 hgr1 hat1
        have hl1:=hown.lt
        have gg1:Gr w w1:=Gr.grown (Gr.alloc hgr _) hgr1 (fun j hj=>by have:=(hl1 j hj).1;omega)
        have ss1:SetAt w1 w.heap.size f:=(hs.gr (Gr.alloc (Gr.refl _) _)).grown hgr1 (fun e=>by have:=(hl1 _ e.symm).1;omega)
        have hb2:=Lib.hid (Nat.le_trans hb1.out (Nat.le_trans (Nat.le_of_lt (by simp)) hgr1.size))
        have hcell1:=ss1.cell hlt
        rw[hB.out] at hcell1
        have hcn1:=ss1.cell (i:=k+1) (by omega)
        rw[HN.out] at hcn1
        clear hgr1 hat1 hl1 hown hs hgr))
     go_roundw
     case rel=>exact ⟨k+1,by omega,by go_num,gg1,ss1,by rw[HPN.out];simpa only[cond_true,cond_false,List.length_append,List.length_cons,List.length_nil,List.append_nil,List.nil_append,bcells_append,byteCell hlt,List.append_assoc,Nat.zero_add,Nat.add_zero,Nat.add_assoc] using hown1⟩
     case measure=>simp[intOf];omega
   ·
    by_cases hK2:k=255
    ·
     have hk0:((k:Int)==0)=false:=beq_eq_false_iff_ne.2 (by omega)
     have hk1:1≤(k:Int):=by omega
     have hcp:=hs.cell (i:=k-1) (by omega)
     rw[hP] at hcp
     have hk2:((k:Int)==255)=true:=beq_iff_eq.2 (by omega)
     have HPN:=Lib.hid (HP false true (by simp[hP,hK0]) (by simp[hK2]))
     clear HP hK0 hK2 hP 
     have hm1:=Lib.hid (show (pairsT f k).length+1≤maxLen by unfold maxLen;omega)
     have hm2:=Lib.hid (show (pairsT f k).length+1+1≤maxLen by unfold maxLen;omega)
     have hn1:=Lib.hid (show ((pairsT f k).length+1)*1≤140737488355328 by omega)
     have hn2:=Lib.hid (show ((pairsT f k).length+1+1)*1≤140737488355328 by omega)
     have hb1:=Lib.hid (show w.heap.size+1≤wr.heap.size from hs.lt)
     have hb2:=hb1
     have hm2:=hm1
     have hn2:=hn1
     go_wp2_with (first
      | (
        at_builtin
        refine wpList_append_rd rfl (.tmp 41) (.tmp 44) 189 rfl (w.heap.size+1) 5 i0 _ 1 1 und_bytes hi hz0 hz1 hz2 rfl (by decide) _ _ _ rfl (hown.alloc _) (some ⟨wr.heap.size,0,none⟩) 1 _ [.int .u8 k] rfl (Rd.byte rfl 5 _) (one1 _) hm2.out hn2.out (Nat.le_trans hb2.out (Nat.le_of_lt (by simp))) ?_
        intro v2 w2 hown2 hgr2 hat2
        have hl2:=hown.lt
        have gg2:Gr w w2:=Gr.grown (Gr.alloc hgr _) hgr2 (fun j hj=>by have:=(hl2 j hj).1;omega)
        have ss2:SetAt w2 w.heap.size f:=(hs.gr (Gr.alloc (Gr.refl _) _)).grown hgr2 (fun e=>by have:=(hl2 _ e.symm).1;omega)
        have hb3:=Lib.hid (Nat.le_trans hb2.out (Nat.le_trans (Nat.le_of_lt (by simp)) hgr2.size))
        have hcell2:=ss2.cell hlt
        rw[hB.out] at hcell2
        clear hgr2 hat2 hl2 hown hs hgr))
     go_roundw
     case rel=>exact ⟨k+1,by omega,by go_num,gg2,ss2,by rw[HPN.out];simpa only[cond_true,cond_false,List.length_append,List.length_cons,List.length_nil,List.append_nil,List.nil_append,bcells_append,byteCell hlt,List.append_assoc,Nat.zero_add,Nat.add_zero,Nat.add_assoc] using hown2⟩
     case measure=>simp[intOf];omega
    cases hN:f (k+1)
    ·
     have hk0:((k:Int)==0)=false:=beq_eq_false_iff_ne.2 (by omega)
     have hk1:1≤(k:Int):=by omega
     have hcp:=hs.cell (i:=k-1) (by omega)
     rw[hP] at hcp
     have hk2:((k:Int)==255)=false:=beq_eq_false_iff_ne.2 (by omega)
     have hk3:(k:Int)≤254:=by omega
     have hcn:=hs.cell (i:=k+1) (by omega)
     rw[hN] at hcn
     have HPN:=Lib.hid (HP false true (by simp[hP,hK0]) (by simp[hN,hK2]))
     clear HP hK0 hK2 hP 
     have HN:=Lib.hid hN
     clear hN
     have hm1:=Lib.hid (show (pairsT f k).length+1≤maxLen by unfold maxLen;omega)
     have hm2:=Lib.hid (show (pairsT f k).length+1+1≤maxLen by unfold maxLen;omega)
     have hn1:=Lib.hid (show ((pairsT f k).length+1)*1≤140737488355328 by omega)
     have hn2:=Lib.hid (show ((pairsT f k).length+1+1)*1≤140737488355328 by omega)
     have hb1:=Lib.hid (show w.heap.size+1≤wr.heap.size from hs.lt)
     have hb2:=hb1
     have hm2:=hm1
     have hn2:=hn1
     go_wp2_with (first
      | (
        at_builtin
        refine wpList_append_rd rfl (.tmp 41) (.tmp 44) 189 rfl (w.heap.size+1) 5 i0 _ 1 1 und_bytes hi hz0 hz1 hz2 rfl (by decide) _ _ _ rfl (hown.alloc _) (some ⟨wr.heap.size,0,none⟩) 1 _ [.int .u8 k] rfl (Rd.byte rfl 5 _) (one1 _) hm2.out hn2.out (Nat.le_trans hb2.out (Nat.le_of_lt (by simp))) ?_
        intro v2 w2 hown2 hgr2 hat2
        have hl2:=hown.lt
        have gg2:Gr w w2:=Gr.grown (Gr.alloc hgr _) hgr2 (fun j hj=>by have:=(hl2 j hj).1;omega)
        have ss2:SetAt w2 w.heap.size f:=(hs.gr (Gr.alloc (Gr.refl _) _)).grown hgr2 (fun e=>by have:=(hl2 _ e.symm).1;omega)
        have hb3:=Lib.hid (Nat.le_trans hb2.out (Nat.le_trans (Nat.le_of_lt (by simp)) hgr2.size))
        have hcell2:=ss2.cell hlt
        rw[hB.out] at hcell2
        clear hgr2 hat2 hl2 hown hs hgr))
     go_roundw
     case rel=>exact ⟨k+1,by omega,by go_num,gg2,ss2,by rw[HPN.out];simpa only[cond_true,cond_false,List.length_append,List.length_cons,List.length_nil,List.append_nil,List.nil_append,bcells_append,byteCell hlt,List.append_assoc,Nat.zero_add,Nat.add_zero,Nat.add_assoc] using hown2⟩
     case measure=>simp[intOf];omega
    ·
     have hk0:((k:Int)==0)=false:=beq_eq_false_iff_ne.2 (by omega)
     have hk1:1≤(k:Int):=by omega
     have hcp:=hs.cell (i:=k-1) (by omega)
     rw[hP] at hcp
     have hk2:((k:Int)==255)=false:=beq_eq_false_iff_ne.2 (by omega)
     have hk3:(k:Int)≤254:=by omega
     have hcn:=hs.cell (i:=k+1) (by omega)
     rw[hN] at hcn
     have HPN:=Lib.hid (HP false false (by simp[hP,hK0]) (by simp[hN,hK2]))
     clear HP hK0 hK2 hP 
     have HN:=Lib.hid hN
     clear hN
     go_wp2
     go_roundw
     case rel=>exact ⟨k+1,by omega,by go_num,hgr,hs,by rw[HPN.out];simpa only[cond_true,cond_false,List.length_append,List.length_cons,List.length_nil,List.append_nil,List.nil_append,bcells_append,byteCell hlt,List.append_assoc,Nat.zero_add,Nat.add_zero,Nat.add_assoc] using hown⟩
     case measure=>simp[intOf];omega
  ·
   have hk':k=256:=by omega
   subst hk'
   have hconv:=conv_own und_bytes und_u8 und_str hown
   clear hown hle
   go_wp2
   go_ret
   exact ⟨rfl,hgr⟩
end Go.Proofs.YtnphdacibageiaaGreat
