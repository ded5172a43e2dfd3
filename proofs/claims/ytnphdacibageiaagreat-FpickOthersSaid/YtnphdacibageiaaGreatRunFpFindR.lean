import Derived.Test.YtnphdacibageiaaGreatRunFpApplyR
import Derived.Test.YtnphdacibageiaaGreatRunFpFinds
import Derived.Test.YtnphdacibageiaaGreatRunPrWalk
import Derived.Test.YtnphdacibageiaaGreatRunRfRow
import Derived.Test.YtnphdacibageiaaGreatRunFpApplT
import Derived.Test.YtnphdacibageiaaGreatRunFpLawA
import Derived.Test.YtnphdacibageiaaGreatRunRxPut
set_option linter.all false
set_option maxRecDepth 1000000
set_option maxHeartbeats 12800000
namespace Go.Proofs.YtnphdacibageiaaGreat
open Go.RowKit
def CmpR (s:ByteArray):Prop:=∀w:World,Calls Tryz.prog 63 #[.string s] w (RetC w s.data.toList)
theorem found_err (nt:Bool) (text:ByteArray) (A:Option Addr) (c:Nat) (L:List Sq) (w:World) (ht:text.size≤500) (hC:CmpR text) (hn4:∀x∈L,x.s.name.size≤4096) (h20:L.length≤20) (hr:Rl w A L) (E:Int) (hE:errX text.data.toList=E) (hne:(E != 0)=true) :
  Calls Tryz.prog 31 #[.bool nt, .string text, .slice A L.length c] w (RetTk E [] w):=by
 obtain ⟨i0,hi0,hz0,hz1,hz2⟩:=info_parts info_ser
 have HCO:=Lib.hid (hC w)
 have HSZ:=Lib.hid (code_sizes (l:=text.data.toList) (by simpa using ht))
 have HN:=Lib.hid hn4
 have h20i:(L.length:Int)≤20:=by omega
 have HE:=Lib.hid hE
 clear ht hC hn4 hE
 go_enter Tryz.func31,Tryz.ntmps31
 go_wp2_with fail
 refine HCO.out.mono ?_;rintro e wE ⟨AE,cE,rfl,hRE,gE, -⟩
 have hrE:=hr.gr gE
 clear HCO hr
 rw[HE.out]
 clear hrE
 go_wp2
 go_ret2
 exact ⟨none,0,rfl,Rd.nil _ _ _,Gr.alloc gE _⟩
theorem found_ok_false (text:ByteArray) (A:Option Addr) (c:Nat) (L:List Sq) (w:World) (ht:text.size≤500) (hC:CmpR text) (hn4:∀x∈L,x.s.name.size≤4096) (h20:L.length≤20) (hr:Rl w A L) (P:List Sq) (hP:P=L.filter (fun x:Sq=>isC (codeY text.data.toList) x.s.name.data.toList != false)) (hE:errX text.data.toList=0) :
  Calls Tryz.prog 31 #[.bool false, .string text, .slice A L.length c] w (RetTk 0 P w):=by
 obtain ⟨i0,hi0,hz0,hz1,hz2⟩:=info_parts info_ser
 have HCO:=Lib.hid (hC w)
 have HSZ:=Lib.hid (code_sizes (l:=text.data.toList) (by simpa using ht))
 have HN:=Lib.hid hn4
 have h20i:(L.length:Int)≤20:=by omega
 have HE:=Lib.hid hE
 have HP:=Lib.hid hP
 clear ht hC hn4 hE hP
 go_enter Tryz.func31,Tryz.ntmps31
 go_wp2_with fail
 refine HCO.out.mono ?_;rintro e wE ⟨AE,cE,rfl,hRE,gE, -⟩
 have hrE:=hr.gr gE
 clear HCO hr
 rw[HE.out]
 obtain ⟨Gx,hGx⟩:∃Gx,Gx=grpX text.data.toList:=⟨_,rfl⟩
 obtain ⟨cx,hcx⟩:∃cx,cx=codeY text.data.toList:=⟨_,rfl⟩
 rw[←hGx,←hcx]
 rw[←hcx] at hRE
 obtain ⟨nx,hnx⟩:∃nx,nx=cx.length:=⟨_,rfl⟩
 rw[←hnx]
 obtain ⟨wF,hwF⟩:∃wF,wF=wE.alloc (.cells #[.int .i64 Gx, .slice AE nx cE] 99):=⟨_,rfl⟩
 have gF:Gr wE wF:=by rw[hwF];exact Gr.alloc (Gr.refl wE) _
 have p0:wF.cell? ⟨wE.heap.size,0,none⟩=some (.int .i64 Gx):=by rw[hwF];go_simp
 have p1:wF.cell? ⟨wE.heap.size,1,none⟩=some (.slice AE nx cE):=by rw[hwF];go_simp
 have hzF:wE.heap.size<wF.heap.size:=by rw[hwF];simp
 have HI:=Lib.hid (fun (x:Sq) (hx:x∈L) W (hW:Gr wF W)=>rpis_any Gx nx cE AE cx x.s.name hnx (by rw[hnx,hcx];exact HSZ.out.1) (by rw[hGx];exact HSZ.out.2.1) (by have:=HN.out x hx;omega) (by rw[hcx];exact HSZ.out.2.2) W ((hRE.gr gF).gr hW))
 have HR:=Lib.hid (hrE.gr gF)
 have GF:=Lib.hid (gE.trans gF)
 have HwF:=Lib.hid hwF
 obtain ⟨fb,hfb⟩:∃fb:Sq→Bool,fb=fun x=>isC cx x.s.name.data.toList:=⟨_,rfl⟩
 have HFB:=Lib.hid hfb
 have HI:Hid (∀x∈L,∀W,Gr wF W→Calls Tryz.prog 64 #[.agg #[.int .i64 Gx, .slice AE nx cE], .string x.s.name] W (fun e w'=>e= .returned (.bool (fb x))∧Gr W w')):=Lib.hid (by
  intro x hx W hW
  rw[hfb]
  exact HI.out x hx W hW)
 have HP2:Hid (P=L.filter fun x=>fb x != false):=Lib.hid (by rw[HP.out,hfb,hcx])
 have hBp:=hzF
 clear hGx hcx hnx hfb hwF
 go_upto_region 4 with (fail)
 rw[←HwF.out]
 generalize wE.heap.size=Bp at p0 p1 hzF ⊢
 clear HwF gF hrE hRE hBp gE
 go_wp2
 go_loopw [10,11] (fun v i wr=>∃(j:Nat) (M:List Sq),j≤L.length∧i= .int .i64 j∧Gr wF wr∧wr.ownsRow wF.heap.size 34 5 v M.length (scells M)∧M.length≤j∧Hid (M=(L.take j).filter fun x=>fb x != false)) (fun _ i _=>L.length-(intOf i).toNat)
 case atStart=>exact ⟨0,[],Nat.zero_le _,rfl,Gr.refl _,World.ownsRow_nil _ _ _ _,Nat.le_refl _,Lib.hid rfl⟩
 case round=>
  obtain ⟨j,M,hj,rfl,hgr,hown,hMj,HM⟩:=hrel
  by_cases hlt:j<L.length
  ·
   obtain ⟨x,hx⟩:∃x,L[j]=x:=⟨_,rfl⟩
   obtain ⟨ad,rfl,hb,hx0,hx1,hx2,hx3,hx4⟩:=((HR.out).gr hgr).at hlt
   rw[hx] at hx0 hx1 hx2 hx3 hx4
   have HX:Hid (∀W,Gr wr W→W.cell? (ad.add (j*5))=some (.string x.s.name)∧W.cell? ⟨(ad.add (j*5)).block,(ad.add (j*5)).off+1,none⟩=some (.int .i64 x.s.start)∧W.cell? ⟨(ad.add (j*5)).block,(ad.add (j*5)).off+2,none⟩=some (.int .i64 x.s.step)∧W.cell? ⟨(ad.add (j*5)).block,(ad.add (j*5)).off+3,none⟩=some (.slice x.A x.s.vals.length x.c)∧W.cell? ⟨(ad.add (j*5)).block,(ad.add (j*5)).off+4,none⟩=some (.int .i64 x.s.cons)∧W.cell? ⟨Bp,0,none⟩=some (.int .i64 Gx)∧W.cell? ⟨Bp,1,none⟩=some (.slice AE nx cE)):=Lib.hid (fun W hW=>⟨(hW.cell (p:=ad.add (j*5)) (by rw[add_blk];exact hb)).trans hx0,(hW.cell (p:=⟨(ad.add (j*5)).block,(ad.add (j*5)).off+1,none⟩) (by show (ad.add (j*5)).block<_;rw[add_blk];exact hb)).trans hx1,(hW.cell (p:=⟨(ad.add (j*5)).block,(ad.add (j*5)).off+2,none⟩) (by show (ad.add (j*5)).block<_;rw[add_blk];exact hb)).trans hx2,(hW.cell (p:=⟨(ad.add (j*5)).block,(ad.add (j*5)).off+3,none⟩) (by show (ad.add (j*5)).block<_;rw[add_blk];exact hb)).trans hx3,(hW.cell (p:=⟨(ad.add (j*5)).block,(ad.add (j*5)).off+4,none⟩) (by show (ad.add (j*5)).block<_;rw[add_blk];exact hb)).trans hx4,(Below.cell (hgr.trans hW) (p:=⟨Bp,0,none⟩) hzF).trans p0,(Below.cell (hgr.trans hW) (p:=⟨Bp,1,none⟩) hzF).trans p1⟩)
   have hIX:=fun W (hW:Gr wr W)=>HI.out x (by rw[←hx];exact List.getElem_mem hlt) W (hgr.trans hW)
   have hT:(L.take (j+1)).filter (fun x=>fb x != false)=M++[x].filter (fun x=>fb x != false):=by rw[List.take_succ_eq_append_getElem hlt,List.filter_append,HM.out,hx]
   obtain ⟨b,hbb⟩:∃b,fb x=b:=⟨_,rfl⟩
   have hT2:(L.take (j+1)).filter (fun x=>fb x != false)=if (b != false)=true then M++[x] else M:=by
    rw[hT,List.filter_cons,hbb]
    cases (b != false)<;>simp
   rw[hbb] at hIX
   have HIX:=Lib.hid hIX
   have HT:=Lib.hid hT2
   clear hx HM hx0 hx1 hx2 hx3 hx4 hIX hT hT2 hbb
   go_upto_region 8 with (fail)
   refine region_Q (by kernel_rfl) (by kernel_rfl) ?_
   refine q_val (v:=?qv52) (by rfl) (fun W hW=>?qh52) ?qr52
   case qh52=>obtain ⟨x0,x1,x2,x3,x4,k0,k1⟩:=HX.out W hW;go_simp;rfl
   simp only[Pu]
   iterate 4 (refine qv ?_;simp only[Pu])
   refine q_val (v:=?qv57) (by rfl) (fun W hW=>?qh57) ?qr57
   case qh57=>obtain ⟨x0,x1,x2,x3,x4,k0,k1⟩:=HX.out W hW;go_simp;rfl
   simp only[Pu]
   refine q_call (v:= .bool b) (f:=?qf58) (args:=?qa58) (by rfl) (fun W hW=>?qh58) (fun W hW=>?qc58) ?qr58
   case qh58=>go_simp;constructor<;>rfl
   case qc58=>exact (HIX.out W hW).mono (fun e w' h=>⟨h.1,Gr.trans hW h.2⟩)
   simp only[Pu]
   iterate 2 (refine qv ?_;simp only[Pu])
   refine wpQuiet_nil ?_
   intro w5 hg5
   have gw5:=Gr.trans hgr hg5
   have hown5:=own_gr hown hg5
   obtain ⟨x0,x1,x2,x3,x4,_,_⟩:=HX.out _ hg5
   have hb5:ad.block<w5.heap.size:=Nat.lt_of_lt_of_le hb hg5.size
   clear HX HIX hg5 hown
   cases b
   ·
    have HT2:Hid (M=(L.take (j+1)).filter fun x=>fb x != false):=Lib.hid (by rw[HT.out];rfl)
    clear x0 x1 x2 x3 x4 HT
    go_wp2
    go_roundw
    case rel=>exact ⟨j+1,M,by omega,by go_num,gw5,hown5,by omega,HT2⟩
    case measure=>simp[intOf];omega
   ·
    have HT2:Hid (M++[x]=(L.take (j+1)).filter fun x=>fb x != false):=Lib.hid (by rw[HT.out];rfl)
    have hrx:=Rl.new (W:=w5) rfl 34 [x]
    have hv0:=hown5.alloc (.cells (scells [x]).toArray 34)
    have hvl:=hown5.lt
    have z5:=gw5.size
    clear HT
    go_wp2_with
     (
      at_builtin
      refine wpList_append_rd rfl (.tmp 35) (.tmp 40) 22 rfl wF.heap.size 34 i0 _ 5 64 Tryz.underlying22 hi0 hz0 hz1 hz2 rfl (by decide) _ M.length _ rfl hv0 (some ⟨w5.heap.size,0,none⟩) 1 _ (scells [x]) rfl hrx (scells_one _) (by unfold maxLen;omega) (by omega) (by simp;omega) ?_
      intro v' w7 hown7 hgr7 hat7)
    have hg7:Gr wF w7:=Gr.grown (Gr.alloc gw5 _) hgr7 (fun i hi=>(hvl i hi).1)
    have hown8:w7.ownsRow wF.heap.size 34 5 v' (M++[x]).length (scells (M++[x])):=by rw[scells_append,List.length_append];exact hown7
    clear hv0 hvl hgr7 hat7 hrx hown5 hown7 x0 x1 x2 x3 x4
    go_roundw
    case rel=>exact ⟨j+1,M++[x],by omega,by go_num,hg7,hown8,by simp;omega,HT2⟩
    case measure=>simp[intOf];omega
  ·
   have hkk:j=L.length:=by omega
   subst hkk
   obtain ⟨A',c',hvv⟩:=own_form hown
   subst hvv
   have hRl:Rl wr A' M:=Rd.own hown
   have HM2:Hid (M=L.filter fun x=>fb x != false):=Lib.hid (by rw[HM.out,List.take_length])
   clear HM hown
   go_wp2
   go_ret2
   exact ⟨A',c',ret_tup (congrArg List.length (HM2.out.trans HP2.out.symm)),by rw[HP2.out,←HM2.out];exact hRl,GF.out.trans hgr⟩
theorem found_ok_true (text:ByteArray) (A:Option Addr) (c:Nat) (L:List Sq) (w:World) (ht:text.size≤500) (hC:CmpR text) (hn4:∀x∈L,x.s.name.size≤4096) (h20:L.length≤20) (hr:Rl w A L) (P:List Sq) (hP:P=L.filter (fun x:Sq=>isC (codeY text.data.toList) x.s.name.data.toList != true)) (hE:errX text.data.toList=0) :
  Calls Tryz.prog 31 #[.bool true, .string text, .slice A L.length c] w (RetTk 0 P w):=by
 obtain ⟨i0,hi0,hz0,hz1,hz2⟩:=info_parts info_ser
 have HCO:=Lib.hid (hC w)
 have HSZ:=Lib.hid (code_sizes (l:=text.data.toList) (by simpa using ht))
 have HN:=Lib.hid hn4
 have h20i:(L.length:Int)≤20:=by omega
 have HE:=Lib.hid hE
 have HP:=Lib.hid hP
 clear ht hC hn4 hE hP
 go_enter Tryz.func31,Tryz.ntmps31
 go_wp2_with fail
 refine HCO.out.mono ?_;rintro e wE ⟨AE,cE,rfl,hRE,gE, -⟩
 have hrE:=hr.gr gE
 clear HCO hr
 rw[HE.out]
 obtain ⟨Gx,hGx⟩:∃Gx,Gx=grpX text.data.toList:=⟨_,rfl⟩
 obtain ⟨cx,hcx⟩:∃cx,cx=codeY text.data.toList:=⟨_,rfl⟩
 rw[←hGx,←hcx]
 rw[←hcx] at hRE
 obtain ⟨nx,hnx⟩:∃nx,nx=cx.length:=⟨_,rfl⟩
 rw[←hnx]
 obtain ⟨wF,hwF⟩:∃wF,wF=wE.alloc (.cells #[.int .i64 Gx, .slice AE nx cE] 99):=⟨_,rfl⟩
 have gF:Gr wE wF:=by rw[hwF];exact Gr.alloc (Gr.refl wE) _
 have p0:wF.cell? ⟨wE.heap.size,0,none⟩=some (.int .i64 Gx):=by rw[hwF];go_simp
 have p1:wF.cell? ⟨wE.heap.size,1,none⟩=some (.slice AE nx cE):=by rw[hwF];go_simp
 have hzF:wE.heap.size<wF.heap.size:=by rw[hwF];simp
 have HI:=Lib.hid (fun (x:Sq) (hx:x∈L) W (hW:Gr wF W)=>rpis_any Gx nx cE AE cx x.s.name hnx (by rw[hnx,hcx];exact HSZ.out.1) (by rw[hGx];exact HSZ.out.2.1) (by have:=HN.out x hx;omega) (by rw[hcx];exact HSZ.out.2.2) W ((hRE.gr gF).gr hW))
 have HR:=Lib.hid (hrE.gr gF)
 have GF:=Lib.hid (gE.trans gF)
 have HwF:=Lib.hid hwF
 obtain ⟨fb,hfb⟩:∃fb:Sq→Bool,fb=fun x=>isC cx x.s.name.data.toList:=⟨_,rfl⟩
 have HFB:=Lib.hid hfb
 have HI:Hid (∀x∈L,∀W,Gr wF W→Calls Tryz.prog 64 #[.agg #[.int .i64 Gx, .slice AE nx cE], .string x.s.name] W (fun e w'=>e= .returned (.bool (fb x))∧Gr W w')):=Lib.hid (by
  intro x hx W hW
  rw[hfb]
  exact HI.out x hx W hW)
 have HP2:Hid (P=L.filter fun x=>fb x != true):=Lib.hid (by rw[HP.out,hfb,hcx])
 have hBp:=hzF
 clear hGx hcx hnx hfb hwF
 go_upto_region 4 with (fail)
 rw[←HwF.out]
 generalize wE.heap.size=Bp at p0 p1 hzF ⊢
 clear HwF gF hrE hRE hBp gE
 go_wp2
 go_loopw [10,11] (fun v i wr=>∃(j:Nat) (M:List Sq),j≤L.length∧i= .int .i64 j∧Gr wF wr∧wr.ownsRow wF.heap.size 34 5 v M.length (scells M)∧M.length≤j∧Hid (M=(L.take j).filter fun x=>fb x != true)) (fun _ i _=>L.length-(intOf i).toNat)
 case atStart=>exact ⟨0,[],Nat.zero_le _,rfl,Gr.refl _,World.ownsRow_nil _ _ _ _,Nat.le_refl _,Lib.hid rfl⟩
 case round=>
  obtain ⟨j,M,hj,rfl,hgr,hown,hMj,HM⟩:=hrel
  by_cases hlt:j<L.length
  ·
   obtain ⟨x,hx⟩:∃x,L[j]=x:=⟨_,rfl⟩
   obtain ⟨ad,rfl,hb,hx0,hx1,hx2,hx3,hx4⟩:=((HR.out).gr hgr).at hlt
   rw[hx] at hx0 hx1 hx2 hx3 hx4
   have HX:Hid (∀W,Gr wr W→W.cell? (ad.add (j*5))=some (.string x.s.name)∧W.cell? ⟨(ad.add (j*5)).block,(ad.add (j*5)).off+1,none⟩=some (.int .i64 x.s.start)∧W.cell? ⟨(ad.add (j*5)).block,(ad.add (j*5)).off+2,none⟩=some (.int .i64 x.s.step)∧W.cell? ⟨(ad.add (j*5)).block,(ad.add (j*5)).off+3,none⟩=some (.slice x.A x.s.vals.length x.c)∧W.cell? ⟨(ad.add (j*5)).block,(ad.add (j*5)).off+4,none⟩=some (.int .i64 x.s.cons)∧W.cell? ⟨Bp,0,none⟩=some (.int .i64 Gx)∧W.cell? ⟨Bp,1,none⟩=some (.slice AE nx cE)):=Lib.hid (fun W hW=>⟨(hW.cell (p:=ad.add (j*5)) (by rw[add_blk];exact hb)).trans hx0,(hW.cell (p:=⟨(ad.add (j*5)).block,(ad.add (j*5)).off+1,none⟩) (by show (ad.add (j*5)).block<_;rw[add_blk];exact hb)).trans hx1,(hW.cell (p:=⟨(ad.add (j*5)).block,(ad.add (j*5)).off+2,none⟩) (by show (ad.add (j*5)).block<_;rw[add_blk];exact hb)).trans hx2,(hW.cell (p:=⟨(ad.add (j*5)).block,(ad.add (j*5)).off+3,none⟩) (by show (ad.add (j*5)).block<_;rw[add_blk];exact hb)).trans hx3,(hW.cell (p:=⟨(ad.add (j*5)).block,(ad.add (j*5)).off+4,none⟩) (by show (ad.add (j*5)).block<_;rw[add_blk];exact hb)).trans hx4,(Below.cell (hgr.trans hW) (p:=⟨Bp,0,none⟩) hzF).trans p0,(Below.cell (hgr.trans hW) (p:=⟨Bp,1,none⟩) hzF).trans p1⟩)
   have hIX:=fun W (hW:Gr wr W)=>HI.out x (by rw[←hx];exact List.getElem_mem hlt) W (hgr.trans hW)
   have hT:(L.take (j+1)).filter (fun x=>fb x != true)=M++[x].filter (fun x=>fb x != true):=by rw[List.take_succ_eq_append_getElem hlt,List.filter_append,HM.out,hx]
   obtain ⟨b,hbb⟩:∃b,fb x=b:=⟨_,rfl⟩
   have hT2:(L.take (j+1)).filter (fun x=>fb x != true)=if (b != true)=true then M++[x] else M:=by
    rw[hT,List.filter_cons,hbb]
    cases (b != true)<;>simp
   rw[hbb] at hIX
   have HIX:=Lib.hid hIX
   have HT:=Lib.hid hT2
   clear hx HM hx0 hx1 hx2 hx3 hx4 hIX hT hT2 hbb
   go_upto_region 8 with (fail)
   refine region_Q (by kernel_rfl) (by kernel_rfl) ?_
   refine q_val (v:=?qv52) (by rfl) (fun W hW=>?qh52) ?qr52
   case qh52=>obtain ⟨x0,x1,x2,x3,x4,k0,k1⟩:=HX.out W hW;go_simp;rfl
   simp only[Pu]
   iterate 4 (refine qv ?_;simp only[Pu])
   refine q_val (v:=?qv57) (by rfl) (fun W hW=>?qh57) ?qr57
   case qh57=>obtain ⟨x0,x1,x2,x3,x4,k0,k1⟩:=HX.out W hW;go_simp;rfl
   simp only[Pu]
   refine q_call (v:= .bool b) (f:=?qf58) (args:=?qa58) (by rfl) (fun W hW=>?qh58) (fun W hW=>?qc58) ?qr58
   case qh58=>go_simp;constructor<;>rfl
   case qc58=>exact (HIX.out W hW).mono (fun e w' h=>⟨h.1,Gr.trans hW h.2⟩)
   simp only[Pu]
   iterate 2 (refine qv ?_;simp only[Pu])
   refine wpQuiet_nil ?_
   intro w5 hg5
   have gw5:=Gr.trans hgr hg5
   have hown5:=own_gr hown hg5
   obtain ⟨x0,x1,x2,x3,x4,_,_⟩:=HX.out _ hg5
   have hb5:ad.block<w5.heap.size:=Nat.lt_of_lt_of_le hb hg5.size
   clear HX HIX hg5 hown
   cases b
   ·
    have HT2:Hid (M++[x]=(L.take (j+1)).filter fun x=>fb x != true):=Lib.hid (by rw[HT.out];rfl)
    have hrx:=Rl.new (W:=w5) rfl 34 [x]
    have hv0:=hown5.alloc (.cells (scells [x]).toArray 34)
    have hvl:=hown5.lt
    have z5:=gw5.size
    clear HT
    go_wp2_with
     (
      at_builtin
      refine wpList_append_rd rfl (.tmp 35) (.tmp 40) 22 rfl wF.heap.size 34 i0 _ 5 64 Tryz.underlying22 hi0 hz0 hz1 hz2 rfl (by decide) _ M.length _ rfl hv0 (some ⟨w5.heap.size,0,none⟩) 1 _ (scells [x]) rfl hrx (scells_one _) (by unfold maxLen;omega) (by omega) (by simp;omega) ?_
      intro v' w7 hown7 hgr7 hat7)
    have hg7:Gr wF w7:=Gr.grown (Gr.alloc gw5 _) hgr7 (fun i hi=>(hvl i hi).1)
    have hown8:w7.ownsRow wF.heap.size 34 5 v' (M++[x]).length (scells (M++[x])):=by rw[scells_append,List.length_append];exact hown7
    clear hv0 hvl hgr7 hat7 hrx hown5 hown7 x0 x1 x2 x3 x4
    go_roundw
    case rel=>exact ⟨j+1,M++[x],by omega,by go_num,hg7,hown8,by simp;omega,HT2⟩
    case measure=>simp[intOf];omega
   ·
    have HT2:Hid (M=(L.take (j+1)).filter fun x=>fb x != true):=Lib.hid (by rw[HT.out];rfl)
    clear x0 x1 x2 x3 x4 HT
    go_wp2
    go_roundw
    case rel=>exact ⟨j+1,M,by omega,by go_num,gw5,hown5,by omega,HT2⟩
    case measure=>simp[intOf];omega
  ·
   have hkk:j=L.length:=by omega
   subst hkk
   obtain ⟨A',c',hvv⟩:=own_form hown
   subst hvv
   have hRl:Rl wr A' M:=Rd.own hown
   have HM2:Hid (M=L.filter fun x=>fb x != true):=Lib.hid (by rw[HM.out,List.take_length])
   clear HM hown
   go_wp2
   go_ret2
   exact ⟨A',c',ret_tup (congrArg List.length (HM2.out.trans HP2.out.symm)),by rw[HP2.out,←HM2.out];exact hRl,GF.out.trans hgr⟩
theorem found_any (nt:Bool) (text:ByteArray) (A:Option Addr) (c:Nat) (L:List Sq) (w:World) (ht:text.size≤500) (hC:CmpR text) (hn4:∀x∈L,x.s.name.size≤4096) (h20:L.length≤20) (hr:Rl w A L) :
  Calls Tryz.prog 31 #[.bool nt, .string text, .slice A L.length c] w (RetTk (errX text.data.toList) (bif errX text.data.toList==0 then L.filter (fun x:Sq=>isC (codeY text.data.toList) x.s.name.data.toList != nt) else []) w):=by
 by_cases he:errX text.data.toList=0
 ·
  rw[he]
  cases nt
  ·
   exact found_ok_false text A c L w ht hC hn4 h20 hr _ rfl he
  ·
   exact found_ok_true text A c L w ht hC hn4 h20 hr _ rfl he
 ·
  rw[beq_eq_false_iff_ne.2 he]
  exact found_err nt text A c L w ht hC hn4 h20 hr _ rfl (by simpa [bne] using he)
theorem rapply_grep (nm text:ByteArray) (k:Vl) (A:Option Addr) (c:Nat) (L:List Sq) (w:World) (e0:(nm.toList==[103,114,101,112])=true) (e1:(nm.toList==[101,120,99,108,117,100,101])=false) (hf:(findF nm).isSome=true) (hok:okL L=true) (ht:text.size≤500) (hC:CmpR text) (hn4:∀x∈L,x.s.name.size≤4096) (h20:L.length≤20) (hle:∀x∈L,x.s.vals.length≤1000000) (hr:Rl w A L) (hv:Lie w L) :
  Calls Tryz.prog 12 #[.string nm, .agg #[.bool k.ok, .int .i64 k.n], .string text, .slice A L.length c] w (RetTk (errX text.data.toList) (bif errX text.data.toList==0 then L.filter (fun x:Sq=>isC (codeY text.data.toList) x.s.name.data.toList != false) else []) w):=by
 have HFO:=Lib.hid (fun W (hW:Gr w W)=>found_any false text A c L W ht hC hn4 h20 (hr.gr hW))
 clear ht hC hn4
 generalize (bif errX text.data.toList==0 then L.filter (fun x:Sq=>isC (codeY text.data.toList) x.s.name.data.toList != false) else [])=P at HFO ⊢
 generalize errX text.data.toList=E at HFO ⊢
 have QK:=fun w=>knows_any nm w
 simp only[hf] at QK
 have HOK:Hid (∀x∈L,isS x.s=true):=Lib.hid (fun x hx=>List.all_eq_true.1 hok x hx)
 have HLE:=Lib.hid hle
 have gb:Gr w (w.alloc (.cells #[.bool k.ok, .int .i64 k.n] 25)):=Gr.alloc (Gr.refl _) _
 have hVA:VAt (w.alloc (.cells #[.bool k.ok, .int .i64 k.n] 25)) w.heap.size k:=by
  refine ⟨?_,?_,?_⟩
  all_goals first|(go_simp;done)|(simp;done)
 have h20':(L.length:Int)≤20:=by omega
 clear hok hle hf
 go_enter Tryz.func12,Tryz.ntmps12
 go_wp2_with fail
 refine (QK _).mono ?_;rintro e w1 ⟨rfl,hg1⟩
 have gw1:=Gr.trans gb hg1
 have hVA1:=hVA.gr hg1
 clear QK gb hVA hg1
 go_wp2
 go_loopw [10] (fun i wr=>∃j:Nat,j≤L.length∧i= .int .i64 j∧Gr w wr∧VAt wr w.heap.size k) (fun i _=>L.length-(intOf i).toNat)
 case atStart=>exact ⟨0,Nat.zero_le _,rfl,gw1,hVA1⟩
 case round=>
  obtain ⟨j,hj,rfl,hgr,hVA⟩:=hrel
  by_cases hlt:j<L.length
  ·
   obtain ⟨x,hx⟩:∃x,L[j]=x:=⟨_,rfl⟩
   obtain ⟨ad,rfl,hb,hx0,hx1,hx2,hx3,hx4⟩:=(hr.gr hgr).at hlt
   have hsx:=HOK.out _ (List.getElem_mem hlt)
   have hvx:=(hv _ (List.getElem_mem hlt)).gr hgr
   rw[hx] at hx0 hx1 hx2 hx3 hx4 hsx hvx
   have QI:=fun w hr=>rsis_any x.s x.A x.c w hr
   simp only[hsx] at QI
   clear hx hsx
   go_wp2_with fail
   refine (QI _ hvx).mono ?_;rintro e w5 ⟨rfl,hg⟩
   have gw5:=Gr.trans hgr hg
   have hVA5:=hVA.gr hg
   clear hx0 hx1 hx2 hx3 hx4 hg
   go_wp2
   go_roundw
   case rel=>exact ⟨j+1,by omega,by go_num,gw5,hVA5⟩
   case measure=>simp[intOf];omega
  have hkk:j=L.length:=by omega
  subst hkk
  clear gw1 hVA1
  go_wp2_with fail
  refine (HFO.out _ hgr).mono ?_;rintro e w5 ⟨A5,c5,rfl,hr5,hg5⟩
  go_wp2
  go_ret2
  exact ⟨A5,c5,rfl,hr5,Gr.trans hgr hg5⟩
theorem rapply_exc (nm text:ByteArray) (k:Vl) (A:Option Addr) (c:Nat) (L:List Sq) (w:World) (e0:(nm.toList==[103,114,101,112])=false) (e1:(nm.toList==[101,120,99,108,117,100,101])=true) (hf:(findF nm).isSome=true) (hok:okL L=true) (ht:text.size≤500) (hC:CmpR text) (hn4:∀x∈L,x.s.name.size≤4096) (h20:L.length≤20) (hle:∀x∈L,x.s.vals.length≤1000000) (hr:Rl w A L) (hv:Lie w L) :
  Calls Tryz.prog 12 #[.string nm, .agg #[.bool k.ok, .int .i64 k.n], .string text, .slice A L.length c] w (RetTk (errX text.data.toList) (bif errX text.data.toList==0 then L.filter (fun x:Sq=>isC (codeY text.data.toList) x.s.name.data.toList != true) else []) w):=by
 have HFO:=Lib.hid (fun W (hW:Gr w W)=>found_any true text A c L W ht hC hn4 h20 (hr.gr hW))
 clear ht hC hn4
 generalize (bif errX text.data.toList==0 then L.filter (fun x:Sq=>isC (codeY text.data.toList) x.s.name.data.toList != true) else [])=P at HFO ⊢
 generalize errX text.data.toList=E at HFO ⊢
 have QK:=fun w=>knows_any nm w
 simp only[hf] at QK
 have HOK:Hid (∀x∈L,isS x.s=true):=Lib.hid (fun x hx=>List.all_eq_true.1 hok x hx)
 have HLE:=Lib.hid hle
 have gb:Gr w (w.alloc (.cells #[.bool k.ok, .int .i64 k.n] 25)):=Gr.alloc (Gr.refl _) _
 have hVA:VAt (w.alloc (.cells #[.bool k.ok, .int .i64 k.n] 25)) w.heap.size k:=by
  refine ⟨?_,?_,?_⟩
  all_goals first|(go_simp;done)|(simp;done)
 have h20':(L.length:Int)≤20:=by omega
 clear hok hle hf
 go_enter Tryz.func12,Tryz.ntmps12
 go_wp2_with fail
 refine (QK _).mono ?_;rintro e w1 ⟨rfl,hg1⟩
 have gw1:=Gr.trans gb hg1
 have hVA1:=hVA.gr hg1
 clear QK gb hVA hg1
 go_wp2
 go_loopw [10] (fun i wr=>∃j:Nat,j≤L.length∧i= .int .i64 j∧Gr w wr∧VAt wr w.heap.size k) (fun i _=>L.length-(intOf i).toNat)
 case atStart=>exact ⟨0,Nat.zero_le _,rfl,gw1,hVA1⟩
 case round=>
  obtain ⟨j,hj,rfl,hgr,hVA⟩:=hrel
  by_cases hlt:j<L.length
  ·
   obtain ⟨x,hx⟩:∃x,L[j]=x:=⟨_,rfl⟩
   obtain ⟨ad,rfl,hb,hx0,hx1,hx2,hx3,hx4⟩:=(hr.gr hgr).at hlt
   have hsx:=HOK.out _ (List.getElem_mem hlt)
   have hvx:=(hv _ (List.getElem_mem hlt)).gr hgr
   rw[hx] at hx0 hx1 hx2 hx3 hx4 hsx hvx
   have QI:=fun w hr=>rsis_any x.s x.A x.c w hr
   simp only[hsx] at QI
   clear hx hsx
   go_wp2_with fail
   refine (QI _ hvx).mono ?_;rintro e w5 ⟨rfl,hg⟩
   have gw5:=Gr.trans hgr hg
   have hVA5:=hVA.gr hg
   clear hx0 hx1 hx2 hx3 hx4 hg
   go_wp2
   go_roundw
   case rel=>exact ⟨j+1,by omega,by go_num,gw5,hVA5⟩
   case measure=>simp[intOf];omega
  have hkk:j=L.length:=by omega
  subst hkk
  clear gw1 hVA1
  go_wp2_with fail
  refine (HFO.out _ hgr).mono ?_;rintro e w5 ⟨A5,c5,rfl,hr5,hg5⟩
  go_wp2
  go_ret2
  exact ⟨A5,c5,rfl,hr5,Gr.trans hgr hg5⟩
theorem filter_ne (text:ByteArray) (nm:ByteArray) (L:List Sq) (nt g:Bool) (hg:(nm.toList==[103,114,101,112])=g) (h:nt= !g):(L.filter fun x:Sq=>isC (codeY text.data.toList) x.s.name.data.toList != nt)=L.filter (grepB nm text):=by
 apply List.filter_congr
 intro x _
 unfold grepB
 rw[hg,h]
 cases isC (codeY text.data.toList) x.s.name.data.toList<;>cases g<;>rfl
theorem rapplyt_any (nm text:ByteArray) (k:Vl) (A:Option Addr) (c:Nat) (L:List Sq) (w:World) (ht:text.size≤500) (hC:CmpR text) (hn4:∀x∈L,x.s.name.size≤4096) (h20:L.length≤20) (hcap:L.length≤c) (hle:∀x∈L,x.s.vals.length≤1000000) (hr:Rl w A L) (hv:Lie w L) :
  Calls Tryz.prog 12 #[.string nm, .agg #[.bool k.ok, .int .i64 k.n], .string text, .slice A L.length c] w fun e w'=>∃(B:Option Addr) (M:List Sq) (d:Nat),e= .returned (.tuple #[.slice B M.length d, .int .i64 (applyTE nm text (L.map Sq.s))])∧M.map Sq.s=applyTS nm text k (L.map Sq.s)∧(∀x∈M,x∈L)∧Rl w' B M∧Gr w w':=by
 cases hf:(findF nm).isSome
 ·
  obtain ⟨e1,e2⟩:=applyT_no (text:=text) (k:=k) (S:=L.map Sq.s) hf
  rw[e1,e2]
  exact (rapply_no nm text k A c L w hf).mono (fun e w' ⟨B,d,he,hr,hg⟩=>⟨B,[],d,he,rfl,fun x hx=>absurd hx (by simp),hr,hg⟩)
 ·
  cases hok:okL L
  ·
   obtain ⟨e1,e2⟩:=applyT_bad (text:=text) (k:=k) hf hok
   rw[e1,e2]
   exact (rapply_bad nm text k A c L w hf hok h20 hr hv).mono (fun e w' ⟨B,d,he,hr,hg⟩=>⟨B,[],d,he,rfl,fun x hx=>absurd hx (by simp),hr,hg⟩)
  ·
   obtain ⟨g1,g2,g3⟩:=kind_ok hf
   by_cases h0:(rowF nm).kind=0
   ·
    obtain ⟨e1,e2⟩:=applyT_zero (text:=text) (k:=k) hf hok h0
    rw[e1,e2]
    have hsub:∀x∈(bif errX text.data.toList==0 then L.filter (grepB nm text) else []),x∈L:=fun x hx=>by
     cases hc:(errX text.data.toList==0)
     ·
      rw[hc] at hx;cases hx
     ·
      rw[hc] at hx;exact (List.mem_filter.1 hx).1
    rcases g3 h0 with hx|hx
    ·
     have hng:(nm.toList==[103,114,101,112])=false:=by
      have e:nm.toList=[101,120,99,108,117,100,101]:=by simpa using hx
      rw[e];rfl
     have:=rapply_exc nm text k A c L w hng hx hf hok ht hC hn4 h20 hle hr hv
     rw[filter_ne text nm L true false hng rfl] at this
     exact this.mono (fun e w' ⟨B,d,he,hr,hg⟩=>⟨B,_,d,he,rfl,hsub,hr,hg⟩)
    ·
     have hne:(nm.toList==[101,120,99,108,117,100,101])=false:=by
      have e:nm.toList=[103,114,101,112]:=by simpa using hx
      rw[e];rfl
     have:=rapply_grep nm text k A c L w hx hne hf hok ht hC hn4 h20 hle hr hv
     rw[filter_ne text nm L false true hx rfl] at this
     exact this.mono (fun e w' ⟨B,d,he,hr,hg⟩=>⟨B,_,d,he,rfl,hsub,hr,hg⟩)
   ·
    obtain ⟨e1,e2⟩:=applyT_more (text:=text) (k:=k) hf hok h0
    rw[e1,e2]
    obtain ⟨hmem,hnm⟩:=rowF_some hf
    rcases pick_rows _ hmem with h1|h1
    ·
     exact absurd h1 h0
    ·
     exact (h1 nm text k A c L w hnm rfl hf hok h20 hcap hle hr hv).mono (fun e w' ⟨B,d,he,hr,hg⟩=>⟨B,_,d,he,rfl,fun x hx=>pickA_mem _ _ _ _ _ hx,hr,hg⟩)
theorem appliedt_any (nm text:ByteArray) (hCy:text.size≤500→CmpY text) (hCr:text.size≤500→CmpR text) (k:Vl) (A:Option Addr) (c:Nat) (L:List Sq) (w:World) (hcap:L.length≤c) (hr:Rl w A L) (hv:Lie w L) :
  Calls Tryz.prog 5 #[.string nm, .agg #[.bool k.ok, .int .i64 k.n], .string text, .slice A L.length c] w fun e w'=>e= .returned (.bool true)∧Gr w w':=by
 obtain ⟨i0,hi0,hz0,hz1,hz2⟩:=info_parts info_ser
 have gb:Gr w (w.alloc (.cells #[.bool k.ok, .int .i64 k.n] 25)):=Gr.alloc (Gr.refl _) _
 have hVA:VAt (w.alloc (.cells #[.bool k.ok, .int .i64 k.n] 25)) w.heap.size k:=by
  refine ⟨?_,?_,?_⟩
  all_goals first|(go_simp;done)|(simp;done)
 have HH:=Lib.hid (heavy23_any A c L (w.alloc (.cells #[.bool k.ok, .int .i64 k.n] 25)) (hr.gr gb))
 go_enter Tryz.func5,Tryz.ntmps5
 go_wp2_with fail
 refine HH.out.mono ?_
 rintro e w1 ⟨⟨b,rfl,hb⟩,hg1⟩
 have gw1:=Gr.trans gb hg1
 have hVA1:=hVA.gr hg1
 clear HH gb hVA hg1
 cases b
 case true=>
  go_wp2
  go_ret
  exact ⟨rfl,gw1⟩
 obtain ⟨hl20,hLt⟩:=hb rfl
 have HLE:Hid (∀x∈L,x.s.vals.length≤1000000):=Lib.hid (fun x hx=>by have:=(hLt x hx).1;omega)
 have HNM:Hid (∀x∈L,x.s.name.size≤4096):=Lib.hid (fun x hx=>by have:=(hLt x hx).2;omega)
 clear hLt hb
 by_cases h100:(100:Int)<(text.size:Int)
 ·
  go_wp2
  go_ret
  exact ⟨rfl,gw1⟩
 have hl:(L.length:Int)≤20:=by omega
 have HTX:Hid (text.size≤500):=Lib.hid (by omega)
 have HCC:=Lib.hid (And.intro (hCy HTX.out) (hCr HTX.out))
 clear hCy hCr
 go_wp2
 go_loopw [9,10] (fun v i wr=>∃(j:Nat) (M:List Sq),j≤L.length∧i= .int .i64 j∧Gr w wr∧VAt wr w.heap.size k∧wr.ownsRow (w.heap.size+1) 34 5 v j (scells M)∧M.length=j∧Lie wr M∧Apart v.ownBlock M∧Hid (M.map Sq.s=(L.take j).map Sq.s)) (fun _ i _=>L.length-(intOf i).toNat)
 case atStart=>exact ⟨0,[],Nat.zero_le _,rfl,gw1,hVA1,World.ownsRow_nil _ _ _ _,rfl,fun x hx=>absurd hx (by simp),fun x hx=>absurd hx (by simp),Lib.hid rfl⟩
 case round=>
  clear gw1 hVA1
  obtain ⟨j,M,hj,rfl,hgr,hVA,hown,hMl,hLie,hAp,HM⟩:=hrel
  by_cases hlt:j<L.length
  ·
   obtain ⟨x,hx⟩:∃x,L[j]=x:=⟨_,rfl⟩
   obtain ⟨ad,rfl,hb,hx0,hx1,hx2,hx3,hx4⟩:=(hr.gr hgr).at hlt
   have hvx:=(hv _ (List.getElem_mem hlt)).gr hgr
   have hlx:=HLE.out _ (List.getElem_mem hlt)
   rw[hx] at hx0 hx1 hx2 hx3 hx4 hvx hlx
   have QO:=fun w hr=>rown_any x.s x.A x.c w hlx hr
   have HM2:Hid (∀y:Sq,y.s=x.s→(M++[y]).map Sq.s=(L.take (j+1)).map Sq.s):=Lib.hid (fun y hy=>by
    rw[List.take_succ_eq_append_getElem hlt,List.map_append,List.map_append,HM.out,hx]
    simp[hy])
   clear hx hlx HM
   go_wp2_with fail
   refine (QO _ hvx).mono ?_;rintro e' w5 ⟨A5,c5,rfl,hr5,hg5,hnew⟩
   have hown5:=own_gr hown hg5
   have gw5:=Gr.trans hgr hg5
   have hVA5:=hVA.gr hg5
   have hLie5:=hLie.gr hg5
   have hrx:=Rl.new (W:=w5) rfl 34 [⟨x.s,A5,c5⟩]
   have hv0:=hown5.alloc (.cells (scells [⟨x.s,A5,c5⟩]).toArray 34)
   have hvl:=hown5.lt
   have z5:=hVA5.2.2
   have HNW:=Lib.hid (fun (ad:Addr) (h:A5=some ad)=>new_apart hown (ad:=ad) (hnew ad h))
   clear hnew hg5 hx0 hx1 hx2 hx3 hx4
   go_wp2_with
    (
     at_builtin
     go_loud (
     refine wpList_append_rd rfl (.tmp 29) (.tmp 35) 22 rfl (w.heap.size+1) 34 i0 _ 5 64 Tryz.underlying22 hi0 hz0 hz1 hz2 rfl (by decide) _ j _ rfl hv0 (some ⟨w5.heap.size,0,none⟩) 1 _ (scells [⟨x.s,A5,c5⟩]) rfl hrx (scells_one _) (by unfold maxLen;omega) (by omega) (by simp;omega) ?_
     intro v' w7 hown7 hgr7 hat7))
   have hg7:Gr w w7:=Gr.grown (Gr.alloc gw5 _) hgr7 (fun i hi=>by have:=(hvl i hi).1;omega)
   have hVA7:VAt w7 w.heap.size k:=by
    have h:=hVA5.gr (Gr.alloc (Gr.refl w5) (.cells (scells [⟨x.s,A5,c5⟩]).toArray 34))
    have hn:some w.heap.size≠u9.ownBlock:=fun e=>by have:=(hvl _ e.symm).1;omega
    exact ⟨hgr7.cell h.1 hn,hgr7.cell h.2.1 hn,Nat.lt_of_lt_of_le h.2.2 hgr7.size⟩
   have hLie7:Lie w7 (M++[⟨x.s,A5,c5⟩]):=fun y hy=>by
    rcases List.mem_append.1 hy with hy|hy
    ·
     exact Rv.grown ((hLie5 y hy).gr (Gr.alloc (Gr.refl w5) _)) hgr7 (fun hn ad h=>hAp y hy hn ad h)
    ·
     rw[List.mem_singleton.1 hy]
     exact Rv.grown (hr5.gr (Gr.alloc (Gr.refl w5) _)) hgr7 (fun _ ad h=>HNW.out ad h)
   have hAp7:Apart v'.ownBlock (M++[⟨x.s,A5,c5⟩]):=fun y hy hn ad h=>by
    rcases hat7 with e7|e7
    ·
     rw[e7]
     rcases List.mem_append.1 hy with hy|hy
     ·
      exact hAp y hy hn ad h
     ·
      rw[List.mem_singleton.1 hy] at h;exact HNW.out ad h
    ·
     rw[e7]
     intro e8
     injection e8 with e8
     simp at e8
     rcases List.mem_append.1 hy with hy|hy
     ·
      have:=(hLie5 y hy).blk hn h;omega
     ·
      rw[List.mem_singleton.1 hy] at h hn
      have:=hr5.blk hn h;omega
   have hown8:w7.ownsRow (w.heap.size+1) 34 5 v' (j+1) (scells (M++[⟨x.s,A5,c5⟩])):=by rw[scells_append];exact hown7
   have HM3:=Lib.hid (HM2.out ⟨x.s,A5,c5⟩ rfl)
   clear hv0 hvl hgr7 hat7 hrx hown5 hown7 hown hLie hLie5 hAp hr5 HM2
   go_roundw
   case rel=>exact ⟨j+1,M++[⟨x.s,A5,c5⟩],by omega,by go_num,hg7,hVA7,hown8,by simp[hMl],hLie7,hAp7,HM3⟩
   case measure=>simp[intOf];omega
  ·
   have hkk:j=L.length:=by omega
   subst hkk
   obtain ⟨AM,cM,hvv⟩:=own_form hown
   subst hvv
   have hcM:=own_cap hown
   have hRM:Rl wr AM M:=by have h:=Rd.own hown;unfold Rl;rw[hMl];exact h
   have HMS:Hid (M.map Sq.s=L.map Sq.s):=Lib.hid (by rw[HM.out,List.take_length])
   have HMLE:Hid (∀x∈M,x.s.vals.length≤1000000):=Lib.hid (fun x hx=>by
    have h1:x.s∈L.map Sq.s:=by rw[←HMS.out];exact List.mem_map_of_mem hx
    obtain ⟨y,hy,e⟩:=List.mem_map.1 h1
    rw[←e];exact HLE.out y hy)
   have HMNM:Hid (∀x∈M,x.s.name.size≤4096):=Lib.hid (fun x hx=>by
    have h1:x.s∈L.map Sq.s:=by rw[←HMS.out];exact List.mem_map_of_mem hx
    obtain ⟨y,hy,e⟩:=List.mem_map.1 h1
    rw[←e];exact HNM.out y hy)
   clear hown hAp HM
   have hM20:M.length≤20:=by omega
   have hMc:M.length≤cM:=by omega
   have QP:=fun w' (hr':Rl w' AM M) (hv':Lie w' M)=>applyt_any nm text k AM cM M w' HTX.out HCC.out.1 HMNM.out hM20 hMc HMLE.out hr' hv'
   rw[hMl,HMS.out] at QP
   have QR:=fun w' (hr':Rl w' A L) (hv':Lie w' L)=>rapplyt_any nm text k A c L w' HTX.out HCC.out.2 HNM.out hl20 hcap HLE.out hr' hv'
   have QAM:=Lib.hid (fun (w':World) (h1:Rl w' AM M) (h2:Rl w' A L) (h3:Lie w' M) (h4:Lie w' L)=>all23_any AM A cM c M L w' (by omega) HMS.out HMLE.out h1 h2 h3 h4)
   rw[hMl] at QAM
   have HSL:Hid (∀t∈applyTS nm text k (L.map Sq.s),t∈L.map Sq.s):=Lib.hid (fun t ht=>by
    unfold applyTS at ht
    split at ht
    ·
     split at ht
     ·
      exact (List.mem_filter.1 ht).1
     ·
      exact pickA_mem id (rowF nm) (normV k) _ t ht
    ·
     cases ht)
   have HSN:Hid ((applyTS nm text k (L.map Sq.s)).length≤L.length):=Lib.hid (by
    unfold applyTS
    split
    ·
     split
     ·
      exact Nat.le_trans (List.length_filter_le _ _) (by simp)
     ·
      exact Nat.le_trans (pickA_len _ _ _ _) (by simp)
    ·
     exact Nat.zero_le _)
   generalize applyTS nm text k (L.map Sq.s)=S at QP QR HSL HSN
   generalize applyTE nm text (L.map Sq.s)=E at QP QR
   obtain ⟨k0,k1,kz⟩:=id hVA
   go_wp2_with fail
   refine (QP _ hRM hLie).mono ?_;rintro e wX ⟨AX,X,cX,rfl,hX,hcX,hRX,hLX,hgX⟩
   have gX:=Gr.trans hgr hgX
   have hVAX:=hVA.gr hgX
   have hRMX:=hRM.gr hgX
   have hLMX:=hLie.gr hgX
   clear k0 k1 kz hVA hRM hLie hgr hgX QP
   obtain ⟨k0,k1,kz⟩:=id hVAX
   go_wp2_with fail
   refine (QR _ (hr.gr gX) (hv.gr gX)).mono ?_;rintro e wY ⟨AY,Y,cY,rfl,hY,hYL,hRY,hgY⟩
   have gY:=Gr.trans gX hgY
   have hRXY:=hRX.gr hgY
   have hLXY:=hLX.gr hgY
   have hRMY:=hRMX.gr hgY
   have hLMY:=hLMX.gr hgY
   have hLY:Lie wY Y:=fun y hy=>(hv y (hYL y hy)).gr gY
   have HYLE:Hid (∀x∈X,x.s.vals.length≤1000000):=Lib.hid (fun x hx=>by
    have h1:x.s∈S:=by rw[←hX];exact List.mem_map_of_mem hx
    obtain ⟨y,hy,e⟩:=List.mem_map.1 (HSL.out _ h1)
    rw[←e];exact HLE.out y hy)
   have HXN:Hid (X.length≤20):=Lib.hid (by have h:=congrArg List.length hX;simp at h;have:=HSN.out;omega)
   have QAX:=Lib.hid (fun (w':World) (h1:Rl w' AX X) (h2:Rl w' AY Y) (h3:Lie w' X) (h4:Lie w' Y)=>all23_any AX AY cX cY X Y w' (by have:=HXN.out;omega) (by rw[hX,hY]) HYLE.out h1 h2 h3 h4)
   clear k0 k1 kz hVAX hRX hLX hRMX hLMX gX hgY hX hY hYL QR hcX
   go_wp2
   go_loopw [15] (fun i wr=>∃j:Nat,j≤L.length∧i= .int .i64 j∧Gr w wr∧Gr wY wr) (fun i _=>L.length-(intOf i).toNat)
   case atStart=>exact ⟨0,Nat.zero_le _,rfl,gY,Gr.refl _⟩
   case round=>
    obtain ⟨j,hj,rfl,hgr,hgY⟩:=hrel
    by_cases hlt:j<L.length
    ·
     obtain ⟨x,hx⟩:∃x,L[j]=x:=⟨_,rfl⟩
     obtain ⟨ad,rfl,hb,hx0,hx1,hx2,hx3,hx4⟩:=(hr.gr hgr).at hlt
     have hvx:=hv _ (List.getElem_mem hlt)
     have hlx:=HLE.out _ (List.getElem_mem hlt)
     rw[hx] at hx0 hx1 hx2 hx3 hx4 hvx hlx
     have HX:Hid (∀W,Gr wr W→W.cell? (ad.add (j*5))=some (.string x.s.name)∧W.cell? ⟨(ad.add (j*5)).block,(ad.add (j*5)).off+1,none⟩=some (.int .i64 x.s.start)∧W.cell? ⟨(ad.add (j*5)).block,(ad.add (j*5)).off+2,none⟩=some (.int .i64 x.s.step)∧W.cell? ⟨(ad.add (j*5)).block,(ad.add (j*5)).off+3,none⟩=some (.slice x.A x.s.vals.length x.c)∧W.cell? ⟨(ad.add (j*5)).block,(ad.add (j*5)).off+4,none⟩=some (.int .i64 x.s.cons)):=Lib.hid (fun W hW=>⟨(hW.cell (p:=ad.add (j*5)) (by rw[add_blk];exact hb)).trans hx0,(hW.cell (p:=⟨(ad.add (j*5)).block,(ad.add (j*5)).off+1,none⟩) (by show (ad.add (j*5)).block<_;rw[add_blk];exact hb)).trans hx1,(hW.cell (p:=⟨(ad.add (j*5)).block,(ad.add (j*5)).off+2,none⟩) (by show (ad.add (j*5)).block<_;rw[add_blk];exact hb)).trans hx2,(hW.cell (p:=⟨(ad.add (j*5)).block,(ad.add (j*5)).off+3,none⟩) (by show (ad.add (j*5)).block<_;rw[add_blk];exact hb)).trans hx3,(hW.cell (p:=⟨(ad.add (j*5)).block,(ad.add (j*5)).off+4,none⟩) (by show (ad.add (j*5)).block<_;rw[add_blk];exact hb)).trans hx4⟩)
     have QF:=fun w hr=>fof_any nm x.s x.A x.c w hlx hr
     have QR:=fun w hr=>rfof_any nm x.s x.A x.c w hlx hr
     unfold aggSr at QF QR
     generalize ofR (rowF nm).by_ x.s.vals=v at QF QR
     clear hx hx0 hx1 hx2 hx3 hx4
     go_wp2
     refine region_Q (by kernel_rfl) (by kernel_rfl) ?_
     iterate 4 (refine qv ?_;simp only[Pu])
     refine q_val (v:=?qv49) (by rfl) (fun W hW=>?qh49) ?qr49
     case qh49=>obtain ⟨x0,x1,x2,x3,x4⟩:=HX.out W hW;go_simp;rfl
     simp only[Pu]
     refine q_call (v:= .agg #[.bool v.ok, .int .i64 v.n]) (f:=?qf50) (args:=?qa50) (by rfl) (fun W hW=>?qh50) (fun W hW=>?qc50) ?qr50
     case qh50=>go_simp;constructor<;>rfl
     case qc50=>exact (QF W ((hvx.gr hgr).gr hW)).mono (fun e w' h=>⟨h.1,Gr.trans hW h.2⟩)
     simp only[Pu]
     iterate 4 (refine qv ?_;simp only[Pu])
     refine q_val (v:=?qv55) (by rfl) (fun W hW=>?qh55) ?qr55
     case qh55=>obtain ⟨x0,x1,x2,x3,x4⟩:=HX.out W hW;go_simp;rfl
     simp only[Pu]
     refine q_call (v:= .agg #[.bool v.ok, .int .i64 v.n]) (f:=?qf56) (args:=?qa56) (by rfl) (fun W hW=>?qh56) (fun W hW=>?qc56) ?qr56
     case qh56=>go_simp;constructor<;>rfl
     case qc56=>exact (QR W ((hvx.gr hgr).gr hW)).mono (fun e w' h=>⟨h.1,Gr.trans hW h.2⟩)
     simp only[Pu]
     refine qv ?_;simp only[Pu]
     refine wpQuiet_nil ?_
     intro w6 hg6
     have gw6:=Gr.trans hgr hg6
     have gY6:=Gr.trans hgY hg6
     clear HX QF QR hg6
     go_wp2
     go_roundw
     case rel=>exact ⟨j+1,by omega,by go_num,gw6,gY6⟩
     case measure=>simp[intOf];omega
    ·
     have hkk:j=L.length:=by omega
     subst hkk
     go_wp2_with fail
     refine (QAX.out _ (hRXY.gr hgY) (hRY.gr hgY) (hLXY.gr hgY) (hLY.gr hgY)).mono ?_;rintro e wa ⟨rfl,hga⟩
     have gYa:=Gr.trans hgY hga
     have gwa:=Gr.trans hgr hga
     go_wp2_with fail
     refine (QAM.out _ (hRMY.gr gYa) (hr.gr gwa) (hLMY.gr gYa) (hv.gr gwa)).mono ?_;rintro e wb ⟨rfl,hgb⟩
     go_wp2_with fail
     refine (known23_any _).mono ?_;rintro e wd ⟨rfl,hgd⟩
     go_wp2
     go_ret
     exact ⟨rfl,Gr.trans gwa (Gr.trans hgb hgd)⟩
theorem only97 {m:Nat} {c:UInt8} {r:List UInt8} (h:([97]:List UInt8).drop m=c::r):c=97∧r=[]:=by
 cases m with
 | zero=>injection h with h1 h2;exact ⟨h1.symm,h2.symm⟩
 | succ m=>simp at h
theorem atom97 (Wf:Rs→Pc×Rs) {q:Rs} (h:q.rest=[97]):atomS Wf q=(.leaf 1 (pairsS (oneB 97)),{q with rest:=[]}):=by
 unfold atomS;rw[h];rfl
theorem piece97 (Wf:Rs→Pc×Rs) {q:Rs} (h:q.rest=[97]):pieceS Wf q=(.leaf 1 (pairsS (oneB 97)),{q with rest:=[]}):=by
 unfold pieceS;rw[atom97 Wf h]
 show (bif q.bad then _ else _)=_
 cases q.bad<;>rfl
theorem ways97 {R:Nat} (n:Nat) (W:World) (m:Nat) (q:Rs) (h:Rdr W R ⟨#[97]⟩ m q) (hq:q.rest.length<n) (hB:BdX q) :
  Calls Tryz.prog 45 #[.pointer (some ⟨R,0,none⟩)] W (RetP R ⟨#[97]⟩ W (waysS n q).1 (waysS n q).2):=by
 cases n with
 | zero=>exact absurd hq (Nat.not_lt_zero _)
 | succ n=>
  have hs:((⟨#[97]⟩:ByteArray).size:Int)≤4096:=by decide
  refine ways_row (waysS n) (waysS_gd n) h hs n (Nat.le_of_lt_succ hq) hB fun W m q h hq hB=>?_
  refine row_any (waysS n) (waysS_gd n) h hs n hq hB fun W m q c r h hr hq hB=>?_
  obtain ⟨rfl,rfl⟩:=only97 (h.rest.trans hr)
  have HA:=atom_else h hs hr (by decide)
  rw[piece97 (waysS n) hr]
  rcases Bool.eq_false_or_eq_true q.bad with hb|hb
  ·
   exact piece_bad h hs _ _ HA hb
  ·
   exact piece_end h hs _ _ HA hb rfl
theorem wayok97:WayOk ⟨#[97]⟩:=fun w=>by
 refine (ways97 2 _ 0 _ (rdr_new w ⟨#[97]⟩) (by decide) ⟨by simp,by simp⟩).mono ?_
 rintro e w' ⟨b,n,he,h1,h2,h3⟩
 refine ⟨b,n,he,?_,GX.gr (Gr.alloc (Gr.refl w) _) h2 (Nat.le_refl _),h3⟩
 have e:(w.alloc (.cells #[.string ⟨#[97]⟩, .int .i64 0, .int .i64 0, .int .i64 0, .bool false, .bool false] 77)).heap.size-1=w.heap.size:=by simp
 rw[e] at h1
 exact h1
theorem kp_leaf (op:Nat) (ps:List UInt8):KP (.leaf op ps):=fun w B A code b lo hi hB hin h2 h0 hs hok=>by
 simp only[Pc.In] at hin
 simp only[Pc.ok] at hok
 simp only[Pc.sz] at hs
 simp only[Pc.lay]
 exact put_leaf hB (by omega) (by omega) (by have:=hB.lt;omega) hin.2.2
theorem read97:(readS [97]).1= .row (.cons (.leaf 1 [97,97]) .nil)∧(readS [97]).2=⟨[],0,0,false,false⟩:=⟨by kernel_rfl,by kernel_rfl⟩
theorem kp97:KP (readS [97]).1:=by
 rw[read97.1]
 exact fun w B A code b lo hi hB hin h2 h0 hs hok=>by
  simp only[Pc.In] at hin
  simp only[Pc.ok] at hok
  simp only[Pc.sz] at hs
  simp only[Pc.lay]
  obtain ⟨b0,b1,kids,bs,hn,hr,hl⟩:=hin
  have hln:=hl.len
  refine put_row hB (by omega) b0 b1 h2 hr (by omega) hn hl fun ds p rest bk e hp=>?_
  have hk:KP p:=by
   match ds,e with
   | .nil,e=>simp only[PcL.app] at e;injection e with e1 e2;rw[←e1];exact kp_leaf _ _
   | .cons _ .nil,e=>simp only[PcL.app] at e;injection e with e1 e2;cases e2
   | .cons _ (.cons _ _),e=>simp only[PcL.app] at e;injection e with e1 e2;cases e2
  rw[e] at hok hs
  rw[PcL.szR_app] at hs
  simp only[PcL.szR] at hs
  exact hk.kid hp h2 (by omega) (by omega) (PcL.ok_get ds p rest hok.2)
theorem compile_a (w:World):Calls Tryz.prog 23 #[.string ⟨#[97]⟩] w (RetC w (⟨#[97]⟩:ByteArray).data.toList):=
 comp_ok ⟨#[97]⟩ (by decide) w wayok97 kp97 (by rw[show (⟨#[97]⟩:ByteArray).data.toList=[97] from rfl,read97.2]) (by rw[show (⟨#[97]⟩:ByteArray).data.toList=[97] from rfl,read97.2]) (by rw[show (⟨#[97]⟩:ByteArray).data.toList=[97] from rfl,read97.2])
theorem rpiece_end (Wf:Rs→Pc×Rs) {w:World} {R n:Nat} {s:ByteArray} {A:Option Addr} {code:List In} {q:Rs} (h:RfS w R s n q A code) (hs:(s.size:Int)≤4096) (hcd:Cd code) (hb:code.length+2*q.rest.length≤4000) (hok:(atomS Wf q).1.ok) (HB:Hid ((atomS Wf q).2.bad=false∧(atomS Wf q).2.rest=[]))
  (HA:∀W,RfS W R s n q A code→Calls Tryz.prog 147 #[.pointer (some ⟨R,0,none⟩)] W (RetR W R s q A code (atomS Wf q).1 (atomS Wf q).2)) :
  Calls Tryz.prog 133 #[.pointer (some ⟨R,0,none⟩)] w (RetR w R s q A code ((pieceS Wf q).1) ((pieceS Wf q).2)):=by
 obtain ⟨t,ht⟩:∃t,t=atomS Wf q:=⟨_,rfl⟩
 obtain ⟨T,hT⟩:∃T,T=pieceS Wf q:=⟨_,rfl⟩
 rw[←ht] at HA hok HB
 rw[←hT]
 have hT2:T=bif t.2.bad then t else match t.2.rest with
  | []=>t
  | c::q=>bif repC c.toNat then (.rep c.toNat (headIs 63 q) t.1,{t.2 with rest:=bif headIs 63 q then q.drop 1 else q}) else t:=by rw[hT,ht];rfl
 have HT:=Lib.hid hT2
 have HAA:=Lib.hid HA
 have hP:=Lib.hid hok
 clear hT hT2 HA ht hok
 obtain ⟨cc2,hc2⟩:=id h.1
 have c5:=hc2.c5
 clear hc2
 go_enter Tryz.func133,Tryz.ntmps133
 go_upto_region 2 with (go_at_call 147;refine (HAA.out _ h).mono ?_;rintro x w7 ⟨rfl,n7,d7,g7,A7,code7,k1,k2,k3,k4⟩)
 clear c5 h
 have hz:R<w7.heap.size:=k1.lt
 obtain ⟨cc7,hc7⟩:=id k1
 obtain ⟨c0,c1,c3⟩:=And.intro hc7.c0 (And.intro hc7.c1 hc7.c3)
 clear hc7
 cases hb7:t.2.bad
 case true=>exact absurd hb7 (by rw[HB.out.1];decide)
 case false=>
  obtain ⟨j1,j2,j3,j4,j5,j6⟩:=k4 hb7
  have he:errE t.2=0:=by simp only[errE,hb7,j1];rfl
  have He:=Lib.hid he
  rw[he] at c3
  rcases hr2:t.2.rest with _|⟨d,q2⟩
  ·
   have hn7:n7=s.size:=by
    rw[hr2] at j3
    have:=congrArg List.length j3
    simp at this
    omega
   have hT9:T=t:=by rw[HT.out,hb7,hr2];rfl
   have HT9:=Lib.hid hT9
   have Hn:=Lib.hid hn7
   have e1:((n7:Int)==(s.size:Int))=true:=by simp;omega
   clear hT9 hn7 he j1 j2 j3 j4 j5 j6 hb7 hr2
   refine region_R (by kernel_rfl) (by kernel_rfl) ?_
   iterate 3 (refine rv ?_;simp only[Pu])
   refine r_val (v:=?qv11) (by kernel_rfl) (fun W hW=>?qh11) ?qr11
   case qh11=>have q3:=(Below.cell hW (p:=⟨R,3,none⟩) hz).trans c3;go_light;go_simp;rfl
   simp only[Pu]
   iterate 5 (refine rv ?_;simp only[Pu])
   refine r_val (v:=?qv17) (by kernel_rfl) (fun W hW=>?qh17) ?qr17
   case qh17=>have q1:=(Below.cell hW (p:=⟨R,1,none⟩) hz).trans c1;go_light;go_simp;rfl
   simp only[Pu]
   iterate 3 (refine rv ?_;simp only[Pu])
   refine r_val (v:=?qv21) (by kernel_rfl) (fun W hW=>?qh21) ?qr21
   case qh21=>have q0:=(Below.cell hW (p:=⟨R,0,none⟩) hz).trans c0;go_light;go_simp;rfl
   simp only[Pu]
   iterate 3 (refine rv ?_;simp only[Pu])
   refine r_nil ?_
   intro w8 hw8
   go_wp2_with (fail)
   go_end0
   rw[HT9.out]
   exact ⟨rfl,n7,d7,g7,A7,code7,k1.gr hw8,k2.trans (WX.gr _ hw8),k3,k4⟩
  ·
   exact absurd hr2 (by rw[HB.out.2];simp)
theorem rways_end (Wf:Rs→Pc×Rs) {w:World} {R n:Nat} {s:ByteArray} {A:Option Addr} {code:List In} {q:Rs} (h:RfS w R s n q A code) (hs:(s.size:Int)≤4096) (hcd:Cd code) (hb:code.length+2*q.rest.length≤4000) (k:Nat) (HB:Hid ((rowP Wf q).2.bad=false∧headIs 124 (rowP Wf q).2.rest=false))
  (HR:Calls Tryz.prog 117 #[.pointer (some ⟨R,0,none⟩)] w (RetR w R s q A code (rowP Wf q).1 (rowP Wf q).2)) :
  Calls Tryz.prog 93 #[.pointer (some ⟨R,0,none⟩)] w (RetR w R s q A code (lone (altS Wf (k+1) q).1) (altS Wf (k+1) q).2):=by
 have hT2:=altS_cont Wf k q
 obtain ⟨t,ht⟩:∃t,t=rowP Wf q:=⟨_,rfl⟩
 obtain ⟨T,hT⟩:∃T,T=altS Wf (k+1) q:=⟨_,rfl⟩
 rw[←ht] at HR hT2 HB
 rw[←hT] at hT2 ⊢
 unfold contS at hT2
 have HT:=Lib.hid hT2
 have HRR:=Lib.hid HR
 have Hb:=Lib.hid hb
 clear hT2 HR hT ht hb
 obtain ⟨cc2,hc2⟩:=id h.1
 have c5:=hc2.c5
 clear hc2
 go_enter Tryz.func93,Tryz.ntmps93
 go_upto_region 2 with (go_at_call 117;refine HRR.out.mono ?_;rintro x w7 ⟨rfl,n7,d7,g7,A7,code7,k1,k2,k3,k4⟩)
 clear c5 h
 obtain ⟨cc7,hc7⟩:=id k1
 have c3:=hc7.c3
 clear hc7
 cases hb7:t.2.bad
 case true=>exact absurd hb7 (by rw[HB.out.1];decide)
 case false=>
  obtain ⟨j1,j2,j3,j4,j5,j6⟩:=k4 hb7
  have he:errE t.2=0:=by simp only[errE,hb7,j1];rfl
  have He:=Lib.hid he
  rw[he] at c3
  have HM:=Lib.hid (more_any k1 hs 124)
  rw[j3] at HM
  cases h41:headIs 124 t.2.rest
  case false=>
   rw[h41] at HM
   have hT9:T=(.cons t.1 .nil,t.2):=by rw[HT.out,hb7,h41];rfl
   have HT9:=Lib.hid hT9
   clear hT9 h41 j1 j2 j3 j4 j5 j6 he hb7
   go_wp2_with (go_at_call 118;refine HM.out.mono ?_;rintro x w8 ⟨rfl,g8⟩;have k8:=k1.gr g8;have x8:=k2.trans (WX.gr _ g8))
   go_end0
   rw[HT9.out]
   exact ⟨rfl,n7,d7,g7,A7,code7,k8,x8,k3,k4⟩
  case true=>exact absurd h41 (by rw[HB.out.2];decide)
theorem bytes_a:bytesS (97:UInt8).toNat []=(some (oneB 97),[]):=by kernel_rfl
theorem only_a {m:Nat} {c:UInt8} {r:List UInt8} (h:([97]:List UInt8).drop m=c::r):c=97∧r=[]:=by
 cases m with
 | zero=>injection h with h1 h2;exact ⟨h1.symm,h2.symm⟩
 | succ m=>simp at h
theorem atom_a (Wf:Rs→Pc×Rs) {q:Rs} (h:q.rest=[97]):atomS Wf q=(.leaf 1 (pairsS (oneB 97)),{q with rest:=[]}):=by
 unfold atomS;rw[h];rfl
theorem row_nil_a (Wf:Rs→Pc×Rs) {q:Rs} (hb:q.bad=false) (h:q.rest=[]):(rowP Wf q).2=q:=by
 unfold rowP;rw[h];unfold rowS;rw[hb,h];rfl
theorem row_a (Wf:Rs→Pc×Rs) {q:Rs} (hb:q.bad=false) (h:q.rest=[97]):(rowP Wf q).2={q with rest:=[]}:=by
 have hp:pieceS Wf q=(.leaf 1 (pairsS (oneB 97)),{q with rest:=[]}):=by
  unfold pieceS;rw[atom_a Wf h];simp only[hb,cond_false]
 unfold rowP;rw[h]
 unfold rowS;rw[hb,h]
 simp only[List.length_cons,List.length_nil]
 rw[show endR [97]=false from rfl]
 simp only[Bool.or_self,cond_false,hp]
 unfold rowS
 simp only[hb,Bool.false_or,show endR []=true from rfl,cond_true]
theorem rways_a {R:Nat} (n:Nat) (W:World) (m:Nat) (q:Rs) (A:Option Addr) (code:List In) (h:RfS W R ⟨#[97]⟩ m q A code) (hq:q.rest.length<n) (hB:BdX q) (hqb:q.over=false∧q.bad=false) (hcd:Cd code) (hb:code.length+2*q.rest.length≤4000) :
  Calls Tryz.prog 93 #[.pointer (some ⟨R,0,none⟩)] W (RetR W R ⟨#[97]⟩ q A code (waysS n q).1 (waysS n q).2):=by
 cases n with
 | zero=>exact absurd hq (Nat.not_lt_zero _)
 | succ n=>
  have hs:((⟨#[97]⟩:ByteArray).size:Int)≤4096:=by decide
  have hp:∀W m q A code c r,RfS W R ⟨#[97]⟩ m q A code→q.rest=c::r→(q.over=false∧q.bad=false)→Cd code→code.length+2*q.rest.length≤4000→q.rest.length≤n→BdX q→Calls Tryz.prog 133 #[.pointer (some ⟨R,0,none⟩)] W (RetR W R ⟨#[97]⟩ q A code (pieceS (waysS n) q).1 (pieceS (waysS n) q).2):=by
   intro W m q A code c r h hr hqb hcd hb hn hB
   obtain ⟨rfl,rfl⟩:=only_a (h.2.1.trans hr)
   have ha:=atom_a (waysS n) hr
   refine rpiece_end (waysS n) h hs hcd hb (by rw[ha];simp[Pc.ok]) (Lib.hid (by rw[ha];exact ⟨hqb.2,rfl⟩)) fun W h=>?_
   have k:=ratom_some h hs hr (by decide) (by decide) (by decide) hqb (by omega) bytes_a (Nat.le_refl _) (fun W hW hn=>by
    have hm:m=0:=Nat.lt_one_iff.1 hn
    subst hm
    exact rset_plain hW hs hn (by show (97:UInt8).toNat≠46;decide) (by show (97:UInt8).toNat≠91;decide) (by show (97:UInt8).toNat≠92;decide) (by show spcB (97:UInt8).toNat=false;decide))
   rw[ha]
   exact k
  have e:(rowP (waysS n) q).2.bad=false∧headIs 124 (rowP (waysS n) q).2.rest=false:=by
   rcases e:q.rest with _|⟨c,r⟩
   ·
    rw[row_nil_a _ hqb.2 e];exact ⟨hqb.2,by rw[e];rfl⟩
   ·
    obtain ⟨rfl,rfl⟩:=only_a (h.2.1.trans e)
    rw[row_a _ hqb.2 e];exact ⟨hqb.2,rfl⟩
  exact rways_end (waysS n) h hs hcd hb q.rest.length (Lib.hid e) (rrow_any (waysS n) (waysS_gd n) (waysS_sz n) h hs hqb hcd hb n (Nat.le_of_lt_succ hq) hB hp)
theorem rcompile_a (w:World):Calls Tryz.prog 63 #[.string ⟨#[97]⟩] w (RetC w (⟨#[97]⟩:ByteArray).data.toList):=
 rcomp_of ⟨#[97]⟩ (by decide) (fun R n W m q A code=>rways_a n W m q A code) w
end Go.Proofs.YtnphdacibageiaaGreat
