import Derived.Test.YtnphdacibageiaaGreatRunFpApplT
import Derived.Test.YtnphdacibageiaaGreatRunFpFinds
import Derived.Test.YtnphdacibageiaaGreatRunPrWalk
import Derived.Test.YtnphdacibageiaaGreatRunRfRow
import Derived.Test.YtnphdacibageiaaGreatRunFpLawA
import Derived.Test.YtnphdacibageiaaGreatRunFxBase
import Derived.Test.YtnphdacibageiaaGreatRows
import Derived.ProofKit
import Derived.Lib.SmallJoins
import Derived.Deep.SlicePairs
import Derived.Carry
import Derived.ShutString
import Derived.Deep.Slices
set_option linter.all false
set_option maxRecDepth 1000000
set_option maxHeartbeats 12800000
namespace Go.Proofs.YtnphdacibageiaaGreat
open Go.RowKit
def CmpR (s:ByteArray):Prop:=∀w:World,Calls Tryz.prog 63 #[.string s] w (RetC w s.data.toList)
theorem found_err (nt:Bool) (text:ByteArray) (A:Option Addr) (c:Nat) (L:List Sq) (w:World) (ht:text.size≤500) (hC:CmpR text) (hn4:∀x∈L,x.s.name.size≤4096) (h20:L.length≤20) (hr:Rl w A L) (E:Int) (hE:errX text.data.toList=E) (hne:(E != 0)=true) :
  Calls Tryz.prog 31 #[.bool nt, .string text, .slice A L.length c] w (RetTk E [] w):=by
 obtain ⟨i0,hi0,hz0,hz1,hz2⟩:=info_parts info_ser
 have HCO:=Lib.hid (hC w)
 have HSZ:=Lib.hid (code_sizes (l:=text.data.toList) (by simpa using ht))
 have HN:=Lib.hid hn4
 have h20i:(L.length:Int)≤20:=by omega
 have HE:=Lib.hid hE
 clear ht hC hn4 hE
 go_enter Tryz.func31,Tryz.ntmps31
 go_wp2_with fail
 refine HCO.out.mono ?_;rintro e wE ⟨AE,cE,rfl,hRE,gE, -⟩
 have hrE:=hr.gr gE
 clear HCO hr
 rw[HE.out]
 clear hrE
 go_wp2
 go_ret2
 exact ⟨none,0,rfl,Rd.nil _ _ _,Gr.alloc gE _⟩
theorem found_ok_false (text:ByteArray) (A:Option Addr) (c:Nat) (L:List Sq) (w:World) (ht:text.size≤500) (hC:CmpR text) (hn4:∀x∈L,x.s.name.size≤4096) (h20:L.length≤20) (hr:Rl w A L) (P:List Sq) (hP:P=L.filter (fun x:Sq=>isC (codeY text.data.toList) x.s.name.data.toList != false)) (hE:errX text.data.toList=0) :
  Calls Tryz.prog 31 #[.bool false, .string text, .slice A L.length c] w (RetTk 0 P w):=by
 obtain ⟨i0,hi0,hz0,hz1,hz2⟩:=info_parts info_ser
 have HCO:=Lib.hid (hC w)
 have HSZ:=Lib.hid (code_sizes (l:=text.data.toList) (by simpa using ht))
 have HN:=Lib.hid hn4
 have h20i:(L.length:Int)≤20:=by omega
 have HE:=Lib.hid hE
 have HP:=Lib.hid hP
 clear ht hC hn4 hE hP
 go_enter Tryz.func31,Tryz.ntmps31
 go_wp2_with fail
 refine HCO.out.mono ?_;rintro e wE ⟨AE,cE,rfl,hRE,gE, -⟩
 have hrE:=hr.gr gE
 clear HCO hr
 rw[HE.out]
 obtain ⟨Gx,hGx⟩:∃Gx,Gx=grpX text.data.toList:=⟨_,rfl⟩
 obtain ⟨cx,hcx⟩:∃cx,cx=codeY text.data.toList:=⟨_,rfl⟩
 rw[←hGx,←hcx]
 rw[←hcx] at hRE
 obtain ⟨nx,hnx⟩:∃nx,nx=cx.length:=⟨_,rfl⟩
 rw[←hnx]
 obtain ⟨wF,hwF⟩:∃wF,wF=wE.alloc (.cells #[.int .i64 Gx, .slice AE nx cE] 99):=⟨_,rfl⟩
 have gF:Gr wE wF:=by rw[hwF];exact Gr.alloc (Gr.refl wE) _
 have p0:wF.cell? ⟨wE.heap.size,0,none⟩=some (.int .i64 Gx):=by rw[hwF];go_simp
 have p1:wF.cell? ⟨wE.heap.size,1,none⟩=some (.slice AE nx cE):=by rw[hwF];go_simp
 have hzF:wE.heap.size<wF.heap.size:=by rw[hwF];simp
 have HI:=Lib.hid (fun (x:Sq) (hx:x∈L) W (hW:Gr wF W)=>rpis_any Gx nx cE AE cx x.s.name hnx (by rw[hnx,hcx];exact HSZ.out.1) (by rw[hGx];exact HSZ.out.2.1) (by have:=HN.out x hx;omega) (by rw[hcx];exact HSZ.out.2.2) W ((hRE.gr gF).gr hW))
 have HR:=Lib.hid (hrE.gr gF)
 have GF:=Lib.hid (gE.trans gF)
 have HwF:=Lib.hid hwF
 obtain ⟨fb,hfb⟩:∃fb:Sq→Bool,fb=fun x=>isC cx x.s.name.data.toList:=⟨_,rfl⟩
 have HFB:=Lib.hid hfb
 have HI:Hid (∀x∈L,∀W,Gr wF W→Calls Tryz.prog 64 #[.agg #[.int .i64 Gx, .slice AE nx cE], .string x.s.name] W (fun e w'=>e= .returned (.bool (fb x))∧Gr W w')):=Lib.hid (by
  intro x hx W hW
  rw[hfb]
  exact HI.out x hx W hW)
 have HP2:Hid (P=L.filter fun x=>fb x != false):=Lib.hid (by rw[HP.out,hfb,hcx])
 have hBp:=hzF
 clear hGx hcx hnx hfb hwF
 go_upto_region 4 with (fail)
 rw[←HwF.out]
 generalize wE.heap.size=Bp at p0 p1 hzF ⊢
 clear HwF gF hrE hRE hBp gE
 go_wp2
 go_loopw [10,11] (fun v i wr=>∃(j:Nat) (M:List Sq),j≤L.length∧i= .int .i64 j∧Gr wF wr∧wr.ownsRow wF.heap.size 34 5 v M.length (scells M)∧M.length≤j∧Hid (M=(L.take j).filter fun x=>fb x != false)) (fun _ i _=>L.length-(intOf i).toNat)
 case atStart=>exact ⟨0,[],Nat.zero_le _,rfl,Gr.refl _,World.ownsRow_nil _ _ _ _,Nat.le_refl _,Lib.hid rfl⟩
 case round=>
  obtain ⟨j,M,hj,rfl,hgr,hown,hMj,HM⟩:=hrel
  by_cases hlt:j<L.length
  ·
   obtain ⟨x,hx⟩:∃x,L[j]=x:=⟨_,rfl⟩
   obtain ⟨ad,rfl,hb,hx0,hx1,hx2,hx3,hx4⟩:=((HR.out).gr hgr).at hlt
   rw[hx] at hx0 hx1 hx2 hx3 hx4
   have HX:Hid (∀W,Gr wr W→W.cell? (ad.add (j*5))=some (.string x.s.name)∧W.cell? ⟨(ad.add (j*5)).block,(ad.add (j*5)).off+1,none⟩=some (.int .i64 x.s.start)∧W.cell? ⟨(ad.add (j*5)).block,(ad.add (j*5)).off+2,none⟩=some (.int .i64 x.s.step)∧W.cell? ⟨(ad.add (j*5)).block,(ad.add (j*5)).off+3,none⟩=some (.slice x.A x.s.vals.length x.c)∧W.cell? ⟨(ad.add (j*5)).block,(ad.add (j*5)).off+4,none⟩=some (.int .i64 x.s.cons)∧W.cell? ⟨Bp,0,none⟩=some (.int .i64 Gx)∧W.cell? ⟨Bp,1,none⟩=some (.slice AE nx cE)):=Lib.hid (fun W hW=>⟨(hW.cell (p:=ad.add (j*5)) (by rw[add_blk];exact hb)).trans hx0,(hW.cell (p:=⟨(ad.add (j*5)).block,(ad.add (j*5)).off+1,none⟩) (by show (ad.add (j*5)).block<_;rw[add_blk];exact hb)).trans hx1,(hW.cell (p:=⟨(ad.add (j*5)).block,(ad.add (j*5)).off+2,none⟩) (by show (ad.add (j*5)).block<_;rw[add_blk];exact hb)).trans hx2,(hW.cell (p:=⟨(ad.add (j*5)).block,(ad.add (j*5)).off+3,none⟩) (by show (ad.add (j*5)).block<_;rw[add_blk];exact hb)).trans hx3,(hW.cell (p:=⟨(ad.add (j*5)).block,(ad.add (j*5)).off+4,none⟩) (by show (ad.add (j*5)).block<_;rw[add_blk];exact hb)).trans hx4,(Below.cell (hgr.trans hW) (p:=⟨Bp,0,none⟩) hzF).trans p0,(Below.cell (hgr.trans hW) (p:=⟨Bp,1,none⟩) hzF).trans p1⟩)
   have hIX:=fun W (hW:Gr wr W)=>HI.out x (by rw[←hx];exact List.getElem_mem hlt) W (hgr.trans hW)
   have hT:(L.take (j+1)).filter (fun x=>fb x != false)=M++[x].filter (fun x=>fb x != false):=by rw[List.take_succ_eq_append_getElem hlt,List.filter_append,HM.out,hx]
   obtain ⟨b,hbb⟩:∃b,fb x=b:=⟨_,rfl⟩
   have hT2:(L.take (j+1)).filter (fun x=>fb x != false)=if (b != false)=true then M++[x] else M:=by
    rw[hT,List.filter_cons,hbb]
    cases (b != false)<;>simp
   rw[hbb] at hIX
   have HIX:=Lib.hid hIX
   have HT:=Lib.hid hT2
   clear hx HM hx0 hx1 hx2 hx3 hx4 hIX hT hT2 hbb
   go_upto_region 8 with (fail)
   refine region_Q (by kernel_rfl) (by kernel_rfl) ?_
   refine q_val (v:=?qv52) (by rfl) (fun W hW=>?qh52) ?qr52
   case qh52=>obtain ⟨x0,x1,x2,x3,x4,k0,k1⟩:=HX.out W hW;go_simp;rfl
   simp only[Pu]
   iterate 4 (refine qv ?_;simp only[Pu])
   refine q_val (v:=?qv57) (by rfl) (fun W hW=>?qh57) ?qr57
   case qh57=>obtain ⟨x0,x1,x2,x3,x4,k0,k1⟩:=HX.out W hW;go_simp;rfl
   simp only[Pu]
   refine q_call (v:= .bool b) (f:=?qf58) (args:=?qa58) (by rfl) (fun W hW=>?qh58) (fun W hW=>?qc58) ?qr58
   case qh58=>go_simp;constructor<;>rfl
   case qc58=>exact (HIX.out W hW).mono (fun e w' h=>⟨h.1,Gr.trans hW h.2⟩)
   simp only[Pu]
   iterate 2 (refine qv ?_;simp only[Pu])
   refine wpQuiet_nil ?_
   intro w5 hg5
   have gw5:=Gr.trans hgr hg5
   have hown5:=own_gr hown hg5
   obtain ⟨x0,x1,x2,x3,x4,_,_⟩:=HX.out _ hg5
   have hb5:ad.block<w5.heap.size:=Nat.lt_of_lt_of_le hb hg5.size
   clear HX HIX hg5 hown
   cases b
   ·
    have HT2:Hid (M=(L.take (j+1)).filter fun x=>fb x != false):=Lib.hid (by rw[HT.out];rfl)
    clear x0 x1 x2 x3 x4 HT
    go_wp2
    go_roundw
    case rel=>exact ⟨j+1,M,by omega,by go_num,gw5,hown5,by omega,HT2⟩
    case measure=>simp[intOf];omega
   ·
    have HT2:Hid (M++[x]=(L.take (j+1)).filter fun x=>fb x != false):=Lib.hid (by rw[HT.out];rfl)
    have hrx:=Rl.new (W:=w5) rfl 34 [x]
    have hv0:=hown5.alloc (.cells (scells [x]).toArray 34)
    have hvl:=hown5.lt
    have z5:=gw5.size
    clear HT
    go_wp2_with
     (
      at_builtin
      refine wpList_append_rd rfl (.tmp 35) (.tmp 40) 22 rfl wF.heap.size 34 i0 _ 5 64 Tryz.underlying22 hi0 hz0 hz1 hz2 rfl (by decide) _ M.length _ rfl hv0 (some ⟨w5.heap.size,0,none⟩) 1 _ (scells [x]) rfl hrx (scells_one _) (by unfold maxLen;omega) (by omega) (by simp;omega) ?_
      intro v' w7 hown7 hgr7 hat7)
    have hg7:Gr wF w7:=Gr.grown (Gr.alloc gw5 _) hgr7 (fun i hi=>(hvl i hi).1)
    have hown8:w7.ownsRow wF.heap.size 34 5 v' (M++[x]).length (scells (M++[x])):=by rw[scells_append,List.length_append];exact hown7
    clear hv0 hvl hgr7 hat7 hrx hown5 hown7 x0 x1 x2 x3 x4
    go_roundw
    case rel=>exact ⟨j+1,M++[x],by omega,by go_num,hg7,hown8,by simp;omega,HT2⟩
    case measure=>simp[intOf];omega
  ·
   have hkk:j=L.length:=by omega
   subst hkk
   obtain ⟨A',c',hvv⟩:=own_form hown
   subst hvv
   have hRl:Rl wr A' M:=Rd.own hown
   have HM2:Hid (M=L.filter fun x=>fb x != false):=Lib.hid (by rw[HM.out,List.take_length])
   clear HM hown
   go_wp2
   go_ret2
   exact ⟨A',c',ret_tup (congrArg List.length (HM2.out.trans HP2.out.symm)),by rw[HP2.out,←HM2.out];exact hRl,GF.out.trans hgr⟩
theorem found_ok_true (text:ByteArray) (A:Option Addr) (c:Nat) (L:List Sq) (w:World) (ht:text.size≤500) (hC:CmpR text) (hn4:∀x∈L,x.s.name.size≤4096) (h20:L.length≤20) (hr:Rl w A L) (P:List Sq) (hP:P=L.filter (fun x:Sq=>isC (codeY text.data.toList) x.s.name.data.toList != true)) (hE:errX text.data.toList=0) :
  Calls Tryz.prog 31 #[.bool true, .string text, .slice A L.length c] w (RetTk 0 P w):=by
 obtain ⟨i0,hi0,hz0,hz1,hz2⟩:=info_parts info_ser
 have HCO:=Lib.hid (hC w)
 have HSZ:=Lib.hid (code_sizes (l:=text.data.toList) (by simpa using ht))
 have HN:=Lib.hid hn4
 have h20i:(L.length:Int)≤20:=by omega
 have HE:=Lib.hid hE
 have HP:=Lib.hid hP
 clear ht hC hn4 hE hP
 go_enter Tryz.func31,Tryz.ntmps31
 go_wp2_with fail
 refine HCO.out.mono ?_;rintro e wE ⟨AE,cE,rfl,hRE,gE, -⟩
 have hrE:=hr.gr gE
 clear HCO hr
 rw[HE.out]
 obtain ⟨Gx,hGx⟩:∃Gx,Gx=grpX text.data.toList:=⟨_,rfl⟩
 obtain ⟨cx,hcx⟩:∃cx,cx=codeY text.data.toList:=⟨_,rfl⟩
 rw[←hGx,←hcx]
 rw[←hcx] at hRE
 obtain ⟨nx,hnx⟩:∃nx,nx=cx.length:=⟨_,rfl⟩
 rw[←hnx]
 obtain ⟨wF,hwF⟩:∃wF,wF=wE.alloc (.cells #[.int .i64 Gx, .slice AE nx cE] 99):=⟨_,rfl⟩
 have gF:Gr wE wF:=by rw[hwF];exact Gr.alloc (Gr.refl wE) _
 have p0:wF.cell? ⟨wE.heap.size,0,none⟩=some (.int .i64 Gx):=by rw[hwF];go_simp
 have p1:wF.cell? ⟨wE.heap.size,1,none⟩=some (.slice AE nx cE):=by rw[hwF];go_simp
 have hzF:wE.heap.size<wF.heap.size:=by rw[hwF];simp
 have HI:=Lib.hid (fun (x:Sq) (hx:x∈L) W (hW:Gr wF W)=>rpis_any Gx nx cE AE cx x.s.name hnx (by rw[hnx,hcx];exact HSZ.out.1) (by rw[hGx];exact HSZ.out.2.1) (by have:=HN.out x hx;omega) (by rw[hcx];exact HSZ.out.2.2) W ((hRE.gr gF).gr hW))
 have HR:=Lib.hid (hrE.gr gF)
 have GF:=Lib.hid (gE.trans gF)
 have HwF:=Lib.hid hwF
 obtain ⟨fb,hfb⟩:∃fb:Sq→Bool,fb=fun x=>isC cx x.s.name.data.toList:=⟨_,rfl⟩
 have HFB:=Lib.hid hfb
 have HI:Hid (∀x∈L,∀W,Gr wF W→Calls Tryz.prog 64 #[.agg #[.int .i64 Gx, .slice AE nx cE], .string x.s.name] W (fun e w'=>e= .returned (.bool (fb x))∧Gr W w')):=Lib.hid (by
  intro x hx W hW
  rw[hfb]
  exact HI.out x hx W hW)
 have HP2:Hid (P=L.filter fun x=>fb x != true):=Lib.hid (by rw[HP.out,hfb,hcx])
 have hBp:=hzF
 clear hGx hcx hnx hfb hwF
 go_upto_region 4 with (fail)
 rw[←HwF.out]
 generalize wE.heap.size=Bp at p0 p1 hzF ⊢
 clear HwF gF hrE hRE hBp gE
 go_wp2
 go_loopw [10,11] (fun v i wr=>∃(j:Nat) (M:List Sq),j≤L.length∧i= .int .i64 j∧Gr wF wr∧wr.ownsRow wF.heap.size 34 5 v M.length (scells M)∧M.length≤j∧Hid (M=(L.take j).filter fun x=>fb x != true)) (fun _ i _=>L.length-(intOf i).toNat)
 case atStart=>exact ⟨0,[],Nat.zero_le _,rfl,Gr.refl _,World.ownsRow_nil _ _ _ _,Nat.le_refl _,Lib.hid rfl⟩
 case round=>
  obtain ⟨j,M,hj,rfl,hgr,hown,hMj,HM⟩:=hrel
  by_cases hlt:j<L.length
  ·
   obtain ⟨x,hx⟩:∃x,L[j]=x:=⟨_,rfl⟩
   obtain ⟨ad,rfl,hb,hx0,hx1,hx2,hx3,hx4⟩:=((HR.out).gr hgr).at hlt
   rw[hx] at hx0 hx1 hx2 hx3 hx4
   have HX:Hid (∀W,Gr wr W→W.cell? (ad.add (j*5))=some (.string x.s.name)∧W.cell? ⟨(ad.add (j*5)).block,(ad.add (j*5)).off+1,none⟩=some (.int .i64 x.s.start)∧W.cell? ⟨(ad.add (j*5)).block,(ad.add (j*5)).off+2,none⟩=some (.int .i64 x.s.step)∧W.cell? ⟨(ad.add (j*5)).block,(ad.add (j*5)).off+3,none⟩=some (.slice x.A x.s.vals.length x.c)∧W.cell? ⟨(ad.add (j*5)).block,(ad.add (j*5)).off+4,none⟩=some (.int .i64 x.s.cons)∧W.cell? ⟨Bp,0,none⟩=some (.int .i64 Gx)∧W.cell? ⟨Bp,1,none⟩=some (.slice AE nx cE)):=Lib.hid (fun W hW=>⟨(hW.cell (p:=ad.add (j*5)) (by rw[add_blk];exact hb)).trans hx0,(hW.cell (p:=⟨(ad.add (j*5)).block,(ad.add (j*5)).off+1,none⟩) (by show (ad.add (j*5)).block<_;rw[add_blk];exact hb)).trans hx1,(hW.cell (p:=⟨(ad.add (j*5)).block,(ad.add (j*5)).off+2,none⟩) (by show (ad.add (j*5)).block<_;rw[add_blk];exact hb)).trans hx2,(hW.cell (p:=⟨(ad.add (j*5)).block,(ad.add (j*5)).off+3,none⟩) (by show (ad.add (j*5)).block<_;rw[add_blk];exact hb)).trans hx3,(hW.cell (p:=⟨(ad.add (j*5)).block,(ad.add (j*5)).off+4,none⟩) (by show (ad.add (j*5)).block<_;rw[add_blk];exact hb)).trans hx4,(Below.cell (hgr.trans hW) (p:=⟨Bp,0,none⟩) hzF).trans p0,(Below.cell (hgr.trans hW) (p:=⟨Bp,1,none⟩) hzF).trans p1⟩)
   have hIX:=fun W (hW:Gr wr W)=>HI.out x (by rw[←hx];exact List.getElem_mem hlt) W (hgr.trans hW)
   have hT:(L.take (j+1)).filter (fun x=>fb x != true)=M++[x].filter (fun x=>fb x != true):=by rw[List.take_succ_eq_append_getElem hlt,List.filter_append,HM.out,hx]
   obtain ⟨b,hbb⟩:∃b,fb x=b:=⟨_,rfl⟩
   have hT2:(L.take (j+1)).filter (fun x=>fb x != true)=if (b != true)=true then M++[x] else M:=by
    rw[hT,List.filter_cons,hbb]
    cases (b != true)<;>simp
   rw[hbb] at hIX
   have HIX:=Lib.hid hIX
   have HT:=Lib.hid hT2
   clear hx HM hx0 hx1 hx2 hx3 hx4 hIX hT hT2 hbb
   go_upto_region 8 with (fail)
   refine region_Q (by kernel_rfl) (by kernel_rfl) ?_
   refine q_val (v:=?qv52) (by rfl) (fun W hW=>?qh52) ?qr52
   case qh52=>obtain ⟨x0,x1,x2,x3,x4,k0,k1⟩:=HX.out W hW;go_simp;rfl
   simp only[Pu]
   iterate 4 (refine qv ?_;simp only[Pu])
   refine q_val (v:=?qv57) (by rfl) (fun W hW=>?qh57) ?qr57
   case qh57=>obtain ⟨x0,x1,x2,x3,x4,k0,k1⟩:=HX.out W hW;go_simp;rfl
   simp only[Pu]
   refine q_call (v:= .bool b) (f:=?qf58) (args:=?qa58) (by rfl) (fun W hW=>?qh58) (fun W hW=>?qc58) ?qr58
   case qh58=>go_simp;constructor<;>rfl
   case qc58=>exact (HIX.out W hW).mono (fun e w' h=>⟨h.1,Gr.trans hW h.2⟩)
   simp only[Pu]
   iterate 2 (refine qv ?_;simp only[Pu])
   refine wpQuiet_nil ?_
   intro w5 hg5
   have gw5:=Gr.trans hgr hg5
   have hown5:=own_gr hown hg5
   obtain ⟨x0,x1,x2,x3,x4,_,_⟩:=HX.out _ hg5
   have hb5:ad.block<w5.heap.size:=Nat.lt_of_lt_of_le hb hg5.size
   clear HX HIX hg5 hown
   cases b
   ·
    have HT2:Hid (M++[x]=(L.take (j+1)).filter fun x=>fb x != true):=Lib.hid (by rw[HT.out];rfl)
    have hrx:=Rl.new (W:=w5) rfl 34 [x]
    have hv0:=hown5.alloc (.cells (scells [x]).toArray 34)
    have hvl:=hown5.lt
    have z5:=gw5.size
    clear HT
    go_wp2_with
     (
      at_builtin
      refine wpList_append_rd rfl (.tmp 35) (.tmp 40) 22 rfl wF.heap.size 34 i0 _ 5 64 Tryz.underlying22 hi0 hz0 hz1 hz2 rfl (by decide) _ M.length _ rfl hv0 (some ⟨w5.heap.size,0,none⟩) 1 _ (scells [x]) rfl hrx (scells_one _) (by unfold maxLen;omega) (by omega) (by simp;omega) ?_
      intro v' w7 hown7 hgr7 hat7)
    have hg7:Gr wF w7:=Gr.grown (Gr.alloc gw5 _) hgr7 (fun i hi=>(hvl i hi).1)
    have hown8:w7.ownsRow wF.heap.size 34 5 v' (M++[x]).length (scells (M++[x])):=by rw[scells_append,List.length_append];exact hown7
    clear hv0 hvl hgr7 hat7 hrx hown5 hown7 x0 x1 x2 x3 x4
    go_roundw
    case rel=>exact ⟨j+1,M++[x],by omega,by go_num,hg7,hown8,by simp;omega,HT2⟩
    case measure=>simp[intOf];omega
   ·
    have HT2:Hid (M=(L.take (j+1)).filter fun x=>fb x != true):=Lib.hid (by rw[HT.out];rfl)
    clear x0 x1 x2 x3 x4 HT
    go_wp2
    go_roundw
    case rel=>exact ⟨j+1,M,by omega,by go_num,gw5,hown5,by omega,HT2⟩
    case measure=>simp[intOf];omega
  ·
   have hkk:j=L.length:=by omega
   subst hkk
   obtain ⟨A',c',hvv⟩:=own_form hown
   subst hvv
   have hRl:Rl wr A' M:=Rd.own hown
   have HM2:Hid (M=L.filter fun x=>fb x != true):=Lib.hid (by rw[HM.out,List.take_length])
   clear HM hown
   go_wp2
   go_ret2
   exact ⟨A',c',ret_tup (congrArg List.length (HM2.out.trans HP2.out.symm)),by rw[HP2.out,←HM2.out];exact hRl,GF.out.trans hgr⟩
theorem found_any (nt:Bool) (text:ByteArray) (A:Option Addr) (c:Nat) (L:List Sq) (w:World) (ht:text.size≤500) (hC:CmpR text) (hn4:∀x∈L,x.s.name.size≤4096) (h20:L.length≤20) (hr:Rl w A L) :
  Calls Tryz.prog 31 #[.bool nt, .string text, .slice A L.length c] w (RetTk (errX text.data.toList) (bif errX text.data.toList==0 then L.filter (fun x:Sq=>isC (codeY text.data.toList) x.s.name.data.toList != nt) else []) w):=by
 by_cases he:errX text.data.toList=0
 ·
  rw[he]
  cases nt
  ·
   exact found_ok_false text A c L w ht hC hn4 h20 hr _ rfl he
  ·
   exact found_ok_true text A c L w ht hC hn4 h20 hr _ rfl he
 ·
  rw[beq_eq_false_iff_ne.2 he]
  exact found_err nt text A c L w ht hC hn4 h20 hr _ rfl (by simpa [bne] using he)
theorem rapply_grep (nm text:ByteArray) (k:Vl) (A:Option Addr) (c:Nat) (L:List Sq) (w:World) (e0:(nm.toList==[103,114,101,112])=true) (e1:(nm.toList==[101,120,99,108,117,100,101])=false) (hf:(findF nm).isSome=true) (hok:okL L=true) (ht:text.size≤500) (hC:CmpR text) (hn4:∀x∈L,x.s.name.size≤4096) (h20:L.length≤20) (hle:∀x∈L,x.s.vals.length≤1000000) (hr:Rl w A L) (hv:Lie w L) :
  Calls Tryz.prog 12 #[.string nm, .agg #[.bool k.ok, .int .i64 k.n], .string text, .slice A L.length c] w (RetTk (errX text.data.toList) (bif errX text.data.toList==0 then L.filter (fun x:Sq=>isC (codeY text.data.toList) x.s.name.data.toList != false) else []) w):=by
 have HFO:=Lib.hid (fun W (hW:Gr w W)=>found_any false text A c L W ht hC hn4 h20 (hr.gr hW))
 clear ht hC hn4
 generalize (bif errX text.data.toList==0 then L.filter (fun x:Sq=>isC (codeY text.data.toList) x.s.name.data.toList != false) else [])=P at HFO ⊢
 generalize errX text.data.toList=E at HFO ⊢
 have QK:=fun w=>knows_any nm w
 simp only[hf] at QK
 have HOK:Hid (∀x∈L,isS x.s=true):=Lib.hid (fun x hx=>List.all_eq_true.1 hok x hx)
 have HLE:=Lib.hid hle
 have gb:Gr w (w.alloc (.cells #[.bool k.ok, .int .i64 k.n] 25)):=Gr.alloc (Gr.refl _) _
 have hVA:VAt (w.alloc (.cells #[.bool k.ok, .int .i64 k.n] 25)) w.heap.size k:=by
  refine ⟨?_,?_,?_⟩
  all_goals first|(go_simp;done)|(simp;done)
 have h20':(L.length:Int)≤20:=by omega
 clear hok hle hf
 go_enter Tryz.func12,Tryz.ntmps12
 go_wp2_with fail
 refine (QK _).mono ?_;rintro e w1 ⟨rfl,hg1⟩
 have gw1:=Gr.trans gb hg1
 have hVA1:=hVA.gr hg1
 clear QK gb hVA hg1
 go_wp2
 go_loopw [10] (fun i wr=>∃j:Nat,j≤L.length∧i= .int .i64 j∧Gr w wr∧VAt wr w.heap.size k) (fun i _=>L.length-(intOf i).toNat)
 case atStart=>exact ⟨0,Nat.zero_le _,rfl,gw1,hVA1⟩
 case round=>
  obtain ⟨j,hj,rfl,hgr,hVA⟩:=hrel
  by_cases hlt:j<L.length
  ·
   obtain ⟨x,hx⟩:∃x,L[j]=x:=⟨_,rfl⟩
   obtain ⟨ad,rfl,hb,hx0,hx1,hx2,hx3,hx4⟩:=(hr.gr hgr).at hlt
   have hsx:=HOK.out _ (List.getElem_mem hlt)
   have hvx:=(hv _ (List.getElem_mem hlt)).gr hgr
   rw[hx] at hx0 hx1 hx2 hx3 hx4 hsx hvx
   have QI:=fun w hr=>rsis_any x.s x.A x.c w hr
   simp only[hsx] at QI
   clear hx hsx
   go_wp2_with fail
   refine (QI _ hvx).mono ?_;rintro e w5 ⟨rfl,hg⟩
   have gw5:=Gr.trans hgr hg
   have hVA5:=hVA.gr hg
   clear hx0 hx1 hx2 hx3 hx4 hg
   go_wp2
   go_roundw
   case rel=>exact ⟨j+1,by omega,by go_num,gw5,hVA5⟩
   case measure=>simp[intOf];omega
  have hkk:j=L.length:=by omega
  subst hkk
  clear gw1 hVA1
  go_wp2_with fail
  refine (HFO.out _ hgr).mono ?_;rintro e w5 ⟨A5,c5,rfl,hr5,hg5⟩
  go_wp2
  go_ret2
  exact ⟨A5,c5,rfl,hr5,Gr.trans hgr hg5⟩
theorem rapply_exc (nm text:ByteArray) (k:Vl) (A:Option Addr) (c:Nat) (L:List Sq) (w:World) (e0:(nm.toList==[103,114,101,112])=false) (e1:(nm.toList==[101,120,99,108,117,100,101])=true) (hf:(findF nm).isSome=true) (hok:okL L=true) (ht:text.size≤500) (hC:CmpR text) (hn4:∀x∈L,x.s.name.size≤4096) (h20:L.length≤20) (hle:∀x∈L,x.s.vals.length≤1000000) (hr:Rl w A L) (hv:Lie w L) :
  Calls Tryz.prog 12 #[.string nm, .agg #[.bool k.ok, .int .i64 k.n], .string text, .slice A L.length c] w (RetTk (errX text.data.toList) (bif errX text.data.toList==0 then L.filter (fun x:Sq=>isC (codeY text.data.toList) x.s.name.data.toList != true) else []) w):=by
 have HFO:=Lib.hid (fun W (hW:Gr w W)=>found_any true text A c L W ht hC hn4 h20 (hr.gr hW))
 clear ht hC hn4
 generalize (bif errX text.data.toList==0 then L.filter (fun x:Sq=>isC (codeY text.data.toList) x.s.name.data.toList != true) else [])=P at HFO ⊢
 generalize errX text.data.toList=E at HFO ⊢
 have QK:=fun w=>knows_any nm w
 simp only[hf] at QK
 have HOK:Hid (∀x∈L,isS x.s=true):=Lib.hid (fun x hx=>List.all_eq_true.1 hok x hx)
 have HLE:=Lib.hid hle
 have gb:Gr w (w.alloc (.cells #[.bool k.ok, .int .i64 k.n] 25)):=Gr.alloc (Gr.refl _) _
 have hVA:VAt (w.alloc (.cells #[.bool k.ok, .int .i64 k.n] 25)) w.heap.size k:=by
  refine ⟨?_,?_,?_⟩
  all_goals first|(go_simp;done)|(simp;done)
 have h20':(L.length:Int)≤20:=by omega
 clear hok hle hf
 go_enter Tryz.func12,Tryz.ntmps12
 go_wp2_with fail
 refine (QK _).mono ?_;rintro e w1 ⟨rfl,hg1⟩
 have gw1:=Gr.trans gb hg1
 have hVA1:=hVA.gr hg1
 clear QK gb hVA hg1
 go_wp2
 go_loopw [10] (fun i wr=>∃j:Nat,j≤L.length∧i= .int .i64 j∧Gr w wr∧VAt wr w.heap.size k) (fun i _=>L.length-(intOf i).toNat)
 case atStart=>exact ⟨0,Nat.zero_le _,rfl,gw1,hVA1⟩
 case round=>
  obtain ⟨j,hj,rfl,hgr,hVA⟩:=hrel
  by_cases hlt:j<L.length
  ·
   obtain ⟨x,hx⟩:∃x,L[j]=x:=⟨_,rfl⟩
   obtain ⟨ad,rfl,hb,hx0,hx1,hx2,hx3,hx4⟩:=(hr.gr hgr).at hlt
   have hsx:=HOK.out _ (List.getElem_mem hlt)
   have hvx:=(hv _ (List.getElem_mem hlt)).gr hgr
   rw[hx] at hx0 hx1 hx2 hx3 hx4 hsx hvx
   have QI:=fun w hr=>rsis_any x.s x.A x.c w hr
   simp only[hsx] at QI
   clear hx hsx
   go_wp2_with fail
   refine (QI _ hvx).mono ?_;rintro e w5 ⟨rfl,hg⟩
   have gw5:=Gr.trans hgr hg
   have hVA5:=hVA.gr hg
   clear hx0 hx1 hx2 hx3 hx4 hg
   go_wp2
   go_roundw
   case rel=>exact ⟨j+1,by omega,by go_num,gw5,hVA5⟩
   case measure=>simp[intOf];omega
  have hkk:j=L.length:=by omega
  subst hkk
  clear gw1 hVA1
  go_wp2_with fail
  refine (HFO.out _ hgr).mono ?_;rintro e w5 ⟨A5,c5,rfl,hr5,hg5⟩
  go_wp2
  go_ret2
  exact ⟨A5,c5,rfl,hr5,Gr.trans hgr hg5⟩
theorem filter_ne (text:ByteArray) (nm:ByteArray) (L:List Sq) (nt g:Bool) (hg:(nm.toList==[103,114,101,112])=g) (h:nt= !g):(L.filter fun x:Sq=>isC (codeY text.data.toList) x.s.name.data.toList != nt)=L.filter (grepB nm text):=by
 apply List.filter_congr
 intro x _
 unfold grepB
 rw[hg,h]
 cases isC (codeY text.data.toList) x.s.name.data.toList<;>cases g<;>rfl
def PickY (nm text:ByteArray) (k:Vl):Prop:=∀(A:Option Addr) (c:Nat) (L:List Sq) (w:World),(∀x∈L,x.s.name.size≤4096)→L.length≤20→L.length≤c→(∀x∈L,x.s.vals.length≤1000000)→Rl w A L→Lie w L→
  Calls Tryz.prog 11 #[.string nm, .agg #[.bool k.ok, .int .i64 k.n], .string text, .slice A L.length c] w (RetA (applyTE nm text (L.map Sq.s)) (applyTS nm text k (L.map Sq.s)) w)
def PickZ (nm text:ByteArray) (k:Vl):Prop:=∀(A:Option Addr) (c:Nat) (L:List Sq) (w:World),(∀x∈L,x.s.name.size≤4096)→L.length≤20→L.length≤c→(∀x∈L,x.s.vals.length≤1000000)→Rl w A L→Lie w L→
  Calls Tryz.prog 12 #[.string nm, .agg #[.bool k.ok, .int .i64 k.n], .string text, .slice A L.length c] w fun e w'=>∃(B:Option Addr) (M:List Sq) (d:Nat),e= .returned (.tuple #[.slice B M.length d, .int .i64 (applyTE nm text (L.map Sq.s))])∧M.map Sq.s=applyTS nm text k (L.map Sq.s)∧(∀x∈M,x∈L)∧Rl w' B M∧Gr w w'
def OfYZ (nm:ByteArray) (F:List Vl→Vl):Prop:=∀(s:Sr) (A:Option Addr) (c:Nat) (w:World),s.vals.length≤1000000→Rv w A s.vals→
  Calls Tryz.prog 13 #[.string nm,aggSr s A c] w (RetVl (F s.vals) w)∧Calls Tryz.prog 14 #[.string nm,aggSr s A c] w (RetVl (F s.vals) w)
theorem appliedp_any (nm text:ByteArray) (k:Vl) (F:List Vl→Vl) (hCy:text.size≤500→PickY nm text k) (hCr:text.size≤500→PickZ nm text k) (hOf:OfYZ nm F) (A:Option Addr) (c:Nat) (L:List Sq) (w:World) (hcap:L.length≤c) (hr:Rl w A L) (hv:Lie w L) :
  Calls Tryz.prog 5 #[.string nm, .agg #[.bool k.ok, .int .i64 k.n], .string text, .slice A L.length c] w fun e w'=>e= .returned (.bool true)∧Gr w w':=by
 have HCI:=Lib.hid (And.intro hCy (And.intro hCr hOf))
 clear hCy hCr hOf
 obtain ⟨i0,hi0,hz0,hz1,hz2⟩:=info_parts info_ser
 have gb:Gr w (w.alloc (.cells #[.bool k.ok, .int .i64 k.n] 25)):=Gr.alloc (Gr.refl _) _
 have hVA:VAt (w.alloc (.cells #[.bool k.ok, .int .i64 k.n] 25)) w.heap.size k:=by
  refine ⟨?_,?_,?_⟩
  all_goals first|(go_simp;done)|(simp;done)
 have HH:=Lib.hid (heavy23_any A c L (w.alloc (.cells #[.bool k.ok, .int .i64 k.n] 25)) (hr.gr gb))
 go_enter Tryz.func5,Tryz.ntmps5
 go_wp2_with fail
 refine HH.out.mono ?_
 rintro e w1 ⟨⟨b,rfl,hb⟩,hg1⟩
 have gw1:=Gr.trans gb hg1
 have hVA1:=hVA.gr hg1
 clear HH gb hVA hg1
 cases b
 case true=>
  go_wp2
  go_ret
  exact ⟨rfl,gw1⟩
 obtain ⟨hl20,hLt⟩:=hb rfl
 have HLE:Hid (∀x∈L,x.s.vals.length≤1000000):=Lib.hid (fun x hx=>by have:=(hLt x hx).1;omega)
 have HNM:Hid (∀x∈L,x.s.name.size≤4096):=Lib.hid (fun x hx=>by have:=(hLt x hx).2;omega)
 clear hLt hb
 by_cases h100:(100:Int)<(text.size:Int)
 ·
  go_wp2
  go_ret
  exact ⟨rfl,gw1⟩
 have hl:(L.length:Int)≤20:=by omega
 have HTX:Hid (text.size≤500):=Lib.hid (by omega)
 have HCC:=Lib.hid (And.intro (HCI.out.1 HTX.out) (And.intro (HCI.out.2.1 HTX.out) HCI.out.2.2))
 clear HCI
 go_wp2
 go_loopw [9,10] (fun v i wr=>∃(j:Nat) (M:List Sq),j≤L.length∧i= .int .i64 j∧Gr w wr∧VAt wr w.heap.size k∧wr.ownsRow (w.heap.size+1) 34 5 v j (scells M)∧M.length=j∧Lie wr M∧Apart v.ownBlock M∧Hid (M.map Sq.s=(L.take j).map Sq.s)) (fun _ i _=>L.length-(intOf i).toNat)
 case atStart=>exact ⟨0,[],Nat.zero_le _,rfl,gw1,hVA1,World.ownsRow_nil _ _ _ _,rfl,fun x hx=>absurd hx (by simp),fun x hx=>absurd hx (by simp),Lib.hid rfl⟩
 case round=>
  clear gw1 hVA1
  obtain ⟨j,M,hj,rfl,hgr,hVA,hown,hMl,hLie,hAp,HM⟩:=hrel
  by_cases hlt:j<L.length
  ·
   obtain ⟨x,hx⟩:∃x,L[j]=x:=⟨_,rfl⟩
   obtain ⟨ad,rfl,hb,hx0,hx1,hx2,hx3,hx4⟩:=(hr.gr hgr).at hlt
   have hvx:=(hv _ (List.getElem_mem hlt)).gr hgr
   have hlx:=HLE.out _ (List.getElem_mem hlt)
   rw[hx] at hx0 hx1 hx2 hx3 hx4 hvx hlx
   have QO:=fun w hr=>rown_any x.s x.A x.c w hlx hr
   have HM2:Hid (∀y:Sq,y.s=x.s→(M++[y]).map Sq.s=(L.take (j+1)).map Sq.s):=Lib.hid (fun y hy=>by
    rw[List.take_succ_eq_append_getElem hlt,List.map_append,List.map_append,HM.out,hx]
    simp[hy])
   clear hx hlx HM
   go_wp2_with fail
   refine (QO _ hvx).mono ?_;rintro e' w5 ⟨A5,c5,rfl,hr5,hg5,hnew⟩
   have hown5:=own_gr hown hg5
   have gw5:=Gr.trans hgr hg5
   have hVA5:=hVA.gr hg5
   have hLie5:=hLie.gr hg5
   have hrx:=Rl.new (W:=w5) rfl 34 [⟨x.s,A5,c5⟩]
   have hv0:=hown5.alloc (.cells (scells [⟨x.s,A5,c5⟩]).toArray 34)
   have hvl:=hown5.lt
   have z5:=hVA5.2.2
   have HNW:=Lib.hid (fun (ad:Addr) (h:A5=some ad)=>new_apart hown (ad:=ad) (hnew ad h))
   clear hnew hg5 hx0 hx1 hx2 hx3 hx4
   go_wp2_with
    (
     at_builtin
     go_loud (
     refine wpList_append_rd rfl (.tmp 29) (.tmp 35) 22 rfl (w.heap.size+1) 34 i0 _ 5 64 Tryz.underlying22 hi0 hz0 hz1 hz2 rfl (by decide) _ j _ rfl hv0 (some ⟨w5.heap.size,0,none⟩) 1 _ (scells [⟨x.s,A5,c5⟩]) rfl hrx (scells_one _) (by unfold maxLen;omega) (by omega) (by simp;omega) ?_
     intro v' w7 hown7 hgr7 hat7))
   have hg7:Gr w w7:=Gr.grown (Gr.alloc gw5 _) hgr7 (fun i hi=>by have:=(hvl i hi).1;omega)
   have hVA7:VAt w7 w.heap.size k:=by
    have h:=hVA5.gr (Gr.alloc (Gr.refl w5) (.cells (scells [⟨x.s,A5,c5⟩]).toArray 34))
    have hn:some w.heap.size≠u9.ownBlock:=fun e=>by have:=(hvl _ e.symm).1;omega
    exact ⟨hgr7.cell h.1 hn,hgr7.cell h.2.1 hn,Nat.lt_of_lt_of_le h.2.2 hgr7.size⟩
   have hLie7:Lie w7 (M++[⟨x.s,A5,c5⟩]):=fun y hy=>by
    rcases List.mem_append.1 hy with hy|hy
    ·
     exact Rv.grown ((hLie5 y hy).gr (Gr.alloc (Gr.refl w5) _)) hgr7 (fun hn ad h=>hAp y hy hn ad h)
    ·
     rw[List.mem_singleton.1 hy]
     exact Rv.grown (hr5.gr (Gr.alloc (Gr.refl w5) _)) hgr7 (fun _ ad h=>HNW.out ad h)
   have hAp7:Apart v'.ownBlock (M++[⟨x.s,A5,c5⟩]):=fun y hy hn ad h=>by
    rcases hat7 with e7|e7
    ·
     rw[e7]
     rcases List.mem_append.1 hy with hy|hy
     ·
      exact hAp y hy hn ad h
     ·
      rw[List.mem_singleton.1 hy] at h;exact HNW.out ad h
    ·
     rw[e7]
     intro e8
     injection e8 with e8
     simp at e8
     rcases List.mem_append.1 hy with hy|hy
     ·
      have:=(hLie5 y hy).blk hn h;omega
     ·
      rw[List.mem_singleton.1 hy] at h hn
      have:=hr5.blk hn h;omega
   have hown8:w7.ownsRow (w.heap.size+1) 34 5 v' (j+1) (scells (M++[⟨x.s,A5,c5⟩])):=by rw[scells_append];exact hown7
   have HM3:=Lib.hid (HM2.out ⟨x.s,A5,c5⟩ rfl)
   clear hv0 hvl hgr7 hat7 hrx hown5 hown7 hown hLie hLie5 hAp hr5 HM2
   go_roundw
   case rel=>exact ⟨j+1,M++[⟨x.s,A5,c5⟩],by omega,by go_num,hg7,hVA7,hown8,by simp[hMl],hLie7,hAp7,HM3⟩
   case measure=>simp[intOf];omega
  ·
   have hkk:j=L.length:=by omega
   subst hkk
   obtain ⟨AM,cM,hvv⟩:=own_form hown
   subst hvv
   have hcM:=own_cap hown
   have hRM:Rl wr AM M:=by have h:=Rd.own hown;unfold Rl;rw[hMl];exact h
   have HMS:Hid (M.map Sq.s=L.map Sq.s):=Lib.hid (by rw[HM.out,List.take_length])
   have HMLE:Hid (∀x∈M,x.s.vals.length≤1000000):=Lib.hid (fun x hx=>by
    have h1:x.s∈L.map Sq.s:=by rw[←HMS.out];exact List.mem_map_of_mem hx
    obtain ⟨y,hy,e⟩:=List.mem_map.1 h1
    rw[←e];exact HLE.out y hy)
   have HMNM:Hid (∀x∈M,x.s.name.size≤4096):=Lib.hid (fun x hx=>by
    have h1:x.s∈L.map Sq.s:=by rw[←HMS.out];exact List.mem_map_of_mem hx
    obtain ⟨y,hy,e⟩:=List.mem_map.1 h1
    rw[←e];exact HNM.out y hy)
   clear hown hAp HM
   have hM20:M.length≤20:=by omega
   have hMc:M.length≤cM:=by omega
   have QP:=fun w' (hr':Rl w' AM M) (hv':Lie w' M)=>HCC.out.1 AM cM M w' HMNM.out hM20 hMc HMLE.out hr' hv'
   rw[hMl,HMS.out] at QP
   have QR:=fun w' (hr':Rl w' A L) (hv':Lie w' L)=>HCC.out.2.1 A c L w' HNM.out hl20 hcap HLE.out hr' hv'
   have QAM:=Lib.hid (fun (w':World) (h1:Rl w' AM M) (h2:Rl w' A L) (h3:Lie w' M) (h4:Lie w' L)=>all23_any AM A cM c M L w' (by omega) HMS.out HMLE.out h1 h2 h3 h4)
   rw[hMl] at QAM
   have HSL:Hid (∀t∈applyTS nm text k (L.map Sq.s),t∈L.map Sq.s):=Lib.hid (fun t ht=>by
    unfold applyTS at ht
    split at ht
    ·
     split at ht
     ·
      exact (List.mem_filter.1 ht).1
     ·
      exact pickA_mem id (rowF nm) (normV k) _ t ht
    ·
     cases ht)
   have HSN:Hid ((applyTS nm text k (L.map Sq.s)).length≤L.length):=Lib.hid (by
    unfold applyTS
    split
    ·
     split
     ·
      exact Nat.le_trans (List.length_filter_le _ _) (by simp)
     ·
      exact Nat.le_trans (pickA_len _ _ _ _) (by simp)
    ·
     exact Nat.zero_le _)
   generalize applyTS nm text k (L.map Sq.s)=S at QP QR HSL HSN
   generalize applyTE nm text (L.map Sq.s)=E at QP QR
   obtain ⟨k0,k1,kz⟩:=id hVA
   go_wp2_with fail
   refine (QP _ hRM hLie).mono ?_;rintro e wX ⟨AX,X,cX,rfl,hX,hcX,hRX,hLX,hgX⟩
   have gX:=Gr.trans hgr hgX
   have hVAX:=hVA.gr hgX
   have hRMX:=hRM.gr hgX
   have hLMX:=hLie.gr hgX
   clear k0 k1 kz hVA hRM hLie hgr hgX QP
   obtain ⟨k0,k1,kz⟩:=id hVAX
   go_wp2_with fail
   refine (QR _ (hr.gr gX) (hv.gr gX)).mono ?_;rintro e wY ⟨AY,Y,cY,rfl,hY,hYL,hRY,hgY⟩
   have gY:=Gr.trans gX hgY
   have hRXY:=hRX.gr hgY
   have hLXY:=hLX.gr hgY
   have hRMY:=hRMX.gr hgY
   have hLMY:=hLMX.gr hgY
   have hLY:Lie wY Y:=fun y hy=>(hv y (hYL y hy)).gr gY
   have HYLE:Hid (∀x∈X,x.s.vals.length≤1000000):=Lib.hid (fun x hx=>by
    have h1:x.s∈S:=by rw[←hX];exact List.mem_map_of_mem hx
    obtain ⟨y,hy,e⟩:=List.mem_map.1 (HSL.out _ h1)
    rw[←e];exact HLE.out y hy)
   have HXN:Hid (X.length≤20):=Lib.hid (by have h:=congrArg List.length hX;simp at h;have:=HSN.out;omega)
   have QAX:=Lib.hid (fun (w':World) (h1:Rl w' AX X) (h2:Rl w' AY Y) (h3:Lie w' X) (h4:Lie w' Y)=>all23_any AX AY cX cY X Y w' (by have:=HXN.out;omega) (by rw[hX,hY]) HYLE.out h1 h2 h3 h4)
   clear k0 k1 kz hVAX hRX hLX hRMX hLMX gX hgY hX hY hYL QR hcX
   go_wp2
   go_loopw [15] (fun i wr=>∃j:Nat,j≤L.length∧i= .int .i64 j∧Gr w wr∧Gr wY wr) (fun i _=>L.length-(intOf i).toNat)
   case atStart=>exact ⟨0,Nat.zero_le _,rfl,gY,Gr.refl _⟩
   case round=>
    obtain ⟨j,hj,rfl,hgr,hgY⟩:=hrel
    by_cases hlt:j<L.length
    ·
     obtain ⟨x,hx⟩:∃x,L[j]=x:=⟨_,rfl⟩
     obtain ⟨ad,rfl,hb,hx0,hx1,hx2,hx3,hx4⟩:=(hr.gr hgr).at hlt
     have hvx:=hv _ (List.getElem_mem hlt)
     have hlx:=HLE.out _ (List.getElem_mem hlt)
     rw[hx] at hx0 hx1 hx2 hx3 hx4 hvx hlx
     have HX:Hid (∀W,Gr wr W→W.cell? (ad.add (j*5))=some (.string x.s.name)∧W.cell? ⟨(ad.add (j*5)).block,(ad.add (j*5)).off+1,none⟩=some (.int .i64 x.s.start)∧W.cell? ⟨(ad.add (j*5)).block,(ad.add (j*5)).off+2,none⟩=some (.int .i64 x.s.step)∧W.cell? ⟨(ad.add (j*5)).block,(ad.add (j*5)).off+3,none⟩=some (.slice x.A x.s.vals.length x.c)∧W.cell? ⟨(ad.add (j*5)).block,(ad.add (j*5)).off+4,none⟩=some (.int .i64 x.s.cons)):=Lib.hid (fun W hW=>⟨(hW.cell (p:=ad.add (j*5)) (by rw[add_blk];exact hb)).trans hx0,(hW.cell (p:=⟨(ad.add (j*5)).block,(ad.add (j*5)).off+1,none⟩) (by show (ad.add (j*5)).block<_;rw[add_blk];exact hb)).trans hx1,(hW.cell (p:=⟨(ad.add (j*5)).block,(ad.add (j*5)).off+2,none⟩) (by show (ad.add (j*5)).block<_;rw[add_blk];exact hb)).trans hx2,(hW.cell (p:=⟨(ad.add (j*5)).block,(ad.add (j*5)).off+3,none⟩) (by show (ad.add (j*5)).block<_;rw[add_blk];exact hb)).trans hx3,(hW.cell (p:=⟨(ad.add (j*5)).block,(ad.add (j*5)).off+4,none⟩) (by show (ad.add (j*5)).block<_;rw[add_blk];exact hb)).trans hx4⟩)
     have QF:=fun w hr=>(HCC.out.2.2 x.s x.A x.c w hlx hr).1
     have QR:=fun w hr=>(HCC.out.2.2 x.s x.A x.c w hlx hr).2
     unfold aggSr at QF QR
     generalize F x.s.vals=v at QF QR
     clear hx hx0 hx1 hx2 hx3 hx4
     go_wp2
     refine region_Q (by kernel_rfl) (by kernel_rfl) ?_
     iterate 4 (refine qv ?_;simp only[Pu])
     refine q_val (v:=?qv49) (by rfl) (fun W hW=>?qh49) ?qr49
     case qh49=>obtain ⟨x0,x1,x2,x3,x4⟩:=HX.out W hW;go_simp;rfl
     simp only[Pu]
     refine q_call (v:= .agg #[.bool v.ok, .int .i64 v.n]) (f:=?qf50) (args:=?qa50) (by rfl) (fun W hW=>?qh50) (fun W hW=>?qc50) ?qr50
     case qh50=>go_simp;constructor<;>rfl
     case qc50=>exact (QF W ((hvx.gr hgr).gr hW)).mono (fun e w' h=>⟨h.1,Gr.trans hW h.2⟩)
     simp only[Pu]
     iterate 4 (refine qv ?_;simp only[Pu])
     refine q_val (v:=?qv55) (by rfl) (fun W hW=>?qh55) ?qr55
     case qh55=>obtain ⟨x0,x1,x2,x3,x4⟩:=HX.out W hW;go_simp;rfl
     simp only[Pu]
     refine q_call (v:= .agg #[.bool v.ok, .int .i64 v.n]) (f:=?qf56) (args:=?qa56) (by rfl) (fun W hW=>?qh56) (fun W hW=>?qc56) ?qr56
     case qh56=>go_simp;constructor<;>rfl
     case qc56=>exact (QR W ((hvx.gr hgr).gr hW)).mono (fun e w' h=>⟨h.1,Gr.trans hW h.2⟩)
     simp only[Pu]
     refine qv ?_;simp only[Pu]
     refine wpQuiet_nil ?_
     intro w6 hg6
     have gw6:=Gr.trans hgr hg6
     have gY6:=Gr.trans hgY hg6
     clear HX QF QR hg6
     go_wp2
     go_roundw
     case rel=>exact ⟨j+1,by omega,by go_num,gw6,gY6⟩
     case measure=>simp[intOf];omega
    ·
     have hkk:j=L.length:=by omega
     subst hkk
     go_wp2_with fail
     refine (QAX.out _ (hRXY.gr hgY) (hRY.gr hgY) (hLXY.gr hgY) (hLY.gr hgY)).mono ?_;rintro e wa ⟨rfl,hga⟩
     have gYa:=Gr.trans hgY hga
     have gwa:=Gr.trans hgr hga
     go_wp2_with fail
     refine (QAM.out _ (hRMY.gr gYa) (hr.gr gwa) (hLMY.gr gYa) (hv.gr gwa)).mono ?_;rintro e wb ⟨rfl,hgb⟩
     go_wp2_with fail
     refine (known23_any _).mono ?_;rintro e wd ⟨rfl,hgd⟩
     go_wp2
     go_ret
     exact ⟨rfl,Gr.trans gwa (Gr.trans hgb hgd)⟩
theorem picky_of {nm text:ByteArray} {k:Vl} (hf:(findF nm).isSome=true) (h0:(rowF nm).kind=0) (hC:CmpY text) (ht:text.size≤500):PickY nm text k:=fun A c L w hn h20 hcap hle hr hv=>by
 cases hok:okL L
 ·
  obtain ⟨e1,e2⟩:=applyT_bad (text:=text) (k:=k) hf hok
  rw[e1,e2]
  exact apply_bad nm text k A c L w hf hok h20 hr hv
 ·
  obtain ⟨e1,e2⟩:=applyT_zero (text:=text) (k:=k) hf hok h0
  rw[e1,e2]
  exact finds_any nm text k A c L w hf hok h0 ht hC hn h20 hle hr hv
theorem pickz_of {nm text:ByteArray} {k:Vl} (hf:(findF nm).isSome=true) (h0:(rowF nm).kind=0) (hC:CmpR text) (ht:text.size≤500)
  (hx:((nm.toList==[103,114,101,112])=true∧(nm.toList==[101,120,99,108,117,100,101])=false)∨((nm.toList==[103,114,101,112])=false∧(nm.toList==[101,120,99,108,117,100,101])=true)):PickZ nm text k:=fun A c L w hn h20 hcap hle hr hv=>by
 cases hok:okL L
 ·
  obtain ⟨e1,e2⟩:=applyT_bad (text:=text) (k:=k) hf hok
  rw[e1,e2]
  exact (rapply_bad nm text k A c L w hf hok h20 hr hv).mono (fun e w' ⟨B,d,he,hr,hg⟩=>⟨B,[],d,he,rfl,fun x hx=>absurd hx (by simp),hr,hg⟩)
 ·
  obtain ⟨e1,e2⟩:=applyT_zero (text:=text) (k:=k) hf hok h0
  rw[e1,e2]
  have hsub:∀x∈(bif errX text.data.toList==0 then L.filter (grepB nm text) else []),x∈L:=fun x hx=>by
   cases hc:(errX text.data.toList==0)
   ·
    rw[hc] at hx;cases hx
   ·
    rw[hc] at hx;exact (List.mem_filter.1 hx).1
  rcases hx with ⟨hx,hne⟩|⟨hng,hx⟩
  ·
   have:=rapply_grep nm text k A c L w hx hne hf hok ht hC hn h20 hle hr hv
   rw[filter_ne text nm L false true hx rfl] at this
   exact this.mono (fun e w' ⟨B,d,he,hr,hg⟩=>⟨B,_,d,he,rfl,hsub,hr,hg⟩)
  ·
   have:=rapply_exc nm text k A c L w hng hx hf hok ht hC hn h20 hle hr hv
   rw[filter_ne text nm L true false hng rfl] at this
   exact this.mono (fun e w' ⟨B,d,he,hr,hg⟩=>⟨B,_,d,he,rfl,hsub,hr,hg⟩)
theorem nm_at {nm:ByteArray} {l:List UInt8} {b:Bool} (h:(nm.data.toList==l)=b):(nm.toList==l)=b:=nm_is (r:=⟨nm,0,0,false⟩) rfl h
theorem ofyz_g:OfYZ ⟨#[103,114,101,112]⟩ (fun _=>⟨false,0⟩):=fun s A c w hl hr=>by
 show Calls Tryz.prog 13 #[.string ⟨#[103,114,101,112]⟩,aggSr s A c] w (RetVl ⟨false,0⟩ w)∧Calls Tryz.prog 14 #[.string ⟨#[103,114,101,112]⟩,aggSr s A c] w (RetVl ⟨false,0⟩ w)
 have h:=fof_of ⟨#[103,114,101,112]⟩ s A c w hl hr (ofok_few (.inr (by kernel_rfl)))
 rw[show (rowF ⟨#[103,114,101,112]⟩).by_=0 from by kernel_rfl,show ofR 0 s.vals=⟨false,0⟩ from aggV_none (.inl (by decide)) _] at h
 exact ⟨h,rfof_no ⟨#[103,114,101,112]⟩ s A c w (nm_at rfl) (nm_at rfl) (nm_at rfl) (nm_at rfl) (nm_at rfl) (nm_at rfl) (nm_at rfl) (nm_at rfl) (nm_at rfl) (nm_at rfl) (nm_at rfl) (nm_at rfl) (nm_at rfl) (nm_at rfl) (nm_at rfl) (nm_at rfl) (nm_at rfl)⟩
theorem ofyz_e:OfYZ ⟨#[101,120,99,108,117,100,101]⟩ (fun _=>⟨false,0⟩):=fun s A c w hl hr=>by
 show Calls Tryz.prog 13 #[.string ⟨#[101,120,99,108,117,100,101]⟩,aggSr s A c] w (RetVl ⟨false,0⟩ w)∧Calls Tryz.prog 14 #[.string ⟨#[101,120,99,108,117,100,101]⟩,aggSr s A c] w (RetVl ⟨false,0⟩ w)
 have h:=fof_of ⟨#[101,120,99,108,117,100,101]⟩ s A c w hl hr (ofok_few (.inr (by kernel_rfl)))
 rw[show (rowF ⟨#[101,120,99,108,117,100,101]⟩).by_=0 from by kernel_rfl,show ofR 0 s.vals=⟨false,0⟩ from aggV_none (.inl (by decide)) _] at h
 exact ⟨h,rfof_no ⟨#[101,120,99,108,117,100,101]⟩ s A c w (nm_at rfl) (nm_at rfl) (nm_at rfl) (nm_at rfl) (nm_at rfl) (nm_at rfl) (nm_at rfl) (nm_at rfl) (nm_at rfl) (nm_at rfl) (nm_at rfl) (nm_at rfl) (nm_at rfl) (nm_at rfl) (nm_at rfl) (nm_at rfl) (nm_at rfl)⟩
theorem law_FpickGrep (text:ByteArray) (A:Option Addr) (c:Nat) (L:List Sq) (w:World) (hcap:L.length≤c) (hr:Rl w A L) (hv:Lie w L) :
  Calls Tryz.prog 3 #[.string text, .slice A L.length c] w fun e w'=>e= .returned (.bool true)∧Gr w w':=by
 have Q1:=fun w hr hv=>appliedp_any ⟨#[103,114,101,112]⟩ text ⟨false,0⟩ (fun _=>⟨false,0⟩) (fun ht=>picky_of (by kernel_rfl) (by kernel_rfl) (fun w=>compile_any text ht w) ht) (fun ht=>pickz_of (by kernel_rfl) (by kernel_rfl) (fun w=>rcomp_any text ht w) ht (.inl ⟨nm_at rfl,nm_at rfl⟩)) ofyz_g A c L w hcap hr hv
 have Q2:=fun w hr hv=>appliedp_any ⟨#[101,120,99,108,117,100,101]⟩ text ⟨false,0⟩ (fun _=>⟨false,0⟩) (fun ht=>picky_of (by kernel_rfl) (by kernel_rfl) (fun w=>compile_any text ht w) ht) (fun ht=>pickz_of (by kernel_rfl) (by kernel_rfl) (fun w=>rcomp_any text ht w) ht (.inr ⟨nm_at rfl,nm_at rfl⟩)) ofyz_e A c L w hcap hr hv
 go_enter Tryz.func3,Tryz.ntmps3
 go_wp2_with fail
 refine (Q1 _ hr hv).mono ?_
 rintro e w1 ⟨rfl,g1⟩
 go_wp2_with fail
 refine (Q2 _ (hr.gr g1) (hv.gr g1)).mono ?_
 rintro e w2 ⟨rfl,g2⟩
 go_wp2
 go_ret
 exact ⟨rfl,Gr.trans g1 g2⟩
section
open Go.ChangeShapes Go.WideShapes Go.ChangeAt Go.RowKit Go.Joins
open Go.Deep (open_slice_pairs)
theorem own_knob:ownKnob Tryz.prog.godebug=none:=by kernel_rfl
theorem laid_out:laidOutB Tryz.prog=true:=by kernel_rfl
theorem cells_val:Tryz.prog.cellsOf 25=2:=by kernel_rfl
section
variable {H:Type} {enc:TypeId×Value→H} {w:World} {base:Nat} {spare:Nat→Bool} {held:Bool}
theorem choose_vl {m:Nat} {P:Nat→Vl→Prop} (h:∀i,i<m→∃a,P i a):∃l:List Vl,l.length=m∧∀i (hi:i<l.length),P i l[i]:=by
 induction m with
 | zero=>exact ⟨[],rfl,fun i hi=>absurd hi (by simp)⟩
 | succ m ih=>
  obtain ⟨l,hl,hp⟩:=ih (fun i hi=>h i (by omega))
  obtain ⟨a,ha⟩:=h m (by omega)
  refine ⟨l++[a],by simp[hl],fun i hi=>?_⟩
  by_cases hlt:i<l.length
  ·
   rw[List.getElem_append_left hlt];exact hp i hlt
  ·
   obtain rfl:i=m:=by simp at hi;omega
   simpa [hl] using ha
theorem vflat_at (l:List Vl) (j:Nat) (u:Value) (h:(vcells l)[j]?=some u):∃k,∃hk:k<l.length,(j=k*2∧u= .bool l[k].ok)∨(j=k*2+1∧u= .int .i64 l[k].n):=by
 have hj:j<(vcells l).length:=(List.getElem?_eq_some_iff.1 h).1
 rw[vcells_length] at hj
 have hk:j/2<l.length:=by omega
 obtain ⟨e0,e1⟩:=vcells_at l (j/2) hk
 refine ⟨j/2,hk,?_⟩
 rcases Nat.mod_two_eq_zero_or_one j with hm|hm
 ·
  have ej:j=j/2*2:=by omega
  rw[←ej,h] at e0
  exact .inl ⟨ej,by simpa using e0⟩
 ·
  have ej:j=j/2*2+1:=by omega
  rw[←ej,h] at e1
  exact .inr ⟨ej,by simpa using e1⟩
end
end
section
open Go.ChangeShapes Go.WideShapes Go.ChangeAt Go.RowKit Go.Joins
theorem cells_series:Tryz.prog.cellsOf 34=5:=by kernel_rfl
section
variable {H:Type} {enc:TypeId×Value→H} {w:World} {held:Bool}
def Fine (w:World) (x:Sq):Prop:=x.s.vals.length≤x.c∧Rv w x.A x.s.vals
theorem vals_cs {n:Nat} {cs:List Value} {x:DataW H×List MemPlace} (hf:DataW.trod enc Tryz.prog w 0 (fun _=>true) held n 32 cs=some x) :
  ∃(A:Option Addr) (l:List Vl) (c:Nat),cs=[.slice A l.length c]∧l.length≤c∧Rv w A l:=by
 rcases Go.Deep.open_slice_pairs Tryz.underlying32 Tryz.underlying25 cells_val rfl rfl (by kernel_rfl) (by kernel_rfl) hf with ⟨hcs,_⟩|⟨a,len',cap',m,n,V0,V1,D0,D1,P0,P1,hcs,hb,hl,hm,hmm,hx,hi⟩
 ·
  exact ⟨none,[],0,hcs,Nat.zero_le _,Rv.nil _ _⟩
 ·
  simp at hmm
  subst hmm
  have each:∀i,i<len'→∃x:Vl,(w.cell? (a.add (i*2))=some (.bool x.ok)∧w.cell? (a.add (i*2+1))=some (.int .i64 x.n)):=by
   intro i hi'
   obtain ⟨h0,h1,t0,t1⟩:=hi i (by omega)
   obtain ⟨ok,e0,_⟩:=DataW.trod_bool Tryz.underlying4 t0
   obtain ⟨z,e1,_,wz⟩:=DataW.trod_int Tryz.underlying3 t1
   simp at e0 e1
   rw[e0] at h0
   rw[e1] at h1
   exact ⟨⟨ok,z⟩,h0,h1⟩
  obtain ⟨l,hll,hp⟩:=choose_vl each
  refine ⟨some a,l,_,by rw[hll];exact hcs,by omega,⟨vcells_length l,fun hn=>⟨a,rfl,?_,?_⟩⟩⟩
  ·
   have h0:=(hp 0 hn).1
   rw[Nat.zero_mul] at h0
   exact World.block_lt_of_cell? w _ h0
  ·
   intro j u hu
   obtain ⟨k,hk,⟨rfl,rfl⟩|⟨rfl,rfl⟩⟩:=vflat_at l j u hu
   ·
    exact (hp k hk).1
   ·
    exact (hp k hk).2
theorem series_cs {n:Nat} {cs:List Value} {x:DataW H×List MemPlace} (hf:DataW.trod enc Tryz.prog w 0 (fun _=>true) held n 34 cs=some x) :
  ∃q:Sq,cs=[.string q.s.name, .int .i64 q.s.start, .int .i64 q.s.step, .slice q.A q.s.vals.length q.c, .int .i64 q.s.cons]∧Fine w q:=by
 obtain ⟨xs,k,_,_,hl,hlen,hi⟩:=DataW.trod_struct Tryz.underlying34 hf
 rw[cells_series] at hl
 match cs,hl,xs,hlen with
 | [v0,v1,v2,v3,v4],_,[y0,y1,y2,y3,y4],_=>
  have g0:=hi 0 _ rfl
  have g1:=hi 1 _ rfl
  have g2:=hi 2 _ rfl
  have g3:=hi 3 _ rfl
  have g4:=hi 4 _ rfl
  have k9:Tryz.prog.cellsOf 9=1:=by kernel_rfl
  have k3:Tryz.prog.cellsOf 3=1:=by kernel_rfl
  have k22:Tryz.prog.cellsOf 32=1:=by kernel_rfl
  simp[k9,k3,k22] at g0 g1 g2 g3 g4
  obtain ⟨nm,e0,_,_⟩:=DataW.trod_string Tryz.underlying9 g0
  obtain ⟨st,e1,_,_⟩:=DataW.trod_int Tryz.underlying3 g1
  obtain ⟨sp,e2,_,_⟩:=DataW.trod_int Tryz.underlying3 g2
  obtain ⟨A,l,c,e3,hc,hr⟩:=vals_cs g3
  obtain ⟨cn,e4,_,_⟩:=DataW.trod_int Tryz.underlying3 g4
  simp at e0 e1 e2 e3 e4
  subst e0 e1 e2 e3 e4
  exact ⟨⟨⟨nm,st,sp,l,cn⟩,A,c⟩,rfl,hc,hr⟩
theorem choose_sq {m:Nat} {P:Nat→Sq→Prop} (h:∀i,i<m→∃a,P i a):∃l:List Sq,l.length=m∧∀i (hi:i<l.length),P i l[i]:=by
 induction m with
 | zero=>exact ⟨[],rfl,fun i hi=>absurd hi (by simp)⟩
 | succ m ih=>
  obtain ⟨l,hl,hp⟩:=ih (fun i hi=>h i (by omega))
  obtain ⟨a,ha⟩:=h m (by omega)
  refine ⟨l++[a],by simp[hl],fun i hi=>?_⟩
  by_cases hlt:i<l.length
  ·
   rw[List.getElem_append_left hlt];exact hp i hlt
  ·
   obtain rfl:i=m:=by simp at hi;omega
   simpa [hl] using ha
theorem sflat_at (l:List Sq) (j:Nat) (u:Value) (h:(scells l)[j]?=some u):∃k,∃hk:k<l.length,∃i,i<5∧j=k*5+i∧[Value.string l[k].s.name, .int .i64 l[k].s.start, .int .i64 l[k].s.step, .slice l[k].A l[k].s.vals.length l[k].c, .int .i64 l[k].s.cons][i]?=some u:=by
 have hj:j<(scells l).length:=(List.getElem?_eq_some_iff.1 h).1
 rw[scells_length] at hj
 have hk:j/5<l.length:=by omega
 obtain ⟨s0,s1,s2,s3,s4⟩:=scells_at l (j/5) hk
 refine ⟨j/5,hk,j%5,Nat.mod_lt _ (by decide),by omega,?_⟩
 have hd:j=j/5*5+j%5:=by omega
 rw[←h]
 rcases (show j%5=0∨j%5=1∨j%5=2∨j%5=3∨j%5=4 by omega) with e|e|e|e|e
 all_goals
  rw[e] at hd ⊢
  conv=>rhs;rw[hd]
  first|exact s0.symm|exact s1.symm|exact s2.symm|exact s3.symm|exact s4.symm
theorem open_serieses {r:Reach} {b0:Nat} {v:Value} {d:DataW H} {p:List MemPlace} (hv:Value.okWide Tryz.prog w r b0 22 v)
  (h:DataW.Trod enc Tryz.prog w 0 (fun _=>true) held 22 v d p):∃(A:Option Addr) (L:List Sq) (c:Nat),v= .slice A L.length c∧L.length≤c∧Rl w A L∧∀x∈L,Fine w x:=by
 obtain ⟨a0,len,cap,rfl⟩:=okWide_slice Tryz.underlying22 hv
 obtain ⟨fuel,hf⟩:=h
 rcases Go.Deep.open_slice Tryz.underlying22 hf with ⟨hcs,_⟩|⟨a,len',cap',m,n,D,Pl,hcs,hb,hl,hm,hmm,hx,hi⟩
 ·
  simp[Value.cells] at hcs
  obtain ⟨rfl,rfl,rfl⟩:=hcs
  exact ⟨none,[],0,rfl,Nat.zero_le _,Rd.nil _ _ _,fun x hx=>by simp at hx⟩
 ·
  simp[Value.cells] at hcs
  obtain ⟨rfl,rfl,rfl⟩:=hcs
  simp at hmm
  subst hmm
  have each:∀i,i<len→∃q:Sq,(∀j u,[Value.string q.s.name, .int .i64 q.s.start, .int .i64 q.s.step, .slice q.A q.s.vals.length q.c, .int .i64 q.s.cons][j]?=some u→w.cell? (a.add (i*5+j))=some u)∧Fine w q:=by
   intro i hi'
   obtain ⟨cs',h1,h2⟩:=hi i (by omega)
   rw[cells_series] at h1
   obtain ⟨_,hlen,hcell⟩:=World.cells?_some h1
   obtain ⟨q,hq,hF⟩:=series_cs h2
   refine ⟨q,fun j u hu=>?_,hF⟩
   have hj:j<5:=by have:=(List.getElem?_eq_some_iff.1 hu).1;simpa using this
   have:=hcell j hj
   rw[add_two] at this
   rw[this,hq];exact hu
  obtain ⟨L,hll,hp⟩:=choose_sq each
  refine ⟨some a,L,_,by rw[hll],by omega,⟨scells_length L,fun hn=>⟨a,rfl,?_,?_⟩⟩,?_⟩
  ·
   have h0:=(hp 0 hn).1 0 _ rfl
   have e:(a.add (0*5+0)).block=a.block:=add_blk _ _
   rw[←e]
   exact World.block_lt_of_cell? w _ h0
  ·
   intro j u hu
   obtain ⟨k,hk,i,_,rfl,hu'⟩:=sflat_at L j u hu
   exact (hp k hk).1 i u hu'
  ·
   intro x hx
   obtain ⟨i,hi,rfl⟩:=List.getElem_of_mem hx
   exact (hp i hi).2
end
end
end Go.Proofs.YtnphdacibageiaaGreat
