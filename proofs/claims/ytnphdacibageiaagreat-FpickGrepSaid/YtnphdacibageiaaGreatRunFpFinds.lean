import Derived.Test.YtnphdacibageiaaGreatRunFpSorted
import Derived.Test.YtnphdacibageiaaGreatRunPkStep
import Derived.Test.YtnphdacibageiaaGreatRunRxPutW
set_option linter.all false
set_option maxRecDepth 1000000
set_option maxHeartbeats 12800000
namespace Go.Proofs.YtnphdacibageiaaGreat
open Go.RowKit
def CmpY (s:ByteArray):Prop:=∀w:World,Calls Tryz.prog 23 #[.string s] w (RetC w s.data.toList)
noncomputable def grepB (nm text:ByteArray) (x:Sq):Bool:=isC (codeY text.data.toList) x.s.name.data.toList==(nm.toList==[103,114,101,112])
theorem fclo_any (Pb Nb G n cA:Nat) (A:Option Addr) (code:List In) (nm:ByteArray) (x:Sq) (w:World) (hn:n=code.length) (hn2:code.length≤2000) (hG:G≤1000) (hps:∀v∈code,v.ps.length≤100000) (hs:x.s.name.size≤4096)
  (p0:w.cell? ⟨Pb,0,none⟩=some (.int .i64 G)) (p1:w.cell? ⟨Pb,1,none⟩=some (.slice A n cA)) (hPb:Pb<w.heap.size) (hr:Ri w A code) (n0:w.cell? ⟨Nb,0,none⟩=some (.string nm)) (hNb:Nb<w.heap.size) :
  Calls Tryz.prog 25 #[.agg #[.string x.s.name, .int .i64 x.s.start, .int .i64 x.s.step, .slice x.A x.s.vals.length x.c, .int .i64 x.s.cons], .pointer (some ⟨Pb,0,none⟩), .pointer (some ⟨Nb,0,none⟩)] w fun e w'=>e= .returned (.bool (isC code x.s.name.data.toList==(nm.toList==[103,114,101,112])))∧Gr w w':=by
 obtain ⟨V,hV⟩:∃V,V=w.alloc (.cells #[.string x.s.name, .int .i64 x.s.start, .int .i64 x.s.step, .slice x.A x.s.vals.length x.c, .int .i64 x.s.cons] 34):=⟨_,rfl⟩
 have gV:Gr w V:=by rw[hV];exact Gr.alloc (Gr.refl w) _
 have bz:w.heap.size<V.heap.size:=by rw[hV];simp
 have b0:V.cell? ⟨w.heap.size,0,none⟩=some (.string x.s.name):=by rw[hV];go_simp
 have HF:Hid (∀W,Gr V W→W.cell? ⟨Pb,0,none⟩=some (.int .i64 G)∧W.cell? ⟨Pb,1,none⟩=some (.slice A n cA)∧W.cell? ⟨Nb,0,none⟩=some (.string nm)∧W.cell? ⟨w.heap.size,0,none⟩=some (.string x.s.name)):=Lib.hid fun W hW=>
  ⟨(Below.cell (gV.trans hW) (p:=⟨Pb,0,none⟩) hPb).trans p0,(Below.cell (gV.trans hW) (p:=⟨Pb,1,none⟩) hPb).trans p1,(Below.cell (gV.trans hW) (p:=⟨Nb,0,none⟩) hNb).trans n0,(Below.cell hW (p:=⟨w.heap.size,0,none⟩) bz).trans b0⟩
 have HI:=Lib.hid (fun W (hW:Gr V W)=>pis_any G n cA A code x.s.name hn (by omega) hG (by omega) hps W ((hr.gr gV).gr hW))
 have HV:=Lib.hid hV
 have GV:=Lib.hid gV
 generalize isC code x.s.name.data.toList=B at HI ⊢
 generalize hg:(nm.toList==[103,114,101,112])=g
 have HG:=Lib.hid hg
 clear hV gV bz b0 hn hps hs p0 p1 hr n0 hn2 hG hg
 go_enter Tryz.func25,Tryz.ntmps25
 go_upto_region 1 with (fail)
 rw[←HV.out]
 clear HV
 refine region_Q (by kernel_rfl) (by kernel_rfl) ?_
 refine q_val (v:=?qv7) (by rfl) (fun W hW=>?qh7) ?qr7
 case qh7=>obtain ⟨p0,p1,n0,b0⟩:=HF.out W hW;go_simp;rfl
 simp only[Pu]
 refine qv ?_;simp only[Pu]
 refine q_val (v:=?qv9) (by rfl) (fun W hW=>?qh9) ?qr9
 case qh9=>obtain ⟨p0,p1,n0,b0⟩:=HF.out W hW;go_simp;rfl
 simp only[Pu]
 refine q_call (v:= .bool B) (f:=?qf10) (args:=?qa10) (by rfl) (fun W hW=>?qh10) (fun W hW=>?qc10) ?qr10
 case qh10=>go_simp;constructor<;>rfl
 case qc10=>exact (HI.out W hW).mono (fun e w' h=>⟨h.1,Gr.trans hW h.2⟩)
 simp only[Pu]
 refine q_val (v:=?qv11) (by rfl) (fun W hW=>?qh11) ?qr11
 case qh11=>obtain ⟨p0,p1,n0,b0⟩:=HF.out W hW;go_simp;rfl
 simp only[Pu]
 refine q_val (v:=?qv12) (by rfl) (fun W hW=>?qh12) ?qr12
 case qh12=>have g1:=HG.out;go_simp;rfl
 simp only[Pu]
 iterate 2 (refine qv ?_;simp only[Pu])
 refine wpQuiet_nil ?_
 intro w8 hw8
 have G8:=Lib.hid hw8
 clear hw8
 go_wp2
 go_ret
 exact ⟨rfl,GV.out.trans G8.out⟩
theorem thosee_any (c0 c1:Value) (p:Sq→Bool) (A:Option Addr) (c:Nat) (L:List Sq) (w:World) (hl:L.length≤1000000) (hr:Rl w A L)
  (hQ:∀x∈L,∀W,Gr w W→Calls Tryz.prog 25 #[.agg #[.string x.s.name, .int .i64 x.s.start, .int .i64 x.s.step, .slice x.A x.s.vals.length x.c, .int .i64 x.s.cons],c0,c1] W fun e w'=>e= .returned (.bool (p x))∧Gr W w') :
  Calls Tryz.prog 24 #[.slice A L.length c, .func (.func 25) #[] #[c0,c1]] w (RetL (L.filter p) w):=by
 obtain ⟨i0,hi0,hz0,hz1,hz2⟩:=info_parts info_ser
 have hl':(L.length:Int)≤1000000:=by omega
 have HQ:=Lib.hid hQ
 clear hQ
 go_enter Tryz.func24,Tryz.ntmps24
 go_wp2
 go_loopw [5,10] (fun v i wr=>∃(k:Nat) (M:List Sq),k≤L.length∧i= .int .i64 k∧Gr w wr∧wr.ownsRow w.heap.size 34 5 v M.length (scells M)∧M.length≤k∧Hid (M=(L.take k).filter p)) (fun _ i _=>L.length-(intOf i).toNat)
 case atStart=>exact ⟨0,[],Nat.zero_le _,rfl,Gr.refl _,World.ownsRow_nil _ _ _ _,Nat.le_refl _,Lib.hid rfl⟩
 case round=>
  obtain ⟨k,M,hk,rfl,hgr,hown,hMk,HM⟩:=hrel
  by_cases hlt:k<L.length
  ·
   obtain ⟨x,hx⟩:∃x,L[k]=x:=⟨_,rfl⟩
   obtain ⟨ad,rfl,hb,hx0,hx1,hx2,hx3,hx4⟩:=(hr.gr hgr).at hlt
   rw[hx] at hx0 hx1 hx2 hx3 hx4
   have HT:Hid ((L.take (k+1)).filter p=M++[x].filter p):=Lib.hid (by rw[List.take_succ_eq_append_getElem hlt,List.filter_append,HM.out,hx])
   have Q:=HQ.out x (by rw[←hx];exact List.getElem_mem hlt)
   clear hx HM
   cases hp:p x
   ·
    have HT2:Hid (M=(L.take (k+1)).filter p):=Lib.hid (by rw[HT.out];simp[hp])
    simp only[hp] at Q
    clear HT hp
    go_wp2_with fail
    refine (Q _ (Gr.alloc hgr _)).mono ?_;rintro e w5 ⟨rfl,hg⟩
    have gw5:=Gr.trans (Gr.alloc hgr _) hg
    have hown5:=own_gr hown (Gr.trans (Gr.alloc (Gr.refl wr) _) hg)
    clear hx0 hx1 hx2 hx3 hx4 hg hown
    go_wp2
    go_roundw
    case rel=>exact ⟨k+1,M,by omega,by go_num,gw5,hown5,by omega,HT2⟩
    case measure=>simp[intOf];omega
   ·
    have HT2:Hid (M++[x]=(L.take (k+1)).filter p):=Lib.hid (by rw[HT.out];simp[hp])
    simp only[hp] at Q
    clear HT hp
    go_wp2_with fail
    refine (Q _ (Gr.alloc hgr _)).mono ?_;rintro e w5 ⟨rfl,hg⟩
    have hbox:=Gr.trans (Gr.alloc (Gr.refl wr) _) hg
    have gw5:=Gr.trans hgr hbox
    have hown5:=own_gr hown hbox
    have q0:w5.cell? ⟨wr.heap.size,0,none⟩=some (.string x.s.name):=(hg.cell (p:=⟨wr.heap.size,0,none⟩) (by simp)).trans (by go_simp)
    have q1:w5.cell? ⟨wr.heap.size,1,none⟩=some (.int .i64 x.s.start):=(hg.cell (p:=⟨wr.heap.size,1,none⟩) (by simp)).trans (by go_simp)
    have q2:w5.cell? ⟨wr.heap.size,2,none⟩=some (.int .i64 x.s.step):=(hg.cell (p:=⟨wr.heap.size,2,none⟩) (by simp)).trans (by go_simp)
    have q3:w5.cell? ⟨wr.heap.size,3,none⟩=some (.slice x.A x.s.vals.length x.c):=(hg.cell (p:=⟨wr.heap.size,3,none⟩) (by simp)).trans (by go_simp)
    have q4:w5.cell? ⟨wr.heap.size,4,none⟩=some (.int .i64 x.s.cons):=(hg.cell (p:=⟨wr.heap.size,4,none⟩) (by simp)).trans (by go_simp)
    have zz:wr.heap.size<w5.heap.size:=by have:=hg.size;simp at this;omega
    have hrx:=Rl.new (W:=w5) rfl 34 [x]
    have hv0:=hown5.alloc (.cells (scells [x]).toArray 34)
    have hvl:=hown5.lt
    have z5:=gw5.size
    clear hg hx0 hx1 hx2 hx3 hx4 hown hbox
    go_wp2_with
     (
      at_builtin
      refine wpList_append_rd rfl (.tmp 17) (.tmp 19) 22 rfl w.heap.size 34 i0 _ 5 64 Tryz.underlying22 hi0 hz0 hz1 hz2 rfl (by decide) _ M.length _ rfl hv0 (some ⟨w5.heap.size,0,none⟩) 1 _ (scells [x]) rfl hrx (scells_one _) (by unfold maxLen;omega) (by omega) (by simp;omega) ?_
      intro v' w7 hown7 hgr7 hat7)
    have hg7:Gr w w7:=Gr.grown (Gr.alloc gw5 _) hgr7 (fun j hj=>(hvl j hj).1)
    have hown8:w7.ownsRow w.heap.size 34 5 v' (M++[x]).length (scells (M++[x])):=by rw[scells_append,List.length_append];exact hown7
    clear hv0 hvl hgr7 hat7 hrx hown5 hown7 q0 q1 q2 q3 q4
    go_roundw
    case rel=>exact ⟨k+1,M++[x],by omega,by go_num,hg7,hown8,by simp;omega,HT2⟩
    case measure=>simp[intOf];omega
  ·
   have hkk:k=L.length:=by omega
   subst hkk
   obtain ⟨A',c',hvv⟩:=own_form hown
   subst hvv
   have hcap:=own_cap hown
   have hRl:Rl wr A' M:=Rd.own hown
   have HM2:Hid (M=L.filter p):=Lib.hid (by rw[HM.out,List.take_length])
   clear HM hown
   go_wp2
   go_ret
   exact ⟨A',c',ret_slice (congrArg List.length HM2.out),by rw[←HM2.out];exact hcap,by rw[←HM2.out];exact hRl,hgr⟩
theorem finds_yes_err (nm text:ByteArray) (k:Vl) (A:Option Addr) (c:Nat) (L:List Sq) (w:World) (hf:(findF nm).isSome=true) (hok:okL L=true) (hk:isB k=true) (h0:(rowF nm).kind=0) (ht:text.size≤500) (hC:CmpY text) (hn4:∀x∈L,x.s.name.size≤4096) (h20:L.length≤20) (hle:∀x∈L,x.s.vals.length≤1000000) (hr:Rl w A L) (hv:Lie w L) (E:Int) (hE:errX text.data.toList=E) (hne:(E != 0)=true) :
  Calls Tryz.prog 11 #[.string nm, .agg #[.bool k.ok, .int .i64 k.n], .string text, .slice A L.length c] w (RetA E [] w):=by
 have HE:=Lib.hid hE
 clear hE
 obtain ⟨i0,hi0,hz0,hz1,hz2⟩:=info_parts info_ser
 have QF:=fun w=>find_any nm w
 unfold RetFind aggFr at QF
 simp only[hf] at QF
 have QC:=fun w hr hv=>acons_any A c L w (by omega) hr hv
 simp only[hok,Bool.not_true] at QC
 have QI:=fun w=>is_any k.ok k.n w
 simp only[show isB ⟨k.ok,k.n⟩=true from hk] at QI
 have HCO:=Lib.hid (fun W=>hC W)
 have HSZ:=Lib.hid (code_sizes (l:=text.data.toList) (by simpa using ht))
 have HKZ:Hid ((rowF nm).kind=0):=Lib.hid h0
 have hkz:((rowF nm).kind==0)=true:=by rw[h0];rfl
 generalize rowF nm=r at QF hkz HKZ
 have HN:=Lib.hid hn4
 have HLE:=Lib.hid hle
 clear hle hk hok hf h0 hn4 ht hC
 have gb:Gr w ((w.alloc (.cells #[.string nm] 9)).alloc (.cells #[.bool k.ok, .int .i64 k.n] 25)):=Gr.alloc (Gr.alloc (Gr.refl _) _) _
 have hVA:VAt ((w.alloc (.cells #[.string nm] 9)).alloc (.cells #[.bool k.ok, .int .i64 k.n] 25)) (w.heap.size+1) k:=by
  refine ⟨?_,?_,?_⟩
  all_goals first|(go_simp;done)|(simp;done)
 have hF0:(((w.alloc (.cells #[.string nm] 9)).alloc (.cells #[.bool k.ok, .int .i64 k.n] 25))).frozen? ⟨w.heap.size+1,0,none⟩=false:=by go_simp
 have hF1:(((w.alloc (.cells #[.string nm] 9)).alloc (.cells #[.bool k.ok, .int .i64 k.n] 25))).frozen? ⟨w.heap.size+1,1,none⟩=false:=by go_simp
 have hNM:(((w.alloc (.cells #[.string nm] 9)).alloc (.cells #[.bool k.ok, .int .i64 k.n] 25))).cell? ⟨w.heap.size,0,none⟩=some (.string nm):=by go_simp
 have HNM:=Lib.hid hNM
 clear hNM
 go_enter Tryz.func11,Tryz.ntmps11
 go_wp2_with fail
 refine (QF _).mono ?_;rintro e w1 ⟨rfl,hg1⟩
 have hVA1:=hVA.gr hg1
 have gw1:=Gr.trans gb hg1
 have gR:Gr w1 (w1.alloc (.cells #[.string r.nm, .int .i64 r.kind, .int .i64 r.by_, .bool r.least] 46)):=Gr.alloc (Gr.refl _) _
 have hFA:FAt (w1.alloc (.cells #[.string r.nm, .int .i64 r.kind, .int .i64 r.by_, .bool r.least] 46)) w1.heap.size r:=by
  refine ⟨?_,?_,?_,?_,?_⟩
  all_goals first|(go_simp;done)|(simp;done)
 have hVA2:=hVA1.gr gR
 have f20:=(gR.frozen (p:=⟨w.heap.size+1,0,none⟩) hVA1.2.2).trans ((hg1.frozen (p:=⟨w.heap.size+1,0,none⟩) hVA.2.2).trans hF0)
 have f21:=(gR.frozen (p:=⟨w.heap.size+1,1,none⟩) hVA1.2.2).trans ((hg1.frozen (p:=⟨w.heap.size+1,1,none⟩) hVA.2.2).trans hF1)
 have gw2:=Gr.trans gw1 gR
 have zB:w.heap.size+1<w1.heap.size:=hVA1.2.2
 have GZ2:=Lib.hid (Gr.trans hg1 gR)
 clear hVA hVA1 hg1 hF0 hF1 QF gb gR gw1
 go_wp2_with fail
 refine (QC _ (hr.gr gw2) (hv.gr gw2)).mono ?_;rintro e w3 ⟨rfl,hg3⟩
 have hVA3:=hVA2.gr hg3
 have hFA3:=hFA.gr hg3
 have f30:=(hg3.frozen (p:=⟨w.heap.size+1,0,none⟩) hVA2.2.2).trans f20
 have f31:=(hg3.frozen (p:=⟨w.heap.size+1,1,none⟩) hVA2.2.2).trans f21
 have gw3:=Gr.trans gw2 hg3
 have GZ3:=Lib.hid (Gr.trans GZ2.out hg3)
 clear hVA2 hFA f20 f21 gw2 hg3 QC GZ2
 obtain ⟨k30,k31,zk⟩:=id hVA3
 go_wp2_with fail
 refine (QI _).mono ?_;rintro e w4 ⟨rfl,hg4⟩
 have hVA4:=hVA3.gr hg4
 have hFA4:=hFA3.gr hg4
 have f40:=(hg4.frozen (p:=⟨w.heap.size+1,0,none⟩) zk).trans f30
 have f41:=(hg4.frozen (p:=⟨w.heap.size+1,1,none⟩) zk).trans f31
 have gw4:=Gr.trans gw3 hg4
 have GZ4:=Lib.hid (Gr.trans GZ3.out hg4)
 clear k30 k31 zk hVA3 hFA3 f30 f31 gw3 hg4 QI GZ3
 obtain ⟨k40,k41,zk⟩:=id hVA4
 obtain ⟨r0,r1,r2,r3,zr⟩:=id hFA4
 have gw:=gw4
 have GZ:=GZ4
 have hnm4:w4.cell? ⟨w.heap.size,0,none⟩=some (.string nm):=(Below.cell GZ4.out (p:=⟨w.heap.size,0,none⟩) (by simp;omega)).trans HNM.out
 have hzn:w.heap.size<w4.heap.size:=by have:=zk;simp;omega
 go_wp2_with fail
 refine (HCO.out _).mono ?_;rintro e wE ⟨AE,cE,rfl,hRE,gE, -⟩
 have gwE:=Gr.trans gw gE
 have hnmE:=(Below.cell gE (p:=⟨w.heap.size,0,none⟩) hzn).trans hnm4
 have hznE:=Nat.lt_of_lt_of_le hzn gE.size
 have hrE:=hr.gr gwE
 have hvE:=hv.gr gwE
 clear k40 k41 zk r0 r1 r2 r3 zr hVA4 hFA4 f40 f41 gw4 GZ4 hzn hnm4 gE gw
 rw[HE.out]
 clear hkz hrE hvE
 go_wp2
 go_ret2
 exact RetA.no (Gr.alloc gwE _)
theorem finds_yes_ok (nm text:ByteArray) (k:Vl) (A:Option Addr) (c:Nat) (L:List Sq) (w:World) (hf:(findF nm).isSome=true) (hok:okL L=true) (hk:isB k=true) (h0:(rowF nm).kind=0) (ht:text.size≤500) (hC:CmpY text) (hn4:∀x∈L,x.s.name.size≤4096) (h20:L.length≤20) (hle:∀x∈L,x.s.vals.length≤1000000) (hr:Rl w A L) (hv:Lie w L) (P:List Sq) (hP:P=L.filter (grepB nm text)) (hE:errX text.data.toList=0) :
  Calls Tryz.prog 11 #[.string nm, .agg #[.bool k.ok, .int .i64 k.n], .string text, .slice A L.length c] w (RetA 0 (P.map Sq.s) w):=by
 have HE:=Lib.hid hE
 clear hE
 have HPP:=Lib.hid hP
 clear hP
 obtain ⟨i0,hi0,hz0,hz1,hz2⟩:=info_parts info_ser
 have QF:=fun w=>find_any nm w
 unfold RetFind aggFr at QF
 simp only[hf] at QF
 have QC:=fun w hr hv=>acons_any A c L w (by omega) hr hv
 simp only[hok,Bool.not_true] at QC
 have QI:=fun w=>is_any k.ok k.n w
 simp only[show isB ⟨k.ok,k.n⟩=true from hk] at QI
 have HCO:=Lib.hid (fun W=>hC W)
 have HSZ:=Lib.hid (code_sizes (l:=text.data.toList) (by simpa using ht))
 have HKZ:Hid ((rowF nm).kind=0):=Lib.hid h0
 have hkz:((rowF nm).kind==0)=true:=by rw[h0];rfl
 generalize rowF nm=r at QF hkz HKZ
 have HN:=Lib.hid hn4
 have HLE:=Lib.hid hle
 clear hle hk hok hf h0 hn4 ht hC
 have gb:Gr w ((w.alloc (.cells #[.string nm] 9)).alloc (.cells #[.bool k.ok, .int .i64 k.n] 25)):=Gr.alloc (Gr.alloc (Gr.refl _) _) _
 have hVA:VAt ((w.alloc (.cells #[.string nm] 9)).alloc (.cells #[.bool k.ok, .int .i64 k.n] 25)) (w.heap.size+1) k:=by
  refine ⟨?_,?_,?_⟩
  all_goals first|(go_simp;done)|(simp;done)
 have hF0:(((w.alloc (.cells #[.string nm] 9)).alloc (.cells #[.bool k.ok, .int .i64 k.n] 25))).frozen? ⟨w.heap.size+1,0,none⟩=false:=by go_simp
 have hF1:(((w.alloc (.cells #[.string nm] 9)).alloc (.cells #[.bool k.ok, .int .i64 k.n] 25))).frozen? ⟨w.heap.size+1,1,none⟩=false:=by go_simp
 have hNM:(((w.alloc (.cells #[.string nm] 9)).alloc (.cells #[.bool k.ok, .int .i64 k.n] 25))).cell? ⟨w.heap.size,0,none⟩=some (.string nm):=by go_simp
 have HNM:=Lib.hid hNM
 clear hNM
 go_enter Tryz.func11,Tryz.ntmps11
 go_wp2_with fail
 refine (QF _).mono ?_;rintro e w1 ⟨rfl,hg1⟩
 have hVA1:=hVA.gr hg1
 have gw1:=Gr.trans gb hg1
 have gR:Gr w1 (w1.alloc (.cells #[.string r.nm, .int .i64 r.kind, .int .i64 r.by_, .bool r.least] 46)):=Gr.alloc (Gr.refl _) _
 have hFA:FAt (w1.alloc (.cells #[.string r.nm, .int .i64 r.kind, .int .i64 r.by_, .bool r.least] 46)) w1.heap.size r:=by
  refine ⟨?_,?_,?_,?_,?_⟩
  all_goals first|(go_simp;done)|(simp;done)
 have hVA2:=hVA1.gr gR
 have f20:=(gR.frozen (p:=⟨w.heap.size+1,0,none⟩) hVA1.2.2).trans ((hg1.frozen (p:=⟨w.heap.size+1,0,none⟩) hVA.2.2).trans hF0)
 have f21:=(gR.frozen (p:=⟨w.heap.size+1,1,none⟩) hVA1.2.2).trans ((hg1.frozen (p:=⟨w.heap.size+1,1,none⟩) hVA.2.2).trans hF1)
 have gw2:=Gr.trans gw1 gR
 have zB:w.heap.size+1<w1.heap.size:=hVA1.2.2
 have GZ2:=Lib.hid (Gr.trans hg1 gR)
 clear hVA hVA1 hg1 hF0 hF1 QF gb gR gw1
 go_wp2_with fail
 refine (QC _ (hr.gr gw2) (hv.gr gw2)).mono ?_;rintro e w3 ⟨rfl,hg3⟩
 have hVA3:=hVA2.gr hg3
 have hFA3:=hFA.gr hg3
 have f30:=(hg3.frozen (p:=⟨w.heap.size+1,0,none⟩) hVA2.2.2).trans f20
 have f31:=(hg3.frozen (p:=⟨w.heap.size+1,1,none⟩) hVA2.2.2).trans f21
 have gw3:=Gr.trans gw2 hg3
 have GZ3:=Lib.hid (Gr.trans GZ2.out hg3)
 clear hVA2 hFA f20 f21 gw2 hg3 QC GZ2
 obtain ⟨k30,k31,zk⟩:=id hVA3
 go_wp2_with fail
 refine (QI _).mono ?_;rintro e w4 ⟨rfl,hg4⟩
 have hVA4:=hVA3.gr hg4
 have hFA4:=hFA3.gr hg4
 have f40:=(hg4.frozen (p:=⟨w.heap.size+1,0,none⟩) zk).trans f30
 have f41:=(hg4.frozen (p:=⟨w.heap.size+1,1,none⟩) zk).trans f31
 have gw4:=Gr.trans gw3 hg4
 have GZ4:=Lib.hid (Gr.trans GZ3.out hg4)
 clear k30 k31 zk hVA3 hFA3 f30 f31 gw3 hg4 QI GZ3
 obtain ⟨k40,k41,zk⟩:=id hVA4
 obtain ⟨r0,r1,r2,r3,zr⟩:=id hFA4
 have gw:=gw4
 have GZ:=GZ4
 have hnm4:w4.cell? ⟨w.heap.size,0,none⟩=some (.string nm):=(Below.cell GZ4.out (p:=⟨w.heap.size,0,none⟩) (by simp;omega)).trans HNM.out
 have hzn:w.heap.size<w4.heap.size:=by have:=zk;simp;omega
 go_wp2_with fail
 refine (HCO.out _).mono ?_;rintro e wE ⟨AE,cE,rfl,hRE,gE, -⟩
 have gwE:=Gr.trans gw gE
 have hnmE:=(Below.cell gE (p:=⟨w.heap.size,0,none⟩) hzn).trans hnm4
 have hznE:=Nat.lt_of_lt_of_le hzn gE.size
 have hrE:=hr.gr gwE
 have hvE:=hv.gr gwE
 clear k40 k41 zk r0 r1 r2 r3 zr hVA4 hFA4 f40 f41 gw4 GZ4 hzn hnm4 gE gw
 rw[HE.out]
 obtain ⟨Gx,hGx⟩:∃Gx,Gx=grpX text.data.toList:=⟨_,rfl⟩
 obtain ⟨cx,hcx⟩:∃cx,cx=codeY text.data.toList:=⟨_,rfl⟩
 rw[←hGx,←hcx]
 rw[←hcx] at hRE
 obtain ⟨nx,hnx⟩:∃nx,nx=cx.length:=⟨_,rfl⟩
 rw[←hnx]
 obtain ⟨wF,hwF⟩:∃wF,wF=wE.alloc (.cells #[.int .i64 Gx, .slice AE nx cE] 55):=⟨_,rfl⟩
 have gF:Gr wE wF:=by rw[hwF];exact Gr.alloc (Gr.refl wE) _
 have p0:wF.cell? ⟨wE.heap.size,0,none⟩=some (.int .i64 Gx):=by rw[hwF];go_simp
 have p1:wF.cell? ⟨wE.heap.size,1,none⟩=some (.slice AE nx cE):=by rw[hwF];go_simp
 have hzF:wE.heap.size<wF.heap.size:=by rw[hwF];simp
 have hnmF:=(Below.cell gF (p:=⟨w.heap.size,0,none⟩) hznE).trans hnmE
 have HTH:Hid (Calls Tryz.prog 24 #[.slice A L.length c, .func (.func 25) #[] #[.pointer (some ⟨wE.heap.size,0,none⟩), .pointer (some ⟨w.heap.size,0,none⟩)]] wF (RetL (L.filter (grepB nm text)) wF)):=Lib.hid
  (thosee_any (.pointer (some ⟨wE.heap.size,0,none⟩)) (.pointer (some ⟨w.heap.size,0,none⟩)) (grepB nm text) A c L wF (by omega) (hrE.gr gF) (fun x hx W hW=>by
   have:=fclo_any wE.heap.size w.heap.size Gx nx cE AE cx nm x W hnx (by rw[hcx];exact HSZ.out.1) (by rw[hGx];exact HSZ.out.2.1) (by rw[hcx];exact HSZ.out.2.2) (HN.out x hx) ((Below.cell hW (p:=⟨wE.heap.size,0,none⟩) hzF).trans p0) ((Below.cell hW (p:=⟨wE.heap.size,1,none⟩) hzF).trans p1) (Nat.lt_of_lt_of_le hzF hW.size) ((hRE.gr gF).gr hW) ((Below.cell hW (p:=⟨w.heap.size,0,none⟩) (Nat.lt_of_lt_of_le hznE gF.size)).trans hnmF) (Nat.lt_of_lt_of_le hznE (Nat.le_trans gF.size hW.size))
   rw[hcx] at this
   exact this))
 have HwF:=Lib.hid hwF
 rw[←HPP.out] at HTH
 have hP1:P.length≤L.length:=by rw[HPP.out];exact List.length_filter_le _ _
 have hP2:∀x∈P,x∈L:=fun x hx=>by rw[HPP.out] at hx;exact (List.mem_filter.1 hx).1
 have hP20:(P.length:Int)≤20:=by omega
 have HP:Hid (∀x∈P,x.s.vals.length≤1000000∧Rv w x.A x.s.vals):=Lib.hid (fun x hx=>⟨HLE.out x (hP2 x hx),hv x (hP2 x hx)⟩)
 have gw:=Gr.trans gwE gF
 clear hnmE hznE hrE hvE gwE gF p0 p1 hzF hnmF hwF hGx hcx hnx hP1 hP2 hRE
 go_upto_region 13 with (fail)
 rw[←HwF.out]
 clear HwF
 go_upto_region 15 with (go_at_call 24;refine HTH.out.mono ?_;rintro e wD ⟨AD,cD,rfl,hcD,hrD,hgD⟩)
 clear HTH
 have gD:=Gr.trans gw hgD
 clear hgD gw
 go_wp2
 go_loopw [15,51] (fun v i wr=>∃(j:Nat) (M:List Sq),j≤P.length∧i= .int .i64 j∧Gr w wr∧Gr wD wr∧wr.ownsRow wD.heap.size 34 5 v j (scells M)∧M.length=j∧Lie wr M∧Apart v.ownBlock M∧Hid (M.map Sq.s=(P.take j).map Sq.s)) (fun _ i _=>P.length-(intOf i).toNat)
 case atStart=>exact ⟨0,[],Nat.zero_le _,rfl,gD,Gr.refl _,World.ownsRow_nil _ _ _ _,rfl,fun x hx=>absurd hx (by simp),fun x hx=>absurd hx (by simp),Lib.hid rfl⟩
 case round=>
  obtain ⟨j,M,hj,rfl,hgr,hgD,hown,hMl,hLie,hAp,HM⟩:=hrel
  by_cases hlt:j<P.length
  ·
   obtain ⟨x,hx⟩:∃x,P[j]=x:=⟨_,rfl⟩
   obtain ⟨ad,rfl,hb,hx0,hx1,hx2,hx3,hx4⟩:=(hrD.gr hgD).at hlt
   have hmem:=HP.out _ (List.getElem_mem hlt)
   rw[hx] at hx0 hx1 hx2 hx3 hx4 hmem
   have hlx:=hmem.1
   have hvx:=hmem.2
   have QO:=fun w hr=>own_any x.s x.A x.c w hlx hr
   have HM2:Hid (∀y:Sq,y.s=x.s→(M++[y]).map Sq.s=(P.take (j+1)).map Sq.s):=Lib.hid (fun y hy=>by
    rw[List.take_succ_eq_append_getElem hlt,List.map_append,List.map_append,HM.out,hx]
    simp[hy])
   clear hx hlx hmem HM
   go_wp2_with fail
   refine (QO _ ((hvx.gr hgr).gr (Gr.alloc (Gr.refl _) _))).mono ?_;rintro e' w5 ⟨A5,c5,rfl,hr5,hg5,hnew⟩
   have hbox:=Gr.trans (Gr.alloc (Gr.refl wr) _) hg5
   have hown5:=own_gr hown hbox
   have gw5:=Gr.trans hgr hbox
   have gD5:=Gr.trans hgD hbox
   have hLie5:=hLie.gr hbox
   have hrx:=Rl.new (W:=w5) rfl 34 [⟨x.s,A5,c5⟩]
   have hv0:=hown5.alloc (.cells (scells [⟨x.s,A5,c5⟩]).toArray 34)
   have hvl:=hown5.lt
   have z5:=gw5.size
   have z6:=gD5.size
   have z7:=gD.size
   have HNW:=Lib.hid (fun (ad:Addr) (h:A5=some ad)=>new_apart hown (ad:=ad) (by have h1:=hnew ad h;simp at h1;omega))
   clear hnew hg5 hx0 hx1 hx2 hx3 hx4
   go_wp2_with
    (
     at_builtin
     refine wpList_append_rd rfl (.tmp 55) (.tmp 58) 22 rfl wD.heap.size 34 i0 _ 5 64 Tryz.underlying22 hi0 hz0 hz1 hz2 rfl (by decide) _ j _ rfl hv0 (some ⟨w5.heap.size,0,none⟩) 1 _ (scells [⟨x.s,A5,c5⟩]) rfl hrx (scells_one _) (by unfold maxLen;omega) (by omega) (by simp;omega) ?_
     intro v' w7 hown7 hgr7 hat7)
   have hg7:Gr w w7:=Gr.grown (Gr.alloc gw5 _) hgr7 (fun j hj=>by have:=(hvl j hj).1;omega)
   have hgD7:Gr wD w7:=Gr.grown (Gr.alloc gD5 _) hgr7 (fun j hj=>(hvl j hj).1)
   have hLie7:Lie w7 (M++[⟨x.s,A5,c5⟩]):=fun y hy=>by
    rcases List.mem_append.1 hy with hy|hy
    ·
     exact Rv.grown ((hLie5 y hy).gr (Gr.alloc (Gr.refl w5) _)) hgr7 (fun hn ad h=>hAp y hy hn ad h)
    ·
     rw[List.mem_singleton.1 hy]
     exact Rv.grown (hr5.gr (Gr.alloc (Gr.refl w5) _)) hgr7 (fun _ ad h=>HNW.out ad h)
   have hAp7:Apart v'.ownBlock (M++[⟨x.s,A5,c5⟩]):=fun y hy hn ad h=>by
    rcases hat7 with e7|e7
    ·
     rw[e7]
     rcases List.mem_append.1 hy with hy|hy
     ·
      exact hAp y hy hn ad h
     ·
      rw[List.mem_singleton.1 hy] at h;exact HNW.out ad h
    ·
     rw[e7]
     intro e8
     injection e8 with e8
     simp at e8
     rcases List.mem_append.1 hy with hy|hy
     ·
      have:=(hLie5 y hy).blk hn h;omega
     ·
      rw[List.mem_singleton.1 hy] at h hn
      have:=hr5.blk hn h;omega
   have hown8:w7.ownsRow wD.heap.size 34 5 v' (j+1) (scells (M++[⟨x.s,A5,c5⟩])):=by rw[scells_append];exact hown7
   have HM3:=Lib.hid (HM2.out ⟨x.s,A5,c5⟩ rfl)
   clear hv0 hvl hgr7 hat7 hrx hown5 hown7 hown hLie hLie5 hAp hr5 hbox HM2
   go_roundw
   case rel=>exact ⟨j+1,M++[⟨x.s,A5,c5⟩],by omega,by go_num,hg7,hgD7,hown8,by simp[hMl],hLie7,hAp7,HM3⟩
   case measure=>simp[intOf];omega
  ·
   have hkk:j=P.length:=by omega
   subst hkk
   obtain ⟨A',c',hvv⟩:=own_form hown
   subst hvv
   have hcap1:=own_cap hown
   have hRd:=Rd.own hown
   have HJ:Hid (M.map Sq.s=P.map Sq.s):=Lib.hid (by rw[HM.out,List.take_length])
   have HE2:Hid (Ending.returned (.tuple #[.slice A' P.length c', .int .i64 0])=Ending.returned (.tuple #[.slice A' M.length c', .int .i64 0])):=Lib.hid (by rw[hMl])
   have hRl:Rl wr A' M:=by unfold Rl;rw[hMl];exact hRd
   have HMC:Hid (M.length≤c'):=Lib.hid (by rw[hMl];exact hcap1)
   clear hMl HM hAp hown hRd
   go_wp2
   go_ret2
   exact ⟨A',M,c',HE2.out,HJ.out,HMC.out,hRl,hLie,hgr⟩
theorem finds_none_err (nm text:ByteArray) (k:Vl) (A:Option Addr) (c:Nat) (L:List Sq) (w:World) (hf:(findF nm).isSome=true) (hok:okL L=true) (hk:isB k=false) (h0:(rowF nm).kind=0) (ht:text.size≤500) (hC:CmpY text) (hn4:∀x∈L,x.s.name.size≤4096) (h20:L.length≤20) (hle:∀x∈L,x.s.vals.length≤1000000) (hr:Rl w A L) (hv:Lie w L) (E:Int) (hE:errX text.data.toList=E) (hne:(E != 0)=true) :
  Calls Tryz.prog 11 #[.string nm, .agg #[.bool k.ok, .int .i64 k.n], .string text, .slice A L.length c] w (RetA E [] w):=by
 have HE:=Lib.hid hE
 clear hE
 obtain ⟨i0,hi0,hz0,hz1,hz2⟩:=info_parts info_ser
 have QF:=fun w=>find_any nm w
 unfold RetFind aggFr at QF
 simp only[hf] at QF
 have QC:=fun w hr hv=>acons_any A c L w (by omega) hr hv
 simp only[hok,Bool.not_true] at QC
 have QI:=fun w=>is_any k.ok k.n w
 simp only[show isB ⟨k.ok,k.n⟩=false from hk] at QI
 have HCO:=Lib.hid (fun W=>hC W)
 have HSZ:=Lib.hid (code_sizes (l:=text.data.toList) (by simpa using ht))
 have HKZ:Hid ((rowF nm).kind=0):=Lib.hid h0
 have hkz:((rowF nm).kind==0)=true:=by rw[h0];rfl
 generalize rowF nm=r at QF hkz HKZ
 have HN:=Lib.hid hn4
 have HLE:=Lib.hid hle
 clear hle hk hok hf h0 hn4 ht hC
 have gb:Gr w ((w.alloc (.cells #[.string nm] 9)).alloc (.cells #[.bool k.ok, .int .i64 k.n] 25)):=Gr.alloc (Gr.alloc (Gr.refl _) _) _
 have hVA:VAt ((w.alloc (.cells #[.string nm] 9)).alloc (.cells #[.bool k.ok, .int .i64 k.n] 25)) (w.heap.size+1) k:=by
  refine ⟨?_,?_,?_⟩
  all_goals first|(go_simp;done)|(simp;done)
 have hF0:(((w.alloc (.cells #[.string nm] 9)).alloc (.cells #[.bool k.ok, .int .i64 k.n] 25))).frozen? ⟨w.heap.size+1,0,none⟩=false:=by go_simp
 have hF1:(((w.alloc (.cells #[.string nm] 9)).alloc (.cells #[.bool k.ok, .int .i64 k.n] 25))).frozen? ⟨w.heap.size+1,1,none⟩=false:=by go_simp
 have hNM:(((w.alloc (.cells #[.string nm] 9)).alloc (.cells #[.bool k.ok, .int .i64 k.n] 25))).cell? ⟨w.heap.size,0,none⟩=some (.string nm):=by go_simp
 have HNM:=Lib.hid hNM
 clear hNM
 go_enter Tryz.func11,Tryz.ntmps11
 go_wp2_with fail
 refine (QF _).mono ?_;rintro e w1 ⟨rfl,hg1⟩
 have hVA1:=hVA.gr hg1
 have gw1:=Gr.trans gb hg1
 have gR:Gr w1 (w1.alloc (.cells #[.string r.nm, .int .i64 r.kind, .int .i64 r.by_, .bool r.least] 46)):=Gr.alloc (Gr.refl _) _
 have hFA:FAt (w1.alloc (.cells #[.string r.nm, .int .i64 r.kind, .int .i64 r.by_, .bool r.least] 46)) w1.heap.size r:=by
  refine ⟨?_,?_,?_,?_,?_⟩
  all_goals first|(go_simp;done)|(simp;done)
 have hVA2:=hVA1.gr gR
 have f20:=(gR.frozen (p:=⟨w.heap.size+1,0,none⟩) hVA1.2.2).trans ((hg1.frozen (p:=⟨w.heap.size+1,0,none⟩) hVA.2.2).trans hF0)
 have f21:=(gR.frozen (p:=⟨w.heap.size+1,1,none⟩) hVA1.2.2).trans ((hg1.frozen (p:=⟨w.heap.size+1,1,none⟩) hVA.2.2).trans hF1)
 have gw2:=Gr.trans gw1 gR
 have zB:w.heap.size+1<w1.heap.size:=hVA1.2.2
 have GZ2:=Lib.hid (Gr.trans hg1 gR)
 clear hVA hVA1 hg1 hF0 hF1 QF gb gR gw1
 go_wp2_with fail
 refine (QC _ (hr.gr gw2) (hv.gr gw2)).mono ?_;rintro e w3 ⟨rfl,hg3⟩
 have hVA3:=hVA2.gr hg3
 have hFA3:=hFA.gr hg3
 have f30:=(hg3.frozen (p:=⟨w.heap.size+1,0,none⟩) hVA2.2.2).trans f20
 have f31:=(hg3.frozen (p:=⟨w.heap.size+1,1,none⟩) hVA2.2.2).trans f21
 have gw3:=Gr.trans gw2 hg3
 have GZ3:=Lib.hid (Gr.trans GZ2.out hg3)
 clear hVA2 hFA f20 f21 gw2 hg3 QC GZ2
 obtain ⟨k30,k31,zk⟩:=id hVA3
 go_wp2_with fail
 refine (QI _).mono ?_;rintro e w4 ⟨rfl,hg4⟩
 have hVA4:=hVA3.gr hg4
 have hFA4:=hFA3.gr hg4
 have f40:=(hg4.frozen (p:=⟨w.heap.size+1,0,none⟩) zk).trans f30
 have f41:=(hg4.frozen (p:=⟨w.heap.size+1,1,none⟩) zk).trans f31
 have gw4:=Gr.trans gw3 hg4
 have GZ4:=Lib.hid (Gr.trans GZ3.out hg4)
 clear k30 k31 zk hVA3 hFA3 f30 f31 gw3 hg4 QI GZ3
 obtain ⟨k40,k41,zk⟩:=id hVA4
 obtain ⟨r0,r1,r2,r3,zr⟩:=id hFA4
 have gw:Gr w ((w4.setCell ⟨w.heap.size+1,0,none⟩ (.bool false)).setCell ⟨w.heap.size+1,1,none⟩ (.int .i64 0)):=Gr.setCell (Gr.setCell gw4 (Nat.le_succ _) _) (Nat.le_succ _) _
 have hnm4:((w4.setCell ⟨w.heap.size+1,0,none⟩ (.bool false)).setCell ⟨w.heap.size+1,1,none⟩ (.int .i64 0)).cell? ⟨w.heap.size,0,none⟩=some (.string nm):=by
  rw[World.cell?_setCell_other _ ⟨w.heap.size+1,1,none⟩ ⟨w.heap.size,0,none⟩ _ (by first|(simp;done)|(simp;omega)),World.cell?_setCell_other _ ⟨w.heap.size+1,0,none⟩ ⟨w.heap.size,0,none⟩ _ (by first|(simp;done)|(simp;omega))]
  exact (Below.cell GZ4.out (p:=⟨w.heap.size,0,none⟩) (by simp;omega)).trans HNM.out
 have hzn:w.heap.size<((w4.setCell ⟨w.heap.size+1,0,none⟩ (.bool false)).setCell ⟨w.heap.size+1,1,none⟩ (.int .i64 0)).heap.size:=by have:=zk;simp;omega
 go_wp2_with fail
 refine (HCO.out _).mono ?_;rintro e wE ⟨AE,cE,rfl,hRE,gE, -⟩
 have gwE:=Gr.trans gw gE
 have hnmE:=(Below.cell gE (p:=⟨w.heap.size,0,none⟩) hzn).trans hnm4
 have hznE:=Nat.lt_of_lt_of_le hzn gE.size
 have hrE:=hr.gr gwE
 have hvE:=hv.gr gwE
 clear k40 k41 zk r0 r1 r2 r3 zr hVA4 hFA4 f40 f41 gw4 GZ4 hzn hnm4 gE gw
 rw[HE.out]
 clear hkz hrE hvE
 go_wp2
 go_ret2
 exact RetA.no (Gr.alloc gwE _)
theorem finds_none_ok (nm text:ByteArray) (k:Vl) (A:Option Addr) (c:Nat) (L:List Sq) (w:World) (hf:(findF nm).isSome=true) (hok:okL L=true) (hk:isB k=false) (h0:(rowF nm).kind=0) (ht:text.size≤500) (hC:CmpY text) (hn4:∀x∈L,x.s.name.size≤4096) (h20:L.length≤20) (hle:∀x∈L,x.s.vals.length≤1000000) (hr:Rl w A L) (hv:Lie w L) (P:List Sq) (hP:P=L.filter (grepB nm text)) (hE:errX text.data.toList=0) :
  Calls Tryz.prog 11 #[.string nm, .agg #[.bool k.ok, .int .i64 k.n], .string text, .slice A L.length c] w (RetA 0 (P.map Sq.s) w):=by
 have HE:=Lib.hid hE
 clear hE
 have HPP:=Lib.hid hP
 clear hP
 obtain ⟨i0,hi0,hz0,hz1,hz2⟩:=info_parts info_ser
 have QF:=fun w=>find_any nm w
 unfold RetFind aggFr at QF
 simp only[hf] at QF
 have QC:=fun w hr hv=>acons_any A c L w (by omega) hr hv
 simp only[hok,Bool.not_true] at QC
 have QI:=fun w=>is_any k.ok k.n w
 simp only[show isB ⟨k.ok,k.n⟩=false from hk] at QI
 have HCO:=Lib.hid (fun W=>hC W)
 have HSZ:=Lib.hid (code_sizes (l:=text.data.toList) (by simpa using ht))
 have HKZ:Hid ((rowF nm).kind=0):=Lib.hid h0
 have hkz:((rowF nm).kind==0)=true:=by rw[h0];rfl
 generalize rowF nm=r at QF hkz HKZ
 have HN:=Lib.hid hn4
 have HLE:=Lib.hid hle
 clear hle hk hok hf h0 hn4 ht hC
 have gb:Gr w ((w.alloc (.cells #[.string nm] 9)).alloc (.cells #[.bool k.ok, .int .i64 k.n] 25)):=Gr.alloc (Gr.alloc (Gr.refl _) _) _
 have hVA:VAt ((w.alloc (.cells #[.string nm] 9)).alloc (.cells #[.bool k.ok, .int .i64 k.n] 25)) (w.heap.size+1) k:=by
  refine ⟨?_,?_,?_⟩
  all_goals first|(go_simp;done)|(simp;done)
 have hF0:(((w.alloc (.cells #[.string nm] 9)).alloc (.cells #[.bool k.ok, .int .i64 k.n] 25))).frozen? ⟨w.heap.size+1,0,none⟩=false:=by go_simp
 have hF1:(((w.alloc (.cells #[.string nm] 9)).alloc (.cells #[.bool k.ok, .int .i64 k.n] 25))).frozen? ⟨w.heap.size+1,1,none⟩=false:=by go_simp
 have hNM:(((w.alloc (.cells #[.string nm] 9)).alloc (.cells #[.bool k.ok, .int .i64 k.n] 25))).cell? ⟨w.heap.size,0,none⟩=some (.string nm):=by go_simp
 have HNM:=Lib.hid hNM
 clear hNM
 go_enter Tryz.func11,Tryz.ntmps11
 go_wp2_with fail
 refine (QF _).mono ?_;rintro e w1 ⟨rfl,hg1⟩
 have hVA1:=hVA.gr hg1
 have gw1:=Gr.trans gb hg1
 have gR:Gr w1 (w1.alloc (.cells #[.string r.nm, .int .i64 r.kind, .int .i64 r.by_, .bool r.least] 46)):=Gr.alloc (Gr.refl _) _
 have hFA:FAt (w1.alloc (.cells #[.string r.nm, .int .i64 r.kind, .int .i64 r.by_, .bool r.least] 46)) w1.heap.size r:=by
  refine ⟨?_,?_,?_,?_,?_⟩
  all_goals first|(go_simp;done)|(simp;done)
 have hVA2:=hVA1.gr gR
 have f20:=(gR.frozen (p:=⟨w.heap.size+1,0,none⟩) hVA1.2.2).trans ((hg1.frozen (p:=⟨w.heap.size+1,0,none⟩) hVA.2.2).trans hF0)
 have f21:=(gR.frozen (p:=⟨w.heap.size+1,1,none⟩) hVA1.2.2).trans ((hg1.frozen (p:=⟨w.heap.size+1,1,none⟩) hVA.2.2).trans hF1)
 have gw2:=Gr.trans gw1 gR
 have zB:w.heap.size+1<w1.heap.size:=hVA1.2.2
 have GZ2:=Lib.hid (Gr.trans hg1 gR)
 clear hVA hVA1 hg1 hF0 hF1 QF gb gR gw1
 go_wp2_with fail
 refine (QC _ (hr.gr gw2) (hv.gr gw2)).mono ?_;rintro e w3 ⟨rfl,hg3⟩
 have hVA3:=hVA2.gr hg3
 have hFA3:=hFA.gr hg3
 have f30:=(hg3.frozen (p:=⟨w.heap.size+1,0,none⟩) hVA2.2.2).trans f20
 have f31:=(hg3.frozen (p:=⟨w.heap.size+1,1,none⟩) hVA2.2.2).trans f21
 have gw3:=Gr.trans gw2 hg3
 have GZ3:=Lib.hid (Gr.trans GZ2.out hg3)
 clear hVA2 hFA f20 f21 gw2 hg3 QC GZ2
 obtain ⟨k30,k31,zk⟩:=id hVA3
 go_wp2_with fail
 refine (QI _).mono ?_;rintro e w4 ⟨rfl,hg4⟩
 have hVA4:=hVA3.gr hg4
 have hFA4:=hFA3.gr hg4
 have f40:=(hg4.frozen (p:=⟨w.heap.size+1,0,none⟩) zk).trans f30
 have f41:=(hg4.frozen (p:=⟨w.heap.size+1,1,none⟩) zk).trans f31
 have gw4:=Gr.trans gw3 hg4
 have GZ4:=Lib.hid (Gr.trans GZ3.out hg4)
 clear k30 k31 zk hVA3 hFA3 f30 f31 gw3 hg4 QI GZ3
 obtain ⟨k40,k41,zk⟩:=id hVA4
 obtain ⟨r0,r1,r2,r3,zr⟩:=id hFA4
 have gw:Gr w ((w4.setCell ⟨w.heap.size+1,0,none⟩ (.bool false)).setCell ⟨w.heap.size+1,1,none⟩ (.int .i64 0)):=Gr.setCell (Gr.setCell gw4 (Nat.le_succ _) _) (Nat.le_succ _) _
 have hnm4:((w4.setCell ⟨w.heap.size+1,0,none⟩ (.bool false)).setCell ⟨w.heap.size+1,1,none⟩ (.int .i64 0)).cell? ⟨w.heap.size,0,none⟩=some (.string nm):=by
  rw[World.cell?_setCell_other _ ⟨w.heap.size+1,1,none⟩ ⟨w.heap.size,0,none⟩ _ (by first|(simp;done)|(simp;omega)),World.cell?_setCell_other _ ⟨w.heap.size+1,0,none⟩ ⟨w.heap.size,0,none⟩ _ (by first|(simp;done)|(simp;omega))]
  exact (Below.cell GZ4.out (p:=⟨w.heap.size,0,none⟩) (by simp;omega)).trans HNM.out
 have hzn:w.heap.size<((w4.setCell ⟨w.heap.size+1,0,none⟩ (.bool false)).setCell ⟨w.heap.size+1,1,none⟩ (.int .i64 0)).heap.size:=by have:=zk;simp;omega
 go_wp2_with fail
 refine (HCO.out _).mono ?_;rintro e wE ⟨AE,cE,rfl,hRE,gE, -⟩
 have gwE:=Gr.trans gw gE
 have hnmE:=(Below.cell gE (p:=⟨w.heap.size,0,none⟩) hzn).trans hnm4
 have hznE:=Nat.lt_of_lt_of_le hzn gE.size
 have hrE:=hr.gr gwE
 have hvE:=hv.gr gwE
 clear k40 k41 zk r0 r1 r2 r3 zr hVA4 hFA4 f40 f41 gw4 GZ4 hzn hnm4 gE gw
 rw[HE.out]
 obtain ⟨Gx,hGx⟩:∃Gx,Gx=grpX text.data.toList:=⟨_,rfl⟩
 obtain ⟨cx,hcx⟩:∃cx,cx=codeY text.data.toList:=⟨_,rfl⟩
 rw[←hGx,←hcx]
 rw[←hcx] at hRE
 obtain ⟨nx,hnx⟩:∃nx,nx=cx.length:=⟨_,rfl⟩
 rw[←hnx]
 obtain ⟨wF,hwF⟩:∃wF,wF=wE.alloc (.cells #[.int .i64 Gx, .slice AE nx cE] 55):=⟨_,rfl⟩
 have gF:Gr wE wF:=by rw[hwF];exact Gr.alloc (Gr.refl wE) _
 have p0:wF.cell? ⟨wE.heap.size,0,none⟩=some (.int .i64 Gx):=by rw[hwF];go_simp
 have p1:wF.cell? ⟨wE.heap.size,1,none⟩=some (.slice AE nx cE):=by rw[hwF];go_simp
 have hzF:wE.heap.size<wF.heap.size:=by rw[hwF];simp
 have hnmF:=(Below.cell gF (p:=⟨w.heap.size,0,none⟩) hznE).trans hnmE
 have HTH:Hid (Calls Tryz.prog 24 #[.slice A L.length c, .func (.func 25) #[] #[.pointer (some ⟨wE.heap.size,0,none⟩), .pointer (some ⟨w.heap.size,0,none⟩)]] wF (RetL (L.filter (grepB nm text)) wF)):=Lib.hid
  (thosee_any (.pointer (some ⟨wE.heap.size,0,none⟩)) (.pointer (some ⟨w.heap.size,0,none⟩)) (grepB nm text) A c L wF (by omega) (hrE.gr gF) (fun x hx W hW=>by
   have:=fclo_any wE.heap.size w.heap.size Gx nx cE AE cx nm x W hnx (by rw[hcx];exact HSZ.out.1) (by rw[hGx];exact HSZ.out.2.1) (by rw[hcx];exact HSZ.out.2.2) (HN.out x hx) ((Below.cell hW (p:=⟨wE.heap.size,0,none⟩) hzF).trans p0) ((Below.cell hW (p:=⟨wE.heap.size,1,none⟩) hzF).trans p1) (Nat.lt_of_lt_of_le hzF hW.size) ((hRE.gr gF).gr hW) ((Below.cell hW (p:=⟨w.heap.size,0,none⟩) (Nat.lt_of_lt_of_le hznE gF.size)).trans hnmF) (Nat.lt_of_lt_of_le hznE (Nat.le_trans gF.size hW.size))
   rw[hcx] at this
   exact this))
 have HwF:=Lib.hid hwF
 rw[←HPP.out] at HTH
 have hP1:P.length≤L.length:=by rw[HPP.out];exact List.length_filter_le _ _
 have hP2:∀x∈P,x∈L:=fun x hx=>by rw[HPP.out] at hx;exact (List.mem_filter.1 hx).1
 have hP20:(P.length:Int)≤20:=by omega
 have HP:Hid (∀x∈P,x.s.vals.length≤1000000∧Rv w x.A x.s.vals):=Lib.hid (fun x hx=>⟨HLE.out x (hP2 x hx),hv x (hP2 x hx)⟩)
 have gw:=Gr.trans gwE gF
 clear hnmE hznE hrE hvE gwE gF p0 p1 hzF hnmF hwF hGx hcx hnx hP1 hP2 hRE
 go_upto_region 13 with (fail)
 rw[←HwF.out]
 clear HwF
 go_upto_region 15 with (go_at_call 24;refine HTH.out.mono ?_;rintro e wD ⟨AD,cD,rfl,hcD,hrD,hgD⟩)
 clear HTH
 have gD:=Gr.trans gw hgD
 clear hgD gw
 go_wp2
 go_loopw [15,51] (fun v i wr=>∃(j:Nat) (M:List Sq),j≤P.length∧i= .int .i64 j∧Gr w wr∧Gr wD wr∧wr.ownsRow wD.heap.size 34 5 v j (scells M)∧M.length=j∧Lie wr M∧Apart v.ownBlock M∧Hid (M.map Sq.s=(P.take j).map Sq.s)) (fun _ i _=>P.length-(intOf i).toNat)
 case atStart=>exact ⟨0,[],Nat.zero_le _,rfl,gD,Gr.refl _,World.ownsRow_nil _ _ _ _,rfl,fun x hx=>absurd hx (by simp),fun x hx=>absurd hx (by simp),Lib.hid rfl⟩
 case round=>
  obtain ⟨j,M,hj,rfl,hgr,hgD,hown,hMl,hLie,hAp,HM⟩:=hrel
  by_cases hlt:j<P.length
  ·
   obtain ⟨x,hx⟩:∃x,P[j]=x:=⟨_,rfl⟩
   obtain ⟨ad,rfl,hb,hx0,hx1,hx2,hx3,hx4⟩:=(hrD.gr hgD).at hlt
   have hmem:=HP.out _ (List.getElem_mem hlt)
   rw[hx] at hx0 hx1 hx2 hx3 hx4 hmem
   have hlx:=hmem.1
   have hvx:=hmem.2
   have QO:=fun w hr=>own_any x.s x.A x.c w hlx hr
   have HM2:Hid (∀y:Sq,y.s=x.s→(M++[y]).map Sq.s=(P.take (j+1)).map Sq.s):=Lib.hid (fun y hy=>by
    rw[List.take_succ_eq_append_getElem hlt,List.map_append,List.map_append,HM.out,hx]
    simp[hy])
   clear hx hlx hmem HM
   go_wp2_with fail
   refine (QO _ ((hvx.gr hgr).gr (Gr.alloc (Gr.refl _) _))).mono ?_;rintro e' w5 ⟨A5,c5,rfl,hr5,hg5,hnew⟩
   have hbox:=Gr.trans (Gr.alloc (Gr.refl wr) _) hg5
   have hown5:=own_gr hown hbox
   have gw5:=Gr.trans hgr hbox
   have gD5:=Gr.trans hgD hbox
   have hLie5:=hLie.gr hbox
   have hrx:=Rl.new (W:=w5) rfl 34 [⟨x.s,A5,c5⟩]
   have hv0:=hown5.alloc (.cells (scells [⟨x.s,A5,c5⟩]).toArray 34)
   have hvl:=hown5.lt
   have z5:=gw5.size
   have z6:=gD5.size
   have z7:=gD.size
   have HNW:=Lib.hid (fun (ad:Addr) (h:A5=some ad)=>new_apart hown (ad:=ad) (by have h1:=hnew ad h;simp at h1;omega))
   clear hnew hg5 hx0 hx1 hx2 hx3 hx4
   go_wp2_with
    (
     at_builtin
     refine wpList_append_rd rfl (.tmp 55) (.tmp 58) 22 rfl wD.heap.size 34 i0 _ 5 64 Tryz.underlying22 hi0 hz0 hz1 hz2 rfl (by decide) _ j _ rfl hv0 (some ⟨w5.heap.size,0,none⟩) 1 _ (scells [⟨x.s,A5,c5⟩]) rfl hrx (scells_one _) (by unfold maxLen;omega) (by omega) (by simp;omega) ?_
     intro v' w7 hown7 hgr7 hat7)
   have hg7:Gr w w7:=Gr.grown (Gr.alloc gw5 _) hgr7 (fun j hj=>by have:=(hvl j hj).1;omega)
   have hgD7:Gr wD w7:=Gr.grown (Gr.alloc gD5 _) hgr7 (fun j hj=>(hvl j hj).1)
   have hLie7:Lie w7 (M++[⟨x.s,A5,c5⟩]):=fun y hy=>by
    rcases List.mem_append.1 hy with hy|hy
    ·
     exact Rv.grown ((hLie5 y hy).gr (Gr.alloc (Gr.refl w5) _)) hgr7 (fun hn ad h=>hAp y hy hn ad h)
    ·
     rw[List.mem_singleton.1 hy]
     exact Rv.grown (hr5.gr (Gr.alloc (Gr.refl w5) _)) hgr7 (fun _ ad h=>HNW.out ad h)
   have hAp7:Apart v'.ownBlock (M++[⟨x.s,A5,c5⟩]):=fun y hy hn ad h=>by
    rcases hat7 with e7|e7
    ·
     rw[e7]
     rcases List.mem_append.1 hy with hy|hy
     ·
      exact hAp y hy hn ad h
     ·
      rw[List.mem_singleton.1 hy] at h;exact HNW.out ad h
    ·
     rw[e7]
     intro e8
     injection e8 with e8
     simp at e8
     rcases List.mem_append.1 hy with hy|hy
     ·
      have:=(hLie5 y hy).blk hn h;omega
     ·
      rw[List.mem_singleton.1 hy] at h hn
      have:=hr5.blk hn h;omega
   have hown8:w7.ownsRow wD.heap.size 34 5 v' (j+1) (scells (M++[⟨x.s,A5,c5⟩])):=by rw[scells_append];exact hown7
   have HM3:=Lib.hid (HM2.out ⟨x.s,A5,c5⟩ rfl)
   clear hv0 hvl hgr7 hat7 hrx hown5 hown7 hown hLie hLie5 hAp hr5 hbox HM2
   go_roundw
   case rel=>exact ⟨j+1,M++[⟨x.s,A5,c5⟩],by omega,by go_num,hg7,hgD7,hown8,by simp[hMl],hLie7,hAp7,HM3⟩
   case measure=>simp[intOf];omega
  ·
   have hkk:j=P.length:=by omega
   subst hkk
   obtain ⟨A',c',hvv⟩:=own_form hown
   subst hvv
   have hcap1:=own_cap hown
   have hRd:=Rd.own hown
   have HJ:Hid (M.map Sq.s=P.map Sq.s):=Lib.hid (by rw[HM.out,List.take_length])
   have HE2:Hid (Ending.returned (.tuple #[.slice A' P.length c', .int .i64 0])=Ending.returned (.tuple #[.slice A' M.length c', .int .i64 0])):=Lib.hid (by rw[hMl])
   have hRl:Rl wr A' M:=by unfold Rl;rw[hMl];exact hRd
   have HMC:Hid (M.length≤c'):=Lib.hid (by rw[hMl];exact hcap1)
   clear hMl HM hAp hown hRd
   go_wp2
   go_ret2
   exact ⟨A',M,c',HE2.out,HJ.out,HMC.out,hRl,hLie,hgr⟩
theorem finds_any (nm text:ByteArray) (k:Vl) (A:Option Addr) (c:Nat) (L:List Sq) (w:World) (hf:(findF nm).isSome=true) (hok:okL L=true) (h0:(rowF nm).kind=0) (ht:text.size≤500) (hC:CmpY text) (hn4:∀x∈L,x.s.name.size≤4096) (h20:L.length≤20) (hle:∀x∈L,x.s.vals.length≤1000000) (hr:Rl w A L) (hv:Lie w L) :
  Calls Tryz.prog 11 #[.string nm, .agg #[.bool k.ok, .int .i64 k.n], .string text, .slice A L.length c] w (RetA (errX text.data.toList) ((bif errX text.data.toList==0 then L.filter (grepB nm text) else []).map Sq.s) w):=by
 by_cases he:errX text.data.toList=0
 ·
  rw[he]
  cases hk:isB k
  ·
   exact finds_none_ok nm text k A c L w hf hok hk h0 ht hC hn4 h20 hle hr hv _ rfl he
  ·
   exact finds_yes_ok nm text k A c L w hf hok hk h0 ht hC hn4 h20 hle hr hv _ rfl he
 ·
  rw[beq_eq_false_iff_ne.2 he]
  cases hk:isB k
  ·
   exact finds_none_err nm text k A c L w hf hok hk h0 ht hC hn4 h20 hle hr hv _ rfl (by simpa [bne] using he)
  ·
   exact finds_yes_err nm text k A c L w hf hok hk h0 ht hC hn4 h20 hle hr hv _ rfl (by simpa [bne] using he)
end Go.Proofs.YtnphdacibageiaaGreat
