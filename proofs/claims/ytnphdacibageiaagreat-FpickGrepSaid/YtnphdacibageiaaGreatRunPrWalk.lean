import Derived.Test.YtnphdacibageiaaGreatRunPrArms
import Derived.Test.YtnphdacibageiaaGreatRunRxFail
import Derived.Test.YtnphdacibageiaaGreatRunRxPutW
import Derived.Test.YtnphdacibageiaaGreatRunFpLawA
import Derived.Test.YtnphdacibageiaaGreatRunPkVis
set_option linter.all false
set_option maxRecDepth 1000000
set_option maxHeartbeats 12800000
namespace Go.Proofs.YtnphdacibageiaaGreat
open Go.RowKit
theorem rwalk_any (G n cA:Nat) (A:Option Addr) (code:List In) (s:ByteArray) (i:Nat) (hn:n=code.length) (hn2:n≤2000) (hG:G≤1000) (hs:(s.size:Int)≤4096) (hi:i≤s.size) (hps:∀v∈code,v.ps.length≤100000) (w:World) (hr:Ri w A code) :
  Calls Tryz.prog 121 #[.agg #[.int .i64 G, .slice A n cA], .string s, .int .i64 i] w (RetWk (AccS code s.data.toList (· = i)) w):=by
 obtain ⟨j0,hj0,jz0,jz1,jz2⟩:=info_parts info_int12
 obtain ⟨i0,hi0,hz0,hz1,hz2⟩:=info_parts info_way12
 obtain ⟨L,hL⟩:∃L,L=s.size:=⟨_,rfl⟩
 obtain ⟨N,hN⟩:∃N,N=n*(L+1):=⟨_,rfl⟩
 have hNle:N≤8194000:=by
  rw[hN]
  exact Nat.le_trans (Nat.mul_le_mul hn2 (by omega:L+1≤4097)) (by decide)
 have hNi:(n:Int)*((s.size:Int)+1)=(N:Int):=by rw[hN,hL];simp
 obtain ⟨V,hV⟩:∃V,V=w.alloc (.cells #[.int .i64 G, .slice A n cA] 99):=⟨_,rfl⟩
 have gV:Gr w V:=by rw[hV];exact Gr.alloc (Gr.refl w) _
 have hzV:w.heap.size<V.heap.size:=by rw[hV];simp
 have b0:V.cell? ⟨w.heap.size,0,none⟩=some (.int .i64 G):=by rw[hV];go_simp
 have b1:V.cell? ⟨w.heap.size,1,none⟩=some (.slice A n cA):=by rw[hV];go_simp
 have HV:=Lib.hid hV
 have GV:=Lib.hid gV
 have HR:=Lib.hid hr
 have HPS:=Lib.hid hps
 have HC:=Lib.hid (And.intro hn (And.intro hN hL))
 obtain ⟨arr,harr,hms⟩:∃arr:Array Value,(∀j,j<N→arr[j]?=some (.bool false))∧∀W,(Instr.makeSlice 173 (.int .i64 (N:Nat)) (.int .i64 (N:Nat))).run Tryz.prog W= .ok (.slice (some ⟨W.heap.size,0,none⟩) N N) (W.alloc (.cells arr 4)):=by
  obtain ⟨k0,hk0,kz0,kz1,kz2⟩:=info_parts info_bool12
  refine ⟨madeCells (Value.bool false).cells N,fun j hj=>?_,fun W=>?_⟩
  ·
   simp[madeCells,Value.cells,hj,Nat.mod_one]
  ·
   have:=run_makeSlice (P:=Tryz.prog) (w:=W) 173 4 k0 (.bool false) Tryz.underlying173 hk0 kz0 .i64 .i64 (N:Int) (N:Int) (by omega) (Int.le_refl _) (by rw[kz1];simp;omega) (by rw[kz2];omega) (by omega)
   rw[kz1,Nat.mul_one,Int.toNat_natCast] at this
   exact this
 have Harr:=Lib.hid harr
 clear harr
 have hwn:wrap64 ((n:Int)*((s.size:Int)+1))=(N:Int):=by rw[hNi];exact IntWalk.wrap64_in (N:Int) (by omega)
 clear hV gV hr hn hN hNi hps
 go_enter Tryz.func121,Tryz.ntmps121
 go_upto_region 1 with (fail)
 rw[←HV.out]
 clear HV
 go_wp2
 go_loopw [8,9] (fun v k wr=>∃j:Nat,j≤2*G+2∧k= .int .i64 j∧Gr V wr∧wr.ownsRow V.heap.size 3 1 v j (icl (List.replicate j (-1)))) (fun _ k _=>2*G+2-(intOf k).toNat)
 case atStart=>exact ⟨0,Nat.zero_le _,rfl,Gr.refl _,World.ownsRow_nil _ _ _ _⟩
 case round=>
  obtain ⟨j,hj,rfl,hgr,hown⟩:=hrel
  have c0:=(Below.cell hgr (p:=⟨w.heap.size,0,none⟩) hzV).trans b0
  have c1:=(Below.cell hgr (p:=⟨w.heap.size,1,none⟩) hzV).trans b1
  clear b0 b1
  have hGi:(G:Int)≤1000:=by omega
  by_cases hlt:j<2*G+2
  ·
   have hji:(j:Int)<2*(G:Int)+2:=by omega
   have Hgr:=Lib.hid hgr
   have hv0:=own_grU hown (Gr.alloc (Gr.refl wr) (.cells #[.int .i64 (-1)] 3))
   have hvl:=hown.lt
   have hrx:Rd (wr.alloc (.cells #[.int .i64 (-1)] 3)) 1 (some ⟨wr.heap.size,0,none⟩) 1 [.int .i64 (-1)]:=Rd.newU (W:=wr) rfl 3 [.int .i64 (-1)] rfl
   have hsz:=hgr.size
   clear hown hgr
   go_wp2_with (at_builtin;refine wpList_append_rd rfl (.tmp 23) (.tmp 24) 87 rfl V.heap.size 3 j0 _ 1 8 Tryz.underlying87 hj0 jz0 jz1 jz2 rfl (by decide) _ _ _ rfl hv0 (some ⟨wr.heap.size,0,none⟩) 1 _ [.int .i64 (-1)] rfl hrx (by simp[Value.oneCell']) (by unfold maxLen;omega) (by omega) (by simp;omega) ?_;intro v' w2 hown2 hgr2 hat2)
   have hg2:Gr V w2:=Gr.grown (Gr.alloc Hgr.out _) hgr2 (fun k hk=>(hvl k hk).1)
   have HO:Hid (w2.ownsRow V.heap.size 3 1 v' (j+1) (icl (List.replicate (j+1) (-1)))):=Lib.hid (by rw[List.replicate_succ'];simpa [icl] using hown2)
   clear hv0 hvl hgr2 hat2 hrx hown2
   go_wp2
   go_roundw
   case rel=>exact ⟨j+1,by omega,by go_num,hg2,HO.out⟩
   case measure=>simp[intOf];omega
  ·
   have hjj:j=2*G+2:=by omega
   subst hjj
   obtain ⟨A1,c1',hv⟩:=own_form hown
   subst hv
   have HO:=Lib.hid hown
   have Hgr:=Lib.hid hgr
   clear hown hgr
   go_upto_region 8 with (fail)
   obtain ⟨B1,hB1⟩:∃B1,B1=wr.heap.size:=⟨_,rfl⟩
   obtain ⟨W0,hW0⟩:∃W0,W0=(wr.alloc (.cells arr 4)).alloc (.cells #[.int .i64 0, .int .i64 i, .slice A1 (2*G+2) c1'] 175):=⟨_,rfl⟩
   have I0:PrM w w.heap.size G n cA B1 N A W0 (.slice (some ⟨B1+1,0,none⟩) 1 1) [⟨0,i, .slice A1 (2*G+2) c1'⟩] (fun _=>false):=
    pr_start GV.out Hgr.out hzV hB1 hW0 c0 c1 Harr.out hG HO.out
   have J0:PrL code s.data.toList i (fun _=>false) [((0:Int),i)]:=PrL.start (by simpa using hi)
   rw[←hW0,←hB1]
   try rw[hwn]
   rw[show ((2*G+2:Nat):Int)=2*(G:Int)+2 by omega]
   have HBB:=Lib.hid hB1
   have HU:=Lib.hid (unseen_first N)
   have K0:RelPr code s.data.toList i w w.heap.size G n cA B1 N A (.slice (some ⟨B1+1,0,none⟩) 1 1) W0:=⟨[⟨0,i, .slice A1 (2*G+2) c1'⟩],fun _=>false,I0,J0,HU.out⟩
   have HK0:=Lib.hid K0
   clear hW0 c0 c1 hB1 I0 J0 K0 HU hL hms hj hlt hGi hwn
   go_loopw [11] (RelPr code s.data.toList i w w.heap.size G n cA B1 N A) (fun v wq=>3*unseenW B1 N wq+lenV v)
   case atStart=>exact HK0.out
   case round=>
    clear HK0
    obtain ⟨T,σ,I,J,hlen⟩:=hrel
    rcases List.eq_nil_or_concat T with rfl|⟨T0,x,rfl⟩
    ·
     obtain ⟨A2,c2,hv⟩:=own_form I.own
     subst hv
     have HI:=Lib.hid I
     have HJ:=Lib.hid J
     clear I J
     go_wp2
     go_ret2
     exact ⟨.slice none 0 0,false,rfl,⟨fun h=>(by cases h),fun h=>absurd h (PrL.done HJ.out)⟩,HI.out.gr⟩
    ·
     rw[List.concat_eq_append] at I J hlen
     obtain ⟨A2,cv,hv⟩:=own_form I.own
     rw[List.length_append,List.length_singleton] at hv hlen
     subst hv
     have hown:=I.own
     rw[List.length_append,List.length_singleton] at hown
     obtain ⟨g,rfl,hgb,hgz,hcells⟩:=own_blockU hown (Nat.succ_pos _)
     have htop:=top_cells hcells
     have hcv:=own_capP hown
     have hcvi:(T0.length:Int)+1≤(cv:Int):=by omega
     have hcvm:(cv:Int)≤9223372036854775807:=by have:=hcv.2;unfold maxLen at this;omega
     clear hcv
     have IP:=I.pop
     obtain ⟨a,ms,cs,hsv,hm0,hm3,haz,ha1,hag,hac⟩:=I.sv x (List.mem_append_right _ (List.mem_singleton.2 rfl))
     obtain ⟨pc,p,sv⟩:=x
     simp only at hsv htop
     subst hsv
     obtain ⟨t0,t1,t2⟩:=htop
     have hp:p≤s.size:=by
      have:=(J.snd (pc,p) (by simp[Wy.st])).le
      simpa using this
     have Hlen:=Lib.hid hlen
     have hTl:=tl_le hlen hNle
     clear hlen
     have hTi:(T0.length:Int)≤16388000:=by omega
     have hpi:(p:Int)≤(s.size:Int):=by omega
     have HJ:Hid (PrL code s.data.toList i σ (T0.map Wy.st++[(pc,p)])):=Lib.hid (by simpa [Wy.st] using J)
     have Hmeas:=Lib.hid I.unseen
     clear hown hcells J hgb
     go_upto_region 10 with (fail)
     obtain ⟨wB,hwB⟩:∃wB,wB=wr.alloc (.cells #[.int .i64 pc, .int .i64 p, .slice (some ⟨a,0,none⟩) ms cs] 175):=⟨_,rfl⟩
     have gB:Gr wr wB:=by rw[hwB];exact Gr.alloc (Gr.refl wr) _
     have hzw:wr.heap.size<wB.heap.size:=by rw[hwB];simp
     have e0:wB.cell? ⟨wr.heap.size,0,none⟩=some (.int .i64 pc):=by rw[hwB];go_simp
     have e1:wB.cell? ⟨wr.heap.size,1,none⟩=some (.int .i64 p):=by rw[hwB];go_simp
     have e2:wB.cell? ⟨wr.heap.size,2,none⟩=some (.slice (some ⟨a,0,none⟩) ms cs):=by rw[hwB];go_simp
     have HB1z:=Lib.hid (show B1<wr.heap.size from IP.hB.2)
     have IB:=IP.gr' gB
     have HIB:=Lib.hid IB
     obtain ⟨b0,b1⟩:=And.intro IB.b0 IB.b1
     have Hseen:=Lib.hid IB.seen
     have HSV:Hid (Svo wB B1 (.slice (some ⟨g,0,none⟩) T0.length cv) (.slice (some ⟨a,0,none⟩) ms cs)):=Lib.hid (Svo.gr ⟨a,ms,cs,rfl,hm0,hm3,haz,ha1,hag,hac⟩ gB)
     have hhz:w.heap.size<wB.heap.size:=Nat.lt_trans IB.hB.1 IB.hB.2
     rw[←hwB]
     have hBw:B1<wr.heap.size:=HB1z.out
     have hgw:g<wr.heap.size:=hgz
     generalize wr.heap.size=Bw at *
     clear hwB t0 t1 t2 IP IB gB I hac hag ha1 haz hm3 hm0 hgz
     go_upto_region 11 with (fail)
     by_cases hpc:InR code pc
     ·
      obtain ⟨k,rfl⟩:∃k:Nat,pc=k:=⟨pc.toNat,by have:=hpc.1;omega⟩
      have hpcn:k<n:=by have:=hpc.2;rw[HC.out.1];omega
      obtain ⟨M,hMN,hMNi,hMi,HX⟩:=idx_facts s HC.out.2.2 HC.out.2.1 hpcn hp hNle
      have HMi:=Lib.hid hMi
      clear hMi
      have hNi8:(N:Int)≤8194000:=by omega
      have hkn:(k:Int)<(n:Int):=by omega
      have hMp0:(0:Int)≤(M:Int)+(p:Int):=by omega
      have hMp:wrap64 ((M:Int)+(p:Int))=(M:Int)+(p:Int):=IntWalk.wrap64_in ((M:Int)+(p:Int)) (by omega)
      have hMi:=HMi.out
      have hMw:IntKind.i64.wrap ((M:Int)+(p:Int))=(M:Int)+(p:Int):=i64_near hMp0 (near_of hMNi hNi8)
      obtain ⟨sJ,fJ⟩:=Hseen.out (M+p) hMN
      clear hpc
      cases hsd:σ (M+p)
      ·
       rw[hsd] at sJ
       have HUV:=Lib.hid (unseen_visit hMN hsd)
       have HK:Hid (k<code.length):=Lib.hid (by rw[←HC.out.1];exact hpcn)
       have HVis:Hid (∀T':List (Int×Nat),(code[k]'HK.out).op≠7→succS code s.data.toList k p=T'→PrL code s.data.toList i (fun j=>j==M+p||σ j) (T0.map Wy.st++T')):=Lib.hid fun T' h7 e=>by
        have h:=HJ.out.visit HK.out (by simpa using hp) h7
        rw[HX.out.2,e] at h
        exact h
       have HFND:Hid ((code[k]'HK.out).op=7→AccS code s.data.toList (· = i)):=Lib.hid fun h=>HJ.out.found HK.out h
       clear hsd
       go_upto_region 13 with (fail)
       clear hMp hMi
       have IS:=HIB.out.see (Nat.le_refl _) (M+p) hMN
       have HSV2:=Lib.hid (HSV.out.see (M+p) (.bool true))
       have e0':=(set_oth (w:=wB) hBw (M+p) 0 (.bool true)).trans e0
       have e1':=(set_oth (w:=wB) hBw (M+p) 1 (.bool true)).trans e1
       have e2':=(set_oth (w:=wB) hBw (M+p) 2 (.bool true)).trans e2
       have hwS:Bw<(wB.setCell ⟨B1,M+p,none⟩ (.bool true)).heap.size:=by simpa using hzw
       have hhS:w.heap.size<(wB.setCell ⟨B1,M+p,none⟩ (.bool true)).heap.size:=by simpa using hhz
       generalize wB.setCell ⟨B1,M+p,none⟩ (.bool true)=wS at IS HSV2 e0' e1' e2' hwS hhS ⊢
       clear sJ fJ e0 e1 e2 b0 b1 HIB HSV Hseen hzw hhz
       obtain ⟨b0,b1⟩:=And.intro IS.b0 IS.b1
       obtain ⟨ad,rfl,hadlt,d0,d1,d2,d3⟩:=Ri.at (HR.out.gr IS.gr) HK.out
       obtain ⟨vi,hvi⟩:∃vi,vi=code[k]'HK.out:=⟨_,rfl⟩
       rw[←hvi] at d0 d1 d2 d3
       obtain ⟨op,x,y,ps⟩:=vi
       simp only at d0 d1 d2 d3
       have HVV:=Lib.hid hvi.symm
       have HIS:=Lib.hid IS
       clear hvi IS
       go_upto_region 14 with (fail)
       obtain ⟨wC,hwC⟩:∃wC,wC=wS.alloc (.cells #[.int .i64 op, .int .i64 x, .int .i64 y, .string ⟨ps.toArray⟩] 143):=⟨_,rfl⟩
       have gC:Gr wS wC:=by rw[hwC];exact Gr.alloc (Gr.refl wS) _
       have q0:wC.cell? ⟨wS.heap.size,0,none⟩=some (.int .i64 op):=by rw[hwC];go_simp
       have q1:wC.cell? ⟨wS.heap.size,1,none⟩=some (.int .i64 x):=by rw[hwC];go_simp
       have q2:wC.cell? ⟨wS.heap.size,2,none⟩=some (.int .i64 y):=by rw[hwC];go_simp
       have q3:wC.cell? ⟨wS.heap.size,3,none⟩=some (.string ⟨ps.toArray⟩):=by rw[hwC];go_simp
       have hqC:wS.heap.size<wC.heap.size:=by rw[hwC];simp
       rw[←hwC]
       have HIC:=Lib.hid (HIS.out.gr' gC)
       have HSV4:=Lib.hid (HSV2.out.gr gC)
       have e0:=(Below.cell gC (p:=⟨Bw,0,none⟩) hwS).trans e0'
       have e1:=(Below.cell gC (p:=⟨Bw,1,none⟩) hwS).trans e1'
       have e2:=(Below.cell gC (p:=⟨Bw,2,none⟩) hwS).trans e2'
       have hwC2:Bw<wC.heap.size:=Nat.lt_of_lt_of_le hwS gC.size
       generalize wS.heap.size=Bq at hqC q0 q1 q2 q3 ⊢
       clear hwC gC e0' e1' e2' hwS hhS d0 d1 d2 d3 hadlt b0 b1 HIS HSV2
       have hwC:=hwC2
       clear hwC2
       obtain ⟨b0,b1⟩:=And.intro HIC.out.b0 HIC.out.b1
       have hkn:(k:Int)<2000:=by omega
       have hgB:g<Bw:=hgw
       go_upto_if 96 with (fail)
       refine sw_7 (HK:=HK) (HVV:=HVV) (HPS:=HPS) (HVis:=HVis) (HFND:=HFND) (Hlen:=Hlen) (HUV:=HUV) (Hmeas:=Hmeas) (HIC:=HIC) (HSV4:=HSV4) (e0:=e0) (e1:=e1) (e2:=e2) (q0:=q0) (q1:=q1) (q2:=q2) (q3:=q3) (hwC:=hwC) (hqC:=hqC) (hBw:=hBw) (hgw:=hgw) (hTi:=hTi) (hcvi:=hcvi) (hcvm:=hcvm) (hpi:=hpi) (hp:=hp) (hs:=hs) (hkn:=hkn) (HQ:=?hq) (HR:=?hr)
       case hq=>
        refine Lib.hid ?_
        intro v w2 hrel hmeas u14 u96 u97 u98 u99 u100 u101 u102 u103 u104 u105 u106 u107 u108 u109 u110 u111 u112 u113 u114 u115 u116 u117 u118 u119 u120 u121 u122 u123 u124 u125 u126 u127 u128 u129 u130 u131 u132 u133 u134 u135 u136 u137 u138 u139 u140 u141 u142 u143 u144 u145 u146 u147 u148 u149 u150 u151 u152 u153 u154 u155 u156 u157 u158 u159 u160 u161 u162 u163 u164 u165 u166 u167 u168 u169 u170 u171 u172 u173 u174 u175 u176 u177 u178 u179 u180 u181 u182 u183 u184 u185 u186 u187 u188 u189 u190 u191 u192 u193 u194 u195 u196 u197 u198 u199 u200 u201 u202 u203 u204 u205 u206 u207 u208 u209 u210 u211 u212 u213 u214 u215 u216 u217 u218 u219 u220 u221 u222 u223 u224
        have HF:=Lib.hid (And.intro hrel hmeas)
        clear hrel hmeas
        go_wp2
        go_roundw
        case rel=>exact HF.out.1
        case measure=>exact HF.out.2
       case hr=>
        refine Lib.hid ?_
        intro ho7 u14 u96 u97 u98 u99 u100 u101 u102 u103 u104 u105 u106 u107 u108 u109 u110 u111 u112 u113 u114 u115 u116 u117 u118 u119 u120 u121 u122 u123 u124 u125 u126 u127 u128 u129 u130 u131 u132 u133 u134 u135 u136 u137 u138 u139 u140 u141 u142 u143 u144 u145 u146 u147 u148 u149 u150 u151 u152 u153 u154 u155 u156 u157 u158 u159 u160 u161 u162 u163 u164 u165 u166 u167 u168 u169 u170 u171 u172 u173 u174 u175 u176 u177 u178 u179 u180 u181 u182 u183 u184 u185 u186 u187 u188 u189 u190 u191 u192 u193 u194 u195 u196 u197 u198 u199 u200 u201 u202 u203 u204 u205 u206 u207 u208 u209 u210 u211 u212 u213 u214 u215 u216 u217 u218 u219 u220 u221 u222 u223 u224
        have HO7:=Lib.hid ho7
        clear ho7
        go_wp2
        go_ret2
        exact ⟨_,true,rfl,⟨fun _=>HFND.out (by rw[HVV.out];exact HO7.out),fun _=>rfl⟩,HIC.out.gr⟩
      ·
       rw[hsd] at sJ
       have HF:=Lib.hid (HIB.out.fin0 (HJ.out.skip (fun _=>by rw[HX.out.1];exact hsd)) Hlen.out Hmeas.out)
       clear hsd
       go_wp2
       go_roundw
       case rel=>exact HF.out.1
       case measure=>exact HF.out.2
     ·
      have HF:=Lib.hid (HIB.out.fin0 (HJ.out.skip (fun h=>absurd h hpc)) Hlen.out Hmeas.out)
      by_cases hneg:pc<0
      ·
       clear hpc
       go_wp2
       go_roundw
       case rel=>exact HF.out.1
       case measure=>exact HF.out.2
      ·
       have hge:(n:Int)≤pc:=by
        rcases Int.lt_or_le pc n with h1|h1
        ·
         exact absurd ⟨by omega,by rw[←HC.out.1];exact h1⟩ hpc
        ·
         exact h1
       clear hpc
       go_wp2
       go_roundw
       case rel=>exact HF.out.1
       case measure=>exact HF.out.2
def RetFd (b:Bool) (w:World) (e:Ending) (w':World):Prop:=∃v,e= .returned (.tuple #[v, .bool b])∧Gr w w'
theorem RetFd.of {b c:Bool} {v:Value} {w w':World} (h:b=c) (g:Gr w w'):RetFd b w (.returned (.tuple #[v, .bool c])) w':=by subst h;exact ⟨v,rfl,g⟩
theorem rfind_any (G n cA:Nat) (A:Option Addr) (code:List In) (s:ByteArray) (hn:n=code.length) (hn2:n≤2000) (hG:G≤1000) (hs:(s.size:Int)≤4096) (hps:∀v∈code,v.ps.length≤100000) (w:World) (hr:Ri w A code) :
  Calls Tryz.prog 95 #[.agg #[.int .i64 G, .slice A n cA], .string s, .int .i64 0] w (RetFd (isC code s.data.toList) w):=by
 obtain ⟨V,hV⟩:∃V,V=w.alloc (.cells #[.int .i64 G, .slice A n cA] 99):=⟨_,rfl⟩
 have gV:Gr w V:=by rw[hV];exact Gr.alloc (Gr.refl w) _
 have hzV:w.heap.size<V.heap.size:=by rw[hV];simp
 have b0:V.cell? ⟨w.heap.size,0,none⟩=some (.int .i64 G):=by rw[hV];go_simp
 have b1:V.cell? ⟨w.heap.size,1,none⟩=some (.slice A n cA):=by rw[hV];go_simp
 have HV:=Lib.hid hV
 have GV:=Lib.hid gV
 have HR:=Lib.hid (hr.gr gV)
 have HW:=Lib.hid (fun i (hi:i≤s.size) W hW=>rwalk_any G n cA A code s i hn hn2 hG hs hi hps W hW)
 have hGi:(G:Int)≤1000:=by omega
 have hsl:Hid (s.data.toList.length=s.size):=Lib.hid (by simp)
 clear hV gV hr hn hps
 go_enter Tryz.func95,Tryz.ntmps95
 go_upto_region 1 with (fail)
 rw[←HV.out]
 clear HV
 go_wp2
 go_loopw [8] (fun i wr=>∃k:Nat,k≤s.size+1∧i= .int .i64 k∧Gr V wr∧Hid (∀j,j<k→¬AccS code s.data.toList (· = j))) (fun i _=>s.size+1-(intOf i).toNat)
 case atStart=>exact ⟨0,Nat.zero_le _,rfl,Gr.refl _,Lib.hid fun j h=>absurd h (Nat.not_lt_zero _)⟩
 case round=>
  obtain ⟨k,hk,rfl,hgr,hall⟩:=hrel
  have c0:=(Below.cell hgr (p:=⟨w.heap.size,0,none⟩) hzV).trans b0
  have c1:=(Below.cell hgr (p:=⟨w.heap.size,1,none⟩) hzV).trans b1
  have Hgr:=Lib.hid hgr
  by_cases hlt:k≤s.size
  ·
   have hki:(k:Int)≤(s.size:Int):=by omega
   have HC:=Lib.hid (HW.out k hlt wr (HR.out.gr hgr))
   clear b0 b1 hgr
   by_cases hacc:AccS code s.data.toList (· = k)
   ·
    have HY:Hid (isC code s.data.toList=true):=Lib.hid (acc_of (by rw[hsl.out];exact hlt) hacc)
    have HA:=Lib.hid hacc
    clear hacc
    go_wp2_with (go_at_call 121;refine HC.out.mono ?_;rintro e w2 ⟨v2,z2,rfl,hz2,g2⟩;obtain rfl:z2=true:=hz2.2 HA.out;have G2:=Lib.hid g2;clear hz2 g2)
    go_ret2
    exact RetFd.of HY.out ((GV.out.trans Hgr.out).trans G2.out)
   ·
    have HA:=Lib.hid hacc
    clear hacc
    go_wp2_with (go_at_call 121;refine HC.out.mono ?_;rintro e w2 ⟨v2,z2,rfl,hz2,g2⟩;obtain rfl:z2=false:=Bool.eq_false_iff.2 (fun e=>HA.out (hz2.1 e));have G2:=Lib.hid g2;clear hz2 g2)
    go_roundw
    case rel=>exact ⟨k+1,by omega,by go_num,Hgr.out.trans G2.out,Lib.hid fun j hj=>by
     rcases Nat.lt_succ_iff_lt_or_eq.1 hj with h|h
     ·
      exact hall.out j h
     ·
      rw[h];exact HA.out⟩
    case measure=>simp[intOf];omega
  ·
   have hgt:¬(k:Int)≤(s.size:Int):=by omega
   have HN:Hid (isC code s.data.toList=false):=Lib.hid (acc_not fun i hi=>hall.out i (by rw[hsl.out] at hi;omega))
   clear b0 b1 hgr
   go_wp2
   go_ret2
   exact RetFd.of HN.out (GV.out.trans Hgr.out)
theorem rpis_any (G n cA:Nat) (A:Option Addr) (code:List In) (s:ByteArray) (hn:n=code.length) (hn2:n≤2000) (hG:G≤1000) (hs:(s.size:Int)≤4096) (hps:∀v∈code,v.ps.length≤100000) (w:World) (hr:Ri w A code) :
  Calls Tryz.prog 64 #[.agg #[.int .i64 G, .slice A n cA], .string s] w fun e w'=>e= .returned (.bool (isC code s.data.toList))∧Gr w w':=by
 have HF:=Lib.hid (fun W hW=>rfind_any G n cA A code s hn hn2 hG hs hps W hW)
 have gV:Gr w (w.alloc (.cells #[.int .i64 G, .slice A n cA] 99)):=Gr.alloc (Gr.refl w) _
 have HR:=Lib.hid (hr.gr gV)
 have GV:=Lib.hid gV
 clear hr hn gV hps
 go_enter Tryz.func64,Tryz.ntmps64
 go_wp2_with (go_at_call 95;refine (HF.out _ HR.out).mono ?_;rintro e w2 ⟨v2,rfl,g2⟩;have G2:=Lib.hid g2;clear g2)
 go_ret
 exact ⟨rfl,GV.out.trans G2.out⟩
theorem toNat_ofNat {k:Nat} (h:k<256):(UInt8.ofNat k).toNat=k:=by simp;omega
def alnB (b:Nat):Bool:=(Nat.ble 97 b&&Nat.ble b 122)||((Nat.ble 65 b&&Nat.ble b 90)||(Nat.ble 48 b&&Nat.ble b 57))
theorem info_rinst:(Tryz.prog.info? 143).map (fun i=>(i.zero,i.size,i.bytes))=some (some (.agg #[.int .i64 0, .int .i64 0, .int .i64 0, .string ⟨#[]⟩]),4,40):=by kernel_rfl
structure RfC (w:World) (R:Nat) (s:ByteArray) (n d e g:Nat) (A:Option Addr) (code:List In) (c:Nat):Prop where
 c0:w.cell? ⟨R,0,none⟩=some (.string s)
 c1:w.cell? ⟨R,1,none⟩=some (.int .i64 n)
 c2:w.cell? ⟨R,2,none⟩=some (.int .i64 d)
 c3:w.cell? ⟨R,3,none⟩=some (.int .i64 e)
 c4:w.cell? ⟨R,4,none⟩=some (.int .i64 g)
 c5:w.cell? ⟨R,5,none⟩=some (.slice A code.length c)
 f1:w.frozen? ⟨R,1,none⟩=false
 f2:w.frozen? ⟨R,2,none⟩=false
 f3:w.frozen? ⟨R,3,none⟩=false
 f4:w.frozen? ⟨R,4,none⟩=false
 f5:w.frozen? ⟨R,5,none⟩=false
 own:w.ownsRow (R+1) 143 4 (.slice A code.length c) code.length (icells code)
 lt:R<w.heap.size
def RfW (w:World) (R:Nat) (s:ByteArray) (n d e g:Nat) (A:Option Addr) (code:List In):Prop:=∃c,RfC w R s n d e g A code c
theorem RfW.setAt {w:World} {R n d e g:Nat} {s:ByteArray} {A:Option Addr} {code:List In} (h:RfW w R s n d e g A code) (n':Nat):RfW (w.setCell ⟨R,1,none⟩ (.int .i64 n')) R s n' d e g A code:=by
 obtain ⟨c,h⟩:=h
 refine ⟨c,(World.cell?_setCell_other w ⟨R,1,none⟩ ⟨R,0,none⟩ _ (by simp)).trans h.c0,?_,(World.cell?_setCell_other w ⟨R,1,none⟩ ⟨R,2,none⟩ _ (by simp)).trans h.c2,(World.cell?_setCell_other w ⟨R,1,none⟩ ⟨R,3,none⟩ _ (by simp)).trans h.c3,(World.cell?_setCell_other w ⟨R,1,none⟩ ⟨R,4,none⟩ _ (by simp)).trans h.c4,(World.cell?_setCell_other w ⟨R,1,none⟩ ⟨R,5,none⟩ _ (by simp)).trans h.c5,by rw[World.frozen?_setCell];exact h.f1,by rw[World.frozen?_setCell];exact h.f2,by rw[World.frozen?_setCell];exact h.f3,by rw[World.frozen?_setCell];exact h.f4,by rw[World.frozen?_setCell];exact h.f5,own_setX h.own (p:=⟨R,1,none⟩) (Nat.lt_succ_self _) _,by simpa using h.lt⟩
 have k1:=h.c1
 have k2:=h.f1
 go_simp
theorem RfW.setDeep {w:World} {R n d e g:Nat} {s:ByteArray} {A:Option Addr} {code:List In} (h:RfW w R s n d e g A code) (d':Nat):RfW (w.setCell ⟨R,2,none⟩ (.int .i64 d')) R s n d' e g A code:=by
 obtain ⟨c,h⟩:=h
 refine ⟨c,(World.cell?_setCell_other w ⟨R,2,none⟩ ⟨R,0,none⟩ _ (by simp)).trans h.c0,(World.cell?_setCell_other w ⟨R,2,none⟩ ⟨R,1,none⟩ _ (by simp)).trans h.c1,?_,(World.cell?_setCell_other w ⟨R,2,none⟩ ⟨R,3,none⟩ _ (by simp)).trans h.c3,(World.cell?_setCell_other w ⟨R,2,none⟩ ⟨R,4,none⟩ _ (by simp)).trans h.c4,(World.cell?_setCell_other w ⟨R,2,none⟩ ⟨R,5,none⟩ _ (by simp)).trans h.c5,by rw[World.frozen?_setCell];exact h.f1,by rw[World.frozen?_setCell];exact h.f2,by rw[World.frozen?_setCell];exact h.f3,by rw[World.frozen?_setCell];exact h.f4,by rw[World.frozen?_setCell];exact h.f5,own_setX h.own (p:=⟨R,2,none⟩) (Nat.lt_succ_self _) _,by simpa using h.lt⟩
 have k1:=h.c2
 have k2:=h.f2
 go_simp
theorem RfW.setErr {w:World} {R n d e g:Nat} {s:ByteArray} {A:Option Addr} {code:List In} (h:RfW w R s n d e g A code) (e':Nat):RfW (w.setCell ⟨R,3,none⟩ (.int .i64 e')) R s n d e' g A code:=by
 obtain ⟨c,h⟩:=h
 refine ⟨c,(World.cell?_setCell_other w ⟨R,3,none⟩ ⟨R,0,none⟩ _ (by simp)).trans h.c0,(World.cell?_setCell_other w ⟨R,3,none⟩ ⟨R,1,none⟩ _ (by simp)).trans h.c1,(World.cell?_setCell_other w ⟨R,3,none⟩ ⟨R,2,none⟩ _ (by simp)).trans h.c2,?_,(World.cell?_setCell_other w ⟨R,3,none⟩ ⟨R,4,none⟩ _ (by simp)).trans h.c4,(World.cell?_setCell_other w ⟨R,3,none⟩ ⟨R,5,none⟩ _ (by simp)).trans h.c5,by rw[World.frozen?_setCell];exact h.f1,by rw[World.frozen?_setCell];exact h.f2,by rw[World.frozen?_setCell];exact h.f3,by rw[World.frozen?_setCell];exact h.f4,by rw[World.frozen?_setCell];exact h.f5,own_setX h.own (p:=⟨R,3,none⟩) (Nat.lt_succ_self _) _,by simpa using h.lt⟩
 have k1:=h.c3
 have k2:=h.f3
 go_simp
theorem RfW.setGroups {w:World} {R n d e g:Nat} {s:ByteArray} {A:Option Addr} {code:List In} (h:RfW w R s n d e g A code) (g':Nat):RfW (w.setCell ⟨R,4,none⟩ (.int .i64 g')) R s n d e g' A code:=by
 obtain ⟨c,h⟩:=h
 refine ⟨c,(World.cell?_setCell_other w ⟨R,4,none⟩ ⟨R,0,none⟩ _ (by simp)).trans h.c0,(World.cell?_setCell_other w ⟨R,4,none⟩ ⟨R,1,none⟩ _ (by simp)).trans h.c1,(World.cell?_setCell_other w ⟨R,4,none⟩ ⟨R,2,none⟩ _ (by simp)).trans h.c2,(World.cell?_setCell_other w ⟨R,4,none⟩ ⟨R,3,none⟩ _ (by simp)).trans h.c3,?_,(World.cell?_setCell_other w ⟨R,4,none⟩ ⟨R,5,none⟩ _ (by simp)).trans h.c5,by rw[World.frozen?_setCell];exact h.f1,by rw[World.frozen?_setCell];exact h.f2,by rw[World.frozen?_setCell];exact h.f3,by rw[World.frozen?_setCell];exact h.f4,by rw[World.frozen?_setCell];exact h.f5,own_setX h.own (p:=⟨R,4,none⟩) (Nat.lt_succ_self _) _,by simpa using h.lt⟩
 have k1:=h.c4
 have k2:=h.f4
 go_simp
theorem RfW.lt {w:World} {R n d e g:Nat} {s:ByteArray} {A:Option Addr} {code:List In} (h:RfW w R s n d e g A code):R<w.heap.size:=h.choose_spec.lt
theorem RfW.row {w:World} {R n d e g:Nat} {s:ByteArray} {A:Option Addr} {code:List In} (h:RfW w R s n d e g A code):∀k,blk A=some k→R<k∧k<w.heap.size:=by
 obtain ⟨c,h⟩:=h
 intro k hk
 have:=h.own.lt k (by
  cases A with
  | none=>cases hk
  | some a=>exact hk)
 omega
theorem RfW.kept {w w':World} {R n d e g:Nat} {s:ByteArray} {A:Option Addr} {code:List In} (h:RfW w R s n d e g A code) (hs:w.heap.size≤w'.heap.size) (hb:w'.heap[R]?=w.heap[R]?) (hk:∀k,blk A=some k→w'.heap[k]?=w.heap[k]?):RfW w' R s n d e g A code:=by
 obtain ⟨c,h⟩:=h
 have hx:∀i,w'.cell? ⟨R,i,none⟩=w.cell? ⟨R,i,none⟩:=fun i=>World.cell?_of_block (a:=⟨R,i,none⟩) hb
 have hy:∀i,w'.frozen? ⟨R,i,none⟩=w.frozen? ⟨R,i,none⟩:=fun i=>World.frozen?_of_block (a:=⟨R,i,none⟩) hb
 refine ⟨c,(hx 0).trans h.c0,(hx 1).trans h.c1,(hx 2).trans h.c2,(hx 3).trans h.c3,(hx 4).trans h.c4,(hx 5).trans h.c5,(hy 1).trans h.f1,(hy 2).trans h.f2,(hy 3).trans h.f3,(hy 4).trans h.f4,(hy 5).trans h.f5,?_,Nat.lt_of_lt_of_le h.lt hs⟩
 obtain ⟨k1,⟨hv,k2⟩|⟨q,cap,cur,hv,hb',hh,k2⟩⟩:=h.own
 ·
  exact ⟨k1, .inl ⟨hv,k2⟩⟩
 ·
  refine ⟨k1, .inr ⟨q,cap,cur,hv,hb',(hk q ?_).trans hh,k2⟩⟩
  injection hv with hv1
  rw[hv1];rfl
theorem RfW.gr {w w':World} {R n d e g:Nat} {s:ByteArray} {A:Option Addr} {code:List In} (h:RfW w R s n d e g A code) (x:Gr w w'):RfW w' R s n d e g A code:=
 h.kept x.size (Below.block x R h.lt) fun k hk=>Below.block x k (h.row k hk).2
def mvI (by_:Int) (v:In):In:=⟨v.op,bif v.op==2||v.op==3 then v.x+by_ else v.x,bif v.op==2 then v.y+by_ else v.y,v.ps⟩
def mvL (by_:Int) (l:List In):List In:=l.map (mvI by_)
theorem mvI_mvI (a b:Int) (v:In):mvI b (mvI a v)=mvI (a+b) v:=by
 unfold mvI
 cases (v.op==2||v.op==3)<;>cases (v.op==2)<;>simp<;>omega
theorem mvL_mvL (a b:Int) (l:List In):mvL b (mvL a l)=mvL (a+b) l:=by
 unfold mvL;rw[List.map_map];apply List.map_congr_left;intro v _;exact mvI_mvI a b v
theorem mvL_app (a:Int) (l m:List In):mvL a (l++m)=mvL a l++mvL a m:=by simp[mvL]
theorem mvL_len (a:Int) (l:List In):(mvL a l).length=l.length:=by simp[mvL]
mutual
theorem Pc.mv (k:Nat):∀(p:Pc),p.ok→∀a:Nat,mvL k (p.lay a)=p.lay (a+k)
 | .leaf op ps,h,a=>by
  simp only[Pc.ok] at h
  simp only[Pc.lay,mvL,List.map_cons,List.map_nil]
  rcases h with rfl|rfl|rfl<;>rfl
 | .row l,h,a=>by simp only[Pc.ok] at h;simp only[Pc.lay];exact PcL.mvR k l h.2 a
 | .ways l,h,a=>by
  simp only[Pc.ok] at h
  simp only[Pc.lay]
  rw[PcL.mvW k l h.2.2 a]
  congr 1
  omega
 | .group g p,h,a=>by
  simp only[Pc.ok] at h
  simp only[Pc.lay]
  have ih:=Pc.mv k p h.2
  cases (g==0)
  ·
   simp only[cond_false]
   rw[show a+k+1=a+1+k by omega,←ih (a+1)]
   simp[mvL,mvI]
  ·
   simp only[cond_true];exact ih a
 | .rep op z p,h,a=>by
  simp only[Pc.ok] at h
  have ih:=Pc.mv k p h.2
  simp only[Pc.lay]
  have e1:a+k+1=a+1+k:=by omega
  cases (op==42)
  ·
   cases (op==43)
   ·
    simp only[cond_false]
    rw[e1,←ih (a+1)]
    cases z<;>(simp[mvL,mvI,splitI];omega)
   ·
    simp only[cond_true,cond_false]
    rw[←ih a]
    cases z<;>(simp[mvL,mvI,splitI];omega)
  ·
   simp only[cond_true]
   rw[e1,←ih (a+1)]
   cases z<;>(simp[mvL,mvI,splitI];omega)
theorem PcL.mvR (k:Nat):∀(l:PcL),l.ok→∀a:Nat,mvL k (l.layR a)=l.layR (a+k)
 | .nil,h,a=>rfl
 | .cons p l,h,a=>by
  simp only[PcL.ok] at h
  simp only[PcL.layR]
  rw[mvL_app,Pc.mv k p h.1 a,PcL.mvR k l h.2 (a+p.sz),show a+k+p.sz=a+p.sz+k by omega]
theorem PcL.mvW (k:Nat):∀(l:PcL),l.ok→∀a e:Nat,mvL k (l.layW a e)=l.layW (a+k) (e+k)
 | .nil,h,a,e=>rfl
 | .cons p .nil,h,a,e=>by
  simp only[PcL.ok] at h
  simp only[PcL.layW]
  exact Pc.mv k p h.1 a
 | .cons p (.cons q l),h,a,e=>by
  simp only[PcL.ok] at h
  have ih:=PcL.mvW k (.cons q l) h.2 (a+p.sz+2) e
  simp only[PcL.layW]
  rw[show a+k+1=a+1+k by omega,show a+k+p.sz+2=a+p.sz+2+k by omega,←Pc.mv k p h.1 (a+1),←ih]
  simp[mvL,mvI]
  omega
end
theorem lone_lay (l:PcL) (a:Nat):(lone l).lay a=l.layW a (a+l.szW):=by
 match l with
 | .nil=>rfl
 | .cons p .nil=>rfl
 | .cons p (.cons q l)=>rfl
theorem more_end {w:World} {R n d e g:Nat} {s:ByteArray} {A:Option Addr} {code:List In} (h:RfW w R s n d e g A code) (hs:(s.size:Int)≤4096) (c:Nat) (hn:¬n<s.size) :
  Calls Tryz.prog 118 #[.pointer (some ⟨R,0,none⟩), .int .u8 c] w fun x w'=>x= .returned (.bool false)∧Gr w w':=by
 obtain ⟨cc,h⟩:=h
 obtain ⟨c0,c1⟩:=And.intro h.c0 h.c1
 have hz:=h.lt
 clear h
 have hn1:decide (n<s.size)=false:=by simp;omega
 clear hn
 go_enter Tryz.func118,Tryz.ntmps118
 go_upto_region 1 with (fail)
 refine region_R (by kernel_rfl) (by kernel_rfl) ?_
 iterate 3 (refine rv ?_;simp only[Pu])
 refine r_val (v:=?qv4) (by kernel_rfl) (fun W hW=>?qh4) ?qr4
 case qh4=>have q1:=(Below.cell hW (p:=⟨R,1,none⟩) hz).trans c1;go_light;go_simp;rfl
 simp only[Pu]
 iterate 3 (refine rv ?_;simp only[Pu])
 refine r_val (v:=?qv8) (by kernel_rfl) (fun W hW=>?qh8) ?qr8
 case qh8=>have q0:=(Below.cell hW (p:=⟨R,0,none⟩) hz).trans c0;go_light;go_simp;rfl
 simp only[Pu]
 iterate 3 (refine rv ?_;simp only[Pu])
 iterate 11 (refine rs ?_;simp only[Pu])
 iterate 2 (refine rv ?_;simp only[Pu])
 refine r_nil ?_
 intro w1 hw1
 go_wp2
 go_ret
 exact ⟨rfl,hw1⟩
theorem more_yes {w:World} {R n d e g:Nat} {s:ByteArray} {A:Option Addr} {code:List In} (h:RfW w R s n d e g A code) (hs:(s.size:Int)≤4096) (c:Nat) (hn:n<s.size) (hc:s[n].toNat=c) :
  Calls Tryz.prog 118 #[.pointer (some ⟨R,0,none⟩), .int .u8 c] w fun x w'=>x= .returned (.bool true)∧Gr w w':=by
 obtain ⟨cc,h⟩:=h
 obtain ⟨c0,c1⟩:=And.intro h.c0 h.c1
 have hz:=h.lt
 clear h
 have hn1:decide (n<s.size)=true:=by simp;omega
 have hn2:(n:Int)<(s.size:Int):=by omega
 subst hc
 go_enter Tryz.func118,Tryz.ntmps118
 go_upto_region 1 with (fail)
 refine region_R (by kernel_rfl) (by kernel_rfl) ?_
 iterate 3 (refine rv ?_;simp only[Pu])
 refine r_val (v:=?qv17) (by kernel_rfl) (fun W hW=>?qh17) ?qr17
 case qh17=>have q1:=(Below.cell hW (p:=⟨R,1,none⟩) hz).trans c1;go_light;go_simp;rfl
 simp only[Pu]
 iterate 3 (refine rv ?_;simp only[Pu])
 refine r_val (v:=?qv21) (by kernel_rfl) (fun W hW=>?qh21) ?qr21
 case qh21=>have q0:=(Below.cell hW (p:=⟨R,0,none⟩) hz).trans c0;go_light;go_simp;rfl
 simp only[Pu]
 iterate 6 (refine rv ?_;simp only[Pu])
 refine r_val (v:=?qv28) (by kernel_rfl) (fun W hW=>?qh28) ?qr28
 case qh28=>have q0:=(Below.cell hW (p:=⟨R,0,none⟩) hz).trans c0;go_light;go_simp;rfl
 simp only[Pu]
 iterate 3 (refine rv ?_;simp only[Pu])
 refine r_val (v:=?qv32) (by kernel_rfl) (fun W hW=>?qh32) ?qr32
 case qh32=>have q1:=(Below.cell hW (p:=⟨R,1,none⟩) hz).trans c1;go_light;go_simp;rfl
 simp only[Pu]
 iterate 5 (refine rv ?_;simp only[Pu])
 refine r_nil ?_
 intro w1 hw1
 go_wp2
 go_ret
 exact ⟨rfl,hw1⟩
theorem more_no {w:World} {R n d e g:Nat} {s:ByteArray} {A:Option Addr} {code:List In} (h:RfW w R s n d e g A code) (hs:(s.size:Int)≤4096) (c:Nat) (hn:n<s.size) (hc:s[n].toNat≠c) :
  Calls Tryz.prog 118 #[.pointer (some ⟨R,0,none⟩), .int .u8 c] w fun x w'=>x= .returned (.bool false)∧Gr w w':=by
 obtain ⟨cc,h⟩:=h
 obtain ⟨c0,c1⟩:=And.intro h.c0 h.c1
 have hz:=h.lt
 clear h
 have hn1:decide (n<s.size)=true:=by simp;omega
 have hn2:(n:Int)<(s.size:Int):=by omega
 have hq:((s[n].toNat:Int)==(c:Int))=false:=beq_eq_false_iff_ne.2 (by omega)
 clear hc
 go_enter Tryz.func118,Tryz.ntmps118
 go_upto_region 1 with (fail)
 refine region_R (by kernel_rfl) (by kernel_rfl) ?_
 iterate 3 (refine rv ?_;simp only[Pu])
 refine r_val (v:=?qv41) (by kernel_rfl) (fun W hW=>?qh41) ?qr41
 case qh41=>have q1:=(Below.cell hW (p:=⟨R,1,none⟩) hz).trans c1;go_light;go_simp;rfl
 simp only[Pu]
 iterate 3 (refine rv ?_;simp only[Pu])
 refine r_val (v:=?qv45) (by kernel_rfl) (fun W hW=>?qh45) ?qr45
 case qh45=>have q0:=(Below.cell hW (p:=⟨R,0,none⟩) hz).trans c0;go_light;go_simp;rfl
 simp only[Pu]
 iterate 6 (refine rv ?_;simp only[Pu])
 refine r_val (v:=?qv52) (by kernel_rfl) (fun W hW=>?qh52) ?qr52
 case qh52=>have q0:=(Below.cell hW (p:=⟨R,0,none⟩) hz).trans c0;go_light;go_simp;rfl
 simp only[Pu]
 iterate 3 (refine rv ?_;simp only[Pu])
 refine r_val (v:=?qv56) (by kernel_rfl) (fun W hW=>?qh56) ?qr56
 case qh56=>have q1:=(Below.cell hW (p:=⟨R,1,none⟩) hz).trans c1;go_light;go_simp;rfl
 simp only[Pu]
 iterate 5 (refine rv ?_;simp only[Pu])
 refine r_nil ?_
 intro w1 hw1
 go_wp2
 go_ret
 exact ⟨rfl,hw1⟩
theorem more_any {w:World} {R n d e g:Nat} {s:ByteArray} {A:Option Addr} {code:List In} (h:RfW w R s n d e g A code) (hs:(s.size:Int)≤4096) (c:Nat) :
  Calls Tryz.prog 118 #[.pointer (some ⟨R,0,none⟩), .int .u8 c] w fun x w'=>x= .returned (.bool (headIs c (s.data.toList.drop n)))∧Gr w w':=by
 by_cases hn:n<s.size
 ·
  have hl:n<s.data.toList.length:=by simpa using hn
  have e:headIs c (s.data.toList.drop n)=(s[n].toNat==c):=by rw[List.drop_eq_getElem_cons hl];rfl
  rw[e]
  by_cases hc:s[n].toNat=c
  ·
   rw[beq_iff_eq.2 hc];exact more_yes h hs c hn hc
  ·
   rw[beq_eq_false_iff_ne.2 hc];exact more_no h hs c hn hc
 ·
  have e:s.data.toList.drop n=[]:=List.drop_eq_nil_of_le (by simp;omega)
  rw[e]
  exact more_end h hs c hn
theorem bad_new {w:World} {R n d e g:Nat} {s:ByteArray} {A:Option Addr} {code:List In} (h:RfW w R s n d e g A code) (e2:Nat) (he:e=0):Calls Tryz.prog 94 #[.pointer (some ⟨R,0,none⟩), .int .i64 e2] w fun x w'=>x= .returned (.tuple #[])∧w'=w.setCell ⟨R,3,none⟩ (.int .i64 e2):=by
 subst he
 obtain ⟨cc,h⟩:=h
 obtain ⟨c3,f3⟩:=And.intro h.c3 h.f3
 clear h
 go_enter Tryz.func94,Tryz.ntmps94
 go_wp2
 go_end0
 exact ⟨rfl,rfl⟩
end Go.Proofs.YtnphdacibageiaaGreat
